/-
  Clones and joins of bytes, frames put and cut. No condition.
-/
import Derived.Test.YtfnhoaemapheoaaGreatZSgD
import Derived.Test.YtfnhoaemapheoaaGreatZEngSl
import Derived.Test.YtfnhoaemapheoaaGreatM
import Derived.Test.YtfnhoaemapheoaaGreatFacts
import Derived.Test.YtfnhoaemapheoaaGreatZMs0
import Derived.Test.YtfnhoaemapheoaaGreatZSpn0
set_option maxRecDepth 100000
namespace Go.Eng
section
variable {P : Program}
theorem biv {t : TypeId} (h : oe P t = true) {a : Option Addr} {len cap : Nat} {k1 k2 k3 : IntKind} {i j m : Nat} (h0 : i ≤ j) (h1 : j ≤ m) (h2 : m ≤ cap) (w : World) (K : KV) :
  slT P t (.slice a len cap) (some (.int k1 (i : Int))) (some (.int k2 (j : Int))) (some (.int k3 (m : Int))) w K = K (.slice (if m = i then a else a.map (·.add (i * szE P t))) (j - i) (m - i)) w := by
 obtain ⟨hu, inf, hi, hs⟩ := ws h
 have h3 : i ≤ m := by omega
 simp [slT, jv, Instr.sliceAt, Instr.slice, Instr.sliceBounds, Instr.sliceBound, asIntOf, Sem.run_bind, jn hu, Result.andThen, Sem.run_pure, zu hi, hs, h0, h1, h2, h3]
theorem Sl.bji {α : Type} {enc : α → List Value} {sz : Nat} {w : World} {v : Value} {l : List α} {i j : Nat} (hs : Sl w sz enc v l) {t : TypeId} (h : oe P t = true) (hz : szE P t = sz) {k1 k2 k3 : IntKind} (h0 : i ≤ j) (h1 : j ≤ l.length) :
  ∃ v', Sl w sz enc v' ((l.drop i).take (j - i)) ∧ (∀ b, v'.ownBlock = some b → v.ownBlock = some b) ∧ ∀ w1 K, slT P t v (some (.int k1 (i : Int))) (some (.int k2 (j : Int))) (some (.int k3 (j : Int))) w1 K = K v' w1 := by
 obtain ⟨a, cap, rfl, g1, g2, g3⟩ := hs
 refine ⟨_, ?_, ?_, fun w1 K => biv h h0 (Nat.le_refl _) (by omega) w1 K⟩
 ·have hlen : ((l.drop i).take (j - i)).length = j - i := by simp; omega
  refine ⟨_, _, by rw [hlen], by omega, by omega, fun k x hk => ?_⟩
  have hk' : k < j - i := by have := (List.getElem?_eq_some_iff.1 hk).1; omega
  rw [List.getElem?_take_of_lt hk', List.getElem?_drop] at hk
  obtain ⟨b, o, rfl, hb, hr⟩ := g3 (i + k) x hk
  rw [if_neg (by omega)]
  refine ⟨b, o + i * sz, by simp [Addr.add, hz], hb, ?_⟩
  rw [Nat.add_assoc, ← Nat.add_mul]; exact hr
 ·intro b hb
  cases a with
  | none => split at hb <;> simp [Value.ownBlock] at hb
  | some a =>
   have : ∀ k, (a.add k).block = a.block := fun k => by unfold Addr.add; split <;> rfl
   split at hb <;> simp_all [Value.ownBlock]
theorem aye {t : TypeId} {v v1 v2 : Value} {lo hi mx : Option Value} (h1 : ∀ w1 K, slT P t v lo hi mx w1 K = K v1 w1) (h2 : ∀ w1 K, slT P t v lo hi mx w1 K = K v2 w1) (w : World) : v1 = v2 := by
 have h := (h1 w fun x _ => x = v1).symm.trans (h2 w fun x _ => x = v1)
 exact (h.mp rfl).symm
end
end Go.Eng
namespace Go.Proofs.YtfnhoaemapheoaaGreat
open Go.Eng Go.Proofs.YtfnhoaemapheoaaGreat.Sint
section
variable {w0 w : World} {R : List Asn} {v : Value} {l : List Int}
theorem xq (S : St w0 w R) (hs : SlB w v l) (hlen : l.length ≤ 100000000) {K : KV} (h : ∀ w' v', St w0 w' (ky v' l :: R) → K v' w') : gr P F.af [v] w K := by
 rw [M.cj.fcall]
 apply M.cj.calls
 unfold M.cj
 simp only [ib]
 have hs' := hs
 obtain ⟨a, cap, rfl, _⟩ := hs'
 cases a with
 | none =>
  simp
  have hz : l = [] := by
   obtain ⟨a', cap', hv, _, _, h3⟩ := hs
   cases l with
   | nil => rfl
   | cons x l =>
    obtain ⟨b, o, ha, _⟩ := h3 0 x rfl
    injection hv with h1 _ _
    rw [← h1] at ha; cases ha
  subst hz
  exact h w _ (Eng.pw S)
 | some a =>
  simp
  have S1 : St w0 (w.alloc (.cells #[] T.ao)) (ky (.slice (some ⟨w.heap.size, 0, none⟩) 0 0) [] :: R) := St.su (l := ([] : List Int)) S ka rfl (by simp)
  refine Go.Eng.qj et.f ka xo S1 (hs.fr ((Fr.refl (fun _ => False) w).alloc _) fun _ _ _ h => h) (by simp; omega) (by decide) fun w2 v2 S2 => ?_
  exact h w2 v2 S2
theorem asr {v1 v2 : Value} {l1 l2 : List Int} (S : St w0 w R) (s1 : SlB w v1 l1) (s2 : SlB w v2 l2) (hl : l1.length + l2.length ≤ 100000000) {K : KV} (h : ∀ w' v', St w0 w' (ky v' (l1 ++ l2) :: R) → K v' w') :
  bsT P T.m 2 #[(0, v1), (1, v2)] w fun t w => gr P F.ar [t] w K := by
 obtain ⟨a1, k1, hv1, _⟩ := id s1
 obtain ⟨a2, k2, hv2, _⟩ := id s2
 have hbs : ∀ K', bsT P T.m 2 #[(0, v1), (1, v2)] w K' = K' (.slice (some ⟨w.heap.size, 0, none⟩) 2 2) (w.alloc (.cells #[v1, v2] T.f)) := fun K' => by rw [hv1, hv2]; simp
 rw [hbs]
 have f1 : Fz w (w.alloc (.cells #[v1, v2] T.f)) := (Fr.refl _ w).alloc _
 have hn : (w.alloc (.cells #[v1, v2] T.f)).heap[w.heap.size]? = some (.cells (([(v1, l1), (v2, l2)] : List (Value × List Int)).map (·.1)).toArray T.f (0, 0)) := by
  rw [iw, if_pos rfl]; rfl
 rw [M.k.fcall]
 refine CB.abn (L := [(v1, l1), (v2, l2)]) hn (fun p hp => ?_) (by simp [CB.tot]; omega) (by simp) fun w' v o f2 => ?_
 ·simp at hp
  rcases hp with rfl | rfl
  ·exact s1.fr f1 fun _ _ _ h => h
  ·exact s2.fr f1 fun _ _ _ h => h
 ·have hs : w.heap.size ≤ (w.alloc (.cells #[v1, v2] T.f)).heap.size := f1.size
  refine h w' v (S.add (a := ky v (l1 ++ l2)) (f1.trans f2) (B := fun b => v.ownBlock = some b) ⟨?_, fun b hb => hb⟩ fun b hb => ?_)
  ·simpa using o.mono (Nat.zero_le _)
  ·have := o.lt hb
   exact ⟨by omega, this.2⟩
def xg (d : List Int) : List Int := xc (d.length : Int) ++ d
def jo (d : List Int) : List Int := xg d ++ xc (abk (xg d))
theorem oz (d : List Int) : (jo d).length = d.length + 8 := by unfold jo xg; simp [tw]; omega
theorem axk {dv : Value} {d : List Int} {v0 : Value} {l0 : List Int} (S : St w0 w R) (h0 : ∀ w' L, St w0 w' (L ++ R) → SlB w' v0 l0) (hd : ∀ w' L, St w0 w' (L ++ R) → SlB w' dv d) (hl0 : l0.length ≤ 10000000) (hl : d.length ≤ 1000000000) {K : KV}
  (h : ∀ w' v', St w0 w' (ky v' (if 8192 < d.length then [] else l0 ++ jo d) :: R) → K (.tuple #[v', .int .i64 (if 8192 < d.length then 4 else 0)]) w') : gr P F.fg [v0, dv] w K := by
 rw [M.en.fcall]
 apply M.en.calls
 unfold M.en
 rw [ib, (hd w [] S).jb (by kernel_rfl)]
 by_cases hbig : 8192 < d.length
 ·have hbig' : (8192 : Int) < d.length := by omega
  rw [if_pos hbig] at h
  simp only [if_pos hbig] at h
  simp [hbig']
  exact h w _ (Eng.pw S)
 ·have hbig' : ¬ (8192 : Int) < d.length := by omega
  rw [if_neg hbig] at h
  simp only [if_neg hbig] at h
  simp [hbig']
  unfold M.en.j0
  rw [(hd w [] S).jb (by kernel_rfl), pj (ks := .i64) (kd := .u32) (by kernel_rfl) (by kernel_rfl), aqx (by omega)]
  refine ark (Eng.pw S) (by simp) _ fun w1 v1 S1 => ?_
  rw [List.nil_append] at S1
  refine Go.Eng.qj et.f ka xo S1 (hd w1 [_] S1) (by simp [tw]; omega) (by decide) fun w2 v2 S2 => ?_
  have S2' : St w0 w2 (ky v2 (xg d) :: R) := S2
  have hbl : (xg d).length = d.length + 4 := by unfold xg; simp [tw]; omega
  refine bdb (S2'.row ka) (by omega) ?_
  refine ark S2' (by omega) _ fun w3 v3 S3 => ?_
  have S3' : St w0 w3 (ky v3 (jo d) :: R) := S3
  have hfl := oz d
  refine asr S3' (h0 w3 [_] S3') (S3'.row ka) (by omega) fun w4 v4 S4 => ?_
  exact h w4 v4 S4.swap.drop
def zd (l : List Int) : Option (List Int) × Int :=
 if l.length < 4 then (none, 3) else if 8192 < zg l then (none, 2) else if (l.length : Int) - 4 < 4 + zg l then (none, 3)
 else if abk (l.take (4 + (zg l).toNat)) ≠ zg (l.drop (4 + (zg l).toNat)) then (none, 2) else (some ((l.drop 4).take (zg l).toNat), 0)
theorem alt (l : List Int) : ∃ n : Nat, zg l = (n : Int) ∧ n < 4294967296 := by
 show ∃ n : Nat, aby l 4 = _ ∧ _
 rw [aby, orE]
 exact ajz _
theorem bko (S : St w0 w R) (hs : ∀ w' L, St w0 w' (L ++ R) → SlB w' v l) (hl : l.length ≤ 10000000) {K : KV}
  (h : ∀ w' dv rv, St w0 w' (ky dv ((zd l).1.getD []) :: R) → K (.tuple #[dv, rv, .int .i64 (zd l).2]) w') : gr P F.fr [v] w K := by
 rw [M.eo.fcall]
 apply M.eo.calls
 unfold M.eo
 have s0 := hs w [] S
 have hlen : ∀ w' K', biT P .len #[T.f] T.c [false] [v] w' K' = K' (.int .i64 l.length) w' := fun w' K' => s0.jb (by kernel_rfl) [false]
 rw [ib, hlen]
 unfold zd at h
 by_cases c1 : l.length < 4
 ·have c1' : (l.length : Int) < 4 := by omega
  simp only [if_pos c1] at h
  simp [c1']
  exact h w _ _ (Eng.pw S)
 ·have c1' : ¬ (l.length : Int) < 4 := by omega
  simp only [if_neg c1] at h
  simp [c1']
  unfold M.eo.j0
  refine bck s0 (by omega) ?_
  obtain ⟨n, hn, hn2⟩ := alt l
  rw [hn] at h ⊢
  have hw1 : IntKind.i64.wrap (n : Int) = n := alx (by omega)
  have hw2 : IntKind.i64.wrap (4 + (n : Int)) = ((4 + n : Nat) : Int) := by rw [ig]; omega
  rw [pj (ks := .u32) (kd := .i64) (by kernel_rfl) (by kernel_rfl), hw1]
  simp only [kz]
  rw [hw2]
  simp only [si]
  by_cases c2 : (8192 : Int) < n
  ·simp only [if_pos c2] at h
   rw [decide_eq_true c2, Eng.cond_true]
   exact h w _ _ (Eng.pw S)
  ·simp only [if_neg c2] at h
   rw [decide_eq_false c2, Eng.cond_false, hlen]
   simp only [lz]
   rw [ig]
   simp only [lw]
   by_cases c3 : (l.length : Int) - 4 < 4 + (n : Int)
   ·simp only [if_pos c3] at h
    rw [decide_eq_true (by omega), Eng.cond_true]
    exact h w _ _ (Eng.pw S)
   ·simp only [if_neg c3] at h
    rw [decide_eq_false (by omega), Eng.cond_false]
    rw [Int.toNat_natCast] at h
    obtain ⟨va, sa, pa, ra⟩ := s0.sub (P := P) (t := T.f) (lo := none) (hi := some (.int .i64 ((4 + n : Nat) : Int))) (i := 0) (j := 4 + n) (by kernel_rfl) (by kernel_rfl) (.inl ⟨rfl, rfl⟩) (.inr ⟨_, rfl⟩) (Nat.zero_le _) (by omega)
    obtain ⟨vb, sb, pb, rb⟩ := s0.sub (P := P) (t := T.f) (lo := some (.int .i64 ((4 + n : Nat) : Int))) (hi := none) (i := 4 + n) (j := l.length) (by kernel_rfl) (by kernel_rfl) (.inr ⟨_, rfl⟩) (.inl ⟨rfl, rfl⟩) (by omega) (Nat.le_refl _)
    have ea : List.take (4 + n - 0) (List.drop 0 l) = l.take (4 + n) := by simp
    have eb : List.take (l.length - (4 + n)) (List.drop (4 + n) l) = l.drop (4 + n) := List.take_of_length_le (by simp)
    rw [ea] at sa
    rw [eb] at sb
    have fd : Fz w (Eng.dr w 1) := (Fr.refl _ w).dr 1
    simp only [qw, xp, ra, rb, adv, true_and, and_true]
    have Sd := S.jt fd
    have hlt : (l.take (4 + n)).length = 4 + n := by simp; omega
    have hld : (l.drop (4 + n)).length = l.length - (4 + n) := by simp
    refine bdb (sa.fr fd fun _ _ _ h => h) (by omega) ?_
    refine bck (sb.fr fd fun _ _ _ h => h) (by omega) ?_
    simp only [ajv]
    by_cases c4 : abk (l.take (4 + n)) = zg (l.drop (4 + n))
    ·simp only [if_neg (show ¬ abk (l.take (4 + n)) ≠ zg (l.drop (4 + n)) from fun h => h c4)] at h
     refine ⟨trivial, ?_⟩
     rw [decide_eq_false (fun h => h c4), Eng.cond_false]
     obtain ⟨vc, sc, pc, rc⟩ := Eng.Sl.bji (P := P) (t := T.f) (k1 := .i64) (k2 := .i64) (k3 := .i64) (i := 4) (j := 4 + n) s0 (by kernel_rfl) (by kernel_rfl) (by omega) (by omega)
     have rc' : ∀ w1 K, slT P T.f v (some (.int .i64 4)) (some (.int .i64 ((4 + n : Nat) : Int))) (some (.int .i64 ((4 + n : Nat) : Int))) w1 K = K vc w1 := rc
     have ec : List.take (4 + n - 4) (List.drop 4 l) = (l.drop 4).take n := by congr 1; omega
     rw [ec] at sc
     have hw3 : IntKind.i64.wrap (((4 + n : Nat) : Int) + 4) = ((8 + n : Nat) : Int) := by rw [ig]; omega
     obtain ⟨ve, se, pe, re⟩ := s0.sub (P := P) (t := T.f) (lo := some (.int .i64 ((8 + n : Nat) : Int))) (hi := none) (i := 8 + n) (j := l.length) (by kernel_rfl) (by kernel_rfl) (.inr ⟨_, rfl⟩) (.inl ⟨rfl, rfl⟩) (by omega) (Nat.le_refl _)
     have fd2 : Fz w (Eng.dr (Eng.dr w 1) 1) := fd.dr 1
     simp only [rc', kz, hw3, re, adv, true_and, and_true]
     have S2 := Sd.jt ((Fr.refl (fun _ => False) (Eng.dr w 1)).dr 1)
     refine xq S2 (sc.fr fd2 fun _ _ _ h => h) (by simp; omega) fun w2 dv S3 => ?_
     obtain ⟨vf, sf, _, rf⟩ := (hs w2 [_] S3).sub (P := P) (t := T.f) (lo := some (.int .i64 ((8 + n : Nat) : Int))) (hi := none) (i := 8 + n) (j := l.length) (by kernel_rfl) (by kernel_rfl) (.inr ⟨_, rfl⟩) (.inl ⟨rfl, rfl⟩) (by omega) (Nat.le_refl _)
     have hvf : ve = vf := aye re rf w2
     rw [← hvf] at sf
     refine xq S3 sf (by simp; omega) fun w3 rv S4 => ?_
     exact h w3 dv rv S4.drop
    ·simp only [if_pos c4] at h
     refine ⟨trivial, ?_⟩
     rw [decide_eq_true c4, Eng.cond_true]
     exact h _ _ _ (Eng.pw Sd)
end
set_option maxRecDepth 100000
structure SV where
 a : Option Addr
 n : Nat
 c : Nat
def SV.v (s : SV) : Value := .slice s.a s.n s.c
def rh (s : SV) : List Value := [s.v]
theorem vj (s : SV) : (rh s).length = 1 := rfl
theorem bcm (s : SV) : ∀ u ∈ rh s, kq u = true := fun u hu => by simp [rh] at hu; subst hu; rfl
def qq (vs : List SV) (ls : List (List Int)) : List Asn := List.zipWith (fun s l => ky s.v l) vs ls
def bbl (v : Value) (vs : List SV) (ls : List (List Int)) : List Asn := [Eng.me T.f 1 rh v vs, qm (qq vs ls)]
def ng (v : Value) (ls : List (List Int)) : Asn where
 ok w B := ∃ vs, vs.length = ls.length ∧ Rs (bbl v vs ls) w B
 ke := by
  rintro w w' B S ⟨vs, h1, h2⟩ hf hn
  exact ⟨vs, h1, h2.ke hf hn⟩
section
variable {w0 w : World} {R : List Asn} {v : Value} {ls : List (List Int)} {vs : List SV}
theorem afh (S : St w0 w (ng v ls :: R)) : ∃ vs, vs.length = ls.length ∧ St w0 w (Eng.me T.f 1 rh v vs :: qm (qq vs ls) :: R) := by
 obtain ⟨B, ⟨vs, h1, h2⟩, _, cl⟩ := S.open
 exact ⟨vs, h1, cl w (bbl v vs ls) (Fr.refl _ _) (h2.mono fun b hb => .inl hb)⟩
theorem alw (h : vs.length = ls.length) (S : St w0 w (Eng.me T.f 1 rh v vs :: qm (qq vs ls) :: R)) : St w0 w (ng v ls :: R) := by
 obtain ⟨U, h1, _, g⟩ := St.acb (L := bbl v vs ls) (R := R) S
 exact g w [ng v ls] (Fr.refl _ _) ⟨U, ⟨vs, h, h1⟩, fun b hb => .inl hb, trivial⟩
theorem ayc (S : St w0 w R) : St w0 w (ng (.slice none 0 0) [] :: R) := alw (vs := []) rfl (axv (St.all.2 S))
theorem agk (S : St w0 w (ng v ls :: R)) (w' : World) (K : KV) : biT P .len #[T.m] T.c [false] [v] w' K = K (.int .i64 ls.length) w' := by
 obtain ⟨vs, h, S1⟩ := afh S
 rw [(S1.me vj).jb (by kernel_rfl), h]
theorem bdi (S : St w0 w (ng v ls :: R)) : ∃ a cap, v = .slice a ls.length cap := by
 obtain ⟨vs, h, S1⟩ := afh S
 obtain ⟨a, cap, hv, _⟩ := S1.me vj
 exact ⟨a, cap, by rw [hv, h]⟩
theorem ajt (S : St w0 w (ng v ls :: R)) {i : Nat} (hi : i < ls.length) : ∃ b o s, (∀ w' K, iaT P T.m v (.int .i64 (i : Nat)) w' K = K (.pointer (some ⟨b, o, none⟩)) w') ∧ (∀ {w1 : World} {R1 : List Asn}, St w0 w1 (ng v ls :: R1) → ic w b o = some (SV.v s)) ∧ ic w b o = some (SV.v s) ∧ SlB w (SV.v s) ls[i] := by
 obtain ⟨vs, h, S1⟩ := afh S
 have hi' : i < vs.length := by omega
 obtain ⟨b, o, cap, hv, _, _, hc⟩ := (S1.me vj : Sl w 1 rh v vs).at hi'
 have c0 := hc 0 _ rfl
 simp only [Nat.mul_one, Nat.add_zero] at c0
 have S2 := St.alj (j := i) (L := qq vs ls) (by simp [qq]; omega) S1.swap
 unfold qq at S2
 rw [List.getElem_zipWith] at S2
 exact ⟨b, o + i, vs[i], fun w' K => by rw [hv]; simp [hi'], fun _ => c0, c0, S2.row ka⟩
theorem aie {s : SV} {d : List Int} (S : St w0 w (ky s.v d :: ng v ls :: R)) (hl : ls.length ≤ 1000000) {cs : List Bool} {ty : TypeId} {K : KV} (h : ∀ w' v', St w0 w' (ng v' (ls ++ [d]) :: R) → K v' w') :
  bsT P T.m 1 #[(0, s.v)] w fun t w => biT P .append #[T.m, T.m] ty cs [v, t] w K := by
 have hbs : ∀ K', bsT P T.m 1 #[(0, s.v)] w K' = K' (.slice (some ⟨w.heap.size, 0, none⟩) 1 1) (w.alloc (.cells #[s.v] T.f)) := fun K' => by unfold SV.v; simp
 rw [hbs]
 obtain ⟨vs, h1, S1⟩ := afh S.swap
 have S2 : St w0 (w.alloc (.cells #[s.v] T.f)) (nq T.f 1 rh (.slice (some ⟨w.heap.size, 0, none⟩) 1 1) [s] :: Eng.me T.f 1 rh v vs :: qm (qq vs ls) :: ky s.v d :: R) := St.su (l := [s]) S1 vj rfl (by unfold maxLen; simp)
 refine avh et.m vj bcm S2.swap (S2.row vj) (by simp; omega) (by decide) fun w2 v2 S3 => ?_
 have S4 : St w0 w2 (Eng.me T.f 1 rh v2 (vs ++ [s]) :: qm (qq vs ls) :: ky s.v d :: R) := S3.swap.drop
 refine h w2 v2 (alw (vs := vs ++ [s]) (by simp [h1]) ?_)
 have S5 := St.all.1 S4.swap
 have e : qq (vs ++ [s]) (ls ++ [d]) = qq vs ls ++ [ky s.v d] := by unfold qq; rw [List.zipWith_append h1]; rfl
 have S6 : St w0 w2 (qm (qq (vs ++ [s]) (ls ++ [d])) :: Eng.me T.f 1 rh v2 (vs ++ [s]) :: R) := by
  refine St.all.2 ?_
  rw [e, List.append_assoc]
  refine S5.perm (List.Perm.append_left _ ?_)
  exact List.Perm.swap _ _ _
 exact S6.swap
theorem bdq {d : List Int} (S : St w0 w (ng v (d :: ls) :: R)) {k : IntKind} : ∃ v', St w0 w (ng v' ls :: R) ∧ ∀ w1 K, slT P T.m v (some (.int k 1)) none none w1 K = K v' w1 := by
 obtain ⟨vs, h1, S1⟩ := afh S
 cases vs with
 | nil => simp at h1
 | cons s vs =>
  obtain ⟨v', S2, hv⟩ := S1.bql (P := P) (t := T.m) vj (by kernel_rfl) (by kernel_rfl) (i := 1) (by simp) (k := k)
  refine ⟨v', alw (vs := vs) (by simpa using h1) ?_, hv⟩
  have S3 : St w0 w (Eng.me T.f 1 rh v' vs :: qm (qq (s :: vs) (d :: ls)) :: R) := S2
  have S4 := St.all.1 S3.swap
  have S5 : St w0 w (ky s.v d :: (qq vs ls ++ Eng.me T.f 1 rh v' vs :: R)) := S4
  exact (St.all.2 S5.drop).swap
end
def aae (l : List Int) : Nat → Nat → List (List Int) × Nat
 | 0, jg => ([], jg)
 | f + 1, jg => if jg < l.length then match (zd ((l.drop jg).take 8200)).1 with
   | none => ([], jg)
   | some d => (d :: (aae l f (jg + d.length + 8)).1, (aae l f (jg + d.length + 8)).2)
  else ([], jg)
def wk (l : List Int) : List (List Int) × Nat := aae l (l.length + 1) 0
theorem bcp (l : List Int) : ((zd l).2 = 0 ∧ ∃ d, (zd l).1 = some d ∧ d.length + 8 ≤ l.length) ∨ ((zd l).2 ≠ 0 ∧ (zd l).1 = none) := by
 unfold zd
 split
 ·exact .inr ⟨by simp, rfl⟩
 ·split
  ·exact .inr ⟨by simp, rfl⟩
  ·split
   ·exact .inr ⟨by simp, rfl⟩
   ·split
    ·exact .inr ⟨by simp, rfl⟩
    ·rename_i h1 h2 h3 h4
     refine .inl ⟨rfl, _, rfl, ?_⟩
     obtain ⟨n, hn, _⟩ := alt l
     rw [hn] at h2 h3 ⊢
     rw [Int.toNat_natCast, List.length_take, List.length_drop]
     omega
section
variable {w0 w : World} {R : List Asn} {v : Value} {l : List Int}
def AlI (w0 : World) (l : List Int) (R : List Asn) : KL := fun x w1 => ∃ (u0 u1 u2 u5 v : Value) (acc : List (List Int)) (jg f : Nat), x = [u0, u1, u2, v, .int .i64 (jg : Nat), u5] ∧ jg ≤ l.length ∧ l.length < f + jg ∧ 8 * acc.length ≤ jg ∧ wk l = (acc ++ (aae l f jg).1, (aae l f jg).2) ∧ St w0 w1 (ng v acc :: R)
theorem bln (S : St w0 w R) (hs : ∀ w' L, St w0 w' (L ++ R) → SlB w' v l) (hl : l.length ≤ 5000000) {K : KV}
  (h : ∀ w' lv k, St w0 w' (ng lv (wk l).1 :: R) → K (.tuple #[lv, .int .i64 ((wk l).2 : Nat), .int .i64 k]) w') : gr P F.fq [v] w K := by
 rw [M.cu.fcall]
 apply M.cu.calls
 unfold M.cu
 rw [ib]
 have h0 : AlI w0 l R [undef, undef, undef, .slice none 0 0, .int .i64 ((0 : Nat) : Int), .int .i64 0] w := by
  refine ⟨_, _, _, _, _, [], 0, l.length + 1, rfl, Nat.zero_le _, by omega, by simp, ?_, ayc S⟩
  rw [List.nil_append]
  exact (Prod.eta _).symm
 refine ⟨AlI w0 l R, fun x _ => l.length - ms x 4, h0, ?_⟩
 rintro x w1 ⟨u0, u1, u2, u5, lv, acc, jg, f, rfl, hu, hf, ha, heq, S1⟩
 have q3 : gv [u0, u1, u2, lv, .int .i64 (jg : Nat), u5] 3 = lv := rfl
 have q4 : gv [u0, u1, u2, lv, .int .i64 (jg : Nat), u5] 4 = .int .i64 (jg : Nat) := rfl
 have q5 : gv [u0, u1, u2, lv, .int .i64 (jg : Nat), u5] 5 = u5 := rfl
 have s1 := hs w1 [_] S1
 have hlen : ∀ w' K', biT P .len #[T.f] T.c [false] [v] w' K' = K' (.int .i64 l.length) w' := fun w' K' => s1.jb (by kernel_rfl) [false]
 unfold M.cu.j1
 simp only [ib, q4, hlen, lw]
 cases f with
 | zero => omega
 | succ f =>
  by_cases hul : jg < l.length
  ·rw [decide_eq_true (show (jg : Int) < l.length by omega), Eng.cond_true]
   unfold M.cu.j2
   have hw1 : IntKind.i64.wrap ((jg : Int) + 8192) = ((jg + 8192 : Nat) : Int) := by rw [ig]; omega
   have hw2 : IntKind.i64.wrap (((jg + 8192 : Nat) : Int) + 8) = ((jg + 8200 : Nat) : Int) := by rw [ig]; omega
   simp only [ib, q3, q4, q5, hlen, kz, hw1, hw2, akr]
   obtain ⟨e, he⟩ : ∃ e : Nat, min (l.length : Int) ((jg + 8200 : Nat) : Int) = (e : Int) ∧ jg ≤ e ∧ e ≤ l.length ∧ (l.drop jg).take (e - jg) = (l.drop jg).take 8200 := by
    by_cases hm : l.length ≤ jg + 8200
    ·refine ⟨l.length, by omega, by omega, Nat.le_refl _, ?_⟩
     rw [List.take_of_length_le (by simp), List.take_of_length_le (by simp; omega)]
    ·exact ⟨jg + 8200, by omega, by omega, by omega, by rw [Nat.add_sub_cancel_left]⟩
   obtain ⟨he1, he2, he3, he4⟩ := he
   rw [he1]
   obtain ⟨va, sa, pa, ra⟩ := s1.sub (P := P) (t := T.f) (lo := some (.int .i64 (jg : Nat))) (hi := some (.int .i64 (e : Nat))) (i := jg) (j := e) (by kernel_rfl) (by kernel_rfl) (.inr ⟨_, rfl⟩) (.inr ⟨_, rfl⟩) he2 he3
   rw [ra]
   have hrd : ∀ w' L, St w0 w' (L ++ (ng lv acc :: R)) → SlB w' va ((l.drop jg).take 8200) := fun w' L S' => by
    obtain ⟨vb, sb, _, rb⟩ := (hs w' (L ++ [ng lv acc]) (by simpa using S')).sub (P := P) (t := T.f) (lo := some (.int .i64 (jg : Nat))) (hi := some (.int .i64 (e : Nat))) (i := jg) (j := e) (by kernel_rfl) (by kernel_rfl) (.inr ⟨_, rfl⟩) (.inr ⟨_, rfl⟩) he2 he3
    rw [aye ra rb w', ← he4]; exact sb
   refine bko S1 hrd (by simp; omega) fun w2 dv rv S2 => ?_
   simp only [bcd, bbq, bbz, ajv]
   have hG : aae l (f + 1) jg = match (zd ((l.drop jg).take 8200)).1 with
    | none => ([], jg)
    | some d => (d :: (aae l f (jg + d.length + 8)).1, (aae l f (jg + d.length + 8)).2) := by rw [aae, if_pos hul]
   have hck := bcp ((l.drop jg).take 8200)
   generalize zd ((l.drop jg).take 8200) = c at *
   obtain ⟨co, ck⟩ := c
   rcases hck with ⟨k0, d, hd, hdl⟩ | ⟨k0, hd⟩
   ·simp only at k0 hd hG S2
    subst k0 hd
    simp only [Option.getD_some] at S2 hG
    have hdl' : d.length + 8 ≤ l.length - jg := by simp at hdl; omega
    obtain ⟨da, dc, hdv, _⟩ : SlB w2 dv d := S2.row ka
    simp
    unfold M.cu.j3
    have hsv : dv = SV.v ⟨da, d.length, dc⟩ := hdv
    have hdlen : ∀ w' K', biT P .len #[T.f] T.c [false] [dv] w' K' = K' (.int .i64 d.length) w' := fun w' K' => (S2.row ka : SlB w2 dv d).jb (by kernel_rfl) [false]
    have r3 : gv [lv, .int .i64 (jg : Nat), u5] 0 = lv := rfl
    have r4 : gv [lv, .int .i64 (jg : Nat), u5] 1 = .int .i64 (jg : Nat) := rfl
    have r5 : gv [lv, .int .i64 (jg : Nat), u5] 2 = u5 := rfl
    have hw3 : IntKind.i64.wrap ((d.length : Int) + 8) = ((d.length + 8 : Nat) : Int) := by rw [ig]; omega
    have hw4 : IntKind.i64.wrap ((jg : Int) + ((d.length + 8 : Nat) : Int)) = ((jg + d.length + 8 : Nat) : Int) := by rw [ig]; omega
    simp only [r3, r4, r5, hdlen, kz, hw3, hw4]
    rw [hsv] at S2 ⊢
    refine aie S2 (by omega) fun w3 v3 S3 => ?_
    refine ⟨⟨_, _, _, _, v3, acc ++ [d], jg + d.length + 8, f, rfl, by omega, by omega, by simp; omega, ?_, S3⟩, ?_⟩
    ·rw [heq, hG]; simp
    ·simp [ms, gv]; omega
   ·simp only at k0 hd hG S2
    subst hd
    rw [heq, hG, List.append_nil] at h
    rw [decide_eq_true k0, Eng.cond_true]
    exact h w2 lv ck S2.drop
  ·rw [decide_eq_false (show ¬ (jg : Int) < l.length by omega), Eng.cond_false]
   have hG : aae l (f + 1) jg = ([], jg) := by rw [aae, if_neg hul]
   rw [heq, hG, List.append_nil] at h
   exact h w1 lv 0 S1
end
def cat (ds : List (List Int)) : List Int := ds.flatMap jo
theorem bew {n : Nat} (hn : n < 4294967296) (r : List Int) (k : Nat) (hk : 4 ≤ k) : zg ((xc (n : Int) ++ r).take k) = n := by
 have e : (xc (n : Int) ++ r).take k = xc (n : Int) ++ r.take (k - 4) := by
  rw [List.take_append, List.take_of_length_le (by rw [tw]; omega), tw]
 rw [e, ail hn]
theorem beb {d : List Int} (hd : d.length ≤ 8192) (r : List Int) : zd (jo d ++ r) = (some d, 0) := by
 have hl := oz d
 have hb : (xg d).length = 4 + d.length := by unfold xg; simp [tw]
 have hu : zg (jo d ++ r) = (d.length : Int) := by
  unfold jo xg
  rw [List.append_assoc, List.append_assoc]
  exact ail (by omega) _
 unfold zd
 rw [hu, if_neg (by simp; omega), if_neg (by omega), if_neg (by simp; omega), Int.toNat_natCast]
 have e1 : (jo d ++ r).take (4 + d.length) = xg d := by
  unfold jo
  rw [List.append_assoc, List.take_left' hb]
 have e2 : zg ((jo d ++ r).drop (4 + d.length)) = abk (xg d) := by
  unfold jo
  rw [List.append_assoc, List.drop_left' hb]
  obtain ⟨n, hn, hn2⟩ := atu (xg d)
  rw [hn]; exact ail hn2 r
 have e3 : ((jo d ++ r).drop 4).take d.length = d := by
  unfold jo xg
  rw [List.append_assoc, List.append_assoc, List.drop_left' (tw _), List.take_left' rfl]
 rw [e1, e2, if_neg (by simp), e3]
theorem big {d : List Int} (hd : d.length ≤ 8192) {k : Nat} (hk : k < (jo d).length) : (zd ((jo d).take k)).1 = none := by
 have hl := oz d
 unfold zd
 by_cases h4 : k < 4
 ·rw [if_pos (by simp; omega)]
 ·have hu : zg ((jo d).take k) = (d.length : Int) := by
   unfold jo xg
   rw [List.append_assoc]
   exact bew (by omega) _ k (by omega)
  rw [if_neg (by simp; omega), hu, if_neg (by omega), if_pos (by simp; omega)]
def aia (p : List Int) : Prop := ∃ (d : List Int) (k : Nat), d.length ≤ 8192 ∧ k < (jo d).length ∧ p = (jo d).take k
theorem atx : aia [] := ⟨[], 0, by simp, by rw [oz]; simp, by simp⟩
theorem bfe {ds : List (List Int)} (hd : ∀ d ∈ ds, d.length ≤ 8192) {p : List Int} (hp : aia p) : ∀ (a : List Int) (f : Nat), (a ++ cat ds ++ p).length < f + a.length → aae (a ++ cat ds ++ p) f a.length = (ds, (a ++ cat ds).length) := by
 induction ds with
 | nil =>
  intro a f hf
  simp only [cat, List.flatMap_nil, List.append_nil]
  cases f with
  | zero => simp [cat] at hf; omega
  | succ f =>
   rw [aae]
   by_cases hlt : a.length < (a ++ p).length
   ·rw [if_pos hlt, List.drop_left' rfl]
    obtain ⟨d, k, h1, h2, rfl⟩ := hp
    have hl := oz d
    rw [List.take_take, big h1 (by omega)]
   ·rw [if_neg hlt]
 | cons d ds ih =>
  intro a f hf
  have hdd := hd d (by simp)
  have hl := oz d
  have e0 : cat (d :: ds) = jo d ++ cat ds := by simp [cat]
  rw [e0] at hf ⊢
  cases f with
  | zero => simp at hf; omega
  | succ f =>
   rw [aae, if_pos (by simp; omega)]
   have e1 : ((a ++ (jo d ++ cat ds) ++ p).drop a.length).take 8200 = jo d ++ (cat ds ++ p).take (8200 - (jo d).length) := by
    rw [List.append_assoc, List.drop_left' rfl, List.append_assoc, List.take_append, List.take_of_length_le (by omega)]
   rw [e1, beb hdd]
   have e2 : a ++ (jo d ++ cat ds) ++ p = (a ++ jo d) ++ cat ds ++ p := by simp
   have e3 : a.length + d.length + 8 = (a ++ jo d).length := by simp; omega
   have := ih (fun x hx => hd x (by simp [hx])) (a ++ jo d) f (by rw [e2] at hf; simp at hf ⊢; omega)
   simp only
   rw [e2, e3, this]
   simp [cat]
theorem arb {ds : List (List Int)} (hd : ∀ d ∈ ds, d.length ≤ 8192) {p : List Int} (hp : aia p) : wk (cat ds ++ p) = (ds, (cat ds).length) := by
 have := bfe hd hp [] ((cat ds ++ p).length + 1) (by simp)
 simpa [wk] using this
open Go.Eng
def qv (p : Nat) : List Value := [.pointer (some ⟨p, 0, none⟩)]
theorem zk (p : Nat) : (qv p).length = 1 := rfl
theorem bfr (p : Nat) : ∀ u ∈ qv p, kq u = true := fun u hu => by simp [qv] at hu; subst hu; rfl
structure Prt where
 no : Int
 first : Int
 jc : List (List Int)
 size : Int
structure Lg where
 im : Int
 ii : List Prt
def uy (q : Prt) (v : Value) : Array Value := #[.int .i64 q.no, .int .i64 q.first, v, .int .i64 q.size]
def bib (p : Nat) (v : Value) (q : Prt) : List Asn := [iq p (uy q v) T.af, ng v q.jc]
def pq (p : Nat) (q : Prt) : Asn where
 ok w B := ∃ v, Rs (bib p v q) w B
 ke := by
  rintro w w' B S ⟨v, h⟩ hf hn
  exact ⟨v, h.ke hf hn⟩
def jx (p : Nat) : Value := .pointer (some ⟨p, 0, none⟩)
def qk (hb : Nat) (im : Int) (v : Value) : Array Value := #[.pointer (some ⟨hb, 0, none⟩), .int .i64 im, v]
def bfk (p hb : Nat) (v : Value) (ps : List Nat) (L : Lg) : List Asn := [iq p (qk hb L.im v) T.ab, Eng.me T.aa 1 qv v ps, vz pq ps L.ii]
def nb (p hb : Nat) (L : Lg) : Asn where
 ok w B := ∃ v ps, ps.length = L.ii.length ∧ Rs (bfk p hb v ps L) w B
 ke := by
  rintro w w' B S ⟨v, ps, h1, h2⟩ hf hn
  exact ⟨v, ps, h1, h2.ke hf hn⟩
def Lg.next (L : Lg) : Int := match L.ii.getLast? with
 | none => 0
 | some q => IntKind.i64.wrap (q.first + q.jc.length)
section
variable {w0 w : World} {R : List Asn} {p hb : Nat} {v : Value} {ps : List Nat} {L : Lg} {q : Prt}
theorem zx (S : St w0 w (pq p q :: R)) : ∃ v, St w0 w (iq p (uy q v) T.af :: ng v q.jc :: R) := by
 obtain ⟨B, ⟨v, h⟩, _, cl⟩ := S.open
 exact ⟨v, cl w (bib p v q) (Fr.refl _ _) (h.mono fun b hb => .inl hb)⟩
theorem alm (S : St w0 w (iq p (uy q v) T.af :: ng v q.jc :: R)) : St w0 w (pq p q :: R) := by
 obtain ⟨U, h1, _, g⟩ := St.acb (L := bib p v q) (R := R) S
 exact g w [pq p q] (Fr.refl _ _) ⟨U, ⟨v, h1⟩, fun b hb => .inl hb, trivial⟩
theorem aqt (S : St w0 w (nb p hb L :: R)) : ∃ v ps, ps.length = L.ii.length ∧ St w0 w (iq p (qk hb L.im v) T.ab :: Eng.me T.aa 1 qv v ps :: vz pq ps L.ii :: R) := by
 obtain ⟨B, ⟨v, ps, h1, h2⟩, _, cl⟩ := S.open
 exact ⟨v, ps, h1, cl w (bfk p hb v ps L) (Fr.refl _ _) (h2.mono fun b hb => .inl hb)⟩
theorem abb (h : ps.length = L.ii.length) (S : St w0 w (iq p (qk hb L.im v) T.ab :: Eng.me T.aa 1 qv v ps :: vz pq ps L.ii :: R)) : St w0 w (nb p hb L :: R) := by
 obtain ⟨U, h1, _, g⟩ := St.acb (L := bfk p hb v ps L) (R := R) S
 exact g w [nb p hb L] (Fr.refl _ _) ⟨U, ⟨v, ps, h, h1⟩, fun b hb => .inl hb, trivial⟩
theorem qx {im : Int} (h : w.heap[p]? = some (.cells (qk hb im v) T.ab (0, 0))) : ic w p 0 = some (.pointer (some ⟨hb, 0, none⟩)) ∧ ic w p 1 = some (.int .i64 im) ∧ ic w p 2 = some v ∧ ∀ i, rn w p i = false :=
 ⟨by rw [ie h]; rfl, by rw [ie h]; rfl, by rw [ie h]; rfl, pg h⟩
theorem nk (h : w.heap[p]? = some (.cells (uy q v) T.af (0, 0))) : ic w p 0 = some (.int .i64 q.no) ∧ ic w p 1 = some (.int .i64 q.first) ∧ ic w p 2 = some v ∧ ic w p 3 = some (.int .i64 q.size) ∧ ∀ i, rn w p i = false :=
 ⟨by rw [ie h]; rfl, by rw [ie h]; rfl, by rw [ie h]; rfl, by rw [ie h]; rfl, pg h⟩
theorem arg (S : St w0 w (Eng.me T.aa 1 qv v ps :: R)) {j : Nat} (hj : j < ps.length) : ∃ b o, (∀ w' K, iaT P T.v v (.int .i64 (j : Nat)) w' K = K (.pointer (some ⟨b, o, none⟩)) w') ∧ ∀ {w1 : World} {R1 : List Asn}, St w0 w1 (Eng.me T.aa 1 qv v ps :: R1) → ic w1 b o = some (jx ps[j]) := by
 obtain ⟨b, o, cap, hv, _, _, hc⟩ := (S.me zk : Sl w 1 qv v ps).at hj
 refine ⟨b, o + j, fun w' K => by rw [hv]; simp [hj], fun {w1 R1} S1 => ?_⟩
 obtain ⟨b', o', cap', hv', _, _, hc'⟩ := (S1.me zk : Sl w1 1 qv v ps).at hj
 have hx := hv.symm.trans hv'
 cases hx
 have c0 := hc' 0 _ rfl
 simp only [Nat.mul_one, Nat.add_zero] at c0
 exact c0
theorem adz (S : St w0 w (Eng.me T.aa 1 qv v ps :: R)) (w' : World) (K : KV) : biT P .len #[T.v] T.c [false] [v] w' K = K (.int .i64 ps.length) w' := by rw [(S.me zk : Sl w 1 qv v ps).jb (by kernel_rfl)]
theorem adn (hl : ps.length = L.ii.length) (S : St w0 w (iq p (qk hb L.im v) T.ab :: Eng.me T.aa 1 qv v ps :: R)) (hfew : ps.length ≤ 1000000) {K : KV} (h0 : ps = [] → K (.pointer none) w) (h1 : ∀ (hp : 0 < ps.length) w', Fz w w' → K (jx (ps[ps.length - 1]'(by omega))) w') : gr P F.cc [jx p] w K := by
 rw [M.db.fcall]
 apply M.db.calls
 unfold M.db jx
 obtain ⟨c0, c1, c2, _⟩ := qx S.blk
 have hlen := fun w' K => adz S.swap w' K
 by_cases hz : ps.length = 0
 ·simp [c2, hlen, hz]
  exact h0 (List.length_eq_zero_iff.1 hz)
 ·have hp : 0 < ps.length := by omega
  have hz' : ¬ ps = [] := fun h => hz (by rw [h]; rfl)
  obtain ⟨b, o, hia, hc⟩ := arg S.swap (j := ps.length - 1) (by omega)
  have cc : ic w b o = some (jx (ps[ps.length - 1]'(by omega))) := hc S.swap
  have hw : IntKind.i64.wrap ((ps.length : Int) - 1) = ((ps.length - 1 : Nat) : Int) := by rw [ig]; omega
  simp [c2, hlen, hz']
  unfold M.db.j0
  simp [c2, hlen, hw, hia, cc]
  exact h1 hp _ ((Fr.refl _ w).dr 1)
theorem aeq {qs : List Prt} (h : 0 < qs.length) : qs.getLast? = some (qs[qs.length - 1]'(by omega)) := by
 rw [List.getLast?_eq_getElem?, List.getElem?_eq_getElem (by omega)]
theorem atp (hl : ps.length = L.ii.length) (S : St w0 w (iq p (qk hb L.im v) T.ab :: Eng.me T.aa 1 qv v ps :: vz pq ps L.ii :: R)) (hfew : ps.length ≤ 1000000) {K : KV} (h : ∀ w', Fz w w' → K (.int .i64 L.next) w') : gr P F.el [jx p] w K := by
 rw [M.da.fcall]
 apply M.da.calls
 unfold M.da
 refine adn hl S hfew (fun hz => ?_) fun hp w1 f1 => ?_
 ·have : L.ii = [] := List.length_eq_zero_iff.1 (by rw [← hl, hz]; rfl)
  have hn : L.next = 0 := by unfold Lg.next; rw [this]; rfl
  rw [hn] at h
  simp
  exact h w (Fr.refl _ _)
 ·have hj : ps.length - 1 < L.ii.length := by omega
  have S1 := S.jt f1
  obtain ⟨v', S2⟩ := zx (ads hl hj S1.up2)
  obtain ⟨_, d1, d2, _, _⟩ := nk S2.blk
  have hn : L.next = IntKind.i64.wrap ((L.ii[ps.length - 1]).first + (L.ii[ps.length - 1]).jc.length) := by
   unfold Lg.next
   rw [aeq (by omega)]
   simp only [hl]
  rw [hn] at h
  generalize L.ii[ps.length - 1] = q at *
  have hlen := fun w' K => agk S2.swap w' K
  simp only [jx]
  simp
  unfold M.da.j0
  simp [d1, d2, hlen]
  exact h _ (f1.dr 1)
def Lg.oh (L : Lg) (D : Dk) : Dk × Int := if D.jj then (D, 10) else match L.ii.getLast? with
 | none => (D, 0)
 | some q => D.oh q.no
theorem arf {D : Dk} (S : St w0 w (nb p hb L :: iy hb D :: R)) (hfew : L.ii.length ≤ 1000000) {K : KV} (h : ∀ w', St w0 w' (nb p hb L :: iy hb (L.oh D).1 :: R) → K (.int .i64 (L.oh D).2) w') : gr P F.ek [jx p] w K := by
 obtain ⟨v, ps, hl, S1⟩ := aqt S
 rw [M.cz.fcall]
 apply M.cz.calls
 unfold M.cz
 obtain ⟨c0, c1, c2, _⟩ := qx S1.blk
 simp only [jx]
 simp [c0]
 refine aok S1.up3 ?_
 unfold Lg.oh at h
 cases hd : D.jj with
 | true =>
  rw [hd] at h
  simp
  exact h w S
 | false =>
  rw [hd] at h
  simp only [Bool.false_eq_true, if_false] at h
  simp
  refine adn hl S1 (by omega) (fun hz => ?_) fun hp w1 f1 => ?_
  ·have : L.ii = [] := List.length_eq_zero_iff.1 (by rw [← hl, hz]; rfl)
   rw [this] at h
   simp
   exact h w S
  ·simp only [jx]
   simp
   unfold M.cz.j0
   have S2 := S1.jt f1
   obtain ⟨e0, _, _, _⟩ := qx S2.blk
   have S3 := S2.jt ((Fr.refl _ w1).dr 1)
   simp [e0]
   refine adn hl S3 (by omega) (fun hz => by rw [hz] at hp; simp at hp) fun hp w2 f2 => ?_
   have S4 := S3.jt f2
   obtain ⟨g0, _, _, _⟩ := qx S4.blk
   have hj : ps.length - 1 < L.ii.length := by omega
   obtain ⟨v', S5⟩ := zx (ads hl hj S4.up2)
   obtain ⟨d0, _, _, _, _⟩ := nk S5.blk
   have hgl : L.ii.getLast? = some (L.ii[ps.length - 1]) := by rw [aeq (by omega)]; simp only [hl]
   rw [hgl] at h
   simp only at h
   simp [jx, g0, d0]
   refine axu S4.up3 _ fun w3 S6 => ?_
   exact h w3 (abb hl S6.dn3)
end
def Lg.all (L : Lg) : List (List Int) := L.ii.flatMap Prt.jc
section
variable {w0 w : World} {R : List Asn} {p hb : Nat} {v : Value} {ps : List Nat} {L : Lg} {q : Prt}
theorem aso {l : List Int} (S : St w0 w (ky v l :: R)) : ∃ s : SV, v = s.v := by
 obtain ⟨a, c, hv, _⟩ : SlB w v l := S.row ka
 exact ⟨⟨a, l.length, c⟩, hv⟩
def RiI (w0 : World) (rv : Value) (acc ls : List (List Int)) (R : List Asn) : KL := fun x w1 => ∃ (u0 av : Value) (j : Nat), x = [u0, av, .int .i64 (j : Nat)] ∧ j ≤ ls.length ∧ St w0 w1 (ng av (acc ++ ls.take j) :: ng rv ls :: R)
def RoI (w0 : World) (p hb : Nat) (L : Lg) (v : Value) (ps : List Nat) (R : List Asn) : KL := fun x w1 => ∃ (u0 u1 u2 u3 u4 av : Value) (i : Nat), x = [u0, u1, u2, u3, u4, av, .int .i64 (i : Nat)] ∧ i ≤ L.ii.length ∧
 St w0 w1 (ng av ((L.ii.take i).flatMap Prt.jc) :: iq p (qk hb L.im v) T.ab :: Eng.me T.aa 1 qv v ps :: vz pq ps L.ii :: R)
theorem bjs {qs : List Prt} {i : Nat} (hi : i < qs.length) (j : Nat) : ((qs.take i).flatMap Prt.jc ++ (qs[i].jc).take j).length ≤ (qs.flatMap Prt.jc).length := by
 have e : qs.flatMap Prt.jc = (qs.take i).flatMap Prt.jc ++ (qs[i].jc ++ (qs.drop (i + 1)).flatMap Prt.jc) := by
  conv => lhs; rw [← List.take_append_drop i qs, List.drop_eq_getElem_cons hi]
  rw [List.flatMap_append, List.flatMap_cons]
 rw [e]
 simp only [List.length_append, List.length_take]
 omega
theorem bkr (S : St w0 w (nb p hb L :: R)) (hfew : L.ii.length ≤ 1000000) (hall : L.all.length ≤ 1000000) (hrec : ∀ q ∈ L.ii, ∀ d ∈ q.jc, d.length ≤ 100000000) {K : KV} (h : ∀ w' v', St w0 w' (ng v' L.all :: nb p hb L :: R) → K v' w') : gr P F.cu [jx p] w K := by
 obtain ⟨v, ps, hl, S1⟩ := aqt S
 rw [M.aq.fcall]
 apply M.aq.calls
 unfold M.aq jx
 obtain ⟨c0, c1, c2, _⟩ := qx S1.blk
 have hlen := fun w' K => adz S1.swap w' K
 simp
 unfold M.aq.j0
 simp [c2, hlen]
 have S2 := ayc S1
 refine ⟨RoI w0 p hb L v ps R, fun x _ => L.ii.length - ms x 6, ⟨_, _, _, _, _, _, 0, rfl, Nat.zero_le _, S2⟩, ?_⟩
 rintro x w1 ⟨u0, u1, u2, u3, u4, av, i, rfl, hi, S3⟩
 by_cases hlt : i < L.ii.length
 ·have hltp : i < ps.length := by omega
  have hlti : (i : Int) < (ps.length : Int) := by omega
  obtain ⟨b, o, hia, hc⟩ := arg S3.up2 (j := i) hltp
  have cc : ic w1 b o = some (jx ps[i]) := hc S3.up2
  simp [hlti]
  unfold M.aq.j3
  obtain ⟨rv, S4⟩ := zx (ads hl hlt S3.up3)
  obtain ⟨_, _, d2, _, _⟩ := nk S4.blk
  have hq2 := hrec _ (List.getElem_mem hlt : L.ii[i] ∈ L.ii)
  have hrl : ∀ j, ((L.ii.take i).flatMap Prt.jc ++ (L.ii[i].jc).take j).length ≤ 1000000 := fun j => Nat.le_trans (bjs hlt j) hall
  have hnext : (L.ii.take i).flatMap Prt.jc ++ L.ii[i].jc = (L.ii.take (i + 1)).flatMap Prt.jc := by rw [List.take_succ_eq_append_getElem hlt, List.flatMap_append]; simp
  have S5 : St w0 w1 (ng av ((L.ii.take i).flatMap Prt.jc) :: ng rv L.ii[i].jc :: iq ps[i] (uy L.ii[i] rv) T.af :: akj pq ps L.ii i :: iq p (qk hb L.im v) T.ab :: Eng.me T.aa 1 qv v ps :: R) := S4.up3.perm (.cons _ (.swap _ _ _))
  have hback : ∀ {w2 : World} {av' : Value} {A : List (List Int)}, St w0 w2 (ng av' A :: ng rv L.ii[i].jc :: iq ps[i] (uy L.ii[i] rv) T.af :: akj pq ps L.ii i :: iq p (qk hb L.im v) T.ab :: Eng.me T.aa 1 qv v ps :: R) → St w0 w2 (ng av' A :: iq p (qk hb L.im v) T.ab :: Eng.me T.aa 1 qv v ps :: vz pq ps L.ii :: R) := fun T => (bht hl hlt (alm (St.dn3 (T.perm (.cons _ (.swap _ _ _)))))).dn3
  generalize (L.ii.take i).flatMap Prt.jc = A at *
  generalize hrs : L.ii[i].jc = rs at *
  generalize iq ps[i] (uy L.ii[i] rv) T.af :: akj pq ps L.ii i :: iq p (qk hb L.im v) T.ab :: Eng.me T.aa 1 qv v ps :: R = R' at S5 hback
  have hlen2 := fun w' K => agk S5.swap w' K
  simp only [jx] at cc d2
  simp [jx, hia, cc, d2, hlen2]
  have h0 : RiI w0 rv A rs R' [gv [u0, u1, u2, u3, u4, av, .int .i64 (i : Nat)] 4, gv [u0, u1, u2, u3, u4, av, .int .i64 (i : Nat)] 5, .int .i64 ((0 : Nat) : Int)] w1 := ⟨_, _, 0, rfl, Nat.zero_le _, by rw [List.take_zero, List.append_nil]; exact S5⟩
  refine ⟨RiI w0 rv A rs R', fun x _ => rs.length - ms x 2, h0, ?_⟩
  rintro x w2 ⟨t0, bv, j, rfl, hj, S6⟩
  by_cases hltj : j < rs.length
  ·have hltji : (j : Int) < (rs.length : Int) := by omega
   obtain ⟨b2, o2, s, hia2, _, hc2, hs2⟩ := ajt S6.swap hltj
   simp [hltji]
   unfold M.aq.j6
   simp only [SV.v] at hc2
   simp [hia2, hc2]
   refine xq S6 hs2 (hq2 _ (List.getElem_mem hltj)) fun w3 v3 S7 => ?_
   obtain ⟨s3, rfl⟩ := aso S7
   refine aie S7 (Nat.le_trans (by simp) (hrl j)) fun w4 v4 S8 => ?_
   rw [List.append_assoc, ← List.take_succ_eq_append_getElem hltj] at S8
   have hw : IntKind.i64.wrap ((j : Int) + 1) = ((j + 1 : Nat) : Int) := by have := hrl rs.length; simp at this; rw [ig]; omega
   try simp
   rw [hw]
   refine ⟨⟨_, _, j + 1, rfl, hltj, S8⟩, ?_⟩
   simp [ms, gv]; omega
  ·have hge : ¬ (j : Int) < (rs.length : Int) := by omega
   simp [hge]
   have hw : IntKind.i64.wrap ((i : Int) + 1) = ((i + 1 : Nat) : Int) := by rw [ig]; omega
   rw [hw]
   rw [List.take_of_length_le (by omega), hnext] at S6
   refine ⟨⟨_, _, _, _, _, _, i + 1, rfl, hlt, hback S6⟩, ?_⟩
   simp [ms, gv]; omega
 ·have hge : ¬ (i : Int) < (ps.length : Int) := by omega
  simp [hge]
  have he : (L.ii.take i).flatMap Prt.jc = L.all := by rw [List.take_of_length_le (by omega)]; rfl
  rw [he] at S3
  exact h w1 av (abb hl S3.dn3).swap
end
section
variable {w0 w : World} {R : List Asn} {p hb : Nat} {v : Value} {ps : List Nat} {L : Lg} {q : Prt} {D : Dk}
theorem afo {cs cs' : Array Value} {e : TypeId} {b i : Nat} {u : Value} (S : St w0 w (iq b cs e :: R)) (hc : cs.setIfInBounds i u = cs') : St w0 (w.setCell ⟨b, i, none⟩ u) (iq b cs' e :: R) :=
 S.ni ((Fr.refl (fun x => x = b) w).setCell (.inl rfl) _ _) ((nj S.blk).trans (by rw [hc]))
end
def pd (n : Int) : List Int := jo (mh (IntKind.u64.wrap n))
theorem aib (n : Int) : (pd n).length = 16 := by unfold pd; rw [oz, mj]
def Lg.abl (L : Lg) (D : Dk) (rec : List Int) (no : Int) : (Lg × Dk) × Int :=
 if (D.append no (pd L.next ++ jo rec)).2 = 0 then (({ L with ii := L.ii ++ [⟨no, L.next, [rec], (pd L.next ++ jo rec).length⟩] }, (D.append no (pd L.next ++ jo rec)).1), 0)
 else ((L, (D.append no (pd L.next ++ jo rec)).1), (D.append no (pd L.next ++ jo rec)).2)
def Lg.aaz (L : Lg) (D : Dk) (rec : List Int) : (Lg × Dk) × Int := match L.ii.getLast? with
 | none => L.abl D rec 0
 | some q => if 63 ≤ L.ii.length then ((L, D), 9) else if (D.oh q.no).2 = 0 then L.abl (D.oh q.no).1 rec ((q.no + 1) % 64) else ((L, (D.oh q.no).1), (D.oh q.no).2)
def Prt.ss (q : Prt) (rec : List Int) : Prt := { q with jc := q.jc ++ [rec], size := q.size + (jo rec).length }
def Lg.append (L : Lg) (D : Dk) (rec : List Int) : (Lg × Dk) × Int :=
 if 8192 < rec.length then ((L, D), 4) else match L.ii.getLast? with
 | none => L.aaz D rec
 | some q => if L.im ≤ q.size then L.aaz D rec else if (D.append q.no (jo rec)).2 = 0 then (({ L with ii := L.ii.set (L.ii.length - 1) (q.ss rec) }, (D.append q.no (jo rec)).1), 0)
  else ((L, (D.append q.no (jo rec)).1), (D.append q.no (jo rec)).2)
structure LgB (L : Lg) : Prop where
 few : L.ii.length ≤ 64
 rng : ∀ q ∈ L.ii, 0 ≤ q.no ∧ q.no < 64
 jc : ∀ q ∈ L.ii, q.jc.length ≤ 1000000
 size : ∀ q ∈ L.ii, 0 ≤ q.size ∧ q.size ≤ 10000000
section
variable {w0 w : World} {R : List Asn} {p hb np : Nat} {v lv fv : Value} {ps : List Nat} {L : Lg} {q : Prt} {D : Dk} {rec : List Int} {no : Int}
theorem up5 {a b c d e f : Asn} (h : St w0 w (a :: b :: c :: d :: e :: f :: R)) : St w0 w (f :: a :: b :: c :: d :: e :: R) := h.perm (List.perm_middle (l₁ := [a, b, c, d, e]))
theorem dn5 {a b c d e f : Asn} (h : St w0 w (f :: a :: b :: c :: d :: e :: R)) : St w0 w (a :: b :: c :: d :: e :: f :: R) := h.perm (List.perm_middle (l₁ := [a, b, c, d, e])).symm
theorem up6 {a b c d e f g : Asn} (h : St w0 w (a :: b :: c :: d :: e :: f :: g :: R)) : St w0 w (g :: a :: b :: c :: d :: e :: f :: R) := h.perm (List.perm_middle (l₁ := [a, b, c, d, e, f]))
theorem dn6 {a b c d e f g : Asn} (h : St w0 w (g :: a :: b :: c :: d :: e :: f :: R)) : St w0 w (a :: b :: c :: d :: e :: f :: g :: R) := h.perm (List.perm_middle (l₁ := [a, b, c, d, e, f])).symm
theorem afr (S : St w0 w R) (cs : Array Value) (e : TypeId) : St w0 (w.alloc (.cells cs e)) (iq w.heap.size cs e :: R) := S.add ((Fr.refl _ w).alloc _) (B := fun x => x = w.heap.size) ⟨by rw [iw, if_pos rfl], rfl⟩ fun x hx => by subst hx; rw [jz]; omega
theorem bff {s : SV} {d : List Int} (S : St w0 w (ky s.v d :: R)) {K : KV} (h : ∀ w' s', St w0 w' (ng (SV.v s') [d] :: R) → K s'.v w') : bsT P T.m 1 #[(0, s.v)] w K := by
 have hbs : ∀ K', bsT P T.m 1 #[(0, s.v)] w K' = K' (.slice (some ⟨w.heap.size, 0, none⟩) 1 1) (w.alloc (.cells #[s.v] T.f)) := fun K' => by unfold SV.v; simp
 rw [hbs]
 have S2 : St w0 (w.alloc (.cells #[s.v] T.f)) (nq T.f 1 rh (.slice (some ⟨w.heap.size, 0, none⟩) 1 1) [s] :: ky s.v d :: R) := St.su (l := [s]) S vj rfl (by unfold maxLen; simp)
 have T1 : St w0 (w.alloc (.cells #[s.v] T.f)) (qm (qq [s] [d]) :: Eng.me T.f 1 rh (.slice (some ⟨w.heap.size, 0, none⟩) 1 1) [s] :: R) := St.all.2 S2.off.swap
 exact h _ ⟨some ⟨w.heap.size, 0, none⟩, 1, 1⟩ (alw (vs := [s]) rfl T1.swap)
theorem axx {ls : List (List Int)} (S : St w0 w (ng lv ls :: R)) : ∃ s : SV, lv = s.v := by
 obtain ⟨a, c, hv⟩ := bdi S
 exact ⟨⟨a, _, c⟩, hv⟩
theorem zl {l : List Int} (S : St w0 w (ky v l :: R)) (w' : World) (K : KV) : biT P .len #[T.f] T.c [false] [v] w' K = K (.int .i64 l.length) w' := (S.row ka : SlB w v l).jb (by kernel_rfl) [false]
def bgL (np p hb : Nat) (lv : Value) (no : Int) (rec : List Int) (v : Value) (ps : List Nat) (L : Lg) (D : Dk) (R : List Asn) : List Asn :=
 iq np (uy ⟨no, L.next, [rec], 0⟩ lv) T.af :: ng lv [rec] :: iq p (qk hb L.im v) T.ab :: Eng.me T.aa 1 qv v ps :: vz pq ps L.ii :: iy hb D :: R
theorem apt (hl : ps.length = L.ii.length) (hb64 : L.ii.length ≤ 1000000) (S : St w0 w (pq np q :: iq p (qk hb L.im v) T.ab :: Eng.me T.aa 1 qv v ps :: vz pq ps L.ii :: R)) {Q : World → Prop} (h : ∀ w', St w0 w' (nb p hb { L with ii := L.ii ++ [q] } :: R) → Q w') :
  ld1 P p 2 w fun t87 w => biT P .append #[T.v, T.v] T.v [false, false] [t87, .slice (some ⟨w.heap.size, 0, none⟩) 1 1] (w.alloc (.cells #[.pointer (some ⟨np, 0, none⟩)] T.aa)) fun t90 w => stT P T.v (.pointer (some ⟨p, 2, none⟩)) t90 w fun _ w => Q w := by
 obtain ⟨_, _, c2, _⟩ := qx S.swap.blk
 have S1 := (bip hl S.up3.swap).up2
 simp [c2]
 have S2 : St w0 (w.alloc (.cells #[.pointer (some ⟨np, 0, none⟩)] T.aa)) (nq T.aa 1 qv (.slice (some ⟨w.heap.size, 0, none⟩) 1 1) [np] :: _) := St.su (l := [np]) S1 zk rfl (by unfold maxLen; simp)
 refine avh et.v zk bfr S2.swap (S2.row zk) (by simp; omega) (by decide) fun w2 v2 S3 => ?_
 have S4 := S3.swap.drop
 obtain ⟨a', cap', hv', _⟩ := (S4.me zk : Sl w2 1 qv v2 (ps ++ [np]))
 generalize hln : (ps ++ [np]).length = n1 at hv'
 subst hv'
 obtain ⟨_, _, g2, gz⟩ := qx S4.up2.blk
 simp [gz, g2]
 have S5 := afo (cs' := qk hb L.im (.slice a' n1 cap')) (i := 2) (u := .slice a' n1 cap') S4.up2 rfl
 exact h _ (abb (L := { L with ii := L.ii ++ [q] }) (by simp [hl]) S5)
theorem apc (S : St w0 w (bgL np p hb lv no rec v ps L D R)) (hl : ps.length = L.ii.length) (hb64 : L.ii.length ≤ 1000000) (hrec : rec.length ≤ 8192) (hfs : ∀ w' L', St w0 w' (L' ++ R) → SlB w' fv (jo rec)) {x0 : List Value} {K : KV}
  (h : ∀ w', St w0 w' (nb p hb (L.abl D rec no).1.1 :: iy hb (L.abl D rec no).1.2 :: R) → K (.int .i64 (L.abl D rec no).2) w') : M.am.j0 (jx np) fv (jx p) x0 w K := by
 unfold bgL at S
 unfold M.am.j0
 obtain ⟨d0, d1, d2, d3, dz⟩ := nk S.blk
 simp only [jx]
 simp [d1]
 refine agw (pw S) (by simp) _ fun w1 v1 S1 => ?_
 refine axk S1 (v0 := .slice none 0 0) (l0 := []) (fun _ _ _ => Sl.nil) (fun w' L' S' => (S'.perm List.perm_middle).row ka) (by simp) (by simp [mj]) fun w2 v2 S2 => ?_
 have e : (if 8192 < ([] ++ mh (IntKind.u64.wrap L.next)).length then [] else [] ++ jo ([] ++ mh (IntKind.u64.wrap L.next))) = pd L.next := by
  rw [List.nil_append, List.nil_append, mj, if_neg (by decide)]; rfl
 rw [e] at S2
 simp
 have hF : SlB w2 fv (jo rec) := hfs w2 (ky v2 (pd L.next) :: ky v1 ([] ++ mh (IntKind.u64.wrap L.next)) :: [_, _, _, _, _, _]) S2
 refine asr S2 (S2.row ka) hF (by rw [aib, oz]; omega) fun w3 v3 S3 => ?_
 have S4 := S3.swap.drop.swap.drop
 unfold Lg.abl at h
 have hcl : (pd L.next ++ jo rec).length ≤ 1000000 := by rw [List.length_append, aib, oz]; omega
 generalize pd L.next ++ jo rec = ct at *
 obtain ⟨c0, c1, c2, cz⟩ := qx S4.up3.blk
 obtain ⟨d0, d1, d2, d3, dz⟩ := nk S4.swap.blk
 simp [c0, d0]
 refine apg (up6 (S4.jt ((Fr.refl _ w3).dr 1))) no (l := ct) (fun w' L' S' => (S'.perm List.perm_middle).row ka) (by omega) fun w4 S5 => ?_
 have S6 := dn6 S5
 by_cases hk : (D.append no ct).2 = 0
 ·rw [if_pos hk] at h
  rw [hk]
  simp
  unfold M.am.j3
  have hlen := fun w' K => zl S6 w' K
  obtain ⟨e0, e1, e2, e3, ez⟩ := nk S6.swap.blk
  simp [hlen, ez, e3]
  have S7 := (afo (cs' := uy ⟨no, L.next, [rec], ct.length⟩ lv) (i := 3) (u := .int .i64 ct.length) S6.swap rfl).swap.drop
  exact apt hl hb64 (alm S7) h
 ·rw [if_neg hk] at h
  simp [hk]
  exact h w4 (abb hl S6.drop.drop.drop)
end
section
variable {w0 w : World} {R : List Asn} {p hb np : Nat} {v lv fv av : Value} {ps : List Nat} {L : Lg} {q : Prt} {D : Dk} {rec : List Int} {no : Int}
theorem bds (hl : ps.length = L.ii.length) (hp : 0 < ps.length) : L.ii.getLast? = some (L.ii[ps.length - 1]'(by omega)) := by rw [aeq (by omega)]; simp only [hl]
theorem avj (S : St w0 w (iq p (qk hb L.im v) T.ab :: Eng.me T.aa 1 qv v ps :: vz pq ps L.ii :: iy hb D :: R)) (hl : ps.length = L.ii.length) (hB : LgB L) (hrec : rec.length ≤ 8192) (hbs : ∀ w' L', St w0 w' (L' ++ R) → SlB w' av rec) (hfs : ∀ w' L', St w0 w' (L' ++ R) → SlB w' fv (jo rec)) {K : KV}
  (h : ∀ w', St w0 w' (nb p hb (L.aaz D rec).1.1 :: iy hb (L.aaz D rec).1.2 :: R) → K (.int .i64 (L.aaz D rec).2) w') : gr P F.fa [jx p, av, fv] w K := by
 rw [M.am.fcall]
 apply M.am.calls
 unfold M.am
 have hfew := hB.few
 refine atp hl S (by omega) fun w1 f1 => ?_
 have S1 := S.jt f1
 refine xq S1 (hbs w1 [_, _, _, _] S1) (by omega) fun w2 v2 S2 => ?_
 obtain ⟨s, rfl⟩ := aso S2
 refine bff S2 fun w3 s3 S3 => ?_
 simp only [SV.v]
 simp
 have S4 : St w0 _ (bgL w3.heap.size p hb s3.v 0 rec v ps L D R) := afr S3 (uy ⟨0, L.next, [rec], 0⟩ s3.v) T.af
 generalize hnp : w3.heap.size = np at *
 simp only [uy, SV.v] at S4
 generalize w3.alloc (.cells #[.int .i64 0, .int .i64 L.next, .slice s3.a s3.n s3.c, .int .i64 0] T.af) = w4 at *
 have S5 : St w0 w4 (iq p (qk hb L.im v) T.ab :: Eng.me T.aa 1 qv v ps :: iq np (uy ⟨0, L.next, [rec], 0⟩ s3.v) T.af :: ng s3.v [rec] :: vz pq ps L.ii :: iy hb D :: R) := St.up3 (St.up3 S4)
 refine adn hl S5 (by omega) (fun hz => ?_) fun hp w5 f5 => ?_
 ·simp
  have : L.ii = [] := List.length_eq_zero_iff.1 (by rw [← hl, hz]; rfl)
  unfold Lg.aaz at h
  rw [this] at h
  exact apc S4 hl (by omega) hrec hfs h
 ·simp only [jx]
  simp
  have S6 := S5.jt f5
  obtain ⟨c0, c1, c2, cz⟩ := qx S6.blk
  have hlen := fun w' K => adz S6.swap w' K
  have hgl := bds hl hp
  have hj : ps.length - 1 < L.ii.length := by omega
  have hqr := hB.rng _ (List.getElem_mem hj)
  unfold Lg.aaz at h
  rw [hgl] at h
  simp only at h
  simp [c2, hlen]
  by_cases h63 : 63 ≤ L.ii.length
  ·have h63i : (63 : Int) ≤ (ps.length : Int) := by omega
   rw [if_pos h63] at h
   simp [h63i]
   exact h w5 (abb hl S6.up2.drop.up2.drop)
  ·have h63i : ¬ (63 : Int) ≤ (ps.length : Int) := by omega
   rw [if_neg h63] at h
   simp [h63i]
   unfold M.am.j1
   obtain ⟨rv, T1⟩ := zx (ads hl hj S6.up4)
   obtain ⟨d0, _⟩ := nk T1.blk
   simp [c0, d0]
   refine axu (up5 (S6.jt ((Fr.refl _ w5).dr 1))) _ fun w6 S7 => ?_
   have S8 := dn5 S7
   generalize hqq : L.ii[ps.length - 1] = q at *
   by_cases hk : (D.oh q.no).2 = 0
   ·rw [if_pos hk] at h
    rw [hk]
    simp
    unfold M.am.j2
    obtain ⟨rv2, T2⟩ := zx (ads hl hj S8.up4)
    rw [hqq] at T2
    obtain ⟨e0, _⟩ := nk T2.blk
    obtain ⟨_, _, _, _, nz⟩ := nk S8.up2.blk
    obtain ⟨n0, _⟩ := nk S8.up2.blk
    have hw : IntKind.i64.wrap (q.no + 1) = q.no + 1 := ig
    simp [e0, hw, axl, nz, n0]
    have S9 := afo (cs' := uy ⟨(q.no + 1) % 64, L.next, [rec], 0⟩ s3.v) (i := 0) (u := .int .i64 ((q.no + 1) % 64)) S8.up2 rfl
    have et : (q.no + 1).tmod 64 = (q.no + 1) % 64 := by rw [Int.tmod_eq_emod_of_nonneg (by omega)]
    rw [et]
    exact apc (St.swap S9.up3) hl (by omega) hrec hfs h
   ·rw [if_neg hk] at h
    simp [hk]
    exact h w6 (abb hl S8.up2.drop.up2.drop)
theorem baq {s : SV} {d : List Int} {ls : List (List Int)} (S : St w0 w (ky s.v d :: ng v ls :: R)) (hl : ls.length ≤ 1000000) {cs : List Bool} {ty : TypeId} {K : KV} (h : ∀ w' v', St w0 w' (ng v' (ls ++ [d]) :: R) → K v' w') :
  biT P .append #[T.m, T.m] ty cs [v, .slice (some ⟨w.heap.size, 0, none⟩) 1 1] (w.alloc (.cells #[s.v] T.f)) K := by
 have hbs : ∀ K', bsT P T.m 1 #[(0, s.v)] w K' = K' (.slice (some ⟨w.heap.size, 0, none⟩) 1 1) (w.alloc (.cells #[s.v] T.f)) := fun K' => by unfold SV.v; simp
 have := aie S hl (cs := cs) (ty := ty) h
 rwa [hbs] at this
theorem baa (S : St w0 w (nb p hb L :: iy hb D :: R)) (hB : LgB L) (hrl : rec.length ≤ 1000000) (hbs : ∀ w' L', St w0 w' (L' ++ R) → SlB w' av rec) {K : KV}
  (h : ∀ w', St w0 w' (nb p hb (L.append D rec).1.1 :: iy hb (L.append D rec).1.2 :: R) → K (.int .i64 (L.append D rec).2) w') : gr P F.er [jx p, av] w K := by
 obtain ⟨v, ps, hl, S1⟩ := aqt S
 rw [M.ak.fcall]
 apply M.ak.calls
 unfold M.ak
 have hfew := hB.few
 simp only [jx]
 simp
 unfold M.ak.j0
 refine axk S1 (v0 := .slice none 0 0) (l0 := []) (fun _ _ _ => Sl.nil) (fun w' L' S' => hbs w' (L' ++ [_, _, _, _]) (by simpa using S')) (by simp) (by omega) fun w2 v2 S2 => ?_
 unfold Lg.append at h
 by_cases hbig : 8192 < rec.length
 ·rw [if_pos hbig] at h
  simp [hbig]
  exact h w2 (abb hl S2.drop)
 ·rw [if_neg hbig, List.nil_append] at S2
  rw [if_neg hbig] at h
  simp [hbig]
  unfold M.ak.j1
  have S3 : St w0 w2 (iq p (qk hb L.im v) T.ab :: Eng.me T.aa 1 qv v ps :: vz pq ps L.ii :: iy hb D :: ky v2 (jo rec) :: R) := S2.dn4
  have hbs3 : ∀ w' L', St w0 w' (L' ++ ky v2 (jo rec) :: R) → SlB w' av rec := fun w' L' S' => hbs w' (L' ++ [ky v2 (jo rec)]) (by simpa using S')
  have hfs3 : ∀ w' L', St w0 w' (L' ++ ky v2 (jo rec) :: R) → SlB w' v2 (jo rec) := fun w' L' S' => (S'.perm List.perm_middle).row ka
  refine adn hl S3 (by omega) (fun hz => ?_) fun hp w3 f3 => ?_
  ·have : L.ii = [] := List.length_eq_zero_iff.1 (by rw [← hl, hz]; rfl)
   rw [this] at h
   simp
   exact avj (S3.jt ((Fr.refl _ w2).dr 1)) hl hB (by omega) hbs3 hfs3 fun w4 S4 => h w4 S4.up2.drop
  ·simp only [jx]
   have S4 := S3.jt f3
   have hgl := bds hl hp
   have hj : ps.length - 1 < L.ii.length := by omega
   have hqs := hB.size _ (List.getElem_mem hj)
   have hqr := hB.jc _ (List.getElem_mem hj)
   rw [hgl] at h
   simp only at h
   obtain ⟨c0, c1, c2, cz⟩ := qx S4.blk
   obtain ⟨rv, T1⟩ := zx (ads hl hj S4.up2)
   obtain ⟨d0, d1, d2, d3, dz⟩ := nk T1.blk
   simp [c1, d3]
   by_cases hm : L.im ≤ L.ii[ps.length - 1].size
   ·rw [if_pos hm] at h
    simp [hm]
    exact avj (S4.jt ((Fr.refl _ w3).dr 1)) hl hB (by omega) hbs3 hfs3 fun w4 S5 => h w4 S5.up2.drop
   ·rw [if_neg hm] at h
    simp [hm]
    unfold M.ak.j2
    simp [c0, d0]
    refine apg (S4.jt (((Fr.refl _ w3).dr 1).dr 1)).up3 _ (fun w' L' S' => hfs3 w' (L' ++ [_, _, _]) (by simpa using S')) (by rw [oz]; omega) fun w4 S5 => ?_
    have S6 := S5.dn3
    generalize hqq : L.ii[ps.length - 1] = q at *
    by_cases hk : (D.append q.no (jo rec)).2 = 0
    ·rw [if_pos hk] at h
     rw [hk]
     simp
     unfold M.ak.j3
     obtain ⟨rv2, T2⟩ := zx (ads hl hj S6.up2)
     rw [hqq] at T2
     obtain ⟨e0, e1, e2, e3, ez⟩ := nk T2.blk
     have hlen := fun w' K => zl (v := v2) (l := jo rec) (T2.perm (List.perm_middle (l₁ := [_, _, _, _, _, _]))) w' K
     simp [e2, e3, hlen]
     have hbs4 : SlB (dr w4 1) av rec := hbs3 _ (iq ps[ps.length - 1] (uy q rv2) T.af :: ng rv2 q.jc :: akj pq ps L.ii (ps.length - 1) :: iq p (qk hb L.im v) T.ab :: Eng.me T.aa 1 qv v ps :: [iy hb (D.append q.no (jo rec)).1]) (T2.jt ((Fr.refl _ w4).dr 1))
     refine xq (T2.jt ((Fr.refl _ w4).dr 1)) hbs4 (by omega) fun w5 v5 T3 => ?_
     obtain ⟨s, rfl⟩ := aso T3
     obtain ⟨_, _, e2, e3, _⟩ := nk T3.swap.blk
     have T4 := T3.jt ((Fr.refl _ w5).alloc (.cells #[s.v] T.f))
     obtain ⟨_, _, g2, g3, _⟩ := nk T4.swap.blk
     refine ⟨by simp [e3], by simp [e2], ?_⟩
     have hbs5 : ∀ K', bsT P T.m 1 #[(0, s.v)] w5 K' = K' (.slice (some ⟨w5.heap.size, 0, none⟩) 1 1) (w5.alloc (.cells #[s.v] T.f)) := fun K' => by unfold SV.v; simp
     rw [hbs5]
     refine ⟨by simp [g3], by simp [g2], ?_⟩
     refine baq (T3.perm (.cons _ (.swap _ _ _))) (by omega) fun w6 v6 T5 => ?_
     obtain ⟨s6, rfl⟩ := axx T5
     obtain ⟨_, _, m2, m3, mz⟩ := nk T5.swap.blk
     refine ⟨by simp [m3], ?_⟩
     have T6 := afo (cs' := uy { q with jc := q.jc ++ [rec] } s6.v) (i := 2) (u := s6.v) T5.swap rfl
     obtain ⟨_, _, n2, n3, nz⟩ := nk T6.blk
     have T7 := afo (cs' := uy (q.ss rec) s6.v) (i := 3) (u := .int .i64 (q.size + (jo rec).length)) T6 rfl
     have hw : IntKind.i64.wrap (q.size + ((jo rec).length : Int)) = q.size + (jo rec).length := ig (by omega) (by rw [oz]; omega)
     simp only [SV.v] at *
     simp [hw, m2, mz, n3, nz]
     have T8 := axz hl hj (alm (q := q.ss rec) T7)
     have hl' : ps.length = (L.ii.set (ps.length - 1) (q.ss rec)).length := by simpa using hl
     have T9 := abb (L := { L with ii := L.ii.set (ps.length - 1) (q.ss rec) }) hl' T8.dn2
     have hl3 : L.ii.length - 1 = ps.length - 1 := by omega
     rw [hl3] at h
     exact h _ T9.up2.drop
    ·rw [if_neg hk] at h
     simp [hk]
     exact h w4 (abb hl S6).up2.drop
end
end Go.Proofs.YtfnhoaemapheoaaGreat
set_option maxRecDepth 100000
namespace Go.Proofs.YtfnhoaemapheoaaGreat.CI
open Go.Eng Go.Proofs.YtfnhoaemapheoaaGreat.Sint
theorem bfi (x : Int) : ∀ u ∈ rz x, kq u = true := fun u hu => by simp at hu; subst hu; rfl
theorem ang {w : World} {n : Nat} (hn : n ≤ 1000000000) {K : KV} (h : ∀ w' v, Ow w' w.heap.size T.c 1 rz v [] → Fz w w' → K v w') :
  ku P F.cz [.slice none 0 0, .int .i64 n] w K := by
 apply M.br.calls
 unfold M.br
 have hneg : ¬ (n : Int) < 0 := by omega
 simp [hneg]
 unfold M.br.j0
 have hsl : oe P T.ad = true := by kernel_rfl
 have w0 : IntKind.i64.wrap 0 = 0 := by decide
 have wn : IntKind.i64.wrap (n : Int) = n := ig
 rw [ib, amr hsl, yn hsl]
 simp only [lz, si]
 have e1 : IntKind.i64.wrap ((n : Int) - IntKind.i64.wrap (((0 : Nat) : Int) - ((0 : Nat) : Int))) = n := by
  rw [show ((0 : Nat) : Int) - ((0 : Nat) : Int) = 0 from by omega, w0, Int.sub_zero, wn]
 rw [e1]
 by_cases h0 : 0 < n
 ·have h0' : (0 : Int) < n := by omega
  simp only [h0', decide_true, Eng.cond_true]
  rw [amr hsl, aab (i := 0) (j := 0) hsl (.inl ⟨rfl, rfl⟩) (.inr ⟨.i64, rfl⟩) (Nat.le_refl _) (Nat.le_refl _)]
  refine bcg (enc := rz) et.ad (kn := .i64) (by kernel_rfl) h0 hn (by decide) _ fun w' cap hc o f => ?_
  rw [yn hsl, aab (i := 0) (j := 0) hsl (.inl ⟨rfl, rfl⟩) (.inr ⟨.i64, rfl⟩) (Nat.le_refl _) (Nat.zero_le _)]
  rw [if_neg (by omega)]
  have := h w' _ o f
  simpa [Addr.add, gv] using this
 ·have h0' : ¬ (0 : Int) < n := by omega
  simp only [h0', decide_false, Eng.cond_false]
  exact h w _ Ow.none (Fr.refl _ _)
abbrev Sls (w : World) (v : Value) (l : List Int) : Prop := Sl w 1 rz v l
abbrev Ows (w : World) (base : Nat) (v : Value) (l : List Int) : Prop := Ow w base T.c 1 rz v l
def tot (L : List (Value × List Int)) : Nat := (L.map fun p => p.2.length).sum
theorem adb {L : List (Value × List Int)} {i : Nat} (hi : i < L.length) : tot (L.take (i + 1)) = tot (L.take i) + L[i].2.length := by
 unfold tot
 rw [List.take_succ_eq_append_getElem hi, List.map_append, List.sum_append]; simp
theorem aho {L : List (Value × List Int)} (i : Nat) : tot (L.take i) ≤ tot L := by
 unfold tot
 conv => rhs; rw [← List.take_append_drop i L, List.map_append, List.sum_append]
 omega
theorem akt (L : List (Value × List Int)) : (L.flatMap (·.2)).length = tot L := by
 unfold tot
 induction L with
 | nil => rfl
 | cons p L ih => simp [ih]
def CaI (w : World) (L : List (Value × List Int)) : KL := fun x w1 => ∃ (u : Value) (i : Nat), x = [u, .int .i64 (tot (L.take i) : Nat), .int .i64 (i : Nat)] ∧ w1 = w ∧ i ≤ L.length
def CbI (w : World) (L : List (Value × List Int)) : KL := fun x w1 => ∃ (u v : Value) (i : Nat), x = [u, v, .int .i64 (i : Nat)] ∧ i ≤ L.length ∧ Fz w w1 ∧ Ows w1 w.heap.size v ((L.take i).flatMap (·.2))
theorem abn {w : World} {b cap : Nat} {L : List (Value × List Int)} {e : TypeId} (hb : w.heap[b]? = some (.cells (L.map (·.1)).toArray e (0, 0))) (hs : ∀ p ∈ L, Sls w p.1 p.2) (ht : tot L ≤ 100000000) (hL : L.length ≤ 1000) {K : KV}
  (h : ∀ w' v, Ows w' w.heap.size v (L.flatMap (·.2)) → Fz w w' → K v w') : ku P F.bv [.slice (some ⟨b, 0, none⟩) L.length cap] w K := by
 apply M.z.calls
 unfold M.z
 have hss : oe P T.bb = true := by kernel_rfl
 have hsl : oe P T.ad = true := by kernel_rfl
 have q0 : ∀ a b c : Value, gv [a, b, c] 0 = a := fun _ _ _ => rfl
 have q1 : ∀ a b c : Value, gv [a, b, c] 1 = b := fun _ _ _ => rfl
 have q2 : ∀ a b c : Value, gv [a, b, c] 2 = c := fun _ _ _ => rfl
 have q4 : ∀ a b c d e : Value, gv [a, b, c, d, e] 4 = e := fun _ _ _ _ _ => rfl
 have cell : ∀ (w' : World), Fz w w' → ∀ (i : Nat) (hi : i < L.length), ic w' b i = some L[i].1 := fun w' f i hi => by
  rw [ie (f.heap hb fun h => h)]
  simp [hi]
 rw [ib, yn hss]
 refine ⟨CaI w L, fun x _ => L.length - ms x 2, ⟨_, 0, rfl, rfl, Nat.zero_le _⟩, ?_⟩
 rintro x w1 ⟨u, i, rfl, rfl, hi⟩
 simp only [q0, q1, q2, lw, ib]
 by_cases hil : i < L.length
 ·have hil' : (i : Int) < L.length := by omega
  simp only [hil', decide_true, Eng.cond_true]
  unfold M.z.j2
  have hwi : IntKind.i64.wrap ((i : Int) + 1) = ((i + 1 : Nat) : Int) := by rw [ig]; rfl
  have c0 := cell w1 (Fr.refl _ _) i hil
  have hsi := hs L[i] (List.getElem_mem hil)
  obtain ⟨a', cap', hv', _⟩ := hsi
  have htt := adb hil
  have hle := aho (L := L) (i + 1)
  have hwt : IntKind.i64.wrap ((tot (L.take i) : Int) + (L[i].2.length : Int)) = ((tot (L.take (i + 1)) : Nat) : Int) := by rw [ig]; omega
  have hng : ¬ ((tot (L.take (i + 1)) : Nat) : Int) < 0 := by omega
  simp only [q0, q1, q2, ib]
  simp [hil, c0, hv', hwt, hwi, -Int.natCast_add]
  refine ⟨⟨_, i + 1, rfl, rfl, by omega⟩, ?_⟩
  simp [ms, gv]; omega
 ·have hie : i = L.length := by omega
  have hil' : ¬ (i : Int) < L.length := by omega
  simp only [hil', decide_false, Eng.cond_false]
  have htk : L.take i = L := List.take_of_length_le (by omega)
  rw [htk]
  unfold M.z.j0
  simp only [q4]
  rw [M.br.fcall]
  refine ang (by omega) fun w2 v2 o2 f2 => ?_
  rw [ib, yn hss]
  refine ⟨CbI w1 L, fun x _ => L.length - ms x 2, ⟨_, v2, 0, rfl, Nat.zero_le _, f2, o2⟩, ?_⟩
  rintro x w3 ⟨u', v, j, rfl, hj, f3, o3⟩
  simp only [q0, q1, q2, lw, ib]
  by_cases hjl : j < L.length
  ·have hjl' : (j : Int) < L.length := by omega
   simp only [hjl', decide_true, Eng.cond_true]
   unfold M.z.j6
   have hwj : IntKind.i64.wrap ((j : Int) + 1) = ((j + 1 : Nat) : Int) := by rw [ig]; rfl
   have c0 := cell w3 f3 j hjl
   have hsj := (hs L[j] (List.getElem_mem hjl)).fr f3 fun _ _ _ h => h
   have hl1 : ((L.take j).flatMap (·.2)).length = tot (L.take j) := akt _
   have htt := adb hjl
   have hle := aho (L := L) (j + 1)
   simp only [q0, q1, q2, ib]
   simp [hjl, c0, -List.length_flatMap]
   have hge := f3.size
   refine rq et.ad xt bfi o3 hsj (by rw [hl1]; omega) (by decide) hge _ fun v' w4 o4 f4 g4 => ?_
   simp only [hwj]
   refine ⟨⟨_, v', j + 1, rfl, by omega, f3.lq f4 fun x hx he => by have := (o3.lt he).1; omega, ?_⟩, ?_⟩
   ·rw [List.take_succ_eq_append_getElem hjl, List.flatMap_append]
    simpa using o4
   ·simp [ms, gv]; omega
  ·have hjl' : ¬ (j : Int) < L.length := by omega
   simp only [hjl', decide_false, Eng.cond_false, q4]
   have htj : L.take j = L := List.take_of_length_le (by omega)
   rw [htj] at o3
   exact h w3 v o3 f3
end Go.Proofs.YtfnhoaemapheoaaGreat.CI
set_option maxRecDepth 100000
namespace Go.Proofs.YtfnhoaemapheoaaGreat
open Go.Eng Go.Proofs.YtfnhoaemapheoaaGreat.Sint
def yq (ns : List Int) : Nat → Nat → List Int
 | 0, _ => ns
 | f + 1, i => match ns[i]? with
  | none => ns
  | some n => if 0 < i ∧ (n + 63) % 64 ∉ ns then ns.drop i ++ ns.take i else yq ns f (i + 1)
def aak (ns : List Int) : List Int := yq ns ns.length 0
section
variable {w0 w : World} {R : List Asn} {v : Value} {ns : List Int}
abbrev SlI (w : World) (v : Value) (l : List Int) : Prop := Sl w 1 rz v l
def IxI (w0 : World) (ns : List Int) (x : Int) : KL := fun y w1 => ∃ (u0 u1 : Value) (i : Nat), y = [u0, u1, .int .i64 (i : Nat)] ∧ i ≤ ns.length ∧ w1 = w0 ∧ x ∉ ns.take i
theorem bjy (hs : SlI w v ns) (hl : ns.length ≤ 1000000) (x : Int) {K : KV} (h : K (.bool (decide (x ∈ ns))) w) : gr P F.ce [v, .int .i64 x] w K := by
 rw [M.cf.fcall]
 apply M.cf.calls
 unfold M.cf
 rw [M.bo.fcall]
 apply M.bo.calls
 unfold M.bo
 have hlen : ∀ w' K, biT P .len #[T.ad] T.c [false] [v] w' K = K (.int .i64 ns.length) w' := fun w' K => hs.jb (by kernel_rfl) [false]
 simp [hlen]
 refine ⟨IxI w ns x, fun y _ => ns.length - ms y 2, ⟨_, _, 0, rfl, Nat.zero_le _, rfl, by simp⟩, ?_⟩
 rintro y w1 ⟨u0, u1, i, rfl, hi, rfl, hn⟩
 by_cases hlt : i < ns.length
 ·have hlti : (i : Int) < (ns.length : Int) := by omega
  obtain ⟨b, o, cap, hv, _, _, hc⟩ := hs.at hlt
  have c0 := hc 0 _ rfl
  simp only [Nat.mul_one, Nat.add_zero] at c0
  have hia : ∀ w' K, iaT P T.ad v (.int .i64 (i : Nat)) w' K = K (.pointer (some ⟨b, o + i, none⟩)) w' := fun w' K => by rw [hv]; simp [hlt]
  simp [hlti]
  unfold M.bo.j2
  simp [hia, c0]
  by_cases hx : ns[i] = x
  ·have hin : x ∈ ns := hx ▸ List.getElem_mem hlt
   have hge : (0 : Int) ≤ (i : Int) := by omega
   simp [hx]
   simpa [hin, hge] using h
  ·have hx' : ¬ x = ns[i] := fun h => hx h.symm
   simp [hx']
   have hw : IntKind.i64.wrap ((i : Int) + 1) = ((i + 1 : Nat) : Int) := by rw [ig]; omega
   rw [hw]
   refine ⟨⟨_, _, i + 1, rfl, hlt, rfl, ?_⟩, ?_⟩
   ·rw [List.take_succ_eq_append_getElem hlt, List.mem_append, List.mem_singleton]
    exact fun h => h.elim hn hx'
   ·simp [ms, gv]; omega
 ·have hge : ¬ (i : Int) < (ns.length : Int) := by omega
  rw [List.take_of_length_le (by omega)] at hn
  simp [hge]
  simpa [hn] using h
theorem bev {v1 v2 : Value} {l1 l2 : List Int} (S : St w0 w R) (s1 : SlI w v1 l1) (s2 : SlI w v2 l2) (hl : l1.length + l2.length ≤ 100000000) {K : KV} (h : ∀ w' v', St w0 w' (tc v' (l1 ++ l2) :: R) → K v' w') :
  bsT P T.bb 2 #[(0, v1), (1, v2)] w fun t w => gr P F.bv [t] w K := by
 obtain ⟨a1, k1, hv1, _⟩ := id s1
 obtain ⟨a2, k2, hv2, _⟩ := id s2
 have hbs : ∀ K', bsT P T.bb 2 #[(0, v1), (1, v2)] w K' = K' (.slice (some ⟨w.heap.size, 0, none⟩) 2 2) (w.alloc (.cells #[v1, v2] T.ad)) := fun K' => by rw [hv1, hv2]; simp
 rw [hbs]
 have f1 : Fz w (w.alloc (.cells #[v1, v2] T.ad)) := (Fr.refl _ w).alloc _
 have hn : (w.alloc (.cells #[v1, v2] T.ad)).heap[w.heap.size]? = some (.cells (([(v1, l1), (v2, l2)] : List (Value × List Int)).map (·.1)).toArray T.ad (0, 0)) := by
  rw [iw, if_pos rfl]; rfl
 rw [M.z.fcall]
 refine CI.abn (L := [(v1, l1), (v2, l2)]) hn (fun p hp => ?_) (by simp [CI.tot]; omega) (by simp) fun w' v o f2 => ?_
 ·simp at hp
  rcases hp with rfl | rfl
  ·exact s1.fr f1 fun _ _ _ h => h
  ·exact s2.fr f1 fun _ _ _ h => h
 ·have hs : w.heap.size ≤ (w.alloc (.cells #[v1, v2] T.ad)).heap.size := f1.size
  refine h w' v (S.add (a := tc v (l1 ++ l2)) (f1.trans f2) (B := fun b => v.ownBlock = some b) ⟨?_, fun b hb => hb⟩ fun b hb => ?_)
  ·simpa using o.mono (Nat.zero_le _)
  ·have := o.lt hb
   exact ⟨by omega, this.2⟩
def OrW (w0 : World) (v : Value) (ns : List Int) (R : List Asn) : KL := fun y w1 => ∃ (u0 u1 u2 : Value) (i f : Nat), y = [u0, u1, u2, .int .i64 (i : Nat)] ∧ i + f = ns.length ∧ aak ns = yq ns f i ∧ St w0 w1 (tc v ns :: R)
theorem bid (S : St w0 w (tc v ns :: R)) (hl : ns.length ≤ 1000000) (hr : ∀ n ∈ ns, 0 ≤ n ∧ n < 64) {K : KV} (h : ∀ w' v', St w0 w' (tc v' (aak ns) :: R) → K v' w') : gr P F.fp [v] w K := by
 rw [M.el.fcall]
 apply M.el.calls
 unfold M.el
 have hlen : ∀ {w1 : World}, St w0 w1 (tc v ns :: R) → ∀ w' K, biT P .len #[T.ad] T.c [false] [v] w' K = K (.int .i64 ns.length) w' := fun S w' K => (S.row xt : SlI _ v ns).jb (by kernel_rfl) [false]
 simp [hlen S]
 refine ⟨OrW w0 v ns R, fun y _ => ns.length - ms y 3, ⟨_, _, _, 0, ns.length, rfl, by omega, rfl, S⟩, ?_⟩
 rintro y w1 ⟨u0, u1, u2, i, f, rfl, hif, ho, S1⟩
 have hs : SlI w1 v ns := S1.row xt
 by_cases hlt : i < ns.length
 ·have hlti : (i : Int) < (ns.length : Int) := by omega
  obtain ⟨b, o, cap, hv, _, _, hc⟩ := hs.at hlt
  have c0 := hc 0 _ rfl
  simp only [Nat.mul_one, Nat.add_zero] at c0
  have hia : ∀ w' K, iaT P T.ad v (.int .i64 (i : Nat)) w' K = K (.pointer (some ⟨b, o + i, none⟩)) w' := fun w' K => by rw [hv]; simp [hlt]
  have hr1 := hr _ (List.getElem_mem hlt)
  simp [hlti]
  unfold M.el.j2
  have hw1 : IntKind.i64.wrap (ns[i] + 64) = ns[i] + 64 := ig
  have hw2 : IntKind.i64.wrap (ns[i] + 64 - 1) = ns[i] + 63 := by rw [ig]; omega
  have et : (ns[i] + 63).tmod 64 = (ns[i] + 63) % 64 := by rw [Int.tmod_eq_emod_of_nonneg (by omega)]
  simp [hia, c0, hw1, hw2, axl, et]
  refine bjy hs hl _ ?_
  cases f with
  | zero => omega
  | succ f =>
   rw [yq, List.getElem?_eq_getElem hlt] at ho
   simp only at ho
   have hw : IntKind.i64.wrap ((i : Int) + 1) = ((i + 1 : Nat) : Int) := by rw [ig]; omega
   by_cases hin : (ns[i] + 63) % 64 ∈ ns
   ·rw [if_neg (fun hx => hx.2 hin)] at ho
    simp [hin]
    rw [hw]
    refine ⟨⟨_, _, _, i + 1, f, rfl, by omega, ho, S1⟩, ?_⟩
    simp [ms, gv]; omega
   ·by_cases h0 : 0 < i
    ·rw [if_pos ⟨h0, hin⟩] at ho
     rw [ho] at h
     have h0i : (0 : Int) < (i : Int) := by omega
     simp [hin, h0]
     have S2 := S1.jt ((Fr.refl _ w1).dr 1)
     have hs2 : SlI (dr w1 1) v ns := S2.row xt
     obtain ⟨va, sa, _, ra⟩ := hs2.sub (P := P) (t := T.ad) (lo := some (.int .i64 (i : Nat))) (hi := none) (i := i) (j := ns.length) (by kernel_rfl) (by kernel_rfl) (.inr ⟨_, rfl⟩) (.inl ⟨rfl, rfl⟩) (by omega) (Nat.le_refl _)
     obtain ⟨vb, sb, _, rb⟩ := hs2.sub (P := P) (t := T.ad) (lo := none) (hi := some (.int .i64 (i : Nat))) (i := 0) (j := i) (by kernel_rfl) (by kernel_rfl) (.inl ⟨rfl, rfl⟩) (.inr ⟨_, rfl⟩) (by omega) (by omega)
     rw [ra]
     refine ⟨rfl, ?_⟩
     rw [rb]
     refine ⟨rfl, ?_⟩
     have ea : (ns.drop i).take (ns.length - i) = ns.drop i := List.take_of_length_le (by simp)
     have eb : (ns.drop 0).take (i - 0) = ns.take i := by simp
     rw [ea] at sa
     rw [eb] at sb
     refine bev S2 sa sb (by simp; omega) fun w2 v2 S3 => h w2 v2 ?_
     exact S3.swap.drop
    ·rw [if_neg (fun hx => h0 hx.1)] at ho
     have h0i : ¬ (0 : Int) < (i : Int) := by omega
     simp [hin, h0]
     rw [hw]
     refine ⟨⟨_, _, _, i + 1, f, rfl, by omega, ho, S1⟩, ?_⟩
     simp [ms, gv]; omega
 ·have hge : ¬ (i : Int) < (ns.length : Int) := by omega
  have hf0 : f = 0 := by omega
  subst hf0
  rw [ho] at h
  simp [hge]
  exact h w1 v S1
end
set_option maxRecDepth 100000
def acm (k : Int) (a : List (List Int) × Nat) : Prt := ⟨k, IntKind.i64.wrap (alc (a.1.headD [])), a.1.tail, (a.2 : Int)⟩
def qr (D : Dk) (k : Int) (mf : Bool) : (Dk × Option Prt) × Int :=
 if (D.mu k).2 ≠ 0 then ((D, none), (D.mu k).2) else
 if mf = false ∧ (wk (D.mu k).1).2 < (D.mu k).1.length then ((D, none), 6) else
 if (wk (D.mu k).1).1 = [] ∧ mf = true then (((D.afd k).1, none), (D.afd k).2) else
 if (wk (D.mu k).1).1 = [] ∨ ((wk (D.mu k).1).1.headD []).length ≠ 8 then ((D, none), 6) else
 if (wk (D.mu k).1).2 < (D.mu k).1.length then
  (if (D.cut k (wk (D.mu k).1).2).2 ≠ 0 then (((D.cut k (wk (D.mu k).1).2).1, none), (D.cut k (wk (D.mu k).1).2).2) else (((D.cut k (wk (D.mu k).1).2).1, some (acm k (wk (D.mu k).1))), 0))
 else ((D, some (acm k (wk (D.mu k).1))), 0)
section
variable {w0 w : World} {R : List Asn} {p hb : Nat} {v : Value} {ps : List Nat} {L : Lg} {q : Prt} {D : Dk}
theorem bgx (S : St w0 w (iy hb D :: R)) (k : Int) : (D.mu k).1.length ≤ 1048576 := by
 obtain ⟨r, m, es, hk, _⟩ := zf S
 unfold Dk.mu
 split
 ·simp
 ·cases hg : D.get k with
  | none => simp
  | some f =>
   have h1 := hk.jf
   have h2 := hk.jg
   have h3 : f.len ≤ D.jg := agp (List.mem_map_of_mem (List.mem_of_find?_eq_some hg))
   simp only [List.length_append]
   unfold Fil.len at h3
   omega
theorem bhr {lv : Value} {d : List Int} {r : List (List Int)} {us : Nat} (S : St w0 w (ng lv (d :: r) :: R)) (hd : d.length = 8) {k : Int} {K : KV} (h : ∀ w' np, St w0 w' (pq np (acm k (d :: r, us)) :: R) → K (.tuple #[jx np, .int .i64 0]) w') : M.bb.j1 lv (.int .i64 us) (.int .i64 k) w K := by
 unfold M.bb.j1
 have S1 := S.jt ((Fr.refl _ w).dr 1)
 obtain ⟨b, o, s, hia, hcs, cc, hs⟩ := ajt S1 (i := 0) (by simp)
 have hia0 : ∀ w' K, iaT P T.m lv (.int .i64 0) w' K = K (.pointer (some ⟨b, o, none⟩)) w' := hia
 obtain ⟨v', S2, hsl⟩ := bdq S1 (k := .i64)
 simp only [SV.v] at cc
 have cc1 : ic w b o = some (.slice s.a s.n s.c) := by simpa using cc
 simp only [List.getElem_cons_zero] at hs
 simp [hia0, cc1, hsl]
 refine amw hs (by omega) ?_
 obtain ⟨sv, rfl⟩ := axx S2
 simp [hsl, SV.v]
 rw [pj (ks := .u64) (kd := .i64) (by kernel_rfl) (by kernel_rfl)]
 simp
 have S3 := afr S2 (uy (acm k (d :: r, us)) sv.v) T.af
 exact h _ _ (alm S3)
theorem blg (S : St w0 w (iq p (qk hb L.im v) T.ab :: iy hb D :: R)) (k : Int) (mf : Bool) {K : KV}
  (hn : ∀ w', (qr D k mf).1.2 = none → St w0 w' (iq p (qk hb L.im v) T.ab :: iy hb (qr D k mf).1.1 :: R) → K (.tuple #[.pointer none, .int .i64 (qr D k mf).2]) w')
  (hs : ∀ w' np q, qr D k mf = (((qr D k mf).1.1, some q), 0) → St w0 w' (pq np q :: iq p (qk hb L.im v) T.ab :: iy hb (qr D k mf).1.1 :: R) → K (.tuple #[jx np, .int .i64 0]) w') :
  gr P F.co [jx p, .int .i64 k, .bool mf] w K := by
 rw [M.bb.fcall]
 apply M.bb.calls
 unfold M.bb
 obtain ⟨c0, _⟩ := qx S.blk
 have hrl := bgx S.swap k
 simp only [jx]
 simp [c0]
 refine bjm S.swap k fun w1 v1 S1 => ?_
 have S2 : St w0 w1 (ky v1 (D.mu k).1 :: iq p (qk hb L.im v) T.ab :: iy hb D :: R) := S1.tail (.swap _ _ _)
 unfold qr at hn hs
 generalize D.mu k = rd at *
 obtain ⟨l, kd⟩ := rd
 simp only at hrl S2 hn hs ⊢
 by_cases hkd : kd ≠ 0
 ·rw [if_pos hkd] at hn
  simp [hkd]
  exact hn w1 rfl S2.drop
 ·rw [if_neg hkd] at hn hs
  have hkd0 : kd = 0 := by omega
  subst hkd0
  simp
  unfold M.bb.j0
  refine bln S2 (fun w' L' S' => (S'.perm List.perm_middle).row ka) (by omega) fun w2 lv kx S3 => ?_
  have hlenv := fun w' K => zl S3.swap w' K
  generalize wk l = a at *
  obtain ⟨ds, us⟩ := a
  simp only at hn hs S3 ⊢
  have hdlen := fun w' K => agk S3 w' K
  have S4 : St w0 w2 (ng lv ds :: iq p (qk hb L.im v) T.ab :: iy hb D :: R) := S3.swap.drop
  obtain ⟨c0, _⟩ := qx S4.swap.blk
  have fin : ∀ {D' : Dk} {w3 : World} {d : List Int} {r : List (List Int)}, ds = d :: r → d.length = 8 → (∀ w' np, St w0 w' (pq np (acm k (d :: r, us)) :: iq p (qk hb L.im v) T.ab :: iy hb D' :: R) → K (.tuple #[jx np, .int .i64 0]) w') → St w0 w3 (ng lv ds :: iq p (qk hb L.im v) T.ab :: iy hb D' :: R) → M.bb.j1 lv (.int .i64 us) (.int .i64 k) w3 K := fun hd h8 h S5 => by
   rw [hd] at S5
   exact bhr S5 h8 h
  cases mf with
  | false =>
   by_cases hus : us < l.length
   ·have husi : (us : Int) < (l.length : Int) := by omega
    rw [if_pos ⟨rfl, hus⟩] at hn
    simp [hlenv, husi]
    exact hn w2 rfl S4.drop
   ·have husi : ¬ (us : Int) < (l.length : Int) := by omega
    rw [if_neg (fun hx => hus hx.2)] at hn hs
    cases ds with
    | nil =>
     rw [if_neg (by simp), if_pos (.inl rfl)] at hn
     simp [hlenv, hdlen, husi]
     exact hn w2 rfl S4.drop
    | cons d r =>
     rw [if_neg (by simp)] at hn hs
     have hz : ¬ ((r.length : Int) + 1 = 0) := by omega
     obtain ⟨b, o, sv, hia, _, cc, hsd⟩ := ajt S4 (i := 0) (by simp)
     have hia0 : ∀ w' K, iaT P T.m lv (.int .i64 0) w' K = K (.pointer (some ⟨b, o, none⟩)) w' := hia
     simp only [List.getElem_cons_zero] at hsd
     have hd8 : ∀ w' K, biT P .len #[T.f] T.c [false] [sv.v] w' K = K (.int .i64 d.length) w' := fun w' K => hsd.jb (by kernel_rfl) [false]
     simp only [SV.v] at cc hd8
     by_cases h8 : d.length = 8
     ·have h8i : (d.length : Int) = 8 := by omega
      rw [if_neg (by simp [h8]), if_neg hus] at hn hs
      simp [hlenv, hdlen, husi, hia0, hz, cc, hd8, h8i]
      exact fin rfl h8 (fun w' np S5 => hs w' np _ rfl S5) S4
     ·have h8i : ¬ (d.length : Int) = 8 := by omega
      rw [if_pos (.inr (by simpa using h8))] at hn
      simp [hlenv, hdlen, husi, hia0, hz, cc, hd8, h8i]
      exact hn w2 rfl S4.drop
  | true =>
   rw [if_neg (by simp)] at hn hs
   cases ds with
   | nil =>
    rw [if_pos ⟨rfl, rfl⟩] at hn
    simp [hdlen, c0]
    refine bce S4.up2 k fun w3 S5 => ?_
    exact hn w3 rfl S5.dn2.drop
   | cons d r =>
    rw [if_neg (by simp)] at hn hs
    have hz : ¬ ((r.length : Int) + 1 = 0) := by omega
    obtain ⟨b, o, sv, hia, _, cc, hsd⟩ := ajt S4 (i := 0) (by simp)
    have hia0 : ∀ w' K, iaT P T.m lv (.int .i64 0) w' K = K (.pointer (some ⟨b, o, none⟩)) w' := hia
    simp only [List.getElem_cons_zero] at hsd
    have hd8 : ∀ w' K, biT P .len #[T.f] T.c [false] [sv.v] w' K = K (.int .i64 d.length) w' := fun w' K => hsd.jb (by kernel_rfl) [false]
    simp only [SV.v] at cc hd8
    by_cases h8 : d.length = 8
    ·have h8i : (d.length : Int) = 8 := by omega
     rw [if_neg (by simp [h8])] at hn hs
     by_cases hus : us < l.length
     ·have husi : (us : Int) < (l.length : Int) := by omega
      rw [if_pos hus] at hn hs
      simp [hlenv, hdlen, husi, hia0, hz, cc, hd8, h8i, c0]
      refine bmp S4.up2 k us fun w3 S5 => ?_
      by_cases hc : (D.cut k us).2 = 0
      ·rw [if_neg (by simpa using hc)] at hs
       rw [hc]
       simp
       exact fin rfl h8 (fun w' np S6 => hs w' np _ rfl S6) S5.dn2
      ·rw [if_pos hc] at hn
       simp [hc]
       exact hn w3 rfl S5.dn2.drop
     ·have husi : ¬ (us : Int) < (l.length : Int) := by omega
      rw [if_neg hus] at hs
      simp [hlenv, hdlen, husi, hia0, hz, cc, hd8, h8i]
      exact fin rfl h8 (fun w' np S5 => hs w' np _ rfl S5) S4
    ·have h8i : ¬ (d.length : Int) = 8 := by omega
     rw [if_pos (.inr (by simpa using h8))] at hn
     simp [hdlen, hia0, hz, cc, hd8, h8i]
     exact hn w2 rfl S4.drop
end
def afj (qs : List Prt) : Int := Lg.next ⟨0, qs⟩
def xd : List Int → Dk → List Prt → (Dk × Option (List Prt)) × Int
 | [], D, qs => ((D, some qs), 0)
 | k :: ks, D, qs => if (qr D k ks.isEmpty).2 ≠ 0 then (((qr D k ks.isEmpty).1.1, none), (qr D k ks.isEmpty).2) else match (qr D k ks.isEmpty).1.2 with
  | none => xd ks (qr D k ks.isEmpty).1.1 qs
  | some q => if qs ≠ [] ∧ q.first ≠ afj qs then (((qr D k ks.isEmpty).1.1, none), 6) else xd ks (qr D k ks.isEmpty).1.1 (qs ++ [q])
def aax (D : Dk) (im : Int) : (Dk × Option (List Prt)) × Int := if im < 64 ∨ 1048576 < im then ((D, none), 1) else if D.jj then ((D, none), 10) else xd (aak D.jm) D []
theorem avr : ∀ (n : Nat) (l : List Int), l.Nodup → (∀ x ∈ l, 0 ≤ x ∧ x < n) → l.length ≤ n
 | 0, l, _, h => by
  cases l with
  | nil => simp
  | cons x l => have := h x (by simp); omega
 | n + 1, l, hn, h => by
  have := avr n (l.erase (n : Int)) (hn.erase _) (fun x hx => by
   have h1 := h x (List.mem_of_mem_erase hx)
   have h2 : x ≠ (n : Int) := fun he => by
    subst he
    exact (List.Nodup.not_mem_erase hn) hx
   omega)
  rw [List.length_erase] at this
  split at this <;> omega
theorem alz (ns : List Int) : ∀ f i, i ≤ ns.length → (yq ns f i).length = ns.length
 | 0, _, _ => rfl
 | f + 1, i, hi => by
  rw [yq]
  split
  ·rfl
  ·split
   ·simp; omega
   ·rename_i h _
    exact alz ns f (i + 1) (by
     rw [List.getElem?_eq_some_iff] at h
     exact h.1)
theorem ayn (ns : List Int) : (aak ns).length = ns.length := alz ns _ 0 (Nat.zero_le _)
section
variable {w0 w : World} {R : List Asn} {p hb : Nat} {v : Value} {ps : List Nat} {L : Lg} {q : Prt} {D : Dk} {im : Int}
theorem bcy (S : St w0 w (iy hb D :: R)) : (∀ n ∈ D.jm, 0 ≤ n ∧ n < 64) ∧ D.jm.length ≤ 64 ∧ D.jm.Nodup := by
 obtain ⟨r, m, es, hk, _⟩ := zf S
 have hp : D.jm.Perm D.rg := nu _
 have hkk := hk.rg
 have h1 : ∀ n ∈ D.jm, 0 ≤ n ∧ n < 64 := fun n hn => by
  have := hp.mem_iff.1 hn
  rw [hkk, List.mem_map] at this
  obtain ⟨e, he, rfl⟩ := this
  exact hk.rng e he
 have h2 : D.jm.Nodup := hp.nodup_iff.2 (by rw [hkk]; exact hk.tn)
 exact ⟨h1, avr 64 _ h2 h1, h2⟩
def opL (p hb : Nat) (im : Int) (v : Value) (ps : List Nat) (qs : List Prt) (D : Dk) (ov : Value) (ns : List Int) (R : List Asn) : List Asn := iq p (qk hb im v) T.ab :: iy hb D :: Eng.me T.aa 1 qv v ps :: vz pq ps qs :: tc ov ns :: R
def OpI (w0 : World) (p hb : Nat) (im : Int) (ov : Value) (ns : List Int) (D0 : Dk) (R : List Asn) : KL := fun y w1 => ∃ (u0 u1 u2 u3 u4 u5 u6 u7 u8 v : Value) (ps : List Nat) (qs : List Prt) (D : Dk) (i : Nat), y = [u0, u1, u2, u3, u4, u5, u6, u7, u8, .int .i64 (i : Nat)] ∧ i ≤ ns.length ∧ ps.length = qs.length ∧ qs.length ≤ i ∧ xd ns D0 [] = xd (ns.drop i) D qs ∧ St w0 w1 (opL p hb im v ps qs D ov ns R)
theorem bmv (S : St w0 w (iy hb D :: R)) (hmx : im < 9223372036854775808) {K : KV}
  (hn : ∀ w', (aax D im).1.2 = none → St w0 w' (iy hb (aax D im).1.1 :: R) → K (.tuple #[.pointer none, .int .i64 (aax D im).2]) w')
  (hs : ∀ w' p qs, aax D im = (((aax D im).1.1, some qs), 0) → St w0 w' (nb p hb ⟨im, qs⟩ :: iy hb (aax D im).1.1 :: R) → K (.tuple #[jx p, .int .i64 0]) w') :
  gr P F.fv [.pointer (some ⟨hb, 0, none⟩), .int .i64 im] w K := by
 rw [M.cg.fcall]
 apply M.cg.calls
 unfold M.cg
 unfold aax at hn hs
 by_cases h1 : im < 64 ∨ 1048576 < im
 ·rw [if_pos h1] at hn
  by_cases h2 : im < 64
  ·simp [h2]
   exact hn w rfl S
  ·have h3 : 1048576 < im := by omega
   simp [h2, h3]
   exact hn w rfl S
 ·rw [if_neg h1] at hn hs
  have h2 : ¬ im < 64 := by omega
  have h3 : ¬ 1048576 < im := by omega
  simp [h2, h3]
  refine aok S ?_
  cases hd : D.jj with
  | true =>
   rw [hd] at hn
   simp
   exact hn w rfl S
  | false =>
   rw [hd] at hn hs
   simp only [Bool.false_eq_true, if_false] at hn hs
   simp
   unfold M.cg.j0
   simp
   have S1 : St w0 (w.alloc (.cells (qk hb im (.slice none 0 0)) T.ab)) (iq w.heap.size (qk hb im (.slice none 0 0)) T.ab :: iy hb D :: R) := afr S _ _
   generalize w.heap.size = p at *
   simp only [qk] at S1
   generalize w.alloc (.cells #[.pointer (some ⟨hb, 0, none⟩), .int .i64 im, .slice none 0 0] T.ab) = w1 at *
   obtain ⟨fr1, fr2, _⟩ := bcy S1.swap
   refine bgo S1.swap fun w2 v2 S2 => ?_
   refine bid S2 (by omega) fr1 fun w3 v3 S3 => ?_
   have hol := ayn D.jm
   generalize aak D.jm = ns at *
   rw [aim]
   have hlen : ∀ {w1 : World} {R' : List Asn}, St w0 w1 (tc v3 ns :: R') → ∀ w' K, biT P .len #[T.ad] T.c [false] [v3] w' K = K (.int .i64 ns.length) w' := fun S w' K => (S.row xt : SlI _ v3 ns).jb (by kernel_rfl) [false]
   simp [hlen S3]
   have S4 : St w0 w3 (opL p hb im (.slice none 0 0) [] [] D v3 ns R) := by
    have T1 : St w0 w3 (tc v3 ns :: iy hb D :: iq p (qk hb im (.slice none 0 0)) T.ab :: R) := S3
    have T2 := axv (e := T.aa) (sz := 1) (enc := qv) (bkw (f := pq) T1)
    exact (St.up4 (St.up4 T2)).swap
   refine ⟨OpI w0 p hb im v3 ns D R, fun y _ => ns.length - ms y 9, ⟨_, _, _, _, _, _, _, _, _, _, [], [], D, 0, rfl, Nat.zero_le _, rfl, Nat.le_refl _, rfl, S4⟩, ?_⟩
   rintro y w4 ⟨u0, u1, u2, u3, u4, u5, u6, u7, u8, v, ps, qs, D', i, rfl, hi, hl, hqi, ho, S5⟩
   unfold M.cg.j2
   by_cases hlt : i < ns.length
   ·have hlti : (i : Int) < (ns.length : Int) := by omega
    simp [hlti]
    unfold M.cg.j3
    unfold opL at S5
    have hsI : SlI w4 v3 ns := S5.up4.row xt
    obtain ⟨b, o, cap, hv, _, _, hc⟩ := hsI.at hlt
    have c0 := hc 0 _ rfl
    simp only [Nat.mul_one, Nat.add_zero] at c0
    have hia : ∀ w' K, iaT P T.ad v3 (.int .i64 (i : Nat)) w' K = K (.pointer (some ⟨b, o + i, none⟩)) w' := fun w' K => by rw [hv]; simp [hlt]
    have hw1 : IntKind.i64.wrap ((ns.length : Int) - 1) = ((ns.length - 1 : Nat) : Int) := by rw [ig]; omega
    simp [hia, c0, hlen S5.up4, hw1]
    have hlast : decide ((i : Int) = ((ns.length - 1 : Nat) : Int)) = (ns.drop (i + 1)).isEmpty := by
     rw [Bool.eq_iff_iff, decide_eq_true_eq, List.isEmpty_iff, List.drop_eq_nil_iff]
     omega
    rw [hlast]
    have hcall : ∀ x y w K, nr P (.func (.func F.co) #[.pointer (some ⟨p, 0, none⟩)] #[]) [x, y] w K = gr P F.co [jx p, x, y] w K := fun x y w K => by
     rw [M.bb.fcall]
     exact M.bb.rcall [jx p] [] [x, y] w K
    rw [hcall]
    rw [List.drop_eq_getElem_cons hlt, xd] at ho
    generalize ns[i] = k at *
    generalize (ns.drop (i + 1)).isEmpty = mf at *
    have hw : IntKind.i64.wrap ((i : Int) + 1) = ((i + 1 : Nat) : Int) := by rw [ig]; omega
    refine blg (L := ⟨im, []⟩) S5 k mf (fun w5 hnone S6 => ?_) fun w5 np q hsome S6 => ?_
    ·by_cases hk : (qr D' k mf).2 = 0
     ·rw [if_neg (by simpa using hk), hnone] at ho
      rw [hk]
      simp
      rw [hw]
      refine ⟨⟨_, _, _, _, _, _, _, _, _, v, ps, qs, _, i + 1, rfl, hlt, hl, by omega, ho, S6⟩, ?_⟩
      simp [ms, gv]; omega
     ·rw [if_pos hk] at ho
      simp [hk]
      rw [ho] at hn
      exact hn w5 rfl (St.drop S6 |>.swap.drop.swap.drop.swap.drop)
    ·rw [hsome] at ho
     simp only [ne_eq, not_true_eq_false, if_false] at ho
     simp only [jx]
     simp
     have T1 := S6.jt ((Fr.refl _ w5).dr 1)
     obtain ⟨e0, e1, e2, ez⟩ := qx T1.swap.blk
     have hlen2 := fun w' K => adz T1.up3 w' K
     have e2' : ic w5 p 2 = some v := by simpa using e2
     obtain ⟨rv, T2⟩ := zx T1
     obtain ⟨d0, d1, _⟩ := nk T2.blk
     have d1' : ic w5 np 1 = some (.int .i64 q.first) := by simpa using d1
     simp [e2', hlen2, d1']
     have T3 : St w0 (dr w5 1) (iq p (qk hb im v) T.ab :: Eng.me T.aa 1 qv v ps :: vz pq ps qs :: pq np q :: iy hb (qr D' k mf).1.1 :: tc v3 ns :: R) := St.up3 (St.up4 (St.up4 T1))
     have hpush : ∀ {w6 : World} {x5 : List Value}, St w0 w6 (iq p (qk hb im v) T.ab :: Eng.me T.aa 1 qv v ps :: vz pq ps qs :: pq np q :: iy hb (qr D' k mf).1.1 :: tc v3 ns :: R) → xd ns D [] = xd (ns.drop (i + 1)) (qr D' k mf).1.1 (qs ++ [q]) → M.cg.j5 (.pointer (some ⟨p, 0, none⟩)) (.pointer (some ⟨np, 0, none⟩)) (fun x4 w => OpI w0 p hb im v3 ns D R [gv x4 0, gv x4 1, gv x4 2, gv x4 3, gv x4 4, gv x4 5, gv x4 6, gv x4 7, gv x4 8, .int .i64 (IntKind.i64.wrap ((i : Int) + 1))] w ∧ ns.length - ms [gv x4 0, gv x4 1, gv x4 2, gv x4 3, gv x4 4, gv x4 5, gv x4 6, gv x4 7, gv x4 8, .int .i64 (IntKind.i64.wrap ((i : Int) + 1))] 9 < ns.length - ms [u0, u1, u2, u3, u4, u5, u6, u7, u8, .int .i64 (i : Nat)] 9) [u0, u1, u2, u3, u4, u5, u6, u7, u8, .int .i64 (i : Nat)] (.int .i64 k) (.int .i64 0) x5 w6 K := by
      intro w6 x5 T4 ho2
      unfold M.cg.j5
      simp
      refine apt (L := ⟨im, qs⟩) hl (show qs.length ≤ 1000000 by omega) T4.up3 fun w7 T5 => ?_
      obtain ⟨v', ps', hl', T6⟩ := aqt T5
      rw [hw]
      refine ⟨⟨_, _, _, _, _, _, _, _, _, v', ps', qs ++ [q], _, i + 1, rfl, hlt, hl', by simp; omega, ho2, T6.up3.swap⟩, ?_⟩
      simp [ms, gv]; omega
     by_cases h0 : 0 < ps.length
     ·have hqne : qs ≠ [] := fun h => by rw [hl, h] at h0; exact absurd h0 (by simp)
      simp [h0, d1']
      refine atp (L := ⟨im, qs⟩) hl T3 (by rw [hl]; omega) fun w6 f6 => ?_
      have T4 := T3.jt f6
      obtain ⟨rv6, T5⟩ := zx T4.up3
      obtain ⟨_, g1, _⟩ := nk T5.blk
      have hnx : Lg.next ⟨im, qs⟩ = afj qs := rfl
      simp [g1, hnx]
      by_cases hq : q.first = afj qs
      ·rw [if_neg (fun hx => hx.2 hq)] at ho
       simp [hq]
       exact hpush T4 ho
      ·rw [if_pos ⟨hqne, hq⟩] at ho
       rw [ho] at hn
       simp [hq]
       exact hn w6 rfl (T4.drop.drop.drop.drop.swap.drop)
     ·have hqe : qs = [] := List.length_eq_zero_iff.1 (by omega)
      rw [if_neg (fun hx => hx.1 hqe)] at ho
      simp [h0]
      exact hpush T3 ho
   ·have hge : ¬ (i : Int) < (ns.length : Int) := by omega
    rw [List.drop_of_length_le (by omega)] at ho
    simp [hge]
    rw [ho] at hs
    exact hs w4 p qs rfl (abb (L := ⟨im, qs⟩) hl (St.swap (St.drop (St.up4 S5))).dn3)
end
section
variable {D : Dk} {A B : List Fil} {f : Fil}
theorem acw (h : D.fs = A ++ f :: B) (hA : ∀ x ∈ A, x.n ≠ f.n) : D.get f.n = some f := by
 unfold Dk.get
 rw [h, List.find?_append, List.find?_eq_none.2 (fun x hx => by simp [hA x hx])]
 simp
theorem bmh {k : Int} (h : ∀ x ∈ D.fs, x.n ≠ k) : D.get k = none := by
 unfold Dk.get
 exact List.find?_eq_none.2 fun x hx => by simp [h x hx]
theorem asi {k : Int} {fa lo : List Int} {A : List Fil} (hA : ∀ x ∈ A, x.n ≠ k) : A.map (fun f => if f.n = k then (⟨k, fa, lo⟩ : Fil) else f) = A := by
 conv => rhs; rw [← List.map_id A]
 exact List.map_congr_left fun x hx => by rw [if_neg (hA x hx)]; rfl
theorem zc (h : D.fs = A ++ f :: B) (hA : ∀ x ∈ A, x.n ≠ f.n) (hB : ∀ x ∈ B, x.n ≠ f.n) (fa lo : List Int) : (D.pk f.n fa lo).fs = A ++ ⟨f.n, fa, lo⟩ :: B := by
 show D.fs.map (fun g => if g.n = f.n then (⟨f.n, fa, lo⟩ : Fil) else g) = _
 rw [h, List.map_append, List.map_cons, asi hA, asi hB, if_pos rfl]
theorem bkc (h : D.fs = A ++ f :: B) (hA : ∀ x ∈ A, x.n ≠ f.n) (hB : ∀ x ∈ B, x.n ≠ f.n) : (D.rem f.n).fs = A ++ B := by
 show D.fs.filter (fun g => decide (g.n ≠ f.n)) = _
 rw [h, List.filter_append, List.filter_cons, if_neg (by simp), List.filter_eq_self.2 (fun x hx => by simpa using hA x hx), List.filter_eq_self.2 (fun x hx => by simpa using hB x hx)]
def CrS (A : List Fil) (n : Int) (fa lo : List Int) (D D' : Dk) (v : Prop) : Prop := D'.jf = D.jf ∧ ∃ fa' lo', D'.fs = A ++ [⟨n, fa', lo'⟩] ∧ ((fa' = fa ∧ lo' = lo) ∨ (lo' = [] ∧ ∃ s, fa' = fa ++ lo.take s)) ∧ (v → lo' = [])
theorem bbf {n : Int} {fa lo : List Int} (h : D.fs = A ++ [⟨n, fa, lo⟩]) (hA : ∀ x ∈ A, x.n ≠ n) (hl : ∀ x ∈ A, x.jp = []) (hd : (D.fs.map Fil.n).Nodup) (kl : List Int) :
  ∃ s, (D.uz kl).jf = D.jf ∧ (D.uz kl).jj = false ∧ (D.uz kl).jw = false ∧ (D.uz kl).fs = A ++ [⟨n, fa ++ lo.take s, []⟩] := by
 have key : ∀ i, i ≤ D.jm.length → CrS A n fa lo D (crN kl D D.jm i) (n ∈ D.jm.take i) := by
  intro i
  induction i with
  | zero => exact fun _ => ⟨rfl, fa, lo, h, .inl ⟨rfl, rfl⟩, fun h => by simp at h⟩
  | succ i ih =>
   intro hi
   obtain ⟨hr, fa', lo', h1, h2, h3⟩ := ih (by omega)
   have hlt : i < D.jm.length := by omega
   have hk : D.jm.getD i 0 = D.jm[i] := by rw [List.getD_eq_getElem?_getD, List.getElem?_eq_getElem hlt]; rfl
   rw [crN, hk, List.take_succ_eq_append_getElem hlt]
   generalize crN kl D D.jm i = E at *
   generalize D.jm[i] = k at *
   have hAE : ∀ x ∈ A, x.n ≠ (⟨n, fa', lo'⟩ : Fil).n := hA
   unfold adg
   by_cases hkn : k = n
   ·subst hkn
    have hg := acw h1 hAE
    have hs := zc h1 hAE (by simp) (fa' ++ lo'.take (aah kl i lo'.length)) []
    simp only at hg hs
    rw [hg]
    refine ⟨hr, _, _, hs, .inr ⟨rfl, ?_⟩, fun _ => rfl⟩
    rcases h2 with ⟨rfl, rfl⟩ | ⟨rfl, s, rfl⟩
    ·exact ⟨_, rfl⟩
    ·exact ⟨s, by simp⟩
   ·have hmem : (n ∈ D.jm.take i ++ [k]) ↔ n ∈ D.jm.take i := by
     rw [List.mem_append, List.mem_singleton]
     exact ⟨fun h => h.elim id fun h => absurd h.symm hkn, .inl⟩
    rw [hmem]
    cases hg : E.get k with
    | none => exact ⟨hr, fa', lo', h1, h2, h3⟩
    | some g =>
     have hgm : g ∈ E.fs := List.mem_of_find?_eq_some hg
     have hgn : g.n = k := by simpa using List.find?_some hg
     rw [h1, List.mem_append, List.mem_singleton] at hgm
     rcases hgm with hgA | rfl
     ·obtain ⟨a1, a2, hsp⟩ := List.append_of_mem hgA
      have hgl := hl g hgA
      have hnd : (A.map Fil.n).Nodup := by rw [h, List.map_append] at hd; exact (List.nodup_append.1 hd).1
      rw [hsp, List.map_append, List.map_cons, List.nodup_append, List.nodup_cons] at hnd
      have h1' : E.fs = a1 ++ g :: (a2 ++ [⟨n, fa', lo'⟩]) := by rw [h1, hsp]; simp
      have e := zc h1' (fun x hx he => hnd.2.2 _ (List.mem_map_of_mem hx) g.n (by simp) he) (fun x hx he => by
       rw [List.mem_append, List.mem_singleton] at hx
       rcases hx with hx | rfl
       ·exact hnd.2.1.1 (he ▸ List.mem_map_of_mem hx)
       ·exact hkn (hgn ▸ he.symm)) (g.lj ++ g.jp.take (aah kl i g.jp.length)) []
      refine ⟨hr, fa', lo', ?_, h2, h3⟩
      rw [← hgn]
      refine e.trans ?_
      rw [hgl, hsp]
      obtain ⟨gn, gf, gl⟩ := g
      simp only at hgl
      subst hgl
      simp
     ·exact absurd hgn (fun h => hkn h.symm)
 obtain ⟨hr, fa', lo', h1, h2, h3⟩ := key D.jm.length (Nat.le_refl _)
 have hmem : n ∈ D.jm.take D.jm.length := by
  rw [List.take_length]
  refine (nu _).mem_iff.2 ?_
  unfold Dk.rg
  rw [h]; simp
 have hlo := h3 hmem
 subst hlo
 rcases h2 with ⟨rfl, rfl⟩ | ⟨_, s, rfl⟩
 ·exact ⟨0, hr, rfl, rfl, by simpa [Dk.uz] using h1⟩
 ·exact ⟨s, hr, rfl, rfl, h1⟩
theorem ayl (h : D.fs = []) (kl : List Int) : (D.uz kl).jf = D.jf ∧ (D.uz kl).jj = false ∧ (D.uz kl).jw = false ∧ (D.uz kl).fs = [] := by
 have hf : D.jm = [] := by unfold Dk.jm Dk.rg; rw [h]; exact List.perm_nil.1 (nu [])
 unfold Dk.uz
 rw [hf]
 exact ⟨rfl, rfl, rfl, h⟩
end
def body (q : Prt) : List Int := pd q.first ++ cat q.jc
def nt (q : Prt) : Fil := ⟨q.no, body q, []⟩
def aaj (n : Int) : List Int := mh (IntKind.u64.wrap n)
theorem avd (q : Prt) : body q = cat (aaj q.first :: q.jc) := by unfold body pd cat aaj; simp
theorem age (a b : List (List Int)) : cat (a ++ b) = cat a ++ cat b := by unfold cat; simp
theorem anj (d : List Int) : cat [d] = jo d := by unfold cat; simp
theorem alq : ∀ {ds : List (List Int)} {c r : List Int}, (∀ d ∈ ds, d.length ≤ 8192) → c ++ r = cat ds → ∃ j p, j ≤ ds.length ∧ c = cat (ds.take j) ++ p ∧ aia p ∧ (j = ds.length → p = []) ∧ ∀ h : j < ds.length, p.length < (jo ds[j]).length
 | [], c, r, _, he => by
  have : c = [] := by
   have := congrArg List.length he
   simp [cat] at this
   exact this.1
  subst this
  exact ⟨0, [], Nat.le_refl _, by simp [cat], atx, fun _ => rfl, fun h => by simp at h⟩
 | d :: ds, c, r, hd, he => by
  have e0 : cat (d :: ds) = jo d ++ cat ds := by simp [cat]
  rw [e0] at he
  by_cases hc : c.length < (jo d).length
  ·refine ⟨0, c, Nat.zero_le _, by simp [cat], ⟨d, c.length, hd d (by simp), hc, ?_⟩, fun h => by simp at h, fun _ => by simpa using hc⟩
   have := congrArg (List.take c.length) he
   rw [List.take_left' rfl, List.take_append, Nat.sub_eq_zero_of_le (by omega)] at this
   simpa using this
  ·obtain ⟨c', rfl⟩ : ∃ c', c = jo d ++ c' := by
    refine ⟨c.drop (jo d).length, ?_⟩
    have := congrArg (List.take (jo d).length) he
    rw [List.take_left' rfl, List.take_append, Nat.sub_eq_zero_of_le (by omega)] at this
    simp at this
    conv => lhs; rw [← List.take_append_drop (jo d).length c, this]
   rw [List.append_assoc] at he
   obtain ⟨j, p, h1, h2, h3, h4, h5⟩ := alq (fun x hx => hd x (by simp [hx])) (List.append_cancel_left he)
   refine ⟨j + 1, p, by simp; omega, ?_, h3, fun h => h4 (by simpa using h), fun h => by simpa using h5 (by simpa using h)⟩
   rw [List.take_succ_cons]
   have : cat (d :: ds.take j) = jo d ++ cat (ds.take j) := by simp [cat]
   rw [this, h2, List.append_assoc]
theorem atc {ds : List (List Int)} {i j : Nat} (h : i ≤ j) : (cat (ds.take i)).length ≤ (cat (ds.take j)).length := by
 have : ds.take i = (ds.take j).take i := by rw [List.take_take, Nat.min_eq_left h]
 rw [this]
 conv => rhs; rw [← List.take_append_drop i (ds.take j), age]
 simp
def jq (Q : List Prt) : List (List Int) := Q.flatMap Prt.jc
theorem ot (a b : List Prt) : jq (a ++ b) = jq a ++ jq b := by unfold jq; simp
theorem ud (q : Prt) : jq [q] = q.jc := by unfold jq; simp
def Chn : Int → Int → List Prt → Prop
 | _, _, [] => True
 | s, f, q :: r => q.no = s ∧ q.first = f ∧ (∀ d ∈ q.jc, d.length ≤ 8192) ∧ Chn ((s + 1) % 64) (f + q.jc.length) r
theorem sk {A B : List Prt} : ∀ {s f : Int}, 0 ≤ s ∧ s < 64 → (Chn s f (A ++ B) ↔ Chn s f A ∧ Chn ((s + A.length) % 64) (f + (jq A).length) B) := by
 induction A with
 | nil =>
  intro s f hs
  have : (s + (([] : List Prt).length : Int)) % 64 = s := by simp; omega
  rw [this]
  simp [Chn, jq]
 | cons q r ih =>
  intro s f hs
  have h1 := ih (s := (s + 1) % 64) (f := f + q.jc.length) (by omega)
  have e1 : ((s + 1) % 64 + (r.length : Int)) % 64 = (s + ((q :: r).length : Int)) % 64 := by simp; omega
  have e2 : f + (q.jc.length : Int) + ((jq r).length : Int) = f + ((jq (q :: r)).length : Int) := by unfold jq; simp; omega
  rw [e1, e2] at h1
  rw [List.cons_append, Chn, Chn, h1]
  constructor
  ·rintro ⟨a, b, c, d, e⟩; exact ⟨⟨a, b, c, d⟩, e⟩
  ·rintro ⟨⟨a, b, c, d⟩, e⟩; exact ⟨a, b, c, d, e⟩
theorem ahq : ∀ {Q : List Prt} {s f : Int}, 0 ≤ s ∧ s < 64 → Chn s f Q → ∀ i (h : i < Q.length), Q[i].no = (s + i) % 64
 | q :: r, s, f, hs, h, 0, hi => by have h1 : q.no = s := h.1; simp [h1]; omega
 | q :: r, s, f, hs, h, i + 1, hi => by
  have := ahq (s := (s + 1) % 64) (by omega) h.2.2.2 i (by simpa using hi)
  simp only [List.getElem_cons_succ]
  rw [this]; push_cast; omega
theorem api {Q : List Prt} {s f : Int} (hs : 0 ≤ s ∧ s < 64) (h : Chn s f Q) (hl : Q.length ≤ 64) : (Q.map Prt.no).Nodup := by
 rw [List.nodup_iff_pairwise_ne, List.pairwise_iff_getElem]
 intro i j hi hj hij
 simp only [List.length_map] at hi hj
 rw [List.getElem_map, List.getElem_map, ahq hs h i hi, ahq hs h j hj]
 omega
theorem axo {Q : List Prt} {s f : Int} (hs : 0 ≤ s ∧ s < 64) (h : Chn s f Q) : ∀ q ∈ Q, 0 ≤ q.no ∧ q.no < 64 := fun q hq => by
 obtain ⟨i, hi, rfl⟩ := List.getElem_of_mem hq
 rw [ahq hs h i hi]; omega
def Dsc (Q : List Prt) (F : Nat) (D : Dk) (w : Prop) : Prop := (Q = [] ∧ D.fs = [] ∧ F = 0) ∨ ∃ Q0 q fa lo m, Q = Q0 ++ [q] ∧ D.fs = Q0.map nt ++ [⟨q.no, fa, lo⟩] ∧ (fa ++ lo) <+: body q ∧ (w → fa ++ lo = body q) ∧ m ≤ q.jc.length ∧ F ≤ (jq Q0).length + m ∧ (m = 0 ∨ pd q.first ++ cat (q.jc.take m) <+: fa)
structure Vir (s f : Int) (Q : List Prt) (F : Nat) (D : Dk) (w : Prop) : Prop where
 chn : Chn s f Q
 s0 : 0 ≤ s ∧ s < 64
 f0 : 0 ≤ f
 len : Q.length ≤ 63
 few : f + (jq Q).length ≤ 1000000000000
 dsc : Dsc Q F D w
 nil : Q = [] → s = 0 ∧ f = 0
 siz : ∀ q ∈ Q, q.size = (body q).length
structure sd (s f : Int) (L : Lg) (F : Nat) (D : Dk) : Prop where
 vir : Vir s f L.ii F D True
 size : ∀ q ∈ L.ii, q.size = (body q).length
 up : D.jj = false
section
variable {s f : Int} {Q Q0 : List Prt} {q : Prt} {F : Nat} {D : Dk} {w : Prop} {fa lo : List Int} {L : Lg} {b : List Int}
theorem bmk (Q : List Prt) : (Q.map nt).map Fil.n = Q.map Prt.no := by rw [List.map_map]; rfl
theorem wq (hs : 0 ≤ s ∧ s < 64) (h : Chn s f (Q0 ++ [q])) (hl : (Q0 ++ [q]).length ≤ 64) : ∀ x ∈ Q0.map nt, x.n ≠ q.no := fun x hx he => by
 have hn := api hs h hl
 rw [List.map_append, List.nodup_append] at hn
 obtain ⟨p, hp, rfl⟩ := List.mem_map.1 hx
 exact hn.2.2 p.no (List.mem_map_of_mem hp) q.no (by simp) he
theorem aqn (h : Vir s f L.ii F D True) (hd : D.jj = false) : (L.oh D).2 = 0 ∧ Vir s f L.ii (jq L.ii).length (L.oh D).1 True ∧ (L.oh D).1.jj = false ∧ (L.oh D).1.jw = D.jw ∧ (L.oh D).1.left = D.left ∧ (L.oh D).1.jf = D.jf ∧ (L.oh D).1.jg = D.jg := by
 unfold Lg.oh
 rw [hd]
 simp only [Bool.false_eq_true, if_false]
 rcases h.dsc with ⟨hq, hf, rfl⟩ | ⟨Q0, q, fa, lo, m, hq, hf, hp, hw, hm, hF, hy⟩
 ·rw [hq]
  simp only [List.getLast?_nil]
  exact ⟨by trivial, ⟨by rw [hq] at h; exact h.chn, h.s0, h.f0, by simp, by have := h.few; rw [hq] at this; exact this, .inl ⟨rfl, hf, rfl⟩, fun _ => h.nil hq, fun q hx => by simp at hx⟩, hd, by trivial, by trivial, by trivial, by trivial⟩
 ·rw [hq, List.getLast?_concat]
  have hA := wq h.s0 (hq ▸ h.chn) (by have := h.len; rw [hq] at this; omega)
  have hg : D.get q.no = some ⟨q.no, fa, lo⟩ := acw hf hA
  have hs := zc hf hA (by simp) (fa ++ lo) []
  simp only at hs
  have e : D.oh q.no = (D.pk q.no (fa ++ lo) [], 0) := by unfold Dk.oh; rw [hd, hg]; rfl
  simp only [e]
  rw [hw trivial] at hs ⊢
  refine ⟨by trivial, ⟨hq ▸ h.chn, h.s0, h.f0, hq ▸ h.len, hq ▸ h.few, .inr ⟨Q0, q, _, [], q.jc.length, rfl, hs, by simp, fun _ => by simp, Nat.le_refl _, by rw [ot, ud]; simp, .inr ?_⟩, fun h => by simp at h, hq ▸ h.siz⟩, hd, rfl, rfl, rfl, ?_⟩
  ·rw [List.take_length]; exact List.prefix_rfl
  ·unfold Dk.jg
   rw [hs, hf, ← hw trivial]
   simp [Fil.len]
theorem bdz (h : Vir s f Q F D w) (kl : List Int) : Vir s f Q F (D.uz kl) False ∧ (D.uz kl).jj = false ∧ (D.uz kl).jw = false ∧ (D.uz kl).jf = D.jf := by
 rcases h.dsc with ⟨hq, hf, rfl⟩ | ⟨Q0, q, fa, lo, m, hq, hf, hp, hw, hm, hF, hy⟩
 ·obtain ⟨h1, h2, h3, h4⟩ := ayl hf kl
  exact ⟨⟨h.chn, h.s0, h.f0, h.len, h.few, .inl ⟨hq, h4, rfl⟩, h.nil, h.siz⟩, h2, h3, h1⟩
 ·have hA := wq h.s0 (hq ▸ h.chn) (by have := h.len; rw [hq] at this; omega)
  have hnd : (D.fs.map Fil.n).Nodup := by
   rw [hf, List.map_append, bmk]
   have := api h.s0 h.chn (by have := h.len; omega)
   rw [hq, List.map_append] at this
   exact this
  obtain ⟨k, h1, h2, h3, h4⟩ := bbf hf hA (fun x hx => by obtain ⟨p, _, rfl⟩ := List.mem_map.1 hx; rfl) hnd kl
  refine ⟨⟨h.chn, h.s0, h.f0, h.len, h.few, .inr ⟨Q0, q, _, [], m, hq, h4, ?_, fun h => h.elim, hm, hF, ?_⟩, h.nil, h.siz⟩, h2, h3, h1⟩
  ·rw [List.append_nil]
   refine List.IsPrefix.trans ?_ hp
   exact (List.prefix_append_right_inj fa).2 (List.take_prefix _ _)
  ·exact hy.imp id fun h => h.trans (List.prefix_append _ _)
end
def Apd (D : Dk) (l : List Int) (fs : List Int → List Fil) (r : Dk × Int) : Prop := (r = (D, 9) ∧ D.jf < D.jg + l.length) ∨ ∃ E t, r = (E, if E.jj then 10 else 0) ∧ E.fs = fs t ∧ t <+: l ∧ (E.jj = false → t = l) ∧ E.jf = D.jf ∧ (D.jw = false → E.jj = false ∧ E.jw = false)
section
variable {s f : Int} {Q Q0 : List Prt} {q : Prt} {F : Nat} {D : Dk} {w : Prop} {fa lo : List Int} {L : Lg} {b l : List Int} {A : List Fil} {k : Int}
theorem bfs (D : Dk) (l : List Int) : (D.after l).fs = D.fs := by unfold Dk.after; split <;> rfl
theorem ayw (D : Dk) (l : List Int) : (D.after l).jf = D.jf := by unfold Dk.after; split <;> rfl
theorem avz (D : Dk) (l : List Int) : (D.after l).jw = D.jw := by unfold Dk.after; split <;> rfl
theorem ato (D : Dk) (l : List Int) : D.qp l <+: l := by
 unfold Dk.qp
 split
 ·exact List.take_prefix _ _
 ·exact List.prefix_rfl
theorem bex (hd : D.jj = false) (h : (D.after l).jj = false) : D.qp l = l := by
 unfold Dk.qp
 unfold Dk.after at h
 by_cases ha : D.jw = true
 ·rw [if_pos ha] at h ⊢
  simp only [decide_eq_false_iff_not] at h
  exact List.take_of_length_le (by omega)
 ·rw [if_neg ha]
theorem bdd (hd : D.jj = false) (h : D.jw = false) : (D.after l).jj = false := by
 unfold Dk.after
 rw [h]
 simpa using hd
theorem awz {fs : List Int → List Fil} (hd : D.jj = false) (hk : 0 ≤ k ∧ k < 64) (hp : ∃ E0 : Dk, D.put k l = E0.after l ∧ E0.fs = fs (D.qp l) ∧ E0.jf = D.jf ∧ E0.jj = D.jj ∧ E0.jw = D.jw ∧ E0.left = D.left) : Apd D l fs (D.append k l) := by
 unfold Dk.append
 rw [hd, if_neg (by simp), if_neg (by omega)]
 by_cases hr : D.jf < D.jg + l.length
 ·rw [if_pos hr]; exact .inl ⟨rfl, hr⟩
 ·rw [if_neg hr]
  obtain ⟨E0, h1, h2, h3, h4, h5, h6⟩ := hp
  have ht : E0.qp l = D.qp l := by unfold Dk.qp; rw [h5, h6]
  refine .inr ⟨_, D.qp l, rfl, by rw [h1, bfs, h2], ato _ _, fun h => ?_, by rw [h1, ayw, h3], fun h => ?_⟩
  ·rw [← ht]
   exact bex (h4.trans hd) (by rw [← h1]; exact h)
  ·rw [h1]
   exact ⟨bdd (h4.trans hd) (h5.trans h), (avz _ _).trans (h5.trans h)⟩
theorem blq (hd : D.jj = false) (hk : 0 ≤ k ∧ k < 64) (hA : ∀ x ∈ D.fs, x.n ≠ k) : Apd D l (fun t => D.fs ++ [⟨k, [], t⟩]) (D.append k l) := by
 refine awz hd hk ⟨(D.aen k).pk k [] (D.qp l), ?_, ?_, rfl, rfl, rfl, rfl⟩
 ·unfold Dk.put; rw [bmh hA]
 ·exact zc (D := D.aen k) (A := D.fs) (f := ⟨k, [], []⟩) (B := []) rfl hA (by simp) [] (D.qp l)
theorem bkb (hd : D.jj = false) (hk : 0 ≤ k ∧ k < 64) (h : D.fs = A ++ [⟨k, fa, lo⟩]) (hA : ∀ x ∈ A, x.n ≠ k) : Apd D l (fun t => A ++ [⟨k, fa, lo ++ t⟩]) (D.append k l) := by
 refine awz hd hk ⟨D.pk k fa (lo ++ D.qp l), ?_, ?_, rfl, rfl, rfl, rfl⟩
 ·unfold Dk.put; rw [acw h hA]
 ·exact zc h hA (by simp) fa (lo ++ D.qp l)
inductive App (s f : Int) (L : Lg) (F : Nat) (D : Dk) (b : List Int) : (Lg × Dk) × Int → Prop where
 | amt : 8192 < b.length → App s f L F D b ((L, D), 4)
 | uq (D' : Dk) : (63 ≤ L.ii.length ∨ D.jf < D.jg + (24 + b.length : Nat)) → sd s f L F D' → D'.jf = D.jf → D'.jw = D.jw → App s f L F D b ((L, D'), 9)
 | jj (D' : Dk) (Q : List Prt) : D.jw = true → D'.jj = true → Vir s f Q F D' False → jq Q = jq L.ii ++ [b] → D'.jf = D.jf → App s f L F D b ((L, D'), 10)
 | ok (L' : Lg) (D' : Dk) : sd s f L' F D' → jq L'.ii = jq L.ii ++ [b] → L'.ii.length ≤ L.ii.length + 1 → L'.ii ≠ [] → L'.im = L.im → D'.jf = D.jf → (D.jw = false → D'.jw = false) → D'.jg ≤ D.jg + (24 + b.length) → (∀ q, L.ii = [q] → q.size < L.im → L'.ii.length = 1) → App s f L F D b ((L', D'), 0)
theorem aiz (q : Prt) (b : List Int) : body (q.ss b) = body q ++ jo b := by
 unfold body Prt.ss
 rw [age, anj, List.append_assoc]
theorem bfh (no n : Int) (b : List Int) (z : Int) : body ⟨no, n, [b], z⟩ = pd n ++ jo b := by unfold body; rw [anj]
theorem ago (h : Chn s f (Q0 ++ [q])) (hs : 0 ≤ s ∧ s < 64) : q.no = (s + Q0.length) % 64 ∧ q.first = f + (jq Q0).length ∧ ∀ d ∈ q.jc, d.length ≤ 8192 := by
 obtain ⟨_, h2⟩ := (sk hs).1 h
 exact ⟨h2.1, h2.2.1, h2.2.2.1⟩
theorem avp (h : Chn s f L.ii) (hs : 0 ≤ s ∧ s < 64) (h0 : L.ii = [] → f = 0) (hf0 : 0 ≤ f) (hf : f + (jq L.ii).length ≤ 1000000000000) : L.next = f + (jq L.ii).length := by
 unfold Lg.next
 rcases List.eq_nil_or_concat L.ii with hq | ⟨Q0, q, hq⟩
 ·rw [hq]; simp [jq, h0 hq]
 ·rw [List.concat_eq_append] at hq
  rw [hq, List.getLast?_concat]
  rw [hq] at h hf
  obtain ⟨_, h2, _⟩ := ago h hs
  rw [ot, ud] at hf ⊢
  simp only
  rw [h2, ig (by omega) (by simp at hf; omega)]
  simp; omega
theorem bec (h : Dsc Q F D w) : F ≤ (jq Q).length := by
 rcases h with ⟨_, _, rfl⟩ | ⟨Q0, q, fa, lo, m, rfl, _, _, _, hm, hF, _⟩
 ·exact Nat.zero_le _
 ·rw [ot, ud]; simp; omega
theorem bhl {F' : Nat} (h : Vir s f Q F D w) (hF : F' ≤ F) : Vir s f Q F' D w := by
 refine ⟨h.chn, h.s0, h.f0, h.len, h.few, ?_, h.nil, h.siz⟩
 rcases h.dsc with ⟨h1, h2, h3⟩ | ⟨Q0, q, fa, lo, m, h1, h2, h3, h4, h5, h6, h7⟩
 ·exact .inl ⟨h1, h2, by omega⟩
 ·exact .inr ⟨Q0, q, fa, lo, m, h1, h2, h3, h4, h5, by omega, h7⟩
theorem blw {D0 : Dk} (h : sd s f L F D) (hfs : D.fs = L.ii.map nt) (hlen : L.ii.length ≤ 62) (hfew : f + (jq L.ii).length + 1 ≤ 1000000000000) (hb : b.length ≤ 8192) (hm : ∀ q, L.ii = [q] → L.im ≤ q.size) (hr : D.jf = D0.jf) (ha : D.jw = D0.jw) (hu : D.jg = D0.jg) {no : Int} (hno : no = (s + L.ii.length) % 64) : App s f L F D0 b (L.abl D b no) := by
 have hv := h.vir
 have hnx := avp hv.chn hv.s0 (fun h => (hv.nil h).2) hv.f0 hv.few
 unfold Lg.abl
 have hbl : (pd L.next ++ jo b).length = 24 + b.length := by rw [List.length_append, aib, oz]; omega
 generalize hq' : (⟨no, L.next, [b], ((pd L.next ++ jo b).length : Nat)⟩ : Prt) = q'
 have e1 : q'.no = no := by rw [← hq']
 have e2 : q'.first = L.next := by rw [← hq']
 have e3 : q'.jc = [b] := by rw [← hq']
 have e5 : body q' = pd L.next ++ jo b := by rw [← hq', bfh]
 have e4 : q'.size = (body q').length := by rw [e5, ← hq']
 rw [← e5] at hbl ⊢
 have hch : Chn s f (L.ii ++ [q']) := (sk hv.s0).2 ⟨hv.chn, by rw [e1, hno], by rw [e2, hnx], by rw [e3]; simpa using hb, trivial⟩
 have hA := wq hv.s0 hch (by simp; omega)
 rw [← hfs, e1] at hA
 have hall : jq (L.ii ++ [q']) = jq L.ii ++ [b] := by rw [ot, ud, e3]
 have hF := bec hv.dsc
 have hsz : ∀ x ∈ L.ii ++ [q'], x.size = (body x).length := fun x hx => by
  rcases List.mem_append.1 hx with hx | hx
  ·exact h.size x hx
  ·rw [List.mem_singleton.1 hx]; exact e4
 have hvir : ∀ {E : Dk} {t : List Int} {w : Prop}, E.fs = D.fs ++ [⟨no, [], t⟩] → t <+: body q' → (w → t = body q') → Vir s f (L.ii ++ [q']) F E w := fun {E t w} hE ht hw => ⟨hch, hv.s0, hv.f0, by simp; omega, by rw [hall]; simp; omega, .inr ⟨L.ii, q', [], t, 0, rfl, by rw [hE, hfs, e1], ht, hw, Nat.zero_le _, hF, .inl rfl⟩, fun h => by simp at h, hsz⟩
 rcases blq (l := body q') h.up (by omega) hA with ⟨e, hx⟩ | ⟨E, t, e, hE, ht, htl, hrm, har⟩
 ·rw [e, if_neg (by simp)]
  refine App.uq D (.inr ?_) h hr ha
  rw [← hr, ← hu]
  omega
 ·rw [e]
  cases hd : E.jj with
  | true =>
   simp only [if_true]
   rw [if_neg (by simp)]
   refine App.jj E _ ?_ hd (hvir hE ht fun h => h.elim) hall (hrm.trans hr)
   rw [← ha]
   cases hda : D.jw with
   | true => rfl
   | false => rw [(har hda).1] at hd; cases hd
  | false =>
   simp only [Bool.false_eq_true, if_false, if_true]
   have htl' := htl hd
   have hg : sd s f { L with ii := L.ii ++ [q'] } F E := ⟨hvir hE ht fun _ => htl', hsz, hd⟩
   refine App.ok { L with ii := L.ii ++ [q'] } E hg hall (by simp) (by simp) rfl (hrm.trans hr) (fun hx => (har (ha.trans hx)).2) ?_ fun q hq hsz => absurd (hm q hq) (by omega)
   rw [← hu]
   unfold Dk.jg
   rw [hE, htl']
   simp [Fil.len]
   omega
theorem bkq (h : sd s f L F D) (hq : L.ii = Q0 ++ [q]) : ∃ D1, D.oh q.no = (D1, 0) ∧ D1.fs = L.ii.map nt ∧ sd s f L F D1 ∧ D1.jf = D.jf ∧ D1.jw = D.jw ∧ D1.jg = D.jg := by
 have hv := h.vir
 obtain ⟨h1, h2, h3, h4, h5, h6, h7⟩ := aqn hv h.up
 have e : L.oh D = D.oh q.no := by unfold Lg.oh; rw [h.up, hq, List.getLast?_concat]; rfl
 rw [e] at h1 h2 h3 h4 h5 h6 h7
 refine ⟨(D.oh q.no).1, by rw [← h1], ?_, ⟨bhl h2 (bec hv.dsc), h.size, h3⟩, h6, h4, h7⟩
 rcases hv.dsc with ⟨hx, _⟩ | ⟨Q1, q1, fa, lo, m, hq1, hf, _, hw, _⟩
 ·rw [hx] at hq; simp at hq
 ·obtain ⟨rfl, hqq⟩ := List.append_inj' (hq.symm.trans hq1) rfl
  cases hqq
  have hA := wq hv.s0 (hq ▸ hv.chn) (by have := hv.len; rw [hq] at this; omega)
  have hs := zc hf hA (by simp) (fa ++ lo) []
  have hg : D.get q.no = some ⟨q.no, fa, lo⟩ := acw hf hA
  have e2 : D.oh q.no = (D.pk q.no (fa ++ lo) [], 0) := by unfold Dk.oh; rw [h.up, hg]; rfl
  simp only at hs
  rw [e2, hs, hw trivial, hq]
  simp [nt]
theorem bgd (h : sd s f L F D) (hfew : f + (jq L.ii).length + 1 ≤ 1000000000000) : App s f L F D b (L.append D b) := by
 have hv := h.vir
 unfold Lg.append
 by_cases hb : 8192 < b.length
 ·rw [if_pos hb]; exact App.amt hb
 ·rw [if_neg hb]
  rcases List.eq_nil_or_concat L.ii with hq | ⟨Q0, q, hq⟩
  ·have hsf := hv.nil hq
   have hfs : D.fs = L.ii.map nt := by
    rcases hv.dsc with ⟨_, hf, _⟩ | ⟨Q1, q1, fa, lo, m, hq1, _⟩
    ·rw [hf, hq]; rfl
    ·rw [hq] at hq1; simp at hq1
   rw [show L.ii.getLast? = none by rw [hq]; rfl]
   unfold Lg.aaz
   rw [show L.ii.getLast? = none by rw [hq]; rfl]
   exact blw h hfs (by rw [hq]; simp) hfew (by omega) (fun q hx => by rw [hq] at hx; simp at hx) rfl rfl rfl (by rw [hq, hsf.1]; rfl)
  ·rw [List.concat_eq_append] at hq
   have hgl : L.ii.getLast? = some q := by rw [hq, List.getLast?_concat]
   rw [hgl]
   simp only
   obtain ⟨cn, cf, cr⟩ := ago (hq ▸ hv.chn) hv.s0
   by_cases hm : L.im ≤ q.size
   ·rw [if_pos hm]
    unfold Lg.aaz
    rw [hgl]
    simp only
    by_cases h63 : 63 ≤ L.ii.length
    ·rw [if_pos h63]
     exact App.uq D (.inl h63) h rfl rfl
    ·rw [if_neg h63]
     obtain ⟨D1, e1, e2, e3, e4, e5, e6⟩ := bkq h hq
     rw [e1, if_pos rfl]
     refine blw e3 e2 (by omega) hfew (by omega) (fun q1 hx => ?_) e4 e5 e6 ?_
     ·rw [hq] at hx
      have hx2 : Q0 ++ [q] = [] ++ [q1] := hx
      obtain ⟨_, hx3⟩ := List.append_inj' hx2 rfl
      cases hx3; exact hm
     ·rw [cn, hq]; simp; omega
   ·rw [if_neg hm]
    rcases hv.dsc with ⟨hx, _⟩ | ⟨Q1, q1, fa, lo, m, hq1, hf, _, hw, hmm, hF, hy⟩
    ·rw [hx] at hq; simp at hq
    obtain ⟨rfl, hqq⟩ := List.append_inj' (hq.symm.trans hq1) rfl
    cases hqq
    have hl63 := hv.len
    have hA := wq hv.s0 (hq ▸ hv.chn) (by rw [hq] at hl63; omega)
    have hset : L.ii.set (L.ii.length - 1) (q.ss b) = Q0 ++ [q.ss b] := by
     rw [hq]; simp
    have hch : Chn s f (Q0 ++ [q.ss b]) := (sk hv.s0).2 ⟨((sk hv.s0).1 (hq ▸ hv.chn)).1, cn, cf, fun d hd => by
     rcases List.mem_append.1 hd with hd | hd
     ·exact cr d hd
     ·rw [List.mem_singleton.1 hd]; omega, trivial⟩
    have hall : jq (Q0 ++ [q.ss b]) = jq L.ii ++ [b] := by rw [hq, ot, ot, ud, ud, List.append_assoc]; rfl
    have hsz : ∀ x ∈ Q0 ++ [q.ss b], x.size = (body x).length := fun x hx => by
     rcases List.mem_append.1 hx with hx | hx
     ·exact h.size x (by rw [hq]; exact List.mem_append_left _ hx)
     ·rw [List.mem_singleton.1 hx, aiz, List.length_append]
      have := h.size q (by rw [hq]; simp)
      show q.size + _ = _
      rw [this]; simp
    have hvir : ∀ {E : Dk} {t : List Int} {w : Prop}, E.fs = Q0.map nt ++ [⟨q.no, fa, lo ++ t⟩] → t <+: jo b → (w → t = jo b) → Vir s f (Q0 ++ [q.ss b]) F E w := fun {E t w} hE ht hwt => by
     have ew : fa ++ (lo ++ t) = body q ++ t := by rw [← hw trivial, List.append_assoc]
     refine ⟨hch, hv.s0, hv.f0, by rw [hq] at hl63; simpa using hl63, by rw [hall]; simp; omega, .inr ⟨Q0, q.ss b, fa, lo ++ t, m, rfl, hE, ?_, fun hh => ?_, ?_, hF, ?_⟩, fun h => by simp at h, hsz⟩
     ·rw [ew, aiz]; exact (List.prefix_append_right_inj _).2 ht
     ·rw [ew, aiz, hwt hh]
     ·unfold Prt.ss; simp; omega
     ·refine hy.imp id fun hy => ?_
      have : (q.ss b).jc.take m = q.jc.take m := by unfold Prt.ss; exact List.take_append_of_le_length hmm
      rw [this]
      exact hy
    rcases bkb (l := jo b) h.up (axo hv.s0 hv.chn q (by rw [hq]; simp)) hf hA with ⟨e, hx⟩ | ⟨E, t, e, hE, ht, htl, hrm, har⟩
    ·rw [e, if_neg (by simp)]
     refine App.uq D (.inr ?_) h rfl rfl
     rw [oz] at hx
     omega
    ·rw [e]
     cases hd : E.jj with
     | true =>
      simp only [if_true]
      rw [if_neg (by simp)]
      refine App.jj E _ ?_ hd (hvir hE ht fun h => h.elim) hall hrm
      cases hda : D.jw with
      | true => rfl
      | false => rw [(har hda).1] at hd; cases hd
     | false =>
      simp only [Bool.false_eq_true, if_false, if_true]
      rw [hset]
      have htl' := htl hd
      have hg : sd s f { L with ii := Q0 ++ [q.ss b] } F E := ⟨hvir hE ht fun _ => htl', hsz, hd⟩
      refine App.ok { L with ii := Q0 ++ [q.ss b] } E hg hall (by rw [hq]; simp) (by simp) rfl hrm (fun hx => (har hx).2) ?_ fun q1 hx _ => ?_
      ·unfold Dk.jg
       rw [hE, hf, htl']
       simp [Fil.len, oz]
       omega
      ·rw [hq] at hx
       have := congrArg List.length hx
       simpa using this
end
def up (a : Int) (c : Nat) : List Int := (List.range c).map fun i : Nat => a + (i : Int)
theorem yo (a : Int) (c : Nat) : (up a c).length = c := by simp [up]
theorem ade (a : Int) (c : Nat) (i : Nat) (h : i < (up a c).length) : (up a c)[i] = a + i := by simp [up]
theorem aml {a x : Int} {c : Nat} : x ∈ up a c ↔ a ≤ x ∧ x < a + c := by
 simp only [up, List.mem_map, List.mem_range]
 constructor
 ·rintro ⟨i, hi, rfl⟩; omega
 ·rintro ⟨h1, h2⟩; exact ⟨(x - a).toNat, by omega, by omega⟩
theorem ain (a : Int) (c : Nat) : (up a c).Pairwise (· ≤ ·) := by
 rw [List.pairwise_iff_getElem]
 intro i j hi hj hij
 rw [ade, ade]; omega
theorem aya {l l' : List Int} (h : l.Pairwise (· ≤ ·)) (hp : l'.Perm l) : mo l' = l := by
 have hs : (mo l').Pairwise fun a b => decide (a ≤ b) = true := List.pairwise_mergeSort (fun a b c h1 h2 => by simp at *; omega) (fun a b => by simp; omega) l'
 exact List.Perm.eq_of_pairwise (fun a b _ _ h1 h2 => by simp at h1 h2; omega) hs (h.imp fun h => by simpa using h) ((nu l').trans hp)
theorem ake {ns : List Int} (h : ∀ i (hi : i < ns.length), 0 < i → (ns[i] + 63) % 64 ∈ ns) : ∀ f i, yq ns f i = ns
 | 0, _ => rfl
 | f + 1, i => by
  rw [yq]
  cases hg : ns[i]? with
  | none => rfl
  | some n =>
   obtain ⟨hi, rfl⟩ := List.getElem?_eq_some_iff.1 hg
   simp only
   rw [if_neg (fun hx => hx.2 (h i hi hx.1))]
   exact ake h f (i + 1)
theorem akc {ns : List Int} {j : Nat} (hj : j < ns.length) (hj0 : 0 < j) (h : ∀ i (hi : i < ns.length), 0 < i → i < j → (ns[i] + 63) % 64 ∈ ns) (hn : (ns[j] + 63) % 64 ∉ ns) : ∀ f i, i ≤ j → j < i + f → yq ns f i = ns.drop j ++ ns.take j
 | 0, i, h1, h2 => by omega
 | f + 1, i, h1, h2 => by
  rw [yq, List.getElem?_eq_getElem (by omega)]
  simp only
  by_cases hij : i = j
  ·subst hij
   rw [if_pos ⟨hj0, hn⟩]
  ·rw [if_neg (fun hx => hx.2 (h i (by omega) hx.1 (by omega)))]
   exact akc hj hj0 h hn f (i + 1) (by omega) (by omega)
def xh (s : Int) (n : Nat) : List Int := (List.range n).map fun i : Nat => (s + (i : Int)) % 64
theorem azu {s : Int} {n : Nat} (hs : 0 ≤ s ∧ s < 64) (hn : n ≤ 63) : aak (mo (xh s n)) = xh s n := by
 by_cases hw : s + n ≤ 64
 ·have e : xh s n = up s n := by
   unfold xh up
   exact List.map_congr_left fun i hi => by rw [List.mem_range] at hi; omega
  rw [e, aya (ain s n) (List.Perm.refl _)]
  refine ake (fun i hi h0 => ?_) _ _
  rw [ade, aml]
  rw [yo] at hi
  omega
 ·obtain ⟨a, ha⟩ : ∃ a : Nat, (a : Int) = s + n - 64 := ⟨(s + n - 64).toNat, by omega⟩
  obtain ⟨c, hc⟩ : ∃ c : Nat, (c : Int) = 64 - s := ⟨(64 - s).toNat, by omega⟩
  have e : xh s n = up s c ++ up 0 a := by
   apply List.ext_getElem
   ·simp [xh, yo]; omega
   ·intro i h1 h2
    rw [List.getElem_append]
    simp only [xh, List.length_map, List.length_range] at h1
    have el : (xh s n)[i]'(by simpa [xh] using h1) = (s + i) % 64 := by simp [xh]
    rw [el]
    split
    ·rename_i h; rw [ade]; rw [yo] at h; omega
    ·rename_i h; rw [ade]; rw [yo] at h ⊢; omega
  have hsrt : mo (xh s n) = up 0 a ++ up s c := by
   refine aya ?_ (by rw [e]; exact List.perm_append_comm)
   rw [List.pairwise_append]
   refine ⟨ain _ _, ain _ _, fun x hx y hy => ?_⟩
   rw [aml] at hx hy
   omega
  rw [hsrt]
  have hlen : (up 0 a ++ up s c).length = a + c := by simp [yo]
  have hmem : ∀ x, x ∈ up 0 a ++ up s c ↔ (0 ≤ x ∧ x < a) ∨ (s ≤ x ∧ x < 64) := fun x => by
   rw [List.mem_append, aml, aml]; omega
  have hga : (up 0 a ++ up s c)[a]'(by rw [hlen]; omega) = s := by
   rw [List.getElem_append_right (by rw [yo]; omega), ade]; simp [yo]
  have := akc (ns := up 0 a ++ up s c) (j := a) (by rw [hlen]; omega) (by omega) (fun i hi h0 hia => by
   rw [hmem, List.getElem_append_left (by rw [yo]; exact hia), ade]; omega) (by rw [hmem, hga]; omega) (up 0 a ++ up s c).length 0 (Nat.zero_le _) (by rw [hlen]; omega)
  unfold aak
  rw [this, e, List.drop_left' (yo _ _), List.take_left' (yo _ _)]
theorem bgj {Q : List Prt} {s f : Int} (hs : 0 ≤ s ∧ s < 64) (h : Chn s f Q) : Q.map Prt.no = xh s Q.length := by
 apply List.ext_getElem
 ·simp [xh]
 ·intro i h1 h2
  simp only [List.length_map] at h1
  rw [List.getElem_map, ahq hs h i h1]
  simp [xh]
theorem bdh {Q : List Prt} {s f : Int} {D : Dk} (hs : 0 ≤ s ∧ s < 64) (h : Chn s f Q) (hl : Q.length ≤ 63) (hd : D.rg = Q.map Prt.no) : aak D.jm = Q.map Prt.no := by
 unfold Dk.jm
 rw [hd, bgj hs h, azu hs hl]
section
variable {s f : Int} {Q Q0 : List Prt} {q : Prt} {F : Nat} {D : Dk} {w : Prop} {fa lo : List Int} {L : Lg} {b l : List Int} {A B : List Fil} {k : Int}
theorem abj (n : Int) : (aaj n).length = 8 := mj _
theorem amp {n : Int} (h0 : 0 ≤ n) (h1 : n ≤ 1000000000000) : IntKind.i64.wrap (alc (aaj n)) = n := by
 unfold aaj
 rw [adp h0 (by omega)]
 obtain ⟨m, rfl⟩ : ∃ m : Nat, n = m := ⟨n.toNat, by omega⟩
 have := apq (n := m) (by omega) []
 rw [List.append_nil] at this
 rw [this, ig]
theorem atw (hd : D.jj = false) (h : D.fs = A ++ ⟨k, fa, lo⟩ :: B) (hA : ∀ x ∈ A, x.n ≠ k) : D.mu k = (fa ++ lo, 0) := by
 unfold Dk.mu
 rw [hd, acw h hA]
 rfl
theorem ate (hr : ∀ d ∈ q.jc, d.length ≤ 8192) {p : List Int} (hp : aia p) : wk (body q ++ p) = (aaj q.first :: q.jc, (body q).length) := by
 rw [avd]
 exact arb (fun d hd => by
  rcases List.mem_cons.1 hd with rfl | hd
  ·rw [abj]; omega
  ·exact hr d hd) hp
theorem apd (hd : D.jj = false) (h : D.fs = A ++ ⟨q.no, fa, lo⟩ :: B) (hA : ∀ x ∈ A, x.n ≠ q.no) (hc : fa ++ lo = body q) (hr : ∀ d ∈ q.jc, d.length ≤ 8192) (h0 : 0 ≤ q.first) (h1 : q.first ≤ 1000000000000) (hz : q.size = (body q).length) (mf : Bool) : qr D q.no mf = ((D, some q), 0) := by
 unfold qr
 have ha := ate hr atx
 rw [List.append_nil] at ha
 rw [atw hd h hA]
 simp only [hc, ha]
 have e : acm q.no (aaj q.first :: q.jc, (body q).length) = q := by
  unfold acm
  simp only [List.headD_cons, List.tail_cons]
  rw [amp h0 h1, ← hz]
 rw [if_neg (by simp), if_neg (by simp), if_neg (by simp), if_neg (by simp [abj]), if_neg (by omega), e]
theorem bis {c : List Int} (hr : ∀ d ∈ q.jc, d.length ≤ 8192) (hc : c <+: body q) : (aia c ∧ c.length < (pd q.first).length) ∨ ∃ j p, j ≤ q.jc.length ∧ c = pd q.first ++ cat (q.jc.take j) ++ p ∧ aia p ∧ (c = body q → j = q.jc.length ∧ p = []) ∧ ∀ m, m ≤ q.jc.length → (pd q.first ++ cat (q.jc.take m)).length ≤ c.length → m ≤ j := by
 obtain ⟨r, he⟩ := hc
 rw [avd] at he
 have hd : ∀ d ∈ aaj q.first :: q.jc, d.length ≤ 8192 := fun d hd => by
  rcases List.mem_cons.1 hd with rfl | hd
  ·rw [abj]; omega
  ·exact hr d hd
 obtain ⟨j, p, h1, h2, h3, h4, h5⟩ := alq hd he
 cases j with
 | zero =>
  have hcp : c = p := by rw [h2]; simp [cat]
  subst hcp
  exact .inl ⟨h3, h5 (by simp)⟩
 | succ j =>
  have h1' : j ≤ q.jc.length := by simpa using h1
  have e : cat ((aaj q.first :: q.jc).take (j + 1)) = pd q.first ++ cat (q.jc.take j) := by
   rw [List.take_succ_cons]; simp [cat, pd, aaj]
  rw [e] at h2
  have hlen : ∀ m, m ≤ q.jc.length → (pd q.first ++ cat (q.jc.take m)).length ≤ c.length → m ≤ j := fun m hm hl => by
   by_cases hjm : m ≤ j
   ·exact hjm
   ·exfalso
    have hjl : j < q.jc.length := by omega
    have hp := h5 (by simpa using hjl)
    simp only [List.getElem_cons_succ] at hp
    have h6 : (cat (q.jc.take (j + 1))).length ≤ (cat (q.jc.take m)).length := atc (by omega)
    have e6 : cat (q.jc.take (j + 1)) = cat (q.jc.take j) ++ jo q.jc[j] := by rw [List.take_succ_eq_append_getElem hjl, age, anj]
    rw [e6] at h6
    rw [h2] at hl
    simp only [List.length_append] at hl h6
    omega
  refine .inr ⟨j, p, h1', h2, h3, fun hb => ?_, hlen⟩
  have : q.jc.length ≤ j := hlen _ (Nat.le_refl _) (by rw [hb, List.take_length]; exact Nat.le_refl _)
  have hj : j = q.jc.length := by omega
  exact ⟨hj, h4 (by simp; omega)⟩
theorem bgs {c : List Int} (h : aia c) : wk c = ([], 0) := by
 have := arb (ds := []) (fun d hd => by simp at hd) h
 simpa [cat] using this
theorem bda (hd : D.jj = false) (h : D.fs = A ++ [⟨q.no, fa, lo⟩]) (hA : ∀ x ∈ A, x.n ≠ q.no) (hc : (fa ++ lo) <+: body q) (hr : ∀ d ∈ q.jc, d.length ≤ 8192) (h0 : 0 ≤ q.first) (h1 : q.first ≤ 1000000000000) (hz : q.size = (body q).length) :
  ((fa ++ lo).length < (pd q.first).length ∧ ∃ D', qr D q.no true = ((D', none), 0) ∧ D'.fs = A ∧ D'.jf = D.jf ∧ D'.jw = D.jw ∧ D'.jj = false) ∨
  ∃ (j : Nat) (q' : Prt) (D' : Dk) (fa' lo' : List Int), j ≤ q.jc.length ∧ qr D q.no true = ((D', some q'), 0) ∧ D'.fs = A ++ [⟨q.no, fa', lo'⟩] ∧ fa' ++ lo' = body q' ∧ q'.no = q.no ∧ q'.first = q.first ∧ q'.jc = q.jc.take j ∧ q'.size = (body q').length ∧ D'.jf = D.jf ∧ D'.jw = D.jw ∧ D'.jj = false ∧ fa'.length + lo'.length ≤ fa.length + lo.length ∧
   (fa ++ lo = body q → D' = D ∧ q' = q ∧ j = q.jc.length) ∧ (∀ m, m ≤ q.jc.length → (pd q.first ++ cat (q.jc.take m)).length ≤ (fa ++ lo).length → m ≤ j) := by
 have hg : D.get q.no = some ⟨q.no, fa, lo⟩ := acw h hA
 have hrd : D.mu q.no = (fa ++ lo, 0) := atw (B := []) hd h hA
 rcases bis hr hc with ⟨ht, hl⟩ | ⟨j, p, hj, hcc, hp, hb, hm⟩
 ·refine .inl ⟨hl, D.rem q.no, ?_, ?_, rfl, rfl, hd⟩
  ·unfold qr
   rw [hrd]
   simp only [bgs ht]
   rw [if_neg (by simp), if_neg (by simp), if_pos (by simp)]
   unfold Dk.afd
   rw [hd, hg]
   rfl
  ·have := bkc (B := []) h hA (by simp)
   simpa using this
 ·by_cases hbody : fa ++ lo = body q
  ·refine .inr ⟨q.jc.length, q, D, fa, lo, Nat.le_refl _, apd hd h hA hbody hr h0 h1 hz true, h, hbody, rfl, rfl, by simp, hz, rfl, rfl, hd, Nat.le_refl _, fun _ => ⟨rfl, rfl, rfl⟩, fun m hm _ => hm⟩
  ·obtain ⟨q', hq'⟩ : ∃ q' : Prt, q' = ⟨q.no, q.first, q.jc.take j, ((pd q.first ++ cat (q.jc.take j)).length : Nat)⟩ := ⟨_, rfl⟩
   have e1 : q'.no = q.no := by rw [hq']
   have e2 : q'.first = q.first := by rw [hq']
   have e3 : q'.jc = q.jc.take j := by rw [hq']
   have e4 : body q' = pd q.first ++ cat (q.jc.take j) := by unfold body; rw [e2, e3]
   have e5 : q'.size = (body q').length := by rw [e4, hq']
   have hcc' : fa ++ lo = body q' ++ p := by rw [hcc, e4]
   have hr' : ∀ d ∈ q'.jc, d.length ≤ 8192 := fun d hd => hr d (by rw [e3] at hd; exact List.mem_of_mem_take hd)
   have ha := ate hr' hp
   have eq : acm q.no (aaj q'.first :: q'.jc, (body q').length) = q' := by
    unfold acm
    simp only [List.headD_cons, List.tail_cons]
    rw [e2, amp h0 h1, ← e5, e3, hq']
   by_cases hpn : p = []
   ·subst hpn
    rw [List.append_nil] at ha hcc'
    refine .inr ⟨j, q', D, fa, lo, hj, ?_, h, hcc', e1, e2, e3, e5, rfl, rfl, hd, Nat.le_refl _, fun hx => absurd hx hbody, hm⟩
    unfold qr
    rw [hrd]
    simp only [hcc', ha]
    rw [if_neg (by simp), if_neg (by simp), if_neg (by simp), if_neg (by simp [abj]), if_neg (by omega), eq]
   ·have hplen : 0 < p.length := List.length_pos_iff.2 hpn
    have hs := zc h hA (by simp) (body q') []
    simp only at hs
    have hcut : D.cut q.no ((body q').length : Nat) = (D.pk q.no (body q') [], 0) := by
     unfold Dk.cut
     rw [hd, hg]
     simp only [Bool.false_eq_true, if_false]
     have hl : (fa.length + lo.length : Nat) = (body q').length + p.length := by rw [← List.length_append, ← List.length_append, hcc']
     rw [if_neg (by omega), Int.toNat_natCast, hcc', List.take_left' rfl]
    refine .inr ⟨j, q', D.pk q.no (body q') [], body q', [], hj, ?_, hs, by simp, e1, e2, e3, e5, rfl, rfl, hd, by have := congrArg List.length hcc'; simp only [List.length_append] at this; simp; omega, fun hx => absurd hx hbody, hm⟩
    unfold qr
    rw [hrd]
    simp only [hcc', ha, hcut]
    rw [if_neg (by simp), if_neg (by simp), if_neg (by simp), if_neg (by simp [abj]), if_pos (by rw [List.length_append]; omega), if_neg (by simp), eq]
end
section
variable {s f : Int} {Q Q0 : List Prt} {q : Prt} {F : Nat} {D : Dk} {w : Prop} {fa lo : List Int} {L : Lg} {b l : List Int} {A B : List Fil} {k : Int}
theorem ame {acc : List Prt} (h : Chn s f acc) (hs : 0 ≤ s ∧ s < 64) (hne : acc ≠ []) (hf0 : 0 ≤ f) (hf : f + (jq acc).length ≤ 1000000000000) : afj acc = f + (jq acc).length :=
 avp (L := ⟨0, acc⟩) h hs (fun h => absurd h hne) hf0 hf
theorem auf (hd : D.jj = false) (hs : 0 ≤ s ∧ s < 64) (hf0 : 0 ≤ f) : ∀ (Q1 acc : List Prt), Chn s f (acc ++ Q1 ++ [q]) → (acc ++ Q1 ++ [q]).length ≤ 63 → f + (jq (acc ++ Q1 ++ [q])).length ≤ 1000000000000 → (∀ x ∈ Q1, x.size = (body x).length) → D.fs = (acc ++ Q1).map nt ++ B → xd (Q1.map Prt.no ++ [k]) D acc = xd [k] D (acc ++ Q1)
 | [], acc, _, _, _, _, _ => by simp
 | q1 :: Q1, acc, hc, hl, hfew, hz, hfs => by
  have e0 : acc ++ q1 :: Q1 ++ [q] = (acc ++ [q1]) ++ Q1 ++ [q] := by simp
  have e1 : acc ++ q1 :: Q1 ++ [q] = (acc ++ [q1]) ++ (Q1 ++ [q]) := by simp
  have e2 : acc ++ q1 :: Q1 ++ [q] = acc ++ (q1 :: Q1 ++ [q]) := by simp
  have hc1 : Chn s f (acc ++ [q1]) := ((sk hs).1 (e1 ▸ hc)).1
  have hl1 : (acc ++ [q1]).length ≤ 64 := by rw [e1, List.length_append] at hl; omega
  obtain ⟨_, cf, cr⟩ := ago hc1 hs
  have hA := wq hs hc1 hl1
  have hfew1 : f + ((jq acc).length : Int) ≤ 1000000000000 := by rw [e2, ot, List.length_append] at hfew; omega
  have hld := apd (A := acc.map nt) (B := Q1.map nt ++ B) (fa := body q1) (lo := []) hd (by rw [hfs]; simp [nt]) hA (by simp) cr (by omega) (by omega) (hz q1 (by simp)) false
  have ih := auf hd hs hf0 Q1 (acc ++ [q1]) (e0 ▸ hc) (e0 ▸ hl) (e0 ▸ hfew) (fun x hx => hz x (by simp [hx])) (by rw [hfs]; simp)
  rw [List.map_cons, List.cons_append, xd]
  have hem : (Q1.map Prt.no ++ [k]).isEmpty = false := by simp
  rw [hem, hld]
  simp only [ne_eq, not_true_eq_false, if_false]
  have hfirst : ¬ (¬ acc = [] ∧ ¬ q1.first = afj acc) := fun hx => hx.2 (by
   rw [ame ((sk hs).1 hc1).1 hs hx.1 hf0 hfew1, cf])
  rw [if_neg hfirst, ih]
  simp
theorem bmb (h : Vir s f Q F D w) (hd : D.jj = false) {im : Int} (hm : 64 ≤ im ∧ im ≤ 1048576) :
  ∃ (s' f' : Int) (Q' : List Prt) (D' : Dk), aax D im = ((D', some Q'), 0) ∧ sd s' f' ⟨im, Q'⟩ 0 D' ∧ D'.jw = D.jw ∧ D'.jf = D.jf ∧ (∃ j, jq Q' = (jq Q).take j) ∧ F ≤ (jq Q').length ∧ (s = 0 → f = 0 → s' = 0 ∧ f' = 0) ∧ (w → D' = D ∧ Q' = Q ∧ s' = s ∧ f' = f) ∧ Q'.length ≤ Q.length ∧ D'.jg ≤ D.jg ∧ f' ≤ f := by
 unfold aax
 rw [if_neg (by omega), hd]
 simp only [Bool.false_eq_true, if_false]
 rcases h.dsc with ⟨hq, hf, rfl⟩ | ⟨Q0, q, fa, lo, m, hq, hf, hp, hw, hmm, hF, hy⟩
 ·have hfl : D.jm = [] := by unfold Dk.jm Dk.rg; rw [hf]; exact List.perm_nil.1 (nu [])
  have ho : aak ([] : List Int) = [] := rfl
  rw [hfl, ho, hq]
  obtain ⟨rfl, rfl⟩ := h.nil hq
  exact ⟨0, 0, [], D, rfl, ⟨⟨trivial, by omega, by omega, by simp, by simp [jq], .inl ⟨rfl, hf, rfl⟩, fun _ => ⟨rfl, rfl⟩, fun q hx => by simp at hx⟩, fun q hx => by simp at hx, hd⟩, rfl, rfl, ⟨0, rfl⟩, Nat.zero_le _, fun _ _ => ⟨rfl, rfl⟩, fun _ => ⟨rfl, rfl, rfl, rfl⟩, by simp, Nat.le_refl _, Int.le_refl _⟩
 ·have hs := h.s0
  have hf0 := h.f0
  have hl := h.len
  have hfew := h.few
  have hc := h.chn
  have hsz := h.siz
  have hk : D.rg = Q.map Prt.no := by unfold Dk.rg; rw [hf, hq, List.map_append, bmk, List.map_append]; rfl
  rw [bdh hs hc hl hk]
  subst hq
  have hA := wq hs hc (by omega)
  obtain ⟨cn, cf, cr⟩ := ago hc hs
  have hfew0 : f + ((jq Q0).length : Int) ≤ 1000000000000 := by rw [ot, List.length_append] at hfew; omega
  have hpre := auf (k := q.no) (B := [⟨q.no, fa, lo⟩]) hd hs hf0 Q0 [] hc hl hfew (fun x hx => hsz x (by simp [hx])) hf
  rw [List.nil_append] at hpre
  rw [List.map_append, List.map_cons, List.map_nil, hpre, xd]
  rcases bda hd hf hA hp cr (by omega) (by omega) (hsz q (by simp)) with ⟨hlen, D', e1, e2, e3, e4, e5⟩ | ⟨j, q', D', fa', lo', hj, e1, e2, e3, e4, e5, e6, e7, e8, e9, e10, e13, e11, e12⟩
  ·have hem : ([] : List Int).isEmpty = true := rfl
   rw [hem, e1]
   simp only [ne_eq, not_true_eq_false, if_false, xd]
   have hm0 : m = 0 := by
    rcases hy with hy | hy
    ·exact hy
    ·have := hy.length_le
     simp only [List.length_append] at this hlen
     omega
   have hnw : ¬ w := fun hx => by
    have hbl : (body q).length = (pd q.first).length + (cat q.jc).length := by unfold body; rw [List.length_append]
    have := congrArg List.length (hw hx)
    omega
   have hc0 := ((sk hs).1 hc).1
   have hsz0 : ∀ x ∈ Q0, x.size = (body x).length := fun x hx => hsz x (by simp [hx])
   have hall : jq Q0 = (jq (Q0 ++ [q])).take (jq Q0).length := by rw [ot, List.take_left' rfl]
   have hlen0 : Q0.length ≤ 63 := by rw [List.length_append] at hl; omega
   rcases List.eq_nil_or_concat Q0 with hq0 | ⟨Q1, q1, hq0⟩
   ·subst hq0
    refine ⟨0, 0, [], D', rfl, ⟨⟨trivial, by omega, by omega, by simp, by simp [jq], .inl ⟨rfl, e2, rfl⟩, fun _ => ⟨rfl, rfl⟩, fun q hx => by simp at hx⟩, fun q hx => by simp at hx, e5⟩, e4, e3, ⟨_, hall⟩, ?_, fun _ _ => ⟨rfl, rfl⟩, fun hx => absurd hx hnw, by simp, by unfold Dk.jg; rw [e2, hf]; simp, hf0⟩
    omega
   ·rw [List.concat_eq_append] at hq0
    subst hq0
    refine ⟨s, f, Q1 ++ [q1], D', rfl, ⟨⟨hc0, hs, hf0, hlen0, hfew0, .inr ⟨Q1, q1, body q1, [], 0, rfl, by rw [e2]; simp [nt], by simp, fun _ => by simp, Nat.zero_le _, Nat.zero_le _, .inl rfl⟩, fun hx => by simp at hx, hsz0⟩, hsz0, e5⟩, e4, e3, ⟨_, hall⟩, by omega, fun a b => ⟨a, b⟩, fun hx => absurd hx hnw, by simp, by unfold Dk.jg; rw [e2, hf]; simp, Int.le_refl _⟩
  ·have hem : ([] : List Int).isEmpty = true := rfl
   rw [hem, e1]
   simp only [ne_eq, not_true_eq_false, if_false]
   have hfirst : ¬ (¬ Q0 = [] ∧ ¬ q'.first = afj Q0) := fun hx => hx.2 (by
    rw [ame ((sk hs).1 hc).1 hs hx.1 hf0 hfew0, e5, cf])
   rw [if_neg hfirst, xd]
   have hc' : Chn s f (Q0 ++ [q']) := (sk hs).2 ⟨((sk hs).1 hc).1, by rw [e4, cn], by rw [e5, cf], fun d hd => cr d (by rw [e6] at hd; exact List.mem_of_mem_take hd), trivial⟩
   have hsz' : ∀ x ∈ Q0 ++ [q'], x.size = (body x).length := fun x hx => by
    rcases List.mem_append.1 hx with hx | hx
    ·exact hsz x (by simp [hx])
    ·rw [List.mem_singleton.1 hx]; exact e7
   have hall : jq (Q0 ++ [q']) = (jq (Q0 ++ [q])).take ((jq Q0).length + j) := by
    rw [ot Q0 [q'], ot Q0 [q], ud, ud, e6, List.take_append, List.take_of_length_le (l := jq Q0) (by omega), Nat.add_sub_cancel_left]
   have hjl : (jq (Q0 ++ [q'])).length = (jq Q0).length + j := by rw [ot, ud, e6]; simp; omega
   have hql : (jq (Q0 ++ [q])).length = (jq Q0).length + q.jc.length := by rw [ot, ud]; simp
   refine ⟨s, f, Q0 ++ [q'], D', rfl, ⟨⟨hc', hs, hf0, by simpa using hl, by rw [hjl]; rw [hql] at hfew; omega, .inr ⟨Q0, q', fa', lo', 0, rfl, by rw [e2, e4], by rw [e3]; exact List.prefix_rfl, fun _ => e3, Nat.zero_le _, Nat.zero_le _, .inl rfl⟩, fun hx => by simp at hx, hsz'⟩, hsz', e10⟩, e9, e8, ⟨_, hall⟩, ?_, fun a b => ⟨a, b⟩, fun hx => ?_, by simp, by unfold Dk.jg; rw [e2, hf]; simp [Fil.len]; omega, Int.le_refl _⟩
   ·rw [hjl]
    have : m ≤ j := by
     rcases hy with hy | hy
     ·omega
     ·exact e12 m hmm (by have := hy.length_le; simp only [List.length_append] at this ⊢; omega)
    omega
   ·obtain ⟨a, b, _⟩ := e11 (hw hx)
    exact ⟨a, by rw [b], rfl, rfl⟩
end
open Go.Eng
structure Bal where
 n : Int
 jl : Int
deriving DecidableEq
structure Rg where
 p : Bal
 t : Bal
 v : Int
deriving DecidableEq
def ir : Bal := ⟨0, 0⟩
def Bal.wy (a b : Bal) : Bool := decide (a.n < b.n ∨ (a.n = b.n ∧ a.jl < b.jl))
def ro (v : Int) : Bool := decide (1 ≤ v ∧ v ≤ 3)
def uo (x : Int) : Prop := 0 ≤ x ∧ x < 18446744073709551616
def Bal.rng (b : Bal) : Prop := uo b.n ∧ uo b.jl
theorem akz {x : Int} (h : uo x) (r : List Int) : alc (mh x ++ r) = x := by
 obtain ⟨h0, h1⟩ := h
 obtain ⟨n, rfl⟩ : ∃ n : Nat, x = n := ⟨x.toNat, by omega⟩
 exact apq (by omega) r
abbrev adq := List (Int × Rg)
structure Pk where
 ip : Int
 tr : Int
 b : Bal
 jr : Bal
 v : Int
 ok : Bool
 sv : Value
 mv : Value
 iv : Value
def pkC (p : Pk) : List Value := [.int .i64 p.ip, .int .u64 p.tr, .int .u64 p.b.n, .int .u64 p.b.jl, .int .u64 p.jr.n, .int .u64 p.jr.jl, .int .i64 p.v, .bool p.ok, p.sv, p.mv, p.iv]
def pkA (p : Pk) : Value := .agg (pkC p).toArray
def bhd (tr : Int) (b : Bal) (v : Int) : Value := .agg #[.int .u64 tr, .int .u64 b.n, .int .u64 b.jl, .int .i64 v]
def ant (tr : Int) (b : Bal) (v : Int) : Value := .iface T.y (bhd tr b v)
theorem akm {w : World} {v : Int} {K : KV} (h : K (.bool (ro v)) w) : gr P F.ea [.int .i64 v] w K := by
 rw [M.et.fcall]
 apply M.et.calls
 unfold M.et
 unfold ro at h
 by_cases h1 : 1 ≤ v
 ·by_cases h2 : v ≤ 3
  ·rw [decide_eq_true ⟨h1, h2⟩] at h
   simp [h1, h2]; exact h
  ·rw [decide_eq_false (fun hh => h2 hh.2)] at h
   simp [h1, h2]; exact h
 ·rw [decide_eq_false (fun hh => h1 hh.1)] at h
  simp [h1]; exact h
theorem abd {w : World} {b : Nat} {p : Pk} {f : Nat × Nat} (h : w.heap[b]? = some (.cells (pkC p).toArray T.a f)) : ∀ (j : Nat) (u : Value), (pkC p)[j]? = some u → ic w b j = some u := fun j u hj => by
 rw [ie h]; simpa using hj
theorem awk {w : World} {p : Pk} (hk : p.ip = 4 ∨ p.ip = 6) {K : KV} (h : ∀ w', Fz w w' → K (ant p.tr p.b p.v) w') : gr P F.db [pkA p] w K := by
 rw [M.w.fcall]
 apply M.w.calls
 unfold M.w pkA
 have hb : (w.alloc (.cells (pkC p).toArray T.a)).heap[w.heap.size]? = some (.cells (pkC p).toArray T.a (0, 0)) := by rw [iw, if_pos rfl]
 have f1 : Fz w (w.alloc (.cells (pkC p).toArray T.a)) := (Fr.refl _ w).alloc _
 have c0 := abd hb 0 _ rfl
 have c1 := abd hb 1 _ rfl
 have c2 := abd hb 2 _ rfl
 have c3 := abd hb 3 _ rfl
 have c6 := abd hb 6 _ rfl
 simp
 generalize w.alloc (.cells (pkC p).toArray T.a) = w1 at *
 have hl2 : ∀ K, ldN P 2 w.heap.size 2 w1 K = K (.agg #[.int .u64 p.b.n, .int .u64 p.b.jl]) w1 := fun K => aeu c2 c3 K
 have n1 : ¬ p.ip = 1 := by omega
 have n2 : ¬ p.ip = 2 := by omega
 have n3 : ¬ p.ip = 3 := by omega
 simp [c0, n1, n2]
 unfold M.w.j1
 simp [n3]
 rcases hk with hk | hk
 ·simp [hk]
  unfold M.w.j2
  simp [c1, hl2, c6]
  exact h w1 f1
 ·simp [hk]
  unfold M.w.j2
  simp [c1, hl2, c6]
  exact h w1 f1
def asq (tr : Int) (b : Bal) (v : Int) : Bool := decide (0 < tr) && decide (0 < b.n) && (decide (v = 0) || ro v)
theorem awb {w : World} {tr v : Int} {b : Bal} {K : KV} (h : ∀ w', Fz w w' → K (.bool (asq tr b v)) w') : gr P F.bf [ant tr b v] w K := by
 rw [M.s.fcall]
 apply M.s.calls
 unfold M.s ant bhd
 simp [ais, afk]
 have hb1 : (w.alloc (.cells #[.int .u64 0, .int .u64 0] T.d)).heap[w.heap.size]? = some (.cells #[.int .u64 0, .int .u64 0] T.d (0, 0)) := by rw [iw, if_pos rfl]
 have f1 : Fz w (w.alloc (.cells #[.int .u64 0, .int .u64 0] T.d)) := (Fr.refl _ w).alloc _
 refine km (vs := [.int .u64 0, .int .u64 0]) hb1 rfl (by simp [kq]) fun w2 b2 f2 => ?_
 have f12 : Fz w w2 := f1.lq f2 fun g hg he => by omega
 have hb3 : (w2.alloc (.cells #[.int .u64 0, .int .u64 0, .int .u64 0, .int .i64 0] T.y)).heap[w2.heap.size]? = some (.cells #[.int .u64 0, .int .u64 0, .int .u64 0, .int .i64 0] T.y (0, 0)) := by rw [iw, if_pos rfl]
 have f3 : Fz w (w2.alloc (.cells #[.int .u64 0, .int .u64 0, .int .u64 0, .int .i64 0] T.y)) := f12.alloc _
 have hsz := f12.size
 refine km (vs := [.int .u64 tr, .int .u64 b.n, .int .u64 b.jl, .int .i64 v]) hb3 rfl (by simp [kq]) fun w4 b4 f4 => ?_
 have f14 : Fz w w4 := f3.lq f4 fun g hg he => by omega
 generalize w2.heap.size = ob at *
 have c0 : ic w4 ob 0 = some (.int .u64 tr) := by rw [ie b4]; rfl
 have c1 : ic w4 ob 1 = some (.int .u64 b.n) := by rw [ie b4]; rfl
 have c3 : ic w4 ob 3 = some (.int .i64 v) := by rw [ie b4]; rfl
 have fin := h w4 f14
 unfold asq at fin
 by_cases h1 : 0 < tr
 ·by_cases h2 : 0 < b.n
  ·by_cases h3 : v = 0
   ·simp [c0, c1, c3, h1, h2, h3]
    simpa [h1, h2, h3] using fin
   ·simp [c0, c1, c3, h1, h2, h3]
    refine akm ?_
    simpa [h1, h2, h3] using fin
  ·simp [c0, c1, c3, h1, h2]
   simpa [h1, h2] using fin
 ·simp [c0, c1, c3, h1]
  simpa [h1] using fin
def ahn (k tr : Int) (b : Bal) (v : Int) : Pk := ⟨k, tr, b, ir, v, false, .slice none 0 0, .slice none 0 0, .slice none 0 0⟩
def biu (tr : Int) (b : Bal) (v : Int) : Pk := ⟨if v = 0 then 4 else 6, tr, b, ir, v, false, .slice none 0 0, .slice none 0 0, .slice none 0 0⟩
theorem ati {w : World} {tr v : Int} {b : Bal} {K : KV} (h : ∀ w', Fz w w' → K (pkA (biu tr b v)) w') : gr P F.ax [ant tr b v] w K := by
 rw [M.n.fcall]
 apply M.n.calls
 unfold M.n ant bhd
 simp [ais, afk]
 have S0 : St w (w.alloc (.cells #[.int .i64 0, .int .u64 0, .int .u64 0, .int .u64 0, .int .u64 0, .int .u64 0, .int .i64 0, .bool false, .slice none 0 0, .slice none 0 0, .slice none 0 0] T.a)) (iq w.heap.size #[.int .i64 0, .int .u64 0, .int .u64 0, .int .u64 0, .int .u64 0, .int .u64 0, .int .i64 0, .bool false, .slice none 0 0, .slice none 0 0, .slice none 0 0] T.a :: []) := (St.ji w).add ((Fr.refl _ w).alloc _) (B := fun x => x = w.heap.size) ⟨by rw [iw, if_pos rfl], rfl⟩ fun x hx => by subst hx; rw [jz]; omega
 have z0 : (w.alloc (.cells #[.int .i64 0, .int .u64 0, .int .u64 0, .int .u64 0, .int .u64 0, .int .u64 0, .int .i64 0, .bool false, .slice none 0 0, .slice none 0 0, .slice none 0 0] T.a)).heap.size = w.heap.size + 1 := jz _ _
 generalize w.alloc (.cells #[.int .i64 0, .int .u64 0, .int .u64 0, .int .u64 0, .int .u64 0, .int .u64 0, .int .i64 0, .bool false, .slice none 0 0, .slice none 0 0, .slice none 0 0] T.a) = w1 at *
 have S1 : St w (w1.alloc (.cells #[.int .u64 0, .int .u64 0, .int .u64 0, .int .i64 0] T.y)) (iq w1.heap.size #[.int .u64 0, .int .u64 0, .int .u64 0, .int .i64 0] T.y :: _) := S0.add ((Fr.refl _ w1).alloc _) (B := fun x => x = w1.heap.size) ⟨by rw [iw, if_pos rfl], rfl⟩ fun x hx => by subst hx; rw [jz]; omega
 rw [z0] at S1
 generalize w.heap.size = pb at *
 generalize pb + 1 = ob at *
 refine km (vs := [.int .u64 tr, .int .u64 b.n, .int .u64 b.jl, .int .i64 v]) S1.blk rfl (by simp [kq]) fun w2 b2 f2 => ?_
 have S2 := S1.ni f2 b2
 have askC : ∀ {W : World} {R : List Asn}, St w W (iq ob [Value.int .u64 tr, .int .u64 b.n, .int .u64 b.jl, .int .i64 v].toArray T.y :: R) → ic W ob 0 = some (.int .u64 tr) ∧ ic W ob 3 = some (.int .i64 v) ∧ ∀ K, ldN P 2 ob 1 W K = K (.agg #[.int .u64 b.n, .int .u64 b.jl]) W := fun {W R} S' => by
  have hh := S'.blk
  exact ⟨by rw [ie hh]; rfl, by rw [ie hh]; rfl, fun K => aeu (by rw [ie hh]; rfl) (by rw [ie hh]; rfl) K⟩
 obtain ⟨c0, c3, cl⟩ := askC S2
 simp [c0, c3, cl]
 have pkL : ∀ {W : World} {R : List Asn} {q : Pk}, St w W (iq pb (pkC q).toArray T.a :: R) → ∀ K, ldN P 11 pb 0 W K = K (pkA q) W := fun {W R q} S' K => po (pkC q) 11 rfl (fun k u hk => by rw [Nat.zero_add]; exact abd S'.blk k u hk) K
 have pkO : ∀ (k : Int), ∀ u ∈ pkC (ahn k tr b v), kq u = true := fun k u hu => by
  simp only [pkC, ahn, List.mem_cons, List.not_mem_nil, or_false] at hu
  rcases hu with rfl | rfl | rfl | rfl | rfl | rfl | rfl | rfl | rfl | rfl | rfl <;> rfl
 have hres : ∀ {W : World} {R : List Asn} {q : Pk}, St w W (iq pb (pkC q).toArray T.a :: R) → ∀ K, pp P T.a (.pointer (some ⟨pb, 0, none⟩)) W K = K (pkA q) W := fun {W R q} S' K => by rw [ajp]; exact pkL S' K
 refine km (vs := pkC (ahn 4 tr b v)) S2.swap.blk rfl (pkO 4) fun w3 b3 f3 => ?_
 have S3 := S2.swap.ni f3 b3
 obtain ⟨_, d3, _⟩ := askC S3.swap
 by_cases hv : v = 0
 ·simp [d3, hv]
  subst hv
  rw [pkL S3]
  have e : pkA (ahn 4 tr b 0) = .agg #[.int .i64 4, .int .u64 tr, .int .u64 b.n, .int .u64 b.jl, .int .u64 0, .int .u64 0, .int .i64 0, .bool false, .slice none 0 0, .slice none 0 0, .slice none 0 0] := rfl
  rw [e]
  simp
  refine km (vs := pkC (ahn 4 tr b 0)) S3.blk rfl (pkO 4) fun w5 b5 f5 => ?_
  have S5 := S3.ni f5 b5
  rw [hres S5]
  exact ⟨rfl, h w5 S5.fr⟩
 ·have e0 := abd S3.blk 0 _ rfl
  have ez := pg S3.blk
  simp [d3, hv, e0, ez]
  have S4 : St w (w3.setCell ⟨pb, 0, none⟩ (.int .i64 6)) (iq pb (pkC (ahn 6 tr b v)).toArray T.a :: _) := S3.ni ((Fr.refl (fun x => x = pb) w3).setCell (.inl rfl) _ _) ((nj S3.blk).trans rfl)
  rw [pkL S4]
  have e : pkA (ahn 6 tr b v) = .agg #[.int .i64 6, .int .u64 tr, .int .u64 b.n, .int .u64 b.jl, .int .u64 0, .int .u64 0, .int .i64 v, .bool false, .slice none 0 0, .slice none 0 0, .slice none 0 0] := rfl
  rw [e]
  simp
  refine km (vs := pkC (ahn 6 tr b v)) S4.blk rfl (pkO 6) fun w5 b5 f5 => ?_
  have S5 := S4.ni f5 b5
  rw [hres S5]
  have fin := h w5 S5.fr
  unfold biu at fin
  rw [if_neg hv] at fin
  exact ⟨rfl, fin⟩
end Go.Proofs.YtfnhoaemapheoaaGreat
