/-
  Clones and joins of bytes, frames put and cut. No condition.
-/
import Derived.Test.YtfnhoaemapheoaaGreatZSgD
import Derived.Test.YtfnhoaemapheoaaGreatZEngSl
import Derived.Test.YtfnhoaemapheoaaGreatM
import Derived.Test.YtfnhoaemapheoaaGreatFacts
import Derived.Test.YtfnhoaemapheoaaGreatZMs0
import Derived.Test.YtfnhoaemapheoaaGreatZSpn0
set_option maxRecDepth 100000
namespace Go.Eng
section
variable {P : Program}
theorem bga {t : TypeId} (h : nk P t = true) {a : Option Addr} {len cap : Nat} {k1 k2 k3 : IntKind} {i j m : Nat} (h0 : i ≤ j) (h1 : j ≤ m) (h2 : m ≤ cap) (w : World) (K : KV) :
  slT P t (.slice a len cap) (some (.int k1 (i : Int))) (some (.int k2 (j : Int))) (some (.int k3 (m : Int))) w K = K (.slice (if m = i then a else a.map (·.add (i * szE P t))) (j - i) (m - i)) w := by
 obtain ⟨hu, inf, hi, hs⟩ := vy h
 have h3 : i ≤ m := by omega
 simp [slT, jn, Instr.sliceAt, Instr.slice, Instr.sliceBounds, Instr.sliceBound, asIntOf, Sem.run_bind, jh hu, Result.andThen, Sem.run_pure, zc hi, hs, h0, h1, h2, h3]
theorem Sl.bil {α : Type} {enc : α → List Value} {sz : Nat} {w : World} {v : Value} {l : List α} {i j : Nat} (hs : Sl w sz enc v l) {t : TypeId} (h : nk P t = true) (hz : szE P t = sz) {k1 k2 k3 : IntKind} (h0 : i ≤ j) (h1 : j ≤ l.length) :
  ∃ v', Sl w sz enc v' ((l.drop i).take (j - i)) ∧ (∀ b, v'.ownBlock = some b → v.ownBlock = some b) ∧ ∀ w1 K, slT P t v (some (.int k1 (i : Int))) (some (.int k2 (j : Int))) (some (.int k3 (j : Int))) w1 K = K v' w1 := by
 obtain ⟨a, cap, rfl, g1, g2, g3⟩ := hs
 refine ⟨_, ?_, ?_, fun w1 K => bga h h0 (Nat.le_refl _) (by omega) w1 K⟩
 ·have hlen : ((l.drop i).take (j - i)).length = j - i := by simp; omega
  refine ⟨_, _, by rw [hlen], by omega, by omega, fun k x hk => ?_⟩
  have hk' : k < j - i := by have := (List.getElem?_eq_some_iff.1 hk).1; omega
  rw [List.getElem?_take_of_lt hk', List.getElem?_drop] at hk
  obtain ⟨b, o, rfl, hb, hr⟩ := g3 (i + k) x hk
  rw [if_neg (by omega)]
  refine ⟨b, o + i * sz, by simp [Addr.add, hz], hb, ?_⟩
  rw [Nat.add_assoc, ← Nat.add_mul]; exact hr
 ·intro b hb
  cases a with
  | none => split at hb <;> simp [Value.ownBlock] at hb
  | some a =>
   have : ∀ k, (a.add k).block = a.block := fun k => by unfold Addr.add; split <;> rfl
   split at hb <;> simp_all [Value.ownBlock]
theorem axf {t : TypeId} {v v1 v2 : Value} {lo hi mx : Option Value} (h1 : ∀ w1 K, slT P t v lo hi mx w1 K = K v1 w1) (h2 : ∀ w1 K, slT P t v lo hi mx w1 K = K v2 w1) (w : World) : v1 = v2 := by
 have h := (h1 w fun x _ => x = v1).symm.trans (h2 w fun x _ => x = v1)
 exact (h.mp rfl).symm
end
end Go.Eng
namespace Go.Proofs.YtfnhoaemapheoaaGreat
open Go.Eng Go.Proofs.YtfnhoaemapheoaaGreat.Sint
section
variable {w0 w : World} {R : List Asn} {v : Value} {l : List Int}
theorem wy (S : St w0 w R) (hs : SlB w v l) (hlen : l.length ≤ 100000000) {K : KV} (h : ∀ w' v', St w0 w' (ki v' l :: R) → K v' w') : gi P F.af [v] w K := by
 rw [M.cd.fcall]
 apply M.cd.calls
 unfold M.cd
 simp only [gp]
 have hs' := hs
 obtain ⟨a, cap, rfl, _⟩ := hs'
 cases a with
 | none =>
  simp
  have hz : l = [] := by
   obtain ⟨a', cap', hv, _, _, h3⟩ := hs
   cases l with
   | nil => rfl
   | cons x l =>
    obtain ⟨b, o, ha, _⟩ := h3 0 x rfl
    injection hv with h1 _ _
    rw [← h1] at ha; cases ha
  subst hz
  exact h w _ (Eng.rg S)
 | some a =>
  simp
  have S1 : St w0 (w.alloc (.cells #[] T.am)) (ki (.slice (some ⟨w.heap.size, 0, none⟩) 0 0) [] :: R) := St.uo (l := ([] : List Int)) S jr rfl (by simp)
  refine Go.Eng.td et.f jr xd S1 (hs.fr ((Fr.refl (fun _ => False) w).alloc _) fun _ _ _ h => h) (by simp; omega) (by decide) fun w2 v2 S2 => ?_
  exact h w2 v2 S2
theorem aqv {v1 v2 : Value} {l1 l2 : List Int} (S : St w0 w R) (s1 : SlB w v1 l1) (s2 : SlB w v2 l2) (hl : l1.length + l2.length ≤ 100000000) {K : KV} (h : ∀ w' v', St w0 w' (ki v' (l1 ++ l2) :: R) → K v' w') :
  bsT P T.l 2 #[(0, v1), (1, v2)] w fun t w => gi P F.ar [t] w K := by
 obtain ⟨a1, k1, hv1, _⟩ := id s1
 obtain ⟨a2, k2, hv2, _⟩ := id s2
 have hbs : ∀ K', bsT P T.l 2 #[(0, v1), (1, v2)] w K' = K' (.slice (some ⟨w.heap.size, 0, none⟩) 2 2) (w.alloc (.cells #[v1, v2] T.f)) := fun K' => by rw [hv1, hv2]; simp
 rw [hbs]
 have f1 : Fz w (w.alloc (.cells #[v1, v2] T.f)) := (Fr.refl _ w).alloc _
 have hn : (w.alloc (.cells #[v1, v2] T.f)).heap[w.heap.size]? = some (.cells (([(v1, l1), (v2, l2)] : List (Value × List Int)).map (·.1)).toArray T.f (0, 0)) := by
  rw [iq, if_pos rfl]; rfl
 rw [M.k.fcall]
 refine CB.aaz (L := [(v1, l1), (v2, l2)]) hn (fun p hp => ?_) (by simp [CB.tot]; omega) (by simp) fun w' v o f2 => ?_
 ·simp at hp
  rcases hp with rfl | rfl
  ·exact s1.fr f1 fun _ _ _ h => h
  ·exact s2.fr f1 fun _ _ _ h => h
 ·have hs : w.heap.size ≤ (w.alloc (.cells #[v1, v2] T.f)).heap.size := f1.size
  refine h w' v (S.add (a := ki v (l1 ++ l2)) (f1.trans f2) (B := fun b => v.ownBlock = some b) ⟨?_, fun b hb => hb⟩ fun b hb => ?_)
  ·simpa using o.mono (Nat.zero_le _)
  ·have := o.lt hb
   exact ⟨by omega, this.2⟩
def wt (d : List Int) : List Int := wi (d.length : Int) ++ d
def ji (d : List Int) : List Int := wt d ++ wi (aat (wt d))
theorem ny (d : List Int) : (ji d).length = d.length + 8 := by unfold ji wt; simp [ta]; omega
theorem awl {dv : Value} {d : List Int} {v0 : Value} {l0 : List Int} (S : St w0 w R) (h0 : ∀ w' L, St w0 w' (L ++ R) → SlB w' v0 l0) (hd : ∀ w' L, St w0 w' (L ++ R) → SlB w' dv d) (hl0 : l0.length ≤ 10000000) (hl : d.length ≤ 1000000000) {K : KV}
  (h : ∀ w' v', St w0 w' (ki v' (if 8192 < d.length then [] else l0 ++ ji d) :: R) → K (.tuple #[v', .int .i64 (if 8192 < d.length then 4 else 0)]) w') : gi P F.ex [v0, dv] w K := by
 rw [M.ed.fcall]
 apply M.ed.calls
 unfold M.ed
 rw [gp, (hd w [] S).iy (by kernel_rfl)]
 by_cases hbig : 8192 < d.length
 ·have hbig' : (8192 : Int) < d.length := by omega
  rw [if_pos hbig] at h
  simp only [if_pos hbig] at h
  simp [hbig']
  exact h w _ (Eng.rg S)
 ·have hbig' : ¬ (8192 : Int) < d.length := by omega
  rw [if_neg hbig] at h
  simp only [if_neg hbig] at h
  simp [hbig']
  unfold M.ed.j0
  rw [(hd w [] S).iy (by kernel_rfl), og (ks := .i64) (kd := .u32) (by kernel_rfl) (by kernel_rfl), apz (by omega)]
  refine atn (Eng.rg S) (by simp) _ fun w1 v1 S1 => ?_
  rw [List.nil_append] at S1
  refine Go.Eng.td et.f jr xd S1 (hd w1 [_] S1) (by simp [ta]; omega) (by decide) fun w2 v2 S2 => ?_
  have S2' : St w0 w2 (ki v2 (wt d) :: R) := S2
  have hbl : (wt d).length = d.length + 4 := by unfold wt; simp [ta]; omega
  refine bch (S2'.row jr) (by omega) ?_
  refine atn S2' (by omega) _ fun w3 v3 S3 => ?_
  have S3' : St w0 w3 (ki v3 (ji d) :: R) := S3
  have hfl := ny d
  refine aqv S3' (h0 w3 [_] S3') (S3'.row jr) (by omega) fun w4 v4 S4 => ?_
  exact h w4 v4 S4.swap.drop
def yk (l : List Int) : Option (List Int) × Int :=
 if l.length < 4 then (none, 3) else if 8192 < yn l then (none, 2) else if (l.length : Int) - 4 < 4 + yn l then (none, 3)
 else if aat (l.take (4 + (yn l).toNat)) ≠ yn (l.drop (4 + (yn l).toNat)) then (none, 2) else (some ((l.drop 4).take (yn l).toNat), 0)
theorem alw (l : List Int) : ∃ n : Nat, yn l = (n : Int) ∧ n < 4294967296 := by
 show ∃ n : Nat, abk l 4 = _ ∧ _
 rw [abk, orE]
 exact ajn _
theorem bja (S : St w0 w R) (hs : ∀ w' L, St w0 w' (L ++ R) → SlB w' v l) (hl : l.length ≤ 10000000) {K : KV}
  (h : ∀ w' dv rv, St w0 w' (ki dv ((yk l).1.getD []) :: R) → K (.tuple #[dv, rv, .int .i64 (yk l).2]) w') : gi P F.fh [v] w K := by
 rw [M.ee.fcall]
 apply M.ee.calls
 unfold M.ee
 have s0 := hs w [] S
 have hlen : ∀ w' K', biT P .len #[T.f] T.b [false] [v] w' K' = K' (.int .i64 l.length) w' := fun w' K' => s0.iy (by kernel_rfl) [false]
 rw [gp, hlen]
 unfold yk at h
 by_cases c1 : l.length < 4
 ·have c1' : (l.length : Int) < 4 := by omega
  simp only [if_pos c1] at h
  simp [c1']
  exact h w _ _ (Eng.rg S)
 ·have c1' : ¬ (l.length : Int) < 4 := by omega
  simp only [if_neg c1] at h
  simp [c1']
  unfold M.ee.j0
  refine beh s0 (by omega) ?_
  obtain ⟨n, hn, hn2⟩ := alw l
  rw [hn] at h ⊢
  have hw1 : IntKind.i64.wrap (n : Int) = n := akn (by omega)
  have hw2 : IntKind.i64.wrap (4 + (n : Int)) = ((4 + n : Nat) : Int) := by rw [ia]; omega
  rw [og (ks := .u32) (kd := .i64) (by kernel_rfl) (by kernel_rfl), hw1]
  simp only [kz]
  rw [hw2]
  simp only [rk]
  by_cases c2 : (8192 : Int) < n
  ·simp only [if_pos c2] at h
   rw [decide_eq_true c2, Eng.cond_true]
   exact h w _ _ (Eng.rg S)
  ·simp only [if_neg c2] at h
   rw [decide_eq_false c2, Eng.cond_false, hlen]
   simp only [lk]
   rw [ia]
   simp only [lh]
   by_cases c3 : (l.length : Int) - 4 < 4 + (n : Int)
   ·simp only [if_pos c3] at h
    rw [decide_eq_true (by omega), Eng.cond_true]
    exact h w _ _ (Eng.rg S)
   ·simp only [if_neg c3] at h
    rw [decide_eq_false (by omega), Eng.cond_false]
    rw [Int.toNat_natCast] at h
    obtain ⟨va, sa, pa, ra⟩ := s0.sub (P := P) (t := T.f) (lo := none) (hi := some (.int .i64 ((4 + n : Nat) : Int))) (i := 0) (j := 4 + n) (by kernel_rfl) (by kernel_rfl) (.inl ⟨rfl, rfl⟩) (.inr ⟨_, rfl⟩) (Nat.zero_le _) (by omega)
    obtain ⟨vb, sb, pb, rb⟩ := s0.sub (P := P) (t := T.f) (lo := some (.int .i64 ((4 + n : Nat) : Int))) (hi := none) (i := 4 + n) (j := l.length) (by kernel_rfl) (by kernel_rfl) (.inr ⟨_, rfl⟩) (.inl ⟨rfl, rfl⟩) (by omega) (Nat.le_refl _)
    have ea : List.take (4 + n - 0) (List.drop 0 l) = l.take (4 + n) := by simp
    have eb : List.take (l.length - (4 + n)) (List.drop (4 + n) l) = l.drop (4 + n) := List.take_of_length_le (by simp)
    rw [ea] at sa
    rw [eb] at sb
    have fd : Fz w (Eng.dr w 1) := (Fr.refl _ w).dr 1
    simp only [qi, wx, ra, rb, ack, true_and, and_true]
    have Sd := S.jo fd
    have hlt : (l.take (4 + n)).length = 4 + n := by simp; omega
    have hld : (l.drop (4 + n)).length = l.length - (4 + n) := by simp
    refine bch (sa.fr fd fun _ _ _ h => h) (by omega) ?_
    refine beh (sb.fr fd fun _ _ _ h => h) (by omega) ?_
    simp only [aiv]
    by_cases c4 : aat (l.take (4 + n)) = yn (l.drop (4 + n))
    ·simp only [if_neg (show ¬ aat (l.take (4 + n)) ≠ yn (l.drop (4 + n)) from fun h => h c4)] at h
     refine ⟨trivial, ?_⟩
     rw [decide_eq_false (fun h => h c4), Eng.cond_false]
     obtain ⟨vc, sc, pc, rc⟩ := Eng.Sl.bil (P := P) (t := T.f) (k1 := .i64) (k2 := .i64) (k3 := .i64) (i := 4) (j := 4 + n) s0 (by kernel_rfl) (by kernel_rfl) (by omega) (by omega)
     have rc' : ∀ w1 K, slT P T.f v (some (.int .i64 4)) (some (.int .i64 ((4 + n : Nat) : Int))) (some (.int .i64 ((4 + n : Nat) : Int))) w1 K = K vc w1 := rc
     have ec : List.take (4 + n - 4) (List.drop 4 l) = (l.drop 4).take n := by congr 1; omega
     rw [ec] at sc
     have hw3 : IntKind.i64.wrap (((4 + n : Nat) : Int) + 4) = ((8 + n : Nat) : Int) := by rw [ia]; omega
     obtain ⟨ve, se, pe, re⟩ := s0.sub (P := P) (t := T.f) (lo := some (.int .i64 ((8 + n : Nat) : Int))) (hi := none) (i := 8 + n) (j := l.length) (by kernel_rfl) (by kernel_rfl) (.inr ⟨_, rfl⟩) (.inl ⟨rfl, rfl⟩) (by omega) (Nat.le_refl _)
     have fd2 : Fz w (Eng.dr (Eng.dr w 1) 1) := fd.dr 1
     simp only [rc', kz, hw3, re, ack, true_and, and_true]
     have S2 := Sd.jo ((Fr.refl (fun _ => False) (Eng.dr w 1)).dr 1)
     refine wy S2 (sc.fr fd2 fun _ _ _ h => h) (by simp; omega) fun w2 dv S3 => ?_
     obtain ⟨vf, sf, _, rf⟩ := (hs w2 [_] S3).sub (P := P) (t := T.f) (lo := some (.int .i64 ((8 + n : Nat) : Int))) (hi := none) (i := 8 + n) (j := l.length) (by kernel_rfl) (by kernel_rfl) (.inr ⟨_, rfl⟩) (.inl ⟨rfl, rfl⟩) (by omega) (Nat.le_refl _)
     have hvf : ve = vf := axf re rf w2
     rw [← hvf] at sf
     refine wy S3 sf (by simp; omega) fun w3 rv S4 => ?_
     exact h w3 dv rv S4.drop
    ·simp only [if_pos c4] at h
     refine ⟨trivial, ?_⟩
     rw [decide_eq_true c4, Eng.cond_true]
     exact h _ _ _ (Eng.rg Sd)
end
set_option maxRecDepth 100000
structure SV where
 a : Option Addr
 n : Nat
 c : Nat
def SV.v (s : SV) : Value := .slice s.a s.n s.c
def qq (s : SV) : List Value := [s.v]
theorem uj (s : SV) : (qq s).length = 1 := rfl
theorem bbk (s : SV) : ∀ u ∈ qq s, kh u = true := fun u hu => by simp [qq] at hu; subst hu; rfl
def qa (vs : List SV) (ls : List (List Int)) : List Asn := List.zipWith (fun s l => ki s.v l) vs ls
def azs (v : Value) (vs : List SV) (ls : List (List Int)) : List Asn := [Eng.lq T.f 1 qq v vs, pt (qa vs ls)]
def mn (v : Value) (ls : List (List Int)) : Asn where
 ok w B := ∃ vs, vs.length = ls.length ∧ Rs (azs v vs ls) w B
 jy := by
  rintro w w' B S ⟨vs, h1, h2⟩ hf hn
  exact ⟨vs, h1, h2.jy hf hn⟩
section
variable {w0 w : World} {R : List Asn} {v : Value} {ls : List (List Int)} {vs : List SV}
theorem aeq (S : St w0 w (mn v ls :: R)) : ∃ vs, vs.length = ls.length ∧ St w0 w (Eng.lq T.f 1 qq v vs :: pt (qa vs ls) :: R) := by
 obtain ⟨B, ⟨vs, h1, h2⟩, _, cl⟩ := S.open
 exact ⟨vs, h1, cl w (azs v vs ls) (Fr.refl _ _) (h2.mono fun b hb => .inl hb)⟩
theorem alu (h : vs.length = ls.length) (S : St w0 w (Eng.lq T.f 1 qq v vs :: pt (qa vs ls) :: R)) : St w0 w (mn v ls :: R) := by
 obtain ⟨U, h1, _, g⟩ := St.abq (L := azs v vs ls) (R := R) S
 exact g w [mn v ls] (Fr.refl _ _) ⟨U, ⟨vs, h, h1⟩, fun b hb => .inl hb, trivial⟩
theorem awm (S : St w0 w R) : St w0 w (mn (.slice none 0 0) [] :: R) := alu (vs := []) rfl (awj (St.all.2 S))
theorem aff (S : St w0 w (mn v ls :: R)) (w' : World) (K : KV) : biT P .len #[T.l] T.b [false] [v] w' K = K (.int .i64 ls.length) w' := by
 obtain ⟨vs, h, S1⟩ := aeq S
 rw [(S1.lq uj).iy (by kernel_rfl), h]
theorem bbd (S : St w0 w (mn v ls :: R)) : ∃ a cap, v = .slice a ls.length cap := by
 obtain ⟨vs, h, S1⟩ := aeq S
 obtain ⟨a, cap, hv, _⟩ := S1.lq uj
 exact ⟨a, cap, by rw [hv, h]⟩
theorem aim (S : St w0 w (mn v ls :: R)) {i : Nat} (hi : i < ls.length) : ∃ b o s, (∀ w' K, iaT P T.l v (.int .i64 (i : Nat)) w' K = K (.pointer (some ⟨b, o, none⟩)) w') ∧ (∀ {w1 : World} {R1 : List Asn}, St w0 w1 (mn v ls :: R1) → gr w b o = some (SV.v s)) ∧ gr w b o = some (SV.v s) ∧ SlB w (SV.v s) ls[i] := by
 obtain ⟨vs, h, S1⟩ := aeq S
 have hi' : i < vs.length := by omega
 obtain ⟨b, o, cap, hv, _, _, hc⟩ := (S1.lq uj : Sl w 1 qq v vs).at hi'
 have c0 := hc 0 _ rfl
 simp only [Nat.mul_one, Nat.add_zero] at c0
 have S2 := St.amj (j := i) (L := qa vs ls) (by simp [qa]; omega) S1.swap
 unfold qa at S2
 rw [List.getElem_zipWith] at S2
 exact ⟨b, o + i, vs[i], fun w' K => by rw [hv]; simp [hi'], fun _ => c0, c0, S2.row jr⟩
theorem ahe {s : SV} {d : List Int} (S : St w0 w (ki s.v d :: mn v ls :: R)) (hl : ls.length ≤ 1000000) {cs : List Bool} {ty : TypeId} {K : KV} (h : ∀ w' v', St w0 w' (mn v' (ls ++ [d]) :: R) → K v' w') :
  bsT P T.l 1 #[(0, s.v)] w fun t w => biT P .append #[T.l, T.l] ty cs [v, t] w K := by
 have hbs : ∀ K', bsT P T.l 1 #[(0, s.v)] w K' = K' (.slice (some ⟨w.heap.size, 0, none⟩) 1 1) (w.alloc (.cells #[s.v] T.f)) := fun K' => by unfold SV.v; simp
 rw [hbs]
 obtain ⟨vs, h1, S1⟩ := aeq S.swap
 have S2 : St w0 (w.alloc (.cells #[s.v] T.f)) (ni T.f 1 qq (.slice (some ⟨w.heap.size, 0, none⟩) 1 1) [s] :: Eng.lq T.f 1 qq v vs :: pt (qa vs ls) :: ki s.v d :: R) := St.uo (l := [s]) S1 uj rfl (by unfold maxLen; simp)
 refine art et.l uj bbk S2.swap (S2.row uj) (by simp; omega) (by decide) fun w2 v2 S3 => ?_
 have S4 : St w0 w2 (Eng.lq T.f 1 qq v2 (vs ++ [s]) :: pt (qa vs ls) :: ki s.v d :: R) := S3.swap.drop
 refine h w2 v2 (alu (vs := vs ++ [s]) (by simp [h1]) ?_)
 have S5 := St.all.1 S4.swap
 have e : qa (vs ++ [s]) (ls ++ [d]) = qa vs ls ++ [ki s.v d] := by unfold qa; rw [List.zipWith_append h1]; rfl
 have S6 : St w0 w2 (pt (qa (vs ++ [s]) (ls ++ [d])) :: Eng.lq T.f 1 qq v2 (vs ++ [s]) :: R) := by
  refine St.all.2 ?_
  rw [e, List.append_assoc]
  refine S5.perm (List.Perm.append_left _ ?_)
  exact List.Perm.swap _ _ _
 exact S6.swap
theorem bbv {d : List Int} (S : St w0 w (mn v (d :: ls) :: R)) {k : IntKind} : ∃ v', St w0 w (mn v' ls :: R) ∧ ∀ w1 K, slT P T.l v (some (.int k 1)) none none w1 K = K v' w1 := by
 obtain ⟨vs, h1, S1⟩ := aeq S
 cases vs with
 | nil => simp at h1
 | cons s vs =>
  obtain ⟨v', S2, hv⟩ := S1.bop (P := P) (t := T.l) uj (by kernel_rfl) (by kernel_rfl) (i := 1) (by simp) (k := k)
  refine ⟨v', alu (vs := vs) (by simpa using h1) ?_, hv⟩
  have S3 : St w0 w (Eng.lq T.f 1 qq v' vs :: pt (qa (s :: vs) (d :: ls)) :: R) := S2
  have S4 := St.all.1 S3.swap
  have S5 : St w0 w (ki s.v d :: (qa vs ls ++ Eng.lq T.f 1 qq v' vs :: R)) := S4
  exact (St.all.2 S5.drop).swap
end
def zm (l : List Int) : Nat → Nat → List (List Int) × Nat
 | 0, iz => ([], iz)
 | f + 1, iz => if iz < l.length then match (yk ((l.drop iz).take 8200)).1 with
   | none => ([], iz)
   | some d => (d :: (zm l f (iz + d.length + 8)).1, (zm l f (iz + d.length + 8)).2)
  else ([], iz)
def vv (l : List Int) : List (List Int) × Nat := zm l (l.length + 1) 0
theorem bdt (l : List Int) : ((yk l).2 = 0 ∧ ∃ d, (yk l).1 = some d ∧ d.length + 8 ≤ l.length) ∨ ((yk l).2 ≠ 0 ∧ (yk l).1 = none) := by
 unfold yk
 split
 ·exact .inr ⟨by simp, rfl⟩
 ·split
  ·exact .inr ⟨by simp, rfl⟩
  ·split
   ·exact .inr ⟨by simp, rfl⟩
   ·split
    ·exact .inr ⟨by simp, rfl⟩
    ·rename_i h1 h2 h3 h4
     refine .inl ⟨rfl, _, rfl, ?_⟩
     obtain ⟨n, hn, _⟩ := alw l
     rw [hn] at h2 h3 ⊢
     rw [Int.toNat_natCast, List.length_take, List.length_drop]
     omega
section
variable {w0 w : World} {R : List Asn} {v : Value} {l : List Int}
def AlI (w0 : World) (l : List Int) (R : List Asn) : KL := fun x w1 => ∃ (u0 u1 u2 u5 v : Value) (acc : List (List Int)) (iz f : Nat), x = [u0, u1, u2, v, .int .i64 (iz : Nat), u5] ∧ iz ≤ l.length ∧ l.length < f + iz ∧ 8 * acc.length ≤ iz ∧ vv l = (acc ++ (zm l f iz).1, (zm l f iz).2) ∧ St w0 w1 (mn v acc :: R)
theorem bju (S : St w0 w R) (hs : ∀ w' L, St w0 w' (L ++ R) → SlB w' v l) (hl : l.length ≤ 5000000) {K : KV}
  (h : ∀ w' lv k, St w0 w' (mn lv (vv l).1 :: R) → K (.tuple #[lv, .int .i64 ((vv l).2 : Nat), .int .i64 k]) w') : gi P F.fg [v] w K := by
 rw [M.cn.fcall]
 apply M.cn.calls
 unfold M.cn
 rw [gp]
 have h0 : AlI w0 l R [undef, undef, undef, .slice none 0 0, .int .i64 ((0 : Nat) : Int), .int .i64 0] w := by
  refine ⟨_, _, _, _, _, [], 0, l.length + 1, rfl, Nat.zero_le _, by omega, by simp, ?_, awm S⟩
  rw [List.nil_append]
  exact (Prod.eta _).symm
 refine ⟨AlI w0 l R, fun x _ => l.length - ms x 4, h0, ?_⟩
 rintro x w1 ⟨u0, u1, u2, u5, lv, acc, iz, f, rfl, hu, hf, ha, heq, S1⟩
 have q3 : gv [u0, u1, u2, lv, .int .i64 (iz : Nat), u5] 3 = lv := rfl
 have q4 : gv [u0, u1, u2, lv, .int .i64 (iz : Nat), u5] 4 = .int .i64 (iz : Nat) := rfl
 have q5 : gv [u0, u1, u2, lv, .int .i64 (iz : Nat), u5] 5 = u5 := rfl
 have s1 := hs w1 [_] S1
 have hlen : ∀ w' K', biT P .len #[T.f] T.b [false] [v] w' K' = K' (.int .i64 l.length) w' := fun w' K' => s1.iy (by kernel_rfl) [false]
 unfold M.cn.j1
 simp only [gp, q4, hlen, lh]
 cases f with
 | zero => omega
 | succ f =>
  by_cases hul : iz < l.length
  ·rw [decide_eq_true (show (iz : Int) < l.length by omega), Eng.cond_true]
   unfold M.cn.j2
   have hw1 : IntKind.i64.wrap ((iz : Int) + 8192) = ((iz + 8192 : Nat) : Int) := by rw [ia]; omega
   have hw2 : IntKind.i64.wrap (((iz + 8192 : Nat) : Int) + 8) = ((iz + 8200 : Nat) : Int) := by rw [ia]; omega
   simp only [gp, q3, q4, q5, hlen, kz, hw1, hw2, akc]
   obtain ⟨e, he⟩ : ∃ e : Nat, min (l.length : Int) ((iz + 8200 : Nat) : Int) = (e : Int) ∧ iz ≤ e ∧ e ≤ l.length ∧ (l.drop iz).take (e - iz) = (l.drop iz).take 8200 := by
    by_cases hm : l.length ≤ iz + 8200
    ·refine ⟨l.length, by omega, by omega, Nat.le_refl _, ?_⟩
     rw [List.take_of_length_le (by simp), List.take_of_length_le (by simp; omega)]
    ·exact ⟨iz + 8200, by omega, by omega, by omega, by rw [Nat.add_sub_cancel_left]⟩
   obtain ⟨he1, he2, he3, he4⟩ := he
   rw [he1]
   obtain ⟨va, sa, pa, ra⟩ := s1.sub (P := P) (t := T.f) (lo := some (.int .i64 (iz : Nat))) (hi := some (.int .i64 (e : Nat))) (i := iz) (j := e) (by kernel_rfl) (by kernel_rfl) (.inr ⟨_, rfl⟩) (.inr ⟨_, rfl⟩) he2 he3
   rw [ra]
   have hrd : ∀ w' L, St w0 w' (L ++ (mn lv acc :: R)) → SlB w' va ((l.drop iz).take 8200) := fun w' L S' => by
    obtain ⟨vb, sb, _, rb⟩ := (hs w' (L ++ [mn lv acc]) (by simpa using S')).sub (P := P) (t := T.f) (lo := some (.int .i64 (iz : Nat))) (hi := some (.int .i64 (e : Nat))) (i := iz) (j := e) (by kernel_rfl) (by kernel_rfl) (.inr ⟨_, rfl⟩) (.inr ⟨_, rfl⟩) he2 he3
    rw [axf ra rb w', ← he4]; exact sb
   refine bja S1 hrd (by simp; omega) fun w2 dv rv S2 => ?_
   simp only [bbr, bbq, bcq, aiv]
   have hG : zm l (f + 1) iz = match (yk ((l.drop iz).take 8200)).1 with
    | none => ([], iz)
    | some d => (d :: (zm l f (iz + d.length + 8)).1, (zm l f (iz + d.length + 8)).2) := by rw [zm, if_pos hul]
   have hck := bdt ((l.drop iz).take 8200)
   generalize yk ((l.drop iz).take 8200) = c at *
   obtain ⟨co, ck⟩ := c
   rcases hck with ⟨k0, d, hd, hdl⟩ | ⟨k0, hd⟩
   ·simp only at k0 hd hG S2
    subst k0 hd
    simp only [Option.getD_some] at S2 hG
    have hdl' : d.length + 8 ≤ l.length - iz := by simp at hdl; omega
    obtain ⟨da, dc, hdv, _⟩ : SlB w2 dv d := S2.row jr
    simp
    unfold M.cn.j3
    have hsv : dv = SV.v ⟨da, d.length, dc⟩ := hdv
    have hdlen : ∀ w' K', biT P .len #[T.f] T.b [false] [dv] w' K' = K' (.int .i64 d.length) w' := fun w' K' => (S2.row jr : SlB w2 dv d).iy (by kernel_rfl) [false]
    have r3 : gv [lv, .int .i64 (iz : Nat), u5] 0 = lv := rfl
    have r4 : gv [lv, .int .i64 (iz : Nat), u5] 1 = .int .i64 (iz : Nat) := rfl
    have r5 : gv [lv, .int .i64 (iz : Nat), u5] 2 = u5 := rfl
    have hw3 : IntKind.i64.wrap ((d.length : Int) + 8) = ((d.length + 8 : Nat) : Int) := by rw [ia]; omega
    have hw4 : IntKind.i64.wrap ((iz : Int) + ((d.length + 8 : Nat) : Int)) = ((iz + d.length + 8 : Nat) : Int) := by rw [ia]; omega
    simp only [r3, r4, r5, hdlen, kz, hw3, hw4]
    rw [hsv] at S2 ⊢
    refine ahe S2 (by omega) fun w3 v3 S3 => ?_
    refine ⟨⟨_, _, _, _, v3, acc ++ [d], iz + d.length + 8, f, rfl, by omega, by omega, by simp; omega, ?_, S3⟩, ?_⟩
    ·rw [heq, hG]; simp
    ·simp [ms, gv]; omega
   ·simp only at k0 hd hG S2
    subst hd
    rw [heq, hG, List.append_nil] at h
    rw [decide_eq_true k0, Eng.cond_true]
    exact h w2 lv ck S2.drop
  ·rw [decide_eq_false (show ¬ (iz : Int) < l.length by omega), Eng.cond_false]
   have hG : zm l (f + 1) iz = ([], iz) := by rw [zm, if_neg hul]
   rw [heq, hG, List.append_nil] at h
   exact h w1 lv 0 S1
end
def cat (ds : List (List Int)) : List Int := ds.flatMap ji
theorem bck {n : Nat} (hn : n < 4294967296) (r : List Int) (k : Nat) (hk : 4 ≤ k) : yn ((wi (n : Int) ++ r).take k) = n := by
 have e : (wi (n : Int) ++ r).take k = wi (n : Int) ++ r.take (k - 4) := by
  rw [List.take_append, List.take_of_length_le (by rw [ta]; omega), ta]
 rw [e, aha hn]
theorem bdl {d : List Int} (hd : d.length ≤ 8192) (r : List Int) : yk (ji d ++ r) = (some d, 0) := by
 have hl := ny d
 have hb : (wt d).length = 4 + d.length := by unfold wt; simp [ta]
 have hu : yn (ji d ++ r) = (d.length : Int) := by
  unfold ji wt
  rw [List.append_assoc, List.append_assoc]
  exact aha (by omega) _
 unfold yk
 rw [hu, if_neg (by simp; omega), if_neg (by omega), if_neg (by simp; omega), Int.toNat_natCast]
 have e1 : (ji d ++ r).take (4 + d.length) = wt d := by
  unfold ji
  rw [List.append_assoc, List.take_left' hb]
 have e2 : yn ((ji d ++ r).drop (4 + d.length)) = aat (wt d) := by
  unfold ji
  rw [List.append_assoc, List.drop_left' hb]
  obtain ⟨n, hn, hn2⟩ := auq (wt d)
  rw [hn]; exact aha hn2 r
 have e3 : ((ji d ++ r).drop 4).take d.length = d := by
  unfold ji wt
  rw [List.append_assoc, List.append_assoc, List.drop_left' (ta _), List.take_left' rfl]
 rw [e1, e2, if_neg (by simp), e3]
theorem bia {d : List Int} (hd : d.length ≤ 8192) {k : Nat} (hk : k < (ji d).length) : (yk ((ji d).take k)).1 = none := by
 have hl := ny d
 unfold yk
 by_cases h4 : k < 4
 ·rw [if_pos (by simp; omega)]
 ·have hu : yn ((ji d).take k) = (d.length : Int) := by
   unfold ji wt
   rw [List.append_assoc]
   exact bck (by omega) _ k (by omega)
  rw [if_neg (by simp; omega), hu, if_neg (by omega), if_pos (by simp; omega)]
def ahk (p : List Int) : Prop := ∃ (d : List Int) (k : Nat), d.length ≤ 8192 ∧ k < (ji d).length ∧ p = (ji d).take k
theorem aqn : ahk [] := ⟨[], 0, by simp, by rw [ny]; simp, by simp⟩
theorem bii {ds : List (List Int)} (hd : ∀ d ∈ ds, d.length ≤ 8192) {p : List Int} (hp : ahk p) : ∀ (a : List Int) (f : Nat), (a ++ cat ds ++ p).length < f + a.length → zm (a ++ cat ds ++ p) f a.length = (ds, (a ++ cat ds).length) := by
 induction ds with
 | nil =>
  intro a f hf
  simp only [cat, List.flatMap_nil, List.append_nil]
  cases f with
  | zero => simp [cat] at hf; omega
  | succ f =>
   rw [zm]
   by_cases hlt : a.length < (a ++ p).length
   ·rw [if_pos hlt, List.drop_left' rfl]
    obtain ⟨d, k, h1, h2, rfl⟩ := hp
    have hl := ny d
    rw [List.take_take, bia h1 (by omega)]
   ·rw [if_neg hlt]
 | cons d ds ih =>
  intro a f hf
  have hdd := hd d (by simp)
  have hl := ny d
  have e0 : cat (d :: ds) = ji d ++ cat ds := by simp [cat]
  rw [e0] at hf ⊢
  cases f with
  | zero => simp at hf; omega
  | succ f =>
   rw [zm, if_pos (by simp; omega)]
   have e1 : ((a ++ (ji d ++ cat ds) ++ p).drop a.length).take 8200 = ji d ++ (cat ds ++ p).take (8200 - (ji d).length) := by
    rw [List.append_assoc, List.drop_left' rfl, List.append_assoc, List.take_append, List.take_of_length_le (by omega)]
   rw [e1, bdl hdd]
   have e2 : a ++ (ji d ++ cat ds) ++ p = (a ++ ji d) ++ cat ds ++ p := by simp
   have e3 : a.length + d.length + 8 = (a ++ ji d).length := by simp; omega
   have := ih (fun x hx => hd x (by simp [hx])) (a ++ ji d) f (by rw [e2] at hf; simp at hf ⊢; omega)
   simp only
   rw [e2, e3, this]
   simp [cat]
theorem aum {ds : List (List Int)} (hd : ∀ d ∈ ds, d.length ≤ 8192) {p : List Int} (hp : ahk p) : vv (cat ds ++ p) = (ds, (cat ds).length) := by
 have := bii hd hp [] ((cat ds ++ p).length + 1) (by simp)
 simpa [vv] using this
open Go.Eng
def qe (p : Nat) : List Value := [.pointer (some ⟨p, 0, none⟩)]
theorem yt (p : Nat) : (qe p).length = 1 := rfl
theorem bfe (p : Nat) : ∀ u ∈ qe p, kh u = true := fun u hu => by simp [qe] at hu; subst hu; rfl
structure Prt where
 no : Int
 first : Int
 iu : List (List Int)
 size : Int
structure Lg where
 ik : Int
 gy : List Prt
def uk (q : Prt) (v : Value) : Array Value := #[.int .i64 q.no, .int .i64 q.first, v, .int .i64 q.size]
def bhu (p : Nat) (v : Value) (q : Prt) : List Asn := [ii p (uk q v) T.ac, mn v q.iu]
def pd (p : Nat) (q : Prt) : Asn where
 ok w B := ∃ v, Rs (bhu p v q) w B
 jy := by
  rintro w w' B S ⟨v, h⟩ hf hn
  exact ⟨v, h.jy hf hn⟩
def jx (p : Nat) : Value := .pointer (some ⟨p, 0, none⟩)
def pu (hb : Nat) (ik : Int) (v : Value) : Array Value := #[.pointer (some ⟨hb, 0, none⟩), .int .i64 ik, v]
def bex (p hb : Nat) (v : Value) (ps : List Nat) (L : Lg) : List Asn := [ii p (pu hb L.ik v) T.ab, Eng.lq T.aa 1 qe v ps, vn pd ps L.gy]
def mi (p hb : Nat) (L : Lg) : Asn where
 ok w B := ∃ v ps, ps.length = L.gy.length ∧ Rs (bex p hb v ps L) w B
 jy := by
  rintro w w' B S ⟨v, ps, h1, h2⟩ hf hn
  exact ⟨v, ps, h1, h2.jy hf hn⟩
def Lg.next (L : Lg) : Int := match L.gy.getLast? with
 | none => 0
 | some q => IntKind.i64.wrap (q.first + q.iu.length)
section
variable {w0 w : World} {R : List Asn} {p hb : Nat} {v : Value} {ps : List Nat} {L : Lg} {q : Prt}
theorem zw (S : St w0 w (pd p q :: R)) : ∃ v, St w0 w (ii p (uk q v) T.ac :: mn v q.iu :: R) := by
 obtain ⟨B, ⟨v, h⟩, _, cl⟩ := S.open
 exact ⟨v, cl w (bhu p v q) (Fr.refl _ _) (h.mono fun b hb => .inl hb)⟩
theorem alj (S : St w0 w (ii p (uk q v) T.ac :: mn v q.iu :: R)) : St w0 w (pd p q :: R) := by
 obtain ⟨U, h1, _, g⟩ := St.abq (L := bhu p v q) (R := R) S
 exact g w [pd p q] (Fr.refl _ _) ⟨U, ⟨v, h1⟩, fun b hb => .inl hb, trivial⟩
theorem aqa (S : St w0 w (mi p hb L :: R)) : ∃ v ps, ps.length = L.gy.length ∧ St w0 w (ii p (pu hb L.ik v) T.ab :: Eng.lq T.aa 1 qe v ps :: vn pd ps L.gy :: R) := by
 obtain ⟨B, ⟨v, ps, h1, h2⟩, _, cl⟩ := S.open
 exact ⟨v, ps, h1, cl w (bex p hb v ps L) (Fr.refl _ _) (h2.mono fun b hb => .inl hb)⟩
theorem aan (h : ps.length = L.gy.length) (S : St w0 w (ii p (pu hb L.ik v) T.ab :: Eng.lq T.aa 1 qe v ps :: vn pd ps L.gy :: R)) : St w0 w (mi p hb L :: R) := by
 obtain ⟨U, h1, _, g⟩ := St.abq (L := bex p hb v ps L) (R := R) S
 exact g w [mi p hb L] (Fr.refl _ _) ⟨U, ⟨v, ps, h, h1⟩, fun b hb => .inl hb, trivial⟩
theorem qj {ik : Int} (h : w.heap[p]? = some (.cells (pu hb ik v) T.ab (0, 0))) : gr w p 0 = some (.pointer (some ⟨hb, 0, none⟩)) ∧ gr w p 1 = some (.int .i64 ik) ∧ gr w p 2 = some v ∧ ∀ i, qx w p i = false :=
 ⟨by rw [gt h]; rfl, by rw [gt h]; rfl, by rw [gt h]; rfl, nw h⟩
theorem na (h : w.heap[p]? = some (.cells (uk q v) T.ac (0, 0))) : gr w p 0 = some (.int .i64 q.no) ∧ gr w p 1 = some (.int .i64 q.first) ∧ gr w p 2 = some v ∧ gr w p 3 = some (.int .i64 q.size) ∧ ∀ i, qx w p i = false :=
 ⟨by rw [gt h]; rfl, by rw [gt h]; rfl, by rw [gt h]; rfl, by rw [gt h]; rfl, nw h⟩
theorem atj (S : St w0 w (Eng.lq T.aa 1 qe v ps :: R)) {j : Nat} (hj : j < ps.length) : ∃ b o, (∀ w' K, iaT P T.v v (.int .i64 (j : Nat)) w' K = K (.pointer (some ⟨b, o, none⟩)) w') ∧ ∀ {w1 : World} {R1 : List Asn}, St w0 w1 (Eng.lq T.aa 1 qe v ps :: R1) → gr w1 b o = some (jx ps[j]) := by
 obtain ⟨b, o, cap, hv, _, _, hc⟩ := (S.lq yt : Sl w 1 qe v ps).at hj
 refine ⟨b, o + j, fun w' K => by rw [hv]; simp [hj], fun {w1 R1} S1 => ?_⟩
 obtain ⟨b', o', cap', hv', _, _, hc'⟩ := (S1.lq yt : Sl w1 1 qe v ps).at hj
 have hx := hv.symm.trans hv'
 cases hx
 have c0 := hc' 0 _ rfl
 simp only [Nat.mul_one, Nat.add_zero] at c0
 exact c0
theorem adh (S : St w0 w (Eng.lq T.aa 1 qe v ps :: R)) (w' : World) (K : KV) : biT P .len #[T.v] T.b [false] [v] w' K = K (.int .i64 ps.length) w' := by rw [(S.lq yt : Sl w 1 qe v ps).iy (by kernel_rfl)]
theorem act (hl : ps.length = L.gy.length) (S : St w0 w (ii p (pu hb L.ik v) T.ab :: Eng.lq T.aa 1 qe v ps :: R)) (hfew : ps.length ≤ 1000000) {K : KV} (h0 : ps = [] → K (.pointer none) w) (h1 : ∀ (hp : 0 < ps.length) w', Fz w w' → K (jx (ps[ps.length - 1]'(by omega))) w') : gi P F.cc [jx p] w K := by
 rw [M.cu.fcall]
 apply M.cu.calls
 unfold M.cu jx
 obtain ⟨c0, c1, c2, _⟩ := qj S.blk
 have hlen := fun w' K => adh S.swap w' K
 by_cases hz : ps.length = 0
 ·simp [c2, hlen, hz]
  exact h0 (List.length_eq_zero_iff.1 hz)
 ·have hp : 0 < ps.length := by omega
  have hz' : ¬ ps = [] := fun h => hz (by rw [h]; rfl)
  obtain ⟨b, o, hia, hc⟩ := atj S.swap (j := ps.length - 1) (by omega)
  have cc : gr w b o = some (jx (ps[ps.length - 1]'(by omega))) := hc S.swap
  have hw : IntKind.i64.wrap ((ps.length : Int) - 1) = ((ps.length - 1 : Nat) : Int) := by rw [ia]; omega
  simp [c2, hlen, hz']
  unfold M.cu.j0
  simp [c2, hlen, hw, hia, cc]
  exact h1 hp _ ((Fr.refl _ w).dr 1)
theorem adu {qs : List Prt} (h : 0 < qs.length) : qs.getLast? = some (qs[qs.length - 1]'(by omega)) := by
 rw [List.getLast?_eq_getElem?, List.getElem?_eq_getElem (by omega)]
theorem auz (hl : ps.length = L.gy.length) (S : St w0 w (ii p (pu hb L.ik v) T.ab :: Eng.lq T.aa 1 qe v ps :: vn pd ps L.gy :: R)) (hfew : ps.length ≤ 1000000) {K : KV} (h : ∀ w', Fz w w' → K (.int .i64 L.next) w') : gi P F.ec [jx p] w K := by
 rw [M.ct.fcall]
 apply M.ct.calls
 unfold M.ct
 refine act hl S hfew (fun hz => ?_) fun hp w1 f1 => ?_
 ·have : L.gy = [] := List.length_eq_zero_iff.1 (by rw [← hl, hz]; rfl)
  have hn : L.next = 0 := by unfold Lg.next; rw [this]; rfl
  rw [hn] at h
  simp
  exact h w (Fr.refl _ _)
 ·have hj : ps.length - 1 < L.gy.length := by omega
  have S1 := S.jo f1
  obtain ⟨v', S2⟩ := zw (acu hl hj S1.up2)
  obtain ⟨_, d1, d2, _, _⟩ := na S2.blk
  have hn : L.next = IntKind.i64.wrap ((L.gy[ps.length - 1]).first + (L.gy[ps.length - 1]).iu.length) := by
   unfold Lg.next
   rw [adu (by omega)]
   simp only [hl]
  rw [hn] at h
  generalize L.gy[ps.length - 1] = q at *
  have hlen := fun w' K => aff S2.swap w' K
  simp only [jx]
  simp
  unfold M.ct.j0
  simp [d1, d2, hlen]
  exact h _ (f1.dr 1)
def Lg.nl (L : Lg) (D : Dk) : Dk × Int := if D.je then (D, 10) else match L.gy.getLast? with
 | none => (D, 0)
 | some q => D.nl q.no
theorem aua {D : Dk} (S : St w0 w (mi p hb L :: il hb D :: R)) (hfew : L.gy.length ≤ 1000000) {K : KV} (h : ∀ w', St w0 w' (mi p hb L :: il hb (L.nl D).1 :: R) → K (.int .i64 (L.nl D).2) w') : gi P F.eb [jx p] w K := by
 obtain ⟨v, ps, hl, S1⟩ := aqa S
 rw [M.cs.fcall]
 apply M.cs.calls
 unfold M.cs
 obtain ⟨c0, c1, c2, _⟩ := qj S1.blk
 simp only [jx]
 simp [c0]
 refine amx S1.up3 ?_
 unfold Lg.nl at h
 cases hd : D.je with
 | true =>
  rw [hd] at h
  simp
  exact h w S
 | false =>
  rw [hd] at h
  simp only [Bool.false_eq_true, if_false] at h
  simp
  refine act hl S1 (by omega) (fun hz => ?_) fun hp w1 f1 => ?_
  ·have : L.gy = [] := List.length_eq_zero_iff.1 (by rw [← hl, hz]; rfl)
   rw [this] at h
   simp
   exact h w S
  ·simp only [jx]
   simp
   unfold M.cs.j0
   have S2 := S1.jo f1
   obtain ⟨e0, _, _, _⟩ := qj S2.blk
   have S3 := S2.jo ((Fr.refl _ w1).dr 1)
   simp [e0]
   refine act hl S3 (by omega) (fun hz => by rw [hz] at hp; simp at hp) fun hp w2 f2 => ?_
   have S4 := S3.jo f2
   obtain ⟨g0, _, _, _⟩ := qj S4.blk
   have hj : ps.length - 1 < L.gy.length := by omega
   obtain ⟨v', S5⟩ := zw (acu hl hj S4.up2)
   obtain ⟨d0, _, _, _, _⟩ := na S5.blk
   have hgl : L.gy.getLast? = some (L.gy[ps.length - 1]) := by rw [adu (by omega)]; simp only [hl]
   rw [hgl] at h
   simp only at h
   simp [jx, g0, d0]
   refine axr S4.up3 _ fun w3 S6 => ?_
   exact h w3 (aan hl S6.dn3)
end
def Lg.all (L : Lg) : List (List Int) := L.gy.flatMap Prt.iu
section
variable {w0 w : World} {R : List Asn} {p hb : Nat} {v : Value} {ps : List Nat} {L : Lg} {q : Prt}
theorem arl {l : List Int} (S : St w0 w (ki v l :: R)) : ∃ s : SV, v = s.v := by
 obtain ⟨a, c, hv, _⟩ : SlB w v l := S.row jr
 exact ⟨⟨a, l.length, c⟩, hv⟩
def RiI (w0 : World) (rv : Value) (acc ls : List (List Int)) (R : List Asn) : KL := fun x w1 => ∃ (u0 av : Value) (j : Nat), x = [u0, av, .int .i64 (j : Nat)] ∧ j ≤ ls.length ∧ St w0 w1 (mn av (acc ++ ls.take j) :: mn rv ls :: R)
def RoI (w0 : World) (p hb : Nat) (L : Lg) (v : Value) (ps : List Nat) (R : List Asn) : KL := fun x w1 => ∃ (u0 u1 u2 u3 u4 av : Value) (i : Nat), x = [u0, u1, u2, u3, u4, av, .int .i64 (i : Nat)] ∧ i ≤ L.gy.length ∧
 St w0 w1 (mn av ((L.gy.take i).flatMap Prt.iu) :: ii p (pu hb L.ik v) T.ab :: Eng.lq T.aa 1 qe v ps :: vn pd ps L.gy :: R)
theorem bkh {qs : List Prt} {i : Nat} (hi : i < qs.length) (j : Nat) : ((qs.take i).flatMap Prt.iu ++ (qs[i].iu).take j).length ≤ (qs.flatMap Prt.iu).length := by
 have e : qs.flatMap Prt.iu = (qs.take i).flatMap Prt.iu ++ (qs[i].iu ++ (qs.drop (i + 1)).flatMap Prt.iu) := by
  conv => lhs; rw [← List.take_append_drop i qs, List.drop_eq_getElem_cons hi]
  rw [List.flatMap_append, List.flatMap_cons]
 rw [e]
 simp only [List.length_append, List.length_take]
 omega
theorem bjz (S : St w0 w (mi p hb L :: R)) (hfew : L.gy.length ≤ 1000000) (hall : L.all.length ≤ 1000000) (hrec : ∀ q ∈ L.gy, ∀ d ∈ q.iu, d.length ≤ 100000000) {K : KV} (h : ∀ w' v', St w0 w' (mn v' L.all :: mi p hb L :: R) → K v' w') : gi P F.cu [jx p] w K := by
 obtain ⟨v, ps, hl, S1⟩ := aqa S
 rw [M.ao.fcall]
 apply M.ao.calls
 unfold M.ao jx
 obtain ⟨c0, c1, c2, _⟩ := qj S1.blk
 have hlen := fun w' K => adh S1.swap w' K
 simp
 unfold M.ao.j0
 simp [c2, hlen]
 have S2 := awm S1
 refine ⟨RoI w0 p hb L v ps R, fun x _ => L.gy.length - ms x 6, ⟨_, _, _, _, _, _, 0, rfl, Nat.zero_le _, S2⟩, ?_⟩
 rintro x w1 ⟨u0, u1, u2, u3, u4, av, i, rfl, hi, S3⟩
 by_cases hlt : i < L.gy.length
 ·have hltp : i < ps.length := by omega
  have hlti : (i : Int) < (ps.length : Int) := by omega
  obtain ⟨b, o, hia, hc⟩ := atj S3.up2 (j := i) hltp
  have cc : gr w1 b o = some (jx ps[i]) := hc S3.up2
  simp [hlti]
  unfold M.ao.j3
  obtain ⟨rv, S4⟩ := zw (acu hl hlt S3.up3)
  obtain ⟨_, _, d2, _, _⟩ := na S4.blk
  have hq2 := hrec _ (List.getElem_mem hlt : L.gy[i] ∈ L.gy)
  have hrl : ∀ j, ((L.gy.take i).flatMap Prt.iu ++ (L.gy[i].iu).take j).length ≤ 1000000 := fun j => Nat.le_trans (bkh hlt j) hall
  have hnext : (L.gy.take i).flatMap Prt.iu ++ L.gy[i].iu = (L.gy.take (i + 1)).flatMap Prt.iu := by rw [List.take_succ_eq_append_getElem hlt, List.flatMap_append]; simp
  have S5 : St w0 w1 (mn av ((L.gy.take i).flatMap Prt.iu) :: mn rv L.gy[i].iu :: ii ps[i] (uk L.gy[i] rv) T.ac :: akk pd ps L.gy i :: ii p (pu hb L.ik v) T.ab :: Eng.lq T.aa 1 qe v ps :: R) := S4.up3.perm (.cons _ (.swap _ _ _))
  have hback : ∀ {w2 : World} {av' : Value} {A : List (List Int)}, St w0 w2 (mn av' A :: mn rv L.gy[i].iu :: ii ps[i] (uk L.gy[i] rv) T.ac :: akk pd ps L.gy i :: ii p (pu hb L.ik v) T.ab :: Eng.lq T.aa 1 qe v ps :: R) → St w0 w2 (mn av' A :: ii p (pu hb L.ik v) T.ab :: Eng.lq T.aa 1 qe v ps :: vn pd ps L.gy :: R) := fun T => (bfq hl hlt (alj (St.dn3 (T.perm (.cons _ (.swap _ _ _)))))).dn3
  generalize (L.gy.take i).flatMap Prt.iu = A at *
  generalize hrs : L.gy[i].iu = rs at *
  generalize ii ps[i] (uk L.gy[i] rv) T.ac :: akk pd ps L.gy i :: ii p (pu hb L.ik v) T.ab :: Eng.lq T.aa 1 qe v ps :: R = R' at S5 hback
  have hlen2 := fun w' K => aff S5.swap w' K
  simp only [jx] at cc d2
  simp [jx, hia, cc, d2, hlen2]
  have h0 : RiI w0 rv A rs R' [gv [u0, u1, u2, u3, u4, av, .int .i64 (i : Nat)] 4, gv [u0, u1, u2, u3, u4, av, .int .i64 (i : Nat)] 5, .int .i64 ((0 : Nat) : Int)] w1 := ⟨_, _, 0, rfl, Nat.zero_le _, by rw [List.take_zero, List.append_nil]; exact S5⟩
  refine ⟨RiI w0 rv A rs R', fun x _ => rs.length - ms x 2, h0, ?_⟩
  rintro x w2 ⟨t0, bv, j, rfl, hj, S6⟩
  by_cases hltj : j < rs.length
  ·have hltji : (j : Int) < (rs.length : Int) := by omega
   obtain ⟨b2, o2, s, hia2, _, hc2, hs2⟩ := aim S6.swap hltj
   simp [hltji]
   unfold M.ao.j6
   simp only [SV.v] at hc2
   simp [hia2, hc2]
   refine wy S6 hs2 (hq2 _ (List.getElem_mem hltj)) fun w3 v3 S7 => ?_
   obtain ⟨s3, rfl⟩ := arl S7
   refine ahe S7 (Nat.le_trans (by simp) (hrl j)) fun w4 v4 S8 => ?_
   rw [List.append_assoc, ← List.take_succ_eq_append_getElem hltj] at S8
   have hw : IntKind.i64.wrap ((j : Int) + 1) = ((j + 1 : Nat) : Int) := by have := hrl rs.length; simp at this; rw [ia]; omega
   try simp
   rw [hw]
   refine ⟨⟨_, _, j + 1, rfl, hltj, S8⟩, ?_⟩
   simp [ms, gv]; omega
  ·have hge : ¬ (j : Int) < (rs.length : Int) := by omega
   simp [hge]
   have hw : IntKind.i64.wrap ((i : Int) + 1) = ((i + 1 : Nat) : Int) := by rw [ia]; omega
   rw [hw]
   rw [List.take_of_length_le (by omega), hnext] at S6
   refine ⟨⟨_, _, _, _, _, _, i + 1, rfl, hlt, hback S6⟩, ?_⟩
   simp [ms, gv]; omega
 ·have hge : ¬ (i : Int) < (ps.length : Int) := by omega
  simp [hge]
  have he : (L.gy.take i).flatMap Prt.iu = L.all := by rw [List.take_of_length_le (by omega)]; rfl
  rw [he] at S3
  exact h w1 av (aan hl S3.dn3).swap
end
section
variable {w0 w : World} {R : List Asn} {p hb : Nat} {v : Value} {ps : List Nat} {L : Lg} {q : Prt} {D : Dk}
theorem aem {cs cs' : Array Value} {e : TypeId} {b i : Nat} {u : Value} (S : St w0 w (ii b cs e :: R)) (hc : cs.setIfInBounds i u = cs') : St w0 (w.setCell ⟨b, i, none⟩ u) (ii b cs' e :: R) :=
 S.nb ((Fr.refl (fun x => x = b) w).setCell (.inl rfl) _ _) ((nj S.blk).trans (by rw [hc]))
end
def nv (n : Int) : List Int := ji (lw (IntKind.u64.wrap n))
theorem agv (n : Int) : (nv n).length = 16 := by unfold nv; rw [ny, lx]
def Lg.aba (L : Lg) (D : Dk) (rec : List Int) (no : Int) : (Lg × Dk) × Int :=
 if (D.append no (nv L.next ++ ji rec)).2 = 0 then (({ L with gy := L.gy ++ [⟨no, L.next, [rec], (nv L.next ++ ji rec).length⟩] }, (D.append no (nv L.next ++ ji rec)).1), 0)
 else ((L, (D.append no (nv L.next ++ ji rec)).1), (D.append no (nv L.next ++ ji rec)).2)
def Lg.aai (L : Lg) (D : Dk) (rec : List Int) : (Lg × Dk) × Int := match L.gy.getLast? with
 | none => L.aba D rec 0
 | some q => if 63 ≤ L.gy.length then ((L, D), 9) else if (D.nl q.no).2 = 0 then L.aba (D.nl q.no).1 rec ((q.no + 1) % 64) else ((L, (D.nl q.no).1), (D.nl q.no).2)
def Prt.ru (q : Prt) (rec : List Int) : Prt := { q with iu := q.iu ++ [rec], size := q.size + (ji rec).length }
def Lg.append (L : Lg) (D : Dk) (rec : List Int) : (Lg × Dk) × Int :=
 if 8192 < rec.length then ((L, D), 4) else match L.gy.getLast? with
 | none => L.aai D rec
 | some q => if L.ik ≤ q.size then L.aai D rec else if (D.append q.no (ji rec)).2 = 0 then (({ L with gy := L.gy.set (L.gy.length - 1) (q.ru rec) }, (D.append q.no (ji rec)).1), 0)
  else ((L, (D.append q.no (ji rec)).1), (D.append q.no (ji rec)).2)
structure LgB (L : Lg) : Prop where
 few : L.gy.length ≤ 64
 rng : ∀ q ∈ L.gy, 0 ≤ q.no ∧ q.no < 64
 iu : ∀ q ∈ L.gy, q.iu.length ≤ 1000000
 size : ∀ q ∈ L.gy, 0 ≤ q.size ∧ q.size ≤ 10000000
section
variable {w0 w : World} {R : List Asn} {p hb np : Nat} {v lv fv : Value} {ps : List Nat} {L : Lg} {q : Prt} {D : Dk} {rec : List Int} {no : Int}
theorem up5 {a b c d e f : Asn} (h : St w0 w (a :: b :: c :: d :: e :: f :: R)) : St w0 w (f :: a :: b :: c :: d :: e :: R) := h.perm (List.perm_middle (l₁ := [a, b, c, d, e]))
theorem dn5 {a b c d e f : Asn} (h : St w0 w (f :: a :: b :: c :: d :: e :: R)) : St w0 w (a :: b :: c :: d :: e :: f :: R) := h.perm (List.perm_middle (l₁ := [a, b, c, d, e])).symm
theorem up6 {a b c d e f g : Asn} (h : St w0 w (a :: b :: c :: d :: e :: f :: g :: R)) : St w0 w (g :: a :: b :: c :: d :: e :: f :: R) := h.perm (List.perm_middle (l₁ := [a, b, c, d, e, f]))
theorem dn6 {a b c d e f g : Asn} (h : St w0 w (g :: a :: b :: c :: d :: e :: f :: R)) : St w0 w (a :: b :: c :: d :: e :: f :: g :: R) := h.perm (List.perm_middle (l₁ := [a, b, c, d, e, f])).symm
theorem aet (S : St w0 w R) (cs : Array Value) (e : TypeId) : St w0 (w.alloc (.cells cs e)) (ii w.heap.size cs e :: R) := S.add ((Fr.refl _ w).alloc _) (B := fun x => x = w.heap.size) ⟨by rw [iq, if_pos rfl], rfl⟩ fun x hx => by subst hx; rw [ju]; omega
theorem bgz {s : SV} {d : List Int} (S : St w0 w (ki s.v d :: R)) {K : KV} (h : ∀ w' s', St w0 w' (mn (SV.v s') [d] :: R) → K s'.v w') : bsT P T.l 1 #[(0, s.v)] w K := by
 have hbs : ∀ K', bsT P T.l 1 #[(0, s.v)] w K' = K' (.slice (some ⟨w.heap.size, 0, none⟩) 1 1) (w.alloc (.cells #[s.v] T.f)) := fun K' => by unfold SV.v; simp
 rw [hbs]
 have S2 : St w0 (w.alloc (.cells #[s.v] T.f)) (ni T.f 1 qq (.slice (some ⟨w.heap.size, 0, none⟩) 1 1) [s] :: ki s.v d :: R) := St.uo (l := [s]) S uj rfl (by unfold maxLen; simp)
 have T1 : St w0 (w.alloc (.cells #[s.v] T.f)) (pt (qa [s] [d]) :: Eng.lq T.f 1 qq (.slice (some ⟨w.heap.size, 0, none⟩) 1 1) [s] :: R) := St.all.2 S2.off.swap
 exact h _ ⟨some ⟨w.heap.size, 0, none⟩, 1, 1⟩ (alu (vs := [s]) rfl T1.swap)
theorem axo {ls : List (List Int)} (S : St w0 w (mn lv ls :: R)) : ∃ s : SV, lv = s.v := by
 obtain ⟨a, c, hv⟩ := bbd S
 exact ⟨⟨a, _, c⟩, hv⟩
theorem yj {l : List Int} (S : St w0 w (ki v l :: R)) (w' : World) (K : KV) : biT P .len #[T.f] T.b [false] [v] w' K = K (.int .i64 l.length) w' := (S.row jr : SlB w v l).iy (by kernel_rfl) [false]
def bgL (np p hb : Nat) (lv : Value) (no : Int) (rec : List Int) (v : Value) (ps : List Nat) (L : Lg) (D : Dk) (R : List Asn) : List Asn :=
 ii np (uk ⟨no, L.next, [rec], 0⟩ lv) T.ac :: mn lv [rec] :: ii p (pu hb L.ik v) T.ab :: Eng.lq T.aa 1 qe v ps :: vn pd ps L.gy :: il hb D :: R
theorem apb (hl : ps.length = L.gy.length) (hb64 : L.gy.length ≤ 1000000) (S : St w0 w (pd np q :: ii p (pu hb L.ik v) T.ab :: Eng.lq T.aa 1 qe v ps :: vn pd ps L.gy :: R)) {Q : World → Prop} (h : ∀ w', St w0 w' (mi p hb { L with gy := L.gy ++ [q] } :: R) → Q w') :
  ld1 P p 2 w fun t87 w => biT P .append #[T.v, T.v] T.v [false, false] [t87, .slice (some ⟨w.heap.size, 0, none⟩) 1 1] (w.alloc (.cells #[.pointer (some ⟨np, 0, none⟩)] T.aa)) fun t90 w => stT P T.v (.pointer (some ⟨p, 2, none⟩)) t90 w fun _ w => Q w := by
 obtain ⟨_, _, c2, _⟩ := qj S.swap.blk
 have S1 := (bih hl S.up3.swap).up2
 simp [c2]
 have S2 : St w0 (w.alloc (.cells #[.pointer (some ⟨np, 0, none⟩)] T.aa)) (ni T.aa 1 qe (.slice (some ⟨w.heap.size, 0, none⟩) 1 1) [np] :: _) := St.uo (l := [np]) S1 yt rfl (by unfold maxLen; simp)
 refine art et.v yt bfe S2.swap (S2.row yt) (by simp; omega) (by decide) fun w2 v2 S3 => ?_
 have S4 := S3.swap.drop
 obtain ⟨a', cap', hv', _⟩ := (S4.lq yt : Sl w2 1 qe v2 (ps ++ [np]))
 generalize hln : (ps ++ [np]).length = n1 at hv'
 subst hv'
 obtain ⟨_, _, g2, gz⟩ := qj S4.up2.blk
 simp [gz, g2]
 have S5 := aem (cs' := pu hb L.ik (.slice a' n1 cap')) (i := 2) (u := .slice a' n1 cap') S4.up2 rfl
 exact h _ (aan (L := { L with gy := L.gy ++ [q] }) (by simp [hl]) S5)
theorem aod (S : St w0 w (bgL np p hb lv no rec v ps L D R)) (hl : ps.length = L.gy.length) (hb64 : L.gy.length ≤ 1000000) (hrec : rec.length ≤ 8192) (hfs : ∀ w' L', St w0 w' (L' ++ R) → SlB w' fv (ji rec)) {x0 : List Value} {K : KV}
  (h : ∀ w', St w0 w' (mi p hb (L.aba D rec no).1.1 :: il hb (L.aba D rec no).1.2 :: R) → K (.int .i64 (L.aba D rec no).2) w') : M.ak.j0 (jx np) fv (jx p) x0 w K := by
 unfold bgL at S
 unfold M.ak.j0
 obtain ⟨d0, d1, d2, d3, dz⟩ := na S.blk
 simp only [jx]
 simp [d1]
 refine age (rg S) (by simp) _ fun w1 v1 S1 => ?_
 refine awl S1 (v0 := .slice none 0 0) (l0 := []) (fun _ _ _ => Sl.nil) (fun w' L' S' => (S'.perm List.perm_middle).row jr) (by simp) (by simp [lx]) fun w2 v2 S2 => ?_
 have e : (if 8192 < ([] ++ lw (IntKind.u64.wrap L.next)).length then [] else [] ++ ji ([] ++ lw (IntKind.u64.wrap L.next))) = nv L.next := by
  rw [List.nil_append, List.nil_append, lx, if_neg (by decide)]; rfl
 rw [e] at S2
 simp
 have hF : SlB w2 fv (ji rec) := hfs w2 (ki v2 (nv L.next) :: ki v1 ([] ++ lw (IntKind.u64.wrap L.next)) :: [_, _, _, _, _, _]) S2
 refine aqv S2 (S2.row jr) hF (by rw [agv, ny]; omega) fun w3 v3 S3 => ?_
 have S4 := S3.swap.drop.swap.drop
 unfold Lg.aba at h
 have hcl : (nv L.next ++ ji rec).length ≤ 1000000 := by rw [List.length_append, agv, ny]; omega
 generalize nv L.next ++ ji rec = ct at *
 obtain ⟨c0, c1, c2, cz⟩ := qj S4.up3.blk
 obtain ⟨d0, d1, d2, d3, dz⟩ := na S4.swap.blk
 simp [c0, d0]
 refine aow (up6 (S4.jo ((Fr.refl _ w3).dr 1))) no (l := ct) (fun w' L' S' => (S'.perm List.perm_middle).row jr) (by omega) fun w4 S5 => ?_
 have S6 := dn6 S5
 by_cases hk : (D.append no ct).2 = 0
 ·rw [if_pos hk] at h
  rw [hk]
  simp
  unfold M.ak.j3
  have hlen := fun w' K => yj S6 w' K
  obtain ⟨e0, e1, e2, e3, ez⟩ := na S6.swap.blk
  simp [hlen, ez, e3]
  have S7 := (aem (cs' := uk ⟨no, L.next, [rec], ct.length⟩ lv) (i := 3) (u := .int .i64 ct.length) S6.swap rfl).swap.drop
  exact apb hl hb64 (alj S7) h
 ·rw [if_neg hk] at h
  simp [hk]
  exact h w4 (aan hl S6.drop.drop.drop)
end
section
variable {w0 w : World} {R : List Asn} {p hb np : Nat} {v lv fv av : Value} {ps : List Nat} {L : Lg} {q : Prt} {D : Dk} {rec : List Int} {no : Int}
theorem bdr (hl : ps.length = L.gy.length) (hp : 0 < ps.length) : L.gy.getLast? = some (L.gy[ps.length - 1]'(by omega)) := by rw [adu (by omega)]; simp only [hl]
theorem atl (S : St w0 w (ii p (pu hb L.ik v) T.ab :: Eng.lq T.aa 1 qe v ps :: vn pd ps L.gy :: il hb D :: R)) (hl : ps.length = L.gy.length) (hB : LgB L) (hrec : rec.length ≤ 8192) (hbs : ∀ w' L', St w0 w' (L' ++ R) → SlB w' av rec) (hfs : ∀ w' L', St w0 w' (L' ++ R) → SlB w' fv (ji rec)) {K : KV}
  (h : ∀ w', St w0 w' (mi p hb (L.aai D rec).1.1 :: il hb (L.aai D rec).1.2 :: R) → K (.int .i64 (L.aai D rec).2) w') : gi P F.ep [jx p, av, fv] w K := by
 rw [M.ak.fcall]
 apply M.ak.calls
 unfold M.ak
 have hfew := hB.few
 refine auz hl S (by omega) fun w1 f1 => ?_
 have S1 := S.jo f1
 refine wy S1 (hbs w1 [_, _, _, _] S1) (by omega) fun w2 v2 S2 => ?_
 obtain ⟨s, rfl⟩ := arl S2
 refine bgz S2 fun w3 s3 S3 => ?_
 simp only [SV.v]
 simp
 have S4 : St w0 _ (bgL w3.heap.size p hb s3.v 0 rec v ps L D R) := aet S3 (uk ⟨0, L.next, [rec], 0⟩ s3.v) T.ac
 generalize hnp : w3.heap.size = np at *
 simp only [uk, SV.v] at S4
 generalize w3.alloc (.cells #[.int .i64 0, .int .i64 L.next, .slice s3.a s3.n s3.c, .int .i64 0] T.ac) = w4 at *
 have S5 : St w0 w4 (ii p (pu hb L.ik v) T.ab :: Eng.lq T.aa 1 qe v ps :: ii np (uk ⟨0, L.next, [rec], 0⟩ s3.v) T.ac :: mn s3.v [rec] :: vn pd ps L.gy :: il hb D :: R) := St.up3 (St.up3 S4)
 refine act hl S5 (by omega) (fun hz => ?_) fun hp w5 f5 => ?_
 ·simp
  have : L.gy = [] := List.length_eq_zero_iff.1 (by rw [← hl, hz]; rfl)
  unfold Lg.aai at h
  rw [this] at h
  exact aod S4 hl (by omega) hrec hfs h
 ·simp only [jx]
  simp
  have S6 := S5.jo f5
  obtain ⟨c0, c1, c2, cz⟩ := qj S6.blk
  have hlen := fun w' K => adh S6.swap w' K
  have hgl := bdr hl hp
  have hj : ps.length - 1 < L.gy.length := by omega
  have hqr := hB.rng _ (List.getElem_mem hj)
  unfold Lg.aai at h
  rw [hgl] at h
  simp only at h
  simp [c2, hlen]
  by_cases h63 : 63 ≤ L.gy.length
  ·have h63i : (63 : Int) ≤ (ps.length : Int) := by omega
   rw [if_pos h63] at h
   simp [h63i]
   exact h w5 (aan hl S6.up2.drop.up2.drop)
  ·have h63i : ¬ (63 : Int) ≤ (ps.length : Int) := by omega
   rw [if_neg h63] at h
   simp [h63i]
   unfold M.ak.j1
   obtain ⟨rv, T1⟩ := zw (acu hl hj S6.up4)
   obtain ⟨d0, _⟩ := na T1.blk
   simp [c0, d0]
   refine axr (up5 (S6.jo ((Fr.refl _ w5).dr 1))) _ fun w6 S7 => ?_
   have S8 := dn5 S7
   generalize hqq : L.gy[ps.length - 1] = q at *
   by_cases hk : (D.nl q.no).2 = 0
   ·rw [if_pos hk] at h
    rw [hk]
    simp
    unfold M.ak.j2
    obtain ⟨rv2, T2⟩ := zw (acu hl hj S8.up4)
    rw [hqq] at T2
    obtain ⟨e0, _⟩ := na T2.blk
    obtain ⟨_, _, _, _, nz⟩ := na S8.up2.blk
    obtain ⟨n0, _⟩ := na S8.up2.blk
    have hw : IntKind.i64.wrap (q.no + 1) = q.no + 1 := ia
    simp [e0, hw, awx, nz, n0]
    have S9 := aem (cs' := uk ⟨(q.no + 1) % 64, L.next, [rec], 0⟩ s3.v) (i := 0) (u := .int .i64 ((q.no + 1) % 64)) S8.up2 rfl
    have et : (q.no + 1).tmod 64 = (q.no + 1) % 64 := by rw [Int.tmod_eq_emod_of_nonneg (by omega)]
    rw [et]
    exact aod (St.swap S9.up3) hl (by omega) hrec hfs h
   ·rw [if_neg hk] at h
    simp [hk]
    exact h w6 (aan hl S8.up2.drop.up2.drop)
theorem axz {s : SV} {d : List Int} {ls : List (List Int)} (S : St w0 w (ki s.v d :: mn v ls :: R)) (hl : ls.length ≤ 1000000) {cs : List Bool} {ty : TypeId} {K : KV} (h : ∀ w' v', St w0 w' (mn v' (ls ++ [d]) :: R) → K v' w') :
  biT P .append #[T.l, T.l] ty cs [v, .slice (some ⟨w.heap.size, 0, none⟩) 1 1] (w.alloc (.cells #[s.v] T.f)) K := by
 have hbs : ∀ K', bsT P T.l 1 #[(0, s.v)] w K' = K' (.slice (some ⟨w.heap.size, 0, none⟩) 1 1) (w.alloc (.cells #[s.v] T.f)) := fun K' => by unfold SV.v; simp
 have := ahe S hl (cs := cs) (ty := ty) h
 rwa [hbs] at this
theorem azb (S : St w0 w (mi p hb L :: il hb D :: R)) (hB : LgB L) (hrl : rec.length ≤ 1000000) (hbs : ∀ w' L', St w0 w' (L' ++ R) → SlB w' av rec) {K : KV}
  (h : ∀ w', St w0 w' (mi p hb (L.append D rec).1.1 :: il hb (L.append D rec).1.2 :: R) → K (.int .i64 (L.append D rec).2) w') : gi P F.eh [jx p, av] w K := by
 obtain ⟨v, ps, hl, S1⟩ := aqa S
 rw [M.ai.fcall]
 apply M.ai.calls
 unfold M.ai
 have hfew := hB.few
 simp only [jx]
 simp
 unfold M.ai.j0
 refine awl S1 (v0 := .slice none 0 0) (l0 := []) (fun _ _ _ => Sl.nil) (fun w' L' S' => hbs w' (L' ++ [_, _, _, _]) (by simpa using S')) (by simp) (by omega) fun w2 v2 S2 => ?_
 unfold Lg.append at h
 by_cases hbig : 8192 < rec.length
 ·rw [if_pos hbig] at h
  simp [hbig]
  exact h w2 (aan hl S2.drop)
 ·rw [if_neg hbig, List.nil_append] at S2
  rw [if_neg hbig] at h
  simp [hbig]
  unfold M.ai.j1
  have S3 : St w0 w2 (ii p (pu hb L.ik v) T.ab :: Eng.lq T.aa 1 qe v ps :: vn pd ps L.gy :: il hb D :: ki v2 (ji rec) :: R) := S2.dn4
  have hbs3 : ∀ w' L', St w0 w' (L' ++ ki v2 (ji rec) :: R) → SlB w' av rec := fun w' L' S' => hbs w' (L' ++ [ki v2 (ji rec)]) (by simpa using S')
  have hfs3 : ∀ w' L', St w0 w' (L' ++ ki v2 (ji rec) :: R) → SlB w' v2 (ji rec) := fun w' L' S' => (S'.perm List.perm_middle).row jr
  refine act hl S3 (by omega) (fun hz => ?_) fun hp w3 f3 => ?_
  ·have : L.gy = [] := List.length_eq_zero_iff.1 (by rw [← hl, hz]; rfl)
   rw [this] at h
   simp
   exact atl (S3.jo ((Fr.refl _ w2).dr 1)) hl hB (by omega) hbs3 hfs3 fun w4 S4 => h w4 S4.up2.drop
  ·simp only [jx]
   have S4 := S3.jo f3
   have hgl := bdr hl hp
   have hj : ps.length - 1 < L.gy.length := by omega
   have hqs := hB.size _ (List.getElem_mem hj)
   have hqr := hB.iu _ (List.getElem_mem hj)
   rw [hgl] at h
   simp only at h
   obtain ⟨c0, c1, c2, cz⟩ := qj S4.blk
   obtain ⟨rv, T1⟩ := zw (acu hl hj S4.up2)
   obtain ⟨d0, d1, d2, d3, dz⟩ := na T1.blk
   simp [c1, d3]
   by_cases hm : L.ik ≤ L.gy[ps.length - 1].size
   ·rw [if_pos hm] at h
    simp [hm]
    exact atl (S4.jo ((Fr.refl _ w3).dr 1)) hl hB (by omega) hbs3 hfs3 fun w4 S5 => h w4 S5.up2.drop
   ·rw [if_neg hm] at h
    simp [hm]
    unfold M.ai.j2
    simp [c0, d0]
    refine aow (S4.jo (((Fr.refl _ w3).dr 1).dr 1)).up3 _ (fun w' L' S' => hfs3 w' (L' ++ [_, _, _]) (by simpa using S')) (by rw [ny]; omega) fun w4 S5 => ?_
    have S6 := S5.dn3
    generalize hqq : L.gy[ps.length - 1] = q at *
    by_cases hk : (D.append q.no (ji rec)).2 = 0
    ·rw [if_pos hk] at h
     rw [hk]
     simp
     unfold M.ai.j3
     obtain ⟨rv2, T2⟩ := zw (acu hl hj S6.up2)
     rw [hqq] at T2
     obtain ⟨e0, e1, e2, e3, ez⟩ := na T2.blk
     have hlen := fun w' K => yj (v := v2) (l := ji rec) (T2.perm (List.perm_middle (l₁ := [_, _, _, _, _, _]))) w' K
     simp [e2, e3, hlen]
     have hbs4 : SlB (dr w4 1) av rec := hbs3 _ (ii ps[ps.length - 1] (uk q rv2) T.ac :: mn rv2 q.iu :: akk pd ps L.gy (ps.length - 1) :: ii p (pu hb L.ik v) T.ab :: Eng.lq T.aa 1 qe v ps :: [il hb (D.append q.no (ji rec)).1]) (T2.jo ((Fr.refl _ w4).dr 1))
     refine wy (T2.jo ((Fr.refl _ w4).dr 1)) hbs4 (by omega) fun w5 v5 T3 => ?_
     obtain ⟨s, rfl⟩ := arl T3
     obtain ⟨_, _, e2, e3, _⟩ := na T3.swap.blk
     have T4 := T3.jo ((Fr.refl _ w5).alloc (.cells #[s.v] T.f))
     obtain ⟨_, _, g2, g3, _⟩ := na T4.swap.blk
     refine ⟨by simp [e3], by simp [e2], ?_⟩
     have hbs5 : ∀ K', bsT P T.l 1 #[(0, s.v)] w5 K' = K' (.slice (some ⟨w5.heap.size, 0, none⟩) 1 1) (w5.alloc (.cells #[s.v] T.f)) := fun K' => by unfold SV.v; simp
     rw [hbs5]
     refine ⟨by simp [g3], by simp [g2], ?_⟩
     refine axz (T3.perm (.cons _ (.swap _ _ _))) (by omega) fun w6 v6 T5 => ?_
     obtain ⟨s6, rfl⟩ := axo T5
     obtain ⟨_, _, m2, m3, mz⟩ := na T5.swap.blk
     refine ⟨by simp [m3], ?_⟩
     have T6 := aem (cs' := uk { q with iu := q.iu ++ [rec] } s6.v) (i := 2) (u := s6.v) T5.swap rfl
     obtain ⟨_, _, n2, n3, nz⟩ := na T6.blk
     have T7 := aem (cs' := uk (q.ru rec) s6.v) (i := 3) (u := .int .i64 (q.size + (ji rec).length)) T6 rfl
     have hw : IntKind.i64.wrap (q.size + ((ji rec).length : Int)) = q.size + (ji rec).length := ia (by omega) (by rw [ny]; omega)
     simp only [SV.v] at *
     simp [hw, m2, mz, n3, nz]
     have T8 := axu hl hj (alj (q := q.ru rec) T7)
     have hl' : ps.length = (L.gy.set (ps.length - 1) (q.ru rec)).length := by simpa using hl
     have T9 := aan (L := { L with gy := L.gy.set (ps.length - 1) (q.ru rec) }) hl' T8.dn2
     have hl3 : L.gy.length - 1 = ps.length - 1 := by omega
     rw [hl3] at h
     exact h _ T9.up2.drop
    ·rw [if_neg hk] at h
     simp [hk]
     exact h w4 (aan hl S6).up2.drop
end
end Go.Proofs.YtfnhoaemapheoaaGreat
set_option maxRecDepth 100000
namespace Go.Proofs.YtfnhoaemapheoaaGreat.CI
open Go.Eng Go.Proofs.YtfnhoaemapheoaaGreat.Sint
theorem bek (x : Int) : ∀ u ∈ sp x, kh u = true := fun u hu => by simp at hu; subst hu; rfl
theorem amq {w : World} {n : Nat} (hn : n ≤ 1000000000) {K : KV} (h : ∀ w' v, Ow w' w.heap.size T.b 1 sp v [] → Fz w w' → K v w') :
  kg P F.cy [.slice none 0 0, .int .i64 n] w K := by
 apply M.bl.calls
 unfold M.bl
 have hneg : ¬ (n : Int) < 0 := by omega
 simp [hneg]
 unfold M.bl.j0
 have hsl : nk P T.ad = true := by kernel_rfl
 have w0 : IntKind.i64.wrap 0 = 0 := by decide
 have wn : IntKind.i64.wrap (n : Int) = n := ia
 rw [gp, alr hsl, xy hsl]
 simp only [lk, rk]
 have e1 : IntKind.i64.wrap ((n : Int) - IntKind.i64.wrap (((0 : Nat) : Int) - ((0 : Nat) : Int))) = n := by
  rw [show ((0 : Nat) : Int) - ((0 : Nat) : Int) = 0 from by omega, w0, Int.sub_zero, wn]
 rw [e1]
 by_cases h0 : 0 < n
 ·have h0' : (0 : Int) < n := by omega
  simp only [h0', decide_true, Eng.cond_true]
  rw [alr hsl, zt (i := 0) (j := 0) hsl (.inl ⟨rfl, rfl⟩) (.inr ⟨.i64, rfl⟩) (Nat.le_refl _) (Nat.le_refl _)]
  refine bca (enc := sp) et.ad (kn := .i64) (by kernel_rfl) h0 hn (by decide) _ fun w' cap hc o f => ?_
  rw [xy hsl, zt (i := 0) (j := 0) hsl (.inl ⟨rfl, rfl⟩) (.inr ⟨.i64, rfl⟩) (Nat.le_refl _) (Nat.zero_le _)]
  rw [if_neg (by omega)]
  have := h w' _ o f
  simpa [Addr.add, gv] using this
 ·have h0' : ¬ (0 : Int) < n := by omega
  simp only [h0', decide_false, Eng.cond_false]
  exact h w _ Ow.none (Fr.refl _ _)
abbrev Sls (w : World) (v : Value) (l : List Int) : Prop := Sl w 1 sp v l
abbrev Ows (w : World) (base : Nat) (v : Value) (l : List Int) : Prop := Ow w base T.b 1 sp v l
def tot (L : List (Value × List Int)) : Nat := (L.map fun p => p.2.length).sum
theorem ada {L : List (Value × List Int)} {i : Nat} (hi : i < L.length) : tot (L.take (i + 1)) = tot (L.take i) + L[i].2.length := by
 unfold tot
 rw [List.take_succ_eq_append_getElem hi, List.map_append, List.sum_append]; simp
theorem agy {L : List (Value × List Int)} (i : Nat) : tot (L.take i) ≤ tot L := by
 unfold tot
 conv => rhs; rw [← List.take_append_drop i L, List.map_append, List.sum_append]
 omega
theorem ajw (L : List (Value × List Int)) : (L.flatMap (·.2)).length = tot L := by
 unfold tot
 induction L with
 | nil => rfl
 | cons p L ih => simp [ih]
def CaI (w : World) (L : List (Value × List Int)) : KL := fun x w1 => ∃ (u : Value) (i : Nat), x = [u, .int .i64 (tot (L.take i) : Nat), .int .i64 (i : Nat)] ∧ w1 = w ∧ i ≤ L.length
def CbI (w : World) (L : List (Value × List Int)) : KL := fun x w1 => ∃ (u v : Value) (i : Nat), x = [u, v, .int .i64 (i : Nat)] ∧ i ≤ L.length ∧ Fz w w1 ∧ Ows w1 w.heap.size v ((L.take i).flatMap (·.2))
theorem aaz {w : World} {b cap : Nat} {L : List (Value × List Int)} {e : TypeId} (hb : w.heap[b]? = some (.cells (L.map (·.1)).toArray e (0, 0))) (hs : ∀ p ∈ L, Sls w p.1 p.2) (ht : tot L ≤ 100000000) (hL : L.length ≤ 1000) {K : KV}
  (h : ∀ w' v, Ows w' w.heap.size v (L.flatMap (·.2)) → Fz w w' → K v w') : kg P F.bv [.slice (some ⟨b, 0, none⟩) L.length cap] w K := by
 apply M.x.calls
 unfold M.x
 have hss : nk P T.az = true := by kernel_rfl
 have hsl : nk P T.ad = true := by kernel_rfl
 have q0 : ∀ a b c : Value, gv [a, b, c] 0 = a := fun _ _ _ => rfl
 have q1 : ∀ a b c : Value, gv [a, b, c] 1 = b := fun _ _ _ => rfl
 have q2 : ∀ a b c : Value, gv [a, b, c] 2 = c := fun _ _ _ => rfl
 have q4 : ∀ a b c d e : Value, gv [a, b, c, d, e] 4 = e := fun _ _ _ _ _ => rfl
 have cell : ∀ (w' : World), Fz w w' → ∀ (i : Nat) (hi : i < L.length), gr w' b i = some L[i].1 := fun w' f i hi => by
  rw [gt (f.heap hb fun h => h)]
  simp [hi]
 rw [gp, xy hss]
 refine ⟨CaI w L, fun x _ => L.length - ms x 2, ⟨_, 0, rfl, rfl, Nat.zero_le _⟩, ?_⟩
 rintro x w1 ⟨u, i, rfl, rfl, hi⟩
 simp only [q0, q1, q2, lh, gp]
 by_cases hil : i < L.length
 ·have hil' : (i : Int) < L.length := by omega
  simp only [hil', decide_true, Eng.cond_true]
  unfold M.x.j2
  have hwi : IntKind.i64.wrap ((i : Int) + 1) = ((i + 1 : Nat) : Int) := by rw [ia]; rfl
  have c0 := cell w1 (Fr.refl _ _) i hil
  have hsi := hs L[i] (List.getElem_mem hil)
  obtain ⟨a', cap', hv', _⟩ := hsi
  have htt := ada hil
  have hle := agy (L := L) (i + 1)
  have hwt : IntKind.i64.wrap ((tot (L.take i) : Int) + (L[i].2.length : Int)) = ((tot (L.take (i + 1)) : Nat) : Int) := by rw [ia]; omega
  have hng : ¬ ((tot (L.take (i + 1)) : Nat) : Int) < 0 := by omega
  simp only [q0, q1, q2, gp]
  simp [hil, c0, hv', hwt, hwi, -Int.natCast_add]
  refine ⟨⟨_, i + 1, rfl, rfl, by omega⟩, ?_⟩
  simp [ms, gv]; omega
 ·have hie : i = L.length := by omega
  have hil' : ¬ (i : Int) < L.length := by omega
  simp only [hil', decide_false, Eng.cond_false]
  have htk : L.take i = L := List.take_of_length_le (by omega)
  rw [htk]
  unfold M.x.j0
  simp only [q4]
  rw [M.bl.fcall]
  refine amq (by omega) fun w2 v2 o2 f2 => ?_
  rw [gp, xy hss]
  refine ⟨CbI w1 L, fun x _ => L.length - ms x 2, ⟨_, v2, 0, rfl, Nat.zero_le _, f2, o2⟩, ?_⟩
  rintro x w3 ⟨u', v, j, rfl, hj, f3, o3⟩
  simp only [q0, q1, q2, lh, gp]
  by_cases hjl : j < L.length
  ·have hjl' : (j : Int) < L.length := by omega
   simp only [hjl', decide_true, Eng.cond_true]
   unfold M.x.j6
   have hwj : IntKind.i64.wrap ((j : Int) + 1) = ((j + 1 : Nat) : Int) := by rw [ia]; rfl
   have c0 := cell w3 f3 j hjl
   have hsj := (hs L[j] (List.getElem_mem hjl)).fr f3 fun _ _ _ h => h
   have hl1 : ((L.take j).flatMap (·.2)).length = tot (L.take j) := ajw _
   have htt := ada hjl
   have hle := agy (L := L) (j + 1)
   simp only [q0, q1, q2, gp]
   simp [hjl, c0, -List.length_flatMap]
   have hge := f3.size
   refine ww et.ad xf bek o3 hsj (by rw [hl1]; omega) (by decide) hge _ fun v' w4 o4 f4 g4 => ?_
   simp only [hwj]
   refine ⟨⟨_, v', j + 1, rfl, by omega, f3.mu f4 fun x hx he => by have := (o3.lt he).1; omega, ?_⟩, ?_⟩
   ·rw [List.take_succ_eq_append_getElem hjl, List.flatMap_append]
    simpa using o4
   ·simp [ms, gv]; omega
  ·have hjl' : ¬ (j : Int) < L.length := by omega
   simp only [hjl', decide_false, Eng.cond_false, q4]
   have htj : L.take j = L := List.take_of_length_le (by omega)
   rw [htj] at o3
   exact h w3 v o3 f3
end Go.Proofs.YtfnhoaemapheoaaGreat.CI
set_option maxRecDepth 100000
namespace Go.Proofs.YtfnhoaemapheoaaGreat
open Go.Eng Go.Proofs.YtfnhoaemapheoaaGreat.Sint
def xx (ns : List Int) : Nat → Nat → List Int
 | 0, _ => ns
 | f + 1, i => match ns[i]? with
  | none => ns
  | some n => if 0 < i ∧ (n + 63) % 64 ∉ ns then ns.drop i ++ ns.take i else xx ns f (i + 1)
def zh (ns : List Int) : List Int := xx ns ns.length 0
section
variable {w0 w : World} {R : List Asn} {v : Value} {ns : List Int}
abbrev SlI (w : World) (v : Value) (l : List Int) : Prop := Sl w 1 sp v l
def IxI (w0 : World) (ns : List Int) (x : Int) : KL := fun y w1 => ∃ (u0 u1 : Value) (i : Nat), y = [u0, u1, .int .i64 (i : Nat)] ∧ i ≤ ns.length ∧ w1 = w0 ∧ x ∉ ns.take i
theorem bjv (hs : SlI w v ns) (hl : ns.length ≤ 1000000) (x : Int) {K : KV} (h : K (.bool (decide (x ∈ ns))) w) : gi P F.ce [v, .int .i64 x] w K := by
 rw [M.bz.fcall]
 apply M.bz.calls
 unfold M.bz
 rw [M.bi.fcall]
 apply M.bi.calls
 unfold M.bi
 have hlen : ∀ w' K, biT P .len #[T.ad] T.b [false] [v] w' K = K (.int .i64 ns.length) w' := fun w' K => hs.iy (by kernel_rfl) [false]
 simp [hlen]
 refine ⟨IxI w ns x, fun y _ => ns.length - ms y 2, ⟨_, _, 0, rfl, Nat.zero_le _, rfl, by simp⟩, ?_⟩
 rintro y w1 ⟨u0, u1, i, rfl, hi, rfl, hn⟩
 by_cases hlt : i < ns.length
 ·have hlti : (i : Int) < (ns.length : Int) := by omega
  obtain ⟨b, o, cap, hv, _, _, hc⟩ := hs.at hlt
  have c0 := hc 0 _ rfl
  simp only [Nat.mul_one, Nat.add_zero] at c0
  have hia : ∀ w' K, iaT P T.ad v (.int .i64 (i : Nat)) w' K = K (.pointer (some ⟨b, o + i, none⟩)) w' := fun w' K => by rw [hv]; simp [hlt]
  simp [hlti]
  unfold M.bi.j2
  simp [hia, c0]
  by_cases hx : ns[i] = x
  ·have hin : x ∈ ns := hx ▸ List.getElem_mem hlt
   have hge : (0 : Int) ≤ (i : Int) := by omega
   simp [hx]
   simpa [hin, hge] using h
  ·have hx' : ¬ x = ns[i] := fun h => hx h.symm
   simp [hx']
   have hw : IntKind.i64.wrap ((i : Int) + 1) = ((i + 1 : Nat) : Int) := by rw [ia]; omega
   rw [hw]
   refine ⟨⟨_, _, i + 1, rfl, hlt, rfl, ?_⟩, ?_⟩
   ·rw [List.take_succ_eq_append_getElem hlt, List.mem_append, List.mem_singleton]
    exact fun h => h.elim hn hx'
   ·simp [ms, gv]; omega
 ·have hge : ¬ (i : Int) < (ns.length : Int) := by omega
  rw [List.take_of_length_le (by omega)] at hn
  simp [hge]
  simpa [hn] using h
theorem bce {v1 v2 : Value} {l1 l2 : List Int} (S : St w0 w R) (s1 : SlI w v1 l1) (s2 : SlI w v2 l2) (hl : l1.length + l2.length ≤ 100000000) {K : KV} (h : ∀ w' v', St w0 w' (si v' (l1 ++ l2) :: R) → K v' w') :
  bsT P T.az 2 #[(0, v1), (1, v2)] w fun t w => gi P F.bv [t] w K := by
 obtain ⟨a1, k1, hv1, _⟩ := id s1
 obtain ⟨a2, k2, hv2, _⟩ := id s2
 have hbs : ∀ K', bsT P T.az 2 #[(0, v1), (1, v2)] w K' = K' (.slice (some ⟨w.heap.size, 0, none⟩) 2 2) (w.alloc (.cells #[v1, v2] T.ad)) := fun K' => by rw [hv1, hv2]; simp
 rw [hbs]
 have f1 : Fz w (w.alloc (.cells #[v1, v2] T.ad)) := (Fr.refl _ w).alloc _
 have hn : (w.alloc (.cells #[v1, v2] T.ad)).heap[w.heap.size]? = some (.cells (([(v1, l1), (v2, l2)] : List (Value × List Int)).map (·.1)).toArray T.ad (0, 0)) := by
  rw [iq, if_pos rfl]; rfl
 rw [M.x.fcall]
 refine CI.aaz (L := [(v1, l1), (v2, l2)]) hn (fun p hp => ?_) (by simp [CI.tot]; omega) (by simp) fun w' v o f2 => ?_
 ·simp at hp
  rcases hp with rfl | rfl
  ·exact s1.fr f1 fun _ _ _ h => h
  ·exact s2.fr f1 fun _ _ _ h => h
 ·have hs : w.heap.size ≤ (w.alloc (.cells #[v1, v2] T.ad)).heap.size := f1.size
  refine h w' v (S.add (a := si v (l1 ++ l2)) (f1.trans f2) (B := fun b => v.ownBlock = some b) ⟨?_, fun b hb => hb⟩ fun b hb => ?_)
  ·simpa using o.mono (Nat.zero_le _)
  ·have := o.lt hb
   exact ⟨by omega, this.2⟩
def OrW (w0 : World) (v : Value) (ns : List Int) (R : List Asn) : KL := fun y w1 => ∃ (u0 u1 u2 : Value) (i f : Nat), y = [u0, u1, u2, .int .i64 (i : Nat)] ∧ i + f = ns.length ∧ zh ns = xx ns f i ∧ St w0 w1 (si v ns :: R)
theorem bgj (S : St w0 w (si v ns :: R)) (hl : ns.length ≤ 1000000) (hr : ∀ n ∈ ns, 0 ≤ n ∧ n < 64) {K : KV} (h : ∀ w' v', St w0 w' (si v' (zh ns) :: R) → K v' w') : gi P F.ff [v] w K := by
 rw [M.eb.fcall]
 apply M.eb.calls
 unfold M.eb
 have hlen : ∀ {w1 : World}, St w0 w1 (si v ns :: R) → ∀ w' K, biT P .len #[T.ad] T.b [false] [v] w' K = K (.int .i64 ns.length) w' := fun S w' K => (S.row xf : SlI _ v ns).iy (by kernel_rfl) [false]
 simp [hlen S]
 refine ⟨OrW w0 v ns R, fun y _ => ns.length - ms y 3, ⟨_, _, _, 0, ns.length, rfl, by omega, rfl, S⟩, ?_⟩
 rintro y w1 ⟨u0, u1, u2, i, f, rfl, hif, ho, S1⟩
 have hs : SlI w1 v ns := S1.row xf
 by_cases hlt : i < ns.length
 ·have hlti : (i : Int) < (ns.length : Int) := by omega
  obtain ⟨b, o, cap, hv, _, _, hc⟩ := hs.at hlt
  have c0 := hc 0 _ rfl
  simp only [Nat.mul_one, Nat.add_zero] at c0
  have hia : ∀ w' K, iaT P T.ad v (.int .i64 (i : Nat)) w' K = K (.pointer (some ⟨b, o + i, none⟩)) w' := fun w' K => by rw [hv]; simp [hlt]
  have hr1 := hr _ (List.getElem_mem hlt)
  simp [hlti]
  unfold M.eb.j2
  have hw1 : IntKind.i64.wrap (ns[i] + 64) = ns[i] + 64 := ia
  have hw2 : IntKind.i64.wrap (ns[i] + 64 - 1) = ns[i] + 63 := by rw [ia]; omega
  have et : (ns[i] + 63).tmod 64 = (ns[i] + 63) % 64 := by rw [Int.tmod_eq_emod_of_nonneg (by omega)]
  simp [hia, c0, hw1, hw2, awx, et]
  refine bjv hs hl _ ?_
  cases f with
  | zero => omega
  | succ f =>
   rw [xx, List.getElem?_eq_getElem hlt] at ho
   simp only at ho
   have hw : IntKind.i64.wrap ((i : Int) + 1) = ((i + 1 : Nat) : Int) := by rw [ia]; omega
   by_cases hin : (ns[i] + 63) % 64 ∈ ns
   ·rw [if_neg (fun hx => hx.2 hin)] at ho
    simp [hin]
    rw [hw]
    refine ⟨⟨_, _, _, i + 1, f, rfl, by omega, ho, S1⟩, ?_⟩
    simp [ms, gv]; omega
   ·by_cases h0 : 0 < i
    ·rw [if_pos ⟨h0, hin⟩] at ho
     rw [ho] at h
     have h0i : (0 : Int) < (i : Int) := by omega
     simp [hin, h0]
     have S2 := S1.jo ((Fr.refl _ w1).dr 1)
     have hs2 : SlI (dr w1 1) v ns := S2.row xf
     obtain ⟨va, sa, _, ra⟩ := hs2.sub (P := P) (t := T.ad) (lo := some (.int .i64 (i : Nat))) (hi := none) (i := i) (j := ns.length) (by kernel_rfl) (by kernel_rfl) (.inr ⟨_, rfl⟩) (.inl ⟨rfl, rfl⟩) (by omega) (Nat.le_refl _)
     obtain ⟨vb, sb, _, rb⟩ := hs2.sub (P := P) (t := T.ad) (lo := none) (hi := some (.int .i64 (i : Nat))) (i := 0) (j := i) (by kernel_rfl) (by kernel_rfl) (.inl ⟨rfl, rfl⟩) (.inr ⟨_, rfl⟩) (by omega) (by omega)
     rw [ra]
     refine ⟨rfl, ?_⟩
     rw [rb]
     refine ⟨rfl, ?_⟩
     have ea : (ns.drop i).take (ns.length - i) = ns.drop i := List.take_of_length_le (by simp)
     have eb : (ns.drop 0).take (i - 0) = ns.take i := by simp
     rw [ea] at sa
     rw [eb] at sb
     refine bce S2 sa sb (by simp; omega) fun w2 v2 S3 => h w2 v2 ?_
     exact S3.swap.drop
    ·rw [if_neg (fun hx => h0 hx.1)] at ho
     have h0i : ¬ (0 : Int) < (i : Int) := by omega
     simp [hin, h0]
     rw [hw]
     refine ⟨⟨_, _, _, i + 1, f, rfl, by omega, ho, S1⟩, ?_⟩
     simp [ms, gv]; omega
 ·have hge : ¬ (i : Int) < (ns.length : Int) := by omega
  have hf0 : f = 0 := by omega
  subst hf0
  rw [ho] at h
  simp [hge]
  exact h w1 v S1
end
set_option maxRecDepth 100000
def abw (k : Int) (a : List (List Int) × Nat) : Prt := ⟨k, IntKind.i64.wrap (akj (a.1.headD [])), a.1.tail, (a.2 : Int)⟩
def qc (D : Dk) (k : Int) (lr : Bool) : (Dk × Option Prt) × Int :=
 if (D.lz k).2 ≠ 0 then ((D, none), (D.lz k).2) else
 if lr = false ∧ (vv (D.lz k).1).2 < (D.lz k).1.length then ((D, none), 6) else
 if (vv (D.lz k).1).1 = [] ∧ lr = true then (((D.aey k).1, none), (D.aey k).2) else
 if (vv (D.lz k).1).1 = [] ∨ ((vv (D.lz k).1).1.headD []).length ≠ 8 then ((D, none), 6) else
 if (vv (D.lz k).1).2 < (D.lz k).1.length then
  (if (D.cut k (vv (D.lz k).1).2).2 ≠ 0 then (((D.cut k (vv (D.lz k).1).2).1, none), (D.cut k (vv (D.lz k).1).2).2) else (((D.cut k (vv (D.lz k).1).2).1, some (abw k (vv (D.lz k).1))), 0))
 else ((D, some (abw k (vv (D.lz k).1))), 0)
section
variable {w0 w : World} {R : List Asn} {p hb : Nat} {v : Value} {ps : List Nat} {L : Lg} {q : Prt} {D : Dk}
theorem bhw (S : St w0 w (il hb D :: R)) (k : Int) : (D.lz k).1.length ≤ 1048576 := by
 obtain ⟨r, m, es, hk, _⟩ := zi S
 unfold Dk.lz
 split
 ·simp
 ·cases hg : D.get k with
  | none => simp
  | some f =>
   have h1 := hk.jb
   have h2 := hk.iz
   have h3 : f.len ≤ D.iz := afu (List.mem_map_of_mem (List.mem_of_find?_eq_some hg))
   simp only [List.length_append]
   unfold Fil.len at h3
   omega
theorem bhr {lv : Value} {d : List Int} {r : List (List Int)} {us : Nat} (S : St w0 w (mn lv (d :: r) :: R)) (hd : d.length = 8) {k : Int} {K : KV} (h : ∀ w' np, St w0 w' (pd np (abw k (d :: r, us)) :: R) → K (.tuple #[jx np, .int .i64 0]) w') : M.ay.j1 lv (.int .i64 us) (.int .i64 k) w K := by
 unfold M.ay.j1
 have S1 := S.jo ((Fr.refl _ w).dr 1)
 obtain ⟨b, o, s, hia, hcs, cc, hs⟩ := aim S1 (i := 0) (by simp)
 have hia0 : ∀ w' K, iaT P T.l lv (.int .i64 0) w' K = K (.pointer (some ⟨b, o, none⟩)) w' := hia
 obtain ⟨v', S2, hsl⟩ := bbv S1 (k := .i64)
 simp only [SV.v] at cc
 have cc1 : gr w b o = some (.slice s.a s.n s.c) := by simpa using cc
 simp only [List.getElem_cons_zero] at hs
 simp [hia0, cc1, hsl]
 refine aky hs (by omega) ?_
 obtain ⟨sv, rfl⟩ := axo S2
 simp [hsl, SV.v]
 rw [og (ks := .u64) (kd := .i64) (by kernel_rfl) (by kernel_rfl)]
 simp
 have S3 := aet S2 (uk (abw k (d :: r, us)) sv.v) T.ac
 exact h _ _ (alj S3)
theorem bjp (S : St w0 w (ii p (pu hb L.ik v) T.ab :: il hb D :: R)) (k : Int) (lr : Bool) {K : KV}
  (hn : ∀ w', (qc D k lr).1.2 = none → St w0 w' (ii p (pu hb L.ik v) T.ab :: il hb (qc D k lr).1.1 :: R) → K (.tuple #[.pointer none, .int .i64 (qc D k lr).2]) w')
  (hs : ∀ w' np q, qc D k lr = (((qc D k lr).1.1, some q), 0) → St w0 w' (pd np q :: ii p (pu hb L.ik v) T.ab :: il hb (qc D k lr).1.1 :: R) → K (.tuple #[jx np, .int .i64 0]) w') :
  gi P F.co [jx p, .int .i64 k, .bool lr] w K := by
 rw [M.ay.fcall]
 apply M.ay.calls
 unfold M.ay
 obtain ⟨c0, _⟩ := qj S.blk
 have hrl := bhw S.swap k
 simp only [jx]
 simp [c0]
 refine bjg S.swap k fun w1 v1 S1 => ?_
 have S2 : St w0 w1 (ki v1 (D.lz k).1 :: ii p (pu hb L.ik v) T.ab :: il hb D :: R) := S1.tail (.swap _ _ _)
 unfold qc at hn hs
 generalize D.lz k = rd at *
 obtain ⟨l, kd⟩ := rd
 simp only at hrl S2 hn hs ⊢
 by_cases hkd : kd ≠ 0
 ·rw [if_pos hkd] at hn
  simp [hkd]
  exact hn w1 rfl S2.drop
 ·rw [if_neg hkd] at hn hs
  have hkd0 : kd = 0 := by omega
  subst hkd0
  simp
  unfold M.ay.j0
  refine bju S2 (fun w' L' S' => (S'.perm List.perm_middle).row jr) (by omega) fun w2 lv kx S3 => ?_
  have hlenv := fun w' K => yj S3.swap w' K
  generalize vv l = a at *
  obtain ⟨ds, us⟩ := a
  simp only at hn hs S3 ⊢
  have hdlen := fun w' K => aff S3 w' K
  have S4 : St w0 w2 (mn lv ds :: ii p (pu hb L.ik v) T.ab :: il hb D :: R) := S3.swap.drop
  obtain ⟨c0, _⟩ := qj S4.swap.blk
  have fin : ∀ {D' : Dk} {w3 : World} {d : List Int} {r : List (List Int)}, ds = d :: r → d.length = 8 → (∀ w' np, St w0 w' (pd np (abw k (d :: r, us)) :: ii p (pu hb L.ik v) T.ab :: il hb D' :: R) → K (.tuple #[jx np, .int .i64 0]) w') → St w0 w3 (mn lv ds :: ii p (pu hb L.ik v) T.ab :: il hb D' :: R) → M.ay.j1 lv (.int .i64 us) (.int .i64 k) w3 K := fun hd h8 h S5 => by
   rw [hd] at S5
   exact bhr S5 h8 h
  cases lr with
  | false =>
   by_cases hus : us < l.length
   ·have husi : (us : Int) < (l.length : Int) := by omega
    rw [if_pos ⟨rfl, hus⟩] at hn
    simp [hlenv, husi]
    exact hn w2 rfl S4.drop
   ·have husi : ¬ (us : Int) < (l.length : Int) := by omega
    rw [if_neg (fun hx => hus hx.2)] at hn hs
    cases ds with
    | nil =>
     rw [if_neg (by simp), if_pos (.inl rfl)] at hn
     simp [hlenv, hdlen, husi]
     exact hn w2 rfl S4.drop
    | cons d r =>
     rw [if_neg (by simp)] at hn hs
     have hz : ¬ ((r.length : Int) + 1 = 0) := by omega
     obtain ⟨b, o, sv, hia, _, cc, hsd⟩ := aim S4 (i := 0) (by simp)
     have hia0 : ∀ w' K, iaT P T.l lv (.int .i64 0) w' K = K (.pointer (some ⟨b, o, none⟩)) w' := hia
     simp only [List.getElem_cons_zero] at hsd
     have hd8 : ∀ w' K, biT P .len #[T.f] T.b [false] [sv.v] w' K = K (.int .i64 d.length) w' := fun w' K => hsd.iy (by kernel_rfl) [false]
     simp only [SV.v] at cc hd8
     by_cases h8 : d.length = 8
     ·have h8i : (d.length : Int) = 8 := by omega
      rw [if_neg (by simp [h8]), if_neg hus] at hn hs
      simp [hlenv, hdlen, husi, hia0, hz, cc, hd8, h8i]
      exact fin rfl h8 (fun w' np S5 => hs w' np _ rfl S5) S4
     ·have h8i : ¬ (d.length : Int) = 8 := by omega
      rw [if_pos (.inr (by simpa using h8))] at hn
      simp [hlenv, hdlen, husi, hia0, hz, cc, hd8, h8i]
      exact hn w2 rfl S4.drop
  | true =>
   rw [if_neg (by simp)] at hn hs
   cases ds with
   | nil =>
    rw [if_pos ⟨rfl, rfl⟩] at hn
    simp [hdlen, c0]
    refine bbc S4.up2 k fun w3 S5 => ?_
    exact hn w3 rfl S5.dn2.drop
   | cons d r =>
    rw [if_neg (by simp)] at hn hs
    have hz : ¬ ((r.length : Int) + 1 = 0) := by omega
    obtain ⟨b, o, sv, hia, _, cc, hsd⟩ := aim S4 (i := 0) (by simp)
    have hia0 : ∀ w' K, iaT P T.l lv (.int .i64 0) w' K = K (.pointer (some ⟨b, o, none⟩)) w' := hia
    simp only [List.getElem_cons_zero] at hsd
    have hd8 : ∀ w' K, biT P .len #[T.f] T.b [false] [sv.v] w' K = K (.int .i64 d.length) w' := fun w' K => hsd.iy (by kernel_rfl) [false]
    simp only [SV.v] at cc hd8
    by_cases h8 : d.length = 8
    ·have h8i : (d.length : Int) = 8 := by omega
     rw [if_neg (by simp [h8])] at hn hs
     by_cases hus : us < l.length
     ·have husi : (us : Int) < (l.length : Int) := by omega
      rw [if_pos hus] at hn hs
      simp [hlenv, hdlen, husi, hia0, hz, cc, hd8, h8i, c0]
      refine bml S4.up2 k us fun w3 S5 => ?_
      by_cases hc : (D.cut k us).2 = 0
      ·rw [if_neg (by simpa using hc)] at hs
       rw [hc]
       simp
       exact fin rfl h8 (fun w' np S6 => hs w' np _ rfl S6) S5.dn2
      ·rw [if_pos hc] at hn
       simp [hc]
       exact hn w3 rfl S5.dn2.drop
     ·have husi : ¬ (us : Int) < (l.length : Int) := by omega
      rw [if_neg hus] at hs
      simp [hlenv, hdlen, husi, hia0, hz, cc, hd8, h8i]
      exact fin rfl h8 (fun w' np S5 => hs w' np _ rfl S5) S4
    ·have h8i : ¬ (d.length : Int) = 8 := by omega
     rw [if_pos (.inr (by simpa using h8))] at hn
     simp [hdlen, hia0, hz, cc, hd8, h8i]
     exact hn w2 rfl S4.drop
end
def aen (qs : List Prt) : Int := Lg.next ⟨0, qs⟩
def ws : List Int → Dk → List Prt → (Dk × Option (List Prt)) × Int
 | [], D, qs => ((D, some qs), 0)
 | k :: ks, D, qs => if (qc D k ks.isEmpty).2 ≠ 0 then (((qc D k ks.isEmpty).1.1, none), (qc D k ks.isEmpty).2) else match (qc D k ks.isEmpty).1.2 with
  | none => ws ks (qc D k ks.isEmpty).1.1 qs
  | some q => if qs ≠ [] ∧ q.first ≠ aen qs then (((qc D k ks.isEmpty).1.1, none), 6) else ws ks (qc D k ks.isEmpty).1.1 (qs ++ [q])
def aam (D : Dk) (ik : Int) : (Dk × Option (List Prt)) × Int := if ik < 64 ∨ 1048576 < ik then ((D, none), 1) else if D.je then ((D, none), 10) else ws (zh D.jg) D []
theorem atg : ∀ (n : Nat) (l : List Int), l.Nodup → (∀ x ∈ l, 0 ≤ x ∧ x < n) → l.length ≤ n
 | 0, l, _, h => by
  cases l with
  | nil => simp
  | cons x l => have := h x (by simp); omega
 | n + 1, l, hn, h => by
  have := atg n (l.erase (n : Int)) (hn.erase _) (fun x hx => by
   have h1 := h x (List.mem_of_mem_erase hx)
   have h2 : x ≠ (n : Int) := fun he => by
    subst he
    exact (List.Nodup.not_mem_erase hn) hx
   omega)
  rw [List.length_erase] at this
  split at this <;> omega
theorem amd (ns : List Int) : ∀ f i, i ≤ ns.length → (xx ns f i).length = ns.length
 | 0, _, _ => rfl
 | f + 1, i, hi => by
  rw [xx]
  split
  ·rfl
  ·split
   ·simp; omega
   ·rename_i h _
    exact amd ns f (i + 1) (by
     rw [List.getElem?_eq_some_iff] at h
     exact h.1)
theorem ban (ns : List Int) : (zh ns).length = ns.length := amd ns _ 0 (Nat.zero_le _)
section
variable {w0 w : World} {R : List Asn} {p hb : Nat} {v : Value} {ps : List Nat} {L : Lg} {q : Prt} {D : Dk} {ik : Int}
theorem bbj (S : St w0 w (il hb D :: R)) : (∀ n ∈ D.jg, 0 ≤ n ∧ n < 64) ∧ D.jg.length ≤ 64 ∧ D.jg.Nodup := by
 obtain ⟨r, m, es, hk, _⟩ := zi S
 have hp : D.jg.Perm D.qp := nu _
 have hkk := hk.qp
 have h1 : ∀ n ∈ D.jg, 0 ≤ n ∧ n < 64 := fun n hn => by
  have := hp.mem_iff.1 hn
  rw [hkk, List.mem_map] at this
  obtain ⟨e, he, rfl⟩ := this
  exact hk.rng e he
 have h2 : D.jg.Nodup := hp.nodup_iff.2 (by rw [hkk]; exact hk.tn)
 exact ⟨h1, atg 64 _ h2 h1, h2⟩
def opL (p hb : Nat) (ik : Int) (v : Value) (ps : List Nat) (qs : List Prt) (D : Dk) (ov : Value) (ns : List Int) (R : List Asn) : List Asn := ii p (pu hb ik v) T.ab :: il hb D :: Eng.lq T.aa 1 qe v ps :: vn pd ps qs :: si ov ns :: R
def OpI (w0 : World) (p hb : Nat) (ik : Int) (ov : Value) (ns : List Int) (D0 : Dk) (R : List Asn) : KL := fun y w1 => ∃ (u0 u1 u2 u3 u4 u5 u6 u7 u8 v : Value) (ps : List Nat) (qs : List Prt) (D : Dk) (i : Nat), y = [u0, u1, u2, u3, u4, u5, u6, u7, u8, .int .i64 (i : Nat)] ∧ i ≤ ns.length ∧ ps.length = qs.length ∧ qs.length ≤ i ∧ ws ns D0 [] = ws (ns.drop i) D qs ∧ St w0 w1 (opL p hb ik v ps qs D ov ns R)
theorem bla (S : St w0 w (il hb D :: R)) (hmx : ik < 9223372036854775808) {K : KV}
  (hn : ∀ w', (aam D ik).1.2 = none → St w0 w' (il hb (aam D ik).1.1 :: R) → K (.tuple #[.pointer none, .int .i64 (aam D ik).2]) w')
  (hs : ∀ w' p qs, aam D ik = (((aam D ik).1.1, some qs), 0) → St w0 w' (mi p hb ⟨ik, qs⟩ :: il hb (aam D ik).1.1 :: R) → K (.tuple #[jx p, .int .i64 0]) w') :
  gi P F.fl [.pointer (some ⟨hb, 0, none⟩), .int .i64 ik] w K := by
 rw [M.ca.fcall]
 apply M.ca.calls
 unfold M.ca
 unfold aam at hn hs
 by_cases h1 : ik < 64 ∨ 1048576 < ik
 ·rw [if_pos h1] at hn
  by_cases h2 : ik < 64
  ·simp [h2]
   exact hn w rfl S
  ·have h3 : 1048576 < ik := by omega
   simp [h2, h3]
   exact hn w rfl S
 ·rw [if_neg h1] at hn hs
  have h2 : ¬ ik < 64 := by omega
  have h3 : ¬ 1048576 < ik := by omega
  simp [h2, h3]
  refine amx S ?_
  cases hd : D.je with
  | true =>
   rw [hd] at hn
   simp
   exact hn w rfl S
  | false =>
   rw [hd] at hn hs
   simp only [Bool.false_eq_true, if_false] at hn hs
   simp
   unfold M.ca.j0
   simp
   have S1 : St w0 (w.alloc (.cells (pu hb ik (.slice none 0 0)) T.ab)) (ii w.heap.size (pu hb ik (.slice none 0 0)) T.ab :: il hb D :: R) := aet S _ _
   generalize w.heap.size = p at *
   simp only [pu] at S1
   generalize w.alloc (.cells #[.pointer (some ⟨hb, 0, none⟩), .int .i64 ik, .slice none 0 0] T.ab) = w1 at *
   obtain ⟨fr1, fr2, _⟩ := bbj S1.swap
   refine bfk S1.swap fun w2 v2 S2 => ?_
   refine bgj S2 (by omega) fr1 fun w3 v3 S3 => ?_
   have hol := ban D.jg
   generalize zh D.jg = ns at *
   rw [ahp]
   have hlen : ∀ {w1 : World} {R' : List Asn}, St w0 w1 (si v3 ns :: R') → ∀ w' K, biT P .len #[T.ad] T.b [false] [v3] w' K = K (.int .i64 ns.length) w' := fun S w' K => (S.row xf : SlI _ v3 ns).iy (by kernel_rfl) [false]
   simp [hlen S3]
   have S4 : St w0 w3 (opL p hb ik (.slice none 0 0) [] [] D v3 ns R) := by
    have T1 : St w0 w3 (si v3 ns :: il hb D :: ii p (pu hb ik (.slice none 0 0)) T.ab :: R) := S3
    have T2 := awj (e := T.aa) (sz := 1) (enc := qe) (bkv (f := pd) T1)
    exact (St.up4 (St.up4 T2)).swap
   refine ⟨OpI w0 p hb ik v3 ns D R, fun y _ => ns.length - ms y 9, ⟨_, _, _, _, _, _, _, _, _, _, [], [], D, 0, rfl, Nat.zero_le _, rfl, Nat.le_refl _, rfl, S4⟩, ?_⟩
   rintro y w4 ⟨u0, u1, u2, u3, u4, u5, u6, u7, u8, v, ps, qs, D', i, rfl, hi, hl, hqi, ho, S5⟩
   unfold M.ca.j2
   by_cases hlt : i < ns.length
   ·have hlti : (i : Int) < (ns.length : Int) := by omega
    simp [hlti]
    unfold M.ca.j3
    unfold opL at S5
    have hsI : SlI w4 v3 ns := S5.up4.row xf
    obtain ⟨b, o, cap, hv, _, _, hc⟩ := hsI.at hlt
    have c0 := hc 0 _ rfl
    simp only [Nat.mul_one, Nat.add_zero] at c0
    have hia : ∀ w' K, iaT P T.ad v3 (.int .i64 (i : Nat)) w' K = K (.pointer (some ⟨b, o + i, none⟩)) w' := fun w' K => by rw [hv]; simp [hlt]
    have hw1 : IntKind.i64.wrap ((ns.length : Int) - 1) = ((ns.length - 1 : Nat) : Int) := by rw [ia]; omega
    simp [hia, c0, hlen S5.up4, hw1]
    have hlast : decide ((i : Int) = ((ns.length - 1 : Nat) : Int)) = (ns.drop (i + 1)).isEmpty := by
     rw [Bool.eq_iff_iff, decide_eq_true_eq, List.isEmpty_iff, List.drop_eq_nil_iff]
     omega
    rw [hlast]
    have hcall : ∀ x y w K, nf P (.func (.func F.co) #[.pointer (some ⟨p, 0, none⟩)] #[]) [x, y] w K = gi P F.co [jx p, x, y] w K := fun x y w K => by
     rw [M.ay.fcall]
     exact M.ay.rcall [jx p] [] [x, y] w K
    rw [hcall]
    rw [List.drop_eq_getElem_cons hlt, ws] at ho
    generalize ns[i] = k at *
    generalize (ns.drop (i + 1)).isEmpty = lr at *
    have hw : IntKind.i64.wrap ((i : Int) + 1) = ((i + 1 : Nat) : Int) := by rw [ia]; omega
    refine bjp (L := ⟨ik, []⟩) S5 k lr (fun w5 hnone S6 => ?_) fun w5 np q hsome S6 => ?_
    ·by_cases hk : (qc D' k lr).2 = 0
     ·rw [if_neg (by simpa using hk), hnone] at ho
      rw [hk]
      simp
      rw [hw]
      refine ⟨⟨_, _, _, _, _, _, _, _, _, v, ps, qs, _, i + 1, rfl, hlt, hl, by omega, ho, S6⟩, ?_⟩
      simp [ms, gv]; omega
     ·rw [if_pos hk] at ho
      simp [hk]
      rw [ho] at hn
      exact hn w5 rfl (St.drop S6 |>.swap.drop.swap.drop.swap.drop)
    ·rw [hsome] at ho
     simp only [ne_eq, not_true_eq_false, if_false] at ho
     simp only [jx]
     simp
     have T1 := S6.jo ((Fr.refl _ w5).dr 1)
     obtain ⟨e0, e1, e2, ez⟩ := qj T1.swap.blk
     have hlen2 := fun w' K => adh T1.up3 w' K
     have e2' : gr w5 p 2 = some v := by simpa using e2
     obtain ⟨rv, T2⟩ := zw T1
     obtain ⟨d0, d1, _⟩ := na T2.blk
     have d1' : gr w5 np 1 = some (.int .i64 q.first) := by simpa using d1
     simp [e2', hlen2, d1']
     have T3 : St w0 (dr w5 1) (ii p (pu hb ik v) T.ab :: Eng.lq T.aa 1 qe v ps :: vn pd ps qs :: pd np q :: il hb (qc D' k lr).1.1 :: si v3 ns :: R) := St.up3 (St.up4 (St.up4 T1))
     have hpush : ∀ {w6 : World} {x5 : List Value}, St w0 w6 (ii p (pu hb ik v) T.ab :: Eng.lq T.aa 1 qe v ps :: vn pd ps qs :: pd np q :: il hb (qc D' k lr).1.1 :: si v3 ns :: R) → ws ns D [] = ws (ns.drop (i + 1)) (qc D' k lr).1.1 (qs ++ [q]) → M.ca.j5 (.pointer (some ⟨p, 0, none⟩)) (.pointer (some ⟨np, 0, none⟩)) (fun x4 w => OpI w0 p hb ik v3 ns D R [gv x4 0, gv x4 1, gv x4 2, gv x4 3, gv x4 4, gv x4 5, gv x4 6, gv x4 7, gv x4 8, .int .i64 (IntKind.i64.wrap ((i : Int) + 1))] w ∧ ns.length - ms [gv x4 0, gv x4 1, gv x4 2, gv x4 3, gv x4 4, gv x4 5, gv x4 6, gv x4 7, gv x4 8, .int .i64 (IntKind.i64.wrap ((i : Int) + 1))] 9 < ns.length - ms [u0, u1, u2, u3, u4, u5, u6, u7, u8, .int .i64 (i : Nat)] 9) [u0, u1, u2, u3, u4, u5, u6, u7, u8, .int .i64 (i : Nat)] (.int .i64 k) (.int .i64 0) x5 w6 K := by
      intro w6 x5 T4 ho2
      unfold M.ca.j5
      simp
      refine apb (L := ⟨ik, qs⟩) hl (show qs.length ≤ 1000000 by omega) T4.up3 fun w7 T5 => ?_
      obtain ⟨v', ps', hl', T6⟩ := aqa T5
      rw [hw]
      refine ⟨⟨_, _, _, _, _, _, _, _, _, v', ps', qs ++ [q], _, i + 1, rfl, hlt, hl', by simp; omega, ho2, T6.up3.swap⟩, ?_⟩
      simp [ms, gv]; omega
     by_cases h0 : 0 < ps.length
     ·have hqne : qs ≠ [] := fun h => by rw [hl, h] at h0; exact absurd h0 (by simp)
      simp [h0, d1']
      refine auz (L := ⟨ik, qs⟩) hl T3 (by rw [hl]; omega) fun w6 f6 => ?_
      have T4 := T3.jo f6
      obtain ⟨rv6, T5⟩ := zw T4.up3
      obtain ⟨_, g1, _⟩ := na T5.blk
      have hnx : Lg.next ⟨ik, qs⟩ = aen qs := rfl
      simp [g1, hnx]
      by_cases hq : q.first = aen qs
      ·rw [if_neg (fun hx => hx.2 hq)] at ho
       simp [hq]
       exact hpush T4 ho
      ·rw [if_pos ⟨hqne, hq⟩] at ho
       rw [ho] at hn
       simp [hq]
       exact hn w6 rfl (T4.drop.drop.drop.drop.swap.drop)
     ·have hqe : qs = [] := List.length_eq_zero_iff.1 (by omega)
      rw [if_neg (fun hx => hx.1 hqe)] at ho
      simp [h0]
      exact hpush T3 ho
   ·have hge : ¬ (i : Int) < (ns.length : Int) := by omega
    rw [List.drop_of_length_le (by omega)] at ho
    simp [hge]
    rw [ho] at hs
    exact hs w4 p qs rfl (aan (L := ⟨ik, qs⟩) hl (St.swap (St.drop (St.up4 S5))).dn3)
end
section
variable {D : Dk} {A B : List Fil} {f : Fil}
theorem ace (h : D.fs = A ++ f :: B) (hA : ∀ x ∈ A, x.n ≠ f.n) : D.get f.n = some f := by
 unfold Dk.get
 rw [h, List.find?_append, List.find?_eq_none.2 (fun x hx => by simp [hA x hx])]
 simp
theorem bll {k : Int} (h : ∀ x ∈ D.fs, x.n ≠ k) : D.get k = none := by
 unfold Dk.get
 exact List.find?_eq_none.2 fun x hx => by simp [h x hx]
theorem aso {k : Int} {fa lo : List Int} {A : List Fil} (hA : ∀ x ∈ A, x.n ≠ k) : A.map (fun f => if f.n = k then (⟨k, fa, lo⟩ : Fil) else f) = A := by
 conv => rhs; rw [← List.map_id A]
 exact List.map_congr_left fun x hx => by rw [if_neg (hA x hx)]; rfl
theorem yv (h : D.fs = A ++ f :: B) (hA : ∀ x ∈ A, x.n ≠ f.n) (hB : ∀ x ∈ B, x.n ≠ f.n) (fa lo : List Int) : (D.ol f.n fa lo).fs = A ++ ⟨f.n, fa, lo⟩ :: B := by
 show D.fs.map (fun g => if g.n = f.n then (⟨f.n, fa, lo⟩ : Fil) else g) = _
 rw [h, List.map_append, List.map_cons, aso hA, aso hB, if_pos rfl]
theorem bjn (h : D.fs = A ++ f :: B) (hA : ∀ x ∈ A, x.n ≠ f.n) (hB : ∀ x ∈ B, x.n ≠ f.n) : (D.rem f.n).fs = A ++ B := by
 show D.fs.filter (fun g => decide (g.n ≠ f.n)) = _
 rw [h, List.filter_append, List.filter_cons, if_neg (by simp), List.filter_eq_self.2 (fun x hx => by simpa using hA x hx), List.filter_eq_self.2 (fun x hx => by simpa using hB x hx)]
def CrS (A : List Fil) (n : Int) (fa lo : List Int) (D D' : Dk) (v : Prop) : Prop := D'.jb = D.jb ∧ ∃ fa' lo', D'.fs = A ++ [⟨n, fa', lo'⟩] ∧ ((fa' = fa ∧ lo' = lo) ∨ (lo' = [] ∧ ∃ s, fa' = fa ++ lo.take s)) ∧ (v → lo' = [])
theorem azl {n : Int} {fa lo : List Int} (h : D.fs = A ++ [⟨n, fa, lo⟩]) (hA : ∀ x ∈ A, x.n ≠ n) (hl : ∀ x ∈ A, x.jj = []) (hd : (D.fs.map Fil.n).Nodup) (kl : List Int) :
  ∃ s, (D.uq kl).jb = D.jb ∧ (D.uq kl).je = false ∧ (D.uq kl).jt = false ∧ (D.uq kl).fs = A ++ [⟨n, fa ++ lo.take s, []⟩] := by
 have key : ∀ i, i ≤ D.jg.length → CrS A n fa lo D (crN kl D D.jg i) (n ∈ D.jg.take i) := by
  intro i
  induction i with
  | zero => exact fun _ => ⟨rfl, fa, lo, h, .inl ⟨rfl, rfl⟩, fun h => by simp at h⟩
  | succ i ih =>
   intro hi
   obtain ⟨hr, fa', lo', h1, h2, h3⟩ := ih (by omega)
   have hlt : i < D.jg.length := by omega
   have hk : D.jg.getD i 0 = D.jg[i] := by rw [List.getD_eq_getElem?_getD, List.getElem?_eq_getElem hlt]; rfl
   rw [crN, hk, List.take_succ_eq_append_getElem hlt]
   generalize crN kl D D.jg i = E at *
   generalize D.jg[i] = k at *
   have hAE : ∀ x ∈ A, x.n ≠ (⟨n, fa', lo'⟩ : Fil).n := hA
   unfold acn
   by_cases hkn : k = n
   ·subst hkn
    have hg := ace h1 hAE
    have hs := yv h1 hAE (by simp) (fa' ++ lo'.take (ya kl i lo'.length)) []
    simp only at hg hs
    rw [hg]
    refine ⟨hr, _, _, hs, .inr ⟨rfl, ?_⟩, fun _ => rfl⟩
    rcases h2 with ⟨rfl, rfl⟩ | ⟨rfl, s, rfl⟩
    ·exact ⟨_, rfl⟩
    ·exact ⟨s, by simp⟩
   ·have hmem : (n ∈ D.jg.take i ++ [k]) ↔ n ∈ D.jg.take i := by
     rw [List.mem_append, List.mem_singleton]
     exact ⟨fun h => h.elim id fun h => absurd h.symm hkn, .inl⟩
    rw [hmem]
    cases hg : E.get k with
    | none => exact ⟨hr, fa', lo', h1, h2, h3⟩
    | some g =>
     have hgm : g ∈ E.fs := List.mem_of_find?_eq_some hg
     have hgn : g.n = k := by simpa using List.find?_some hg
     rw [h1, List.mem_append, List.mem_singleton] at hgm
     rcases hgm with hgA | rfl
     ·obtain ⟨a1, a2, hsp⟩ := List.append_of_mem hgA
      have hgl := hl g hgA
      have hnd : (A.map Fil.n).Nodup := by rw [h, List.map_append] at hd; exact (List.nodup_append.1 hd).1
      rw [hsp, List.map_append, List.map_cons, List.nodup_append, List.nodup_cons] at hnd
      have h1' : E.fs = a1 ++ g :: (a2 ++ [⟨n, fa', lo'⟩]) := by rw [h1, hsp]; simp
      have e := yv h1' (fun x hx he => hnd.2.2 _ (List.mem_map_of_mem hx) g.n (by simp) he) (fun x hx he => by
       rw [List.mem_append, List.mem_singleton] at hx
       rcases hx with hx | rfl
       ·exact hnd.2.1.1 (he ▸ List.mem_map_of_mem hx)
       ·exact hkn (hgn ▸ he.symm)) (g.kt ++ g.jj.take (ya kl i g.jj.length)) []
      refine ⟨hr, fa', lo', ?_, h2, h3⟩
      rw [← hgn]
      refine e.trans ?_
      rw [hgl, hsp]
      obtain ⟨gn, gf, gl⟩ := g
      simp only at hgl
      subst hgl
      simp
     ·exact absurd hgn (fun h => hkn h.symm)
 obtain ⟨hr, fa', lo', h1, h2, h3⟩ := key D.jg.length (Nat.le_refl _)
 have hmem : n ∈ D.jg.take D.jg.length := by
  rw [List.take_length]
  refine (nu _).mem_iff.2 ?_
  unfold Dk.qp
  rw [h]; simp
 have hlo := h3 hmem
 subst hlo
 rcases h2 with ⟨rfl, rfl⟩ | ⟨_, s, rfl⟩
 ·exact ⟨0, hr, rfl, rfl, by simpa [Dk.uq] using h1⟩
 ·exact ⟨s, hr, rfl, rfl, h1⟩
theorem ayb (h : D.fs = []) (kl : List Int) : (D.uq kl).jb = D.jb ∧ (D.uq kl).je = false ∧ (D.uq kl).jt = false ∧ (D.uq kl).fs = [] := by
 have hf : D.jg = [] := by unfold Dk.jg Dk.qp; rw [h]; exact List.perm_nil.1 (nu [])
 unfold Dk.uq
 rw [hf]
 exact ⟨rfl, rfl, rfl, h⟩
end
def body (q : Prt) : List Int := nv q.first ++ cat q.iu
def ng (q : Prt) : Fil := ⟨q.no, body q, []⟩
def zx (n : Int) : List Int := lw (IntKind.u64.wrap n)
theorem ari (q : Prt) : body q = cat (zx q.first :: q.iu) := by unfold body nv cat zx; simp
theorem afm (a b : List (List Int)) : cat (a ++ b) = cat a ++ cat b := by unfold cat; simp
theorem anl (d : List Int) : cat [d] = ji d := by unfold cat; simp
theorem als : ∀ {ds : List (List Int)} {c r : List Int}, (∀ d ∈ ds, d.length ≤ 8192) → c ++ r = cat ds → ∃ j p, j ≤ ds.length ∧ c = cat (ds.take j) ++ p ∧ ahk p ∧ (j = ds.length → p = []) ∧ ∀ h : j < ds.length, p.length < (ji ds[j]).length
 | [], c, r, _, he => by
  have : c = [] := by
   have := congrArg List.length he
   simp [cat] at this
   exact this.1
  subst this
  exact ⟨0, [], Nat.le_refl _, by simp [cat], aqn, fun _ => rfl, fun h => by simp at h⟩
 | d :: ds, c, r, hd, he => by
  have e0 : cat (d :: ds) = ji d ++ cat ds := by simp [cat]
  rw [e0] at he
  by_cases hc : c.length < (ji d).length
  ·refine ⟨0, c, Nat.zero_le _, by simp [cat], ⟨d, c.length, hd d (by simp), hc, ?_⟩, fun h => by simp at h, fun _ => by simpa using hc⟩
   have := congrArg (List.take c.length) he
   rw [List.take_left' rfl, List.take_append, Nat.sub_eq_zero_of_le (by omega)] at this
   simpa using this
  ·obtain ⟨c', rfl⟩ : ∃ c', c = ji d ++ c' := by
    refine ⟨c.drop (ji d).length, ?_⟩
    have := congrArg (List.take (ji d).length) he
    rw [List.take_left' rfl, List.take_append, Nat.sub_eq_zero_of_le (by omega)] at this
    simp at this
    conv => lhs; rw [← List.take_append_drop (ji d).length c, this]
   rw [List.append_assoc] at he
   obtain ⟨j, p, h1, h2, h3, h4, h5⟩ := als (fun x hx => hd x (by simp [hx])) (List.append_cancel_left he)
   refine ⟨j + 1, p, by simp; omega, ?_, h3, fun h => h4 (by simpa using h), fun h => by simpa using h5 (by simpa using h)⟩
   rw [List.take_succ_cons]
   have : cat (d :: ds.take j) = ji d ++ cat (ds.take j) := by simp [cat]
   rw [this, h2, List.append_assoc]
theorem arf {ds : List (List Int)} {i j : Nat} (h : i ≤ j) : (cat (ds.take i)).length ≤ (cat (ds.take j)).length := by
 have : ds.take i = (ds.take j).take i := by rw [List.take_take, Nat.min_eq_left h]
 rw [this]
 conv => rhs; rw [← List.take_append_drop i (ds.take j), afm]
 simp
def jm (Q : List Prt) : List (List Int) := Q.flatMap Prt.iu
theorem nr (a b : List Prt) : jm (a ++ b) = jm a ++ jm b := by unfold jm; simp
theorem tp (q : Prt) : jm [q] = q.iu := by unfold jm; simp
def Chn : Int → Int → List Prt → Prop
 | _, _, [] => True
 | s, f, q :: r => q.no = s ∧ q.first = f ∧ (∀ d ∈ q.iu, d.length ≤ 8192) ∧ Chn ((s + 1) % 64) (f + q.iu.length) r
theorem rl {A B : List Prt} : ∀ {s f : Int}, 0 ≤ s ∧ s < 64 → (Chn s f (A ++ B) ↔ Chn s f A ∧ Chn ((s + A.length) % 64) (f + (jm A).length) B) := by
 induction A with
 | nil =>
  intro s f hs
  have : (s + (([] : List Prt).length : Int)) % 64 = s := by simp; omega
  rw [this]
  simp [Chn, jm]
 | cons q r ih =>
  intro s f hs
  have h1 := ih (s := (s + 1) % 64) (f := f + q.iu.length) (by omega)
  have e1 : ((s + 1) % 64 + (r.length : Int)) % 64 = (s + ((q :: r).length : Int)) % 64 := by simp; omega
  have e2 : f + (q.iu.length : Int) + ((jm r).length : Int) = f + ((jm (q :: r)).length : Int) := by unfold jm; simp; omega
  rw [e1, e2] at h1
  rw [List.cons_append, Chn, Chn, h1]
  constructor
  ·rintro ⟨a, b, c, d, e⟩; exact ⟨⟨a, b, c, d⟩, e⟩
  ·rintro ⟨⟨a, b, c, d⟩, e⟩; exact ⟨a, b, c, d, e⟩
theorem ahv : ∀ {Q : List Prt} {s f : Int}, 0 ≤ s ∧ s < 64 → Chn s f Q → ∀ i (h : i < Q.length), Q[i].no = (s + i) % 64
 | q :: r, s, f, hs, h, 0, hi => by have h1 : q.no = s := h.1; simp [h1]; omega
 | q :: r, s, f, hs, h, i + 1, hi => by
  have := ahv (s := (s + 1) % 64) (by omega) h.2.2.2 i (by simpa using hi)
  simp only [List.getElem_cons_succ]
  rw [this]; push_cast; omega
theorem apc {Q : List Prt} {s f : Int} (hs : 0 ≤ s ∧ s < 64) (h : Chn s f Q) (hl : Q.length ≤ 64) : (Q.map Prt.no).Nodup := by
 rw [List.nodup_iff_pairwise_ne, List.pairwise_iff_getElem]
 intro i j hi hj hij
 simp only [List.length_map] at hi hj
 rw [List.getElem_map, List.getElem_map, ahv hs h i hi, ahv hs h j hj]
 omega
theorem awz {Q : List Prt} {s f : Int} (hs : 0 ≤ s ∧ s < 64) (h : Chn s f Q) : ∀ q ∈ Q, 0 ≤ q.no ∧ q.no < 64 := fun q hq => by
 obtain ⟨i, hi, rfl⟩ := List.getElem_of_mem hq
 rw [ahv hs h i hi]; omega
def Dsc (Q : List Prt) (F : Nat) (D : Dk) (w : Prop) : Prop := (Q = [] ∧ D.fs = [] ∧ F = 0) ∨ ∃ Q0 q fa lo m, Q = Q0 ++ [q] ∧ D.fs = Q0.map ng ++ [⟨q.no, fa, lo⟩] ∧ (fa ++ lo) <+: body q ∧ (w → fa ++ lo = body q) ∧ m ≤ q.iu.length ∧ F ≤ (jm Q0).length + m ∧ (m = 0 ∨ nv q.first ++ cat (q.iu.take m) <+: fa)
structure Vir (s f : Int) (Q : List Prt) (F : Nat) (D : Dk) (w : Prop) : Prop where
 chn : Chn s f Q
 s0 : 0 ≤ s ∧ s < 64
 f0 : 0 ≤ f
 len : Q.length ≤ 63
 few : f + (jm Q).length ≤ 1000000000000
 dsc : Dsc Q F D w
 nil : Q = [] → s = 0 ∧ f = 0
 siz : ∀ q ∈ Q, q.size = (body q).length
structure ri (s f : Int) (L : Lg) (F : Nat) (D : Dk) : Prop where
 vir : Vir s f L.gy F D True
 size : ∀ q ∈ L.gy, q.size = (body q).length
 up : D.je = false
section
variable {s f : Int} {Q Q0 : List Prt} {q : Prt} {F : Nat} {D : Dk} {w : Prop} {fa lo : List Int} {L : Lg} {b : List Int}
theorem blj (Q : List Prt) : (Q.map ng).map Fil.n = Q.map Prt.no := by rw [List.map_map]; rfl
theorem vx (hs : 0 ≤ s ∧ s < 64) (h : Chn s f (Q0 ++ [q])) (hl : (Q0 ++ [q]).length ≤ 64) : ∀ x ∈ Q0.map ng, x.n ≠ q.no := fun x hx he => by
 have hn := apc hs h hl
 rw [List.map_append, List.nodup_append] at hn
 obtain ⟨p, hp, rfl⟩ := List.mem_map.1 hx
 exact hn.2.2 p.no (List.mem_map_of_mem hp) q.no (by simp) he
theorem apy (h : Vir s f L.gy F D True) (hd : D.je = false) : (L.nl D).2 = 0 ∧ Vir s f L.gy (jm L.gy).length (L.nl D).1 True ∧ (L.nl D).1.je = false ∧ (L.nl D).1.jt = D.jt ∧ (L.nl D).1.left = D.left ∧ (L.nl D).1.jb = D.jb ∧ (L.nl D).1.iz = D.iz := by
 unfold Lg.nl
 rw [hd]
 simp only [Bool.false_eq_true, if_false]
 rcases h.dsc with ⟨hq, hf, rfl⟩ | ⟨Q0, q, fa, lo, m, hq, hf, hp, hw, hm, hF, hy⟩
 ·rw [hq]
  simp only [List.getLast?_nil]
  exact ⟨by trivial, ⟨by rw [hq] at h; exact h.chn, h.s0, h.f0, by simp, by have := h.few; rw [hq] at this; exact this, .inl ⟨rfl, hf, rfl⟩, fun _ => h.nil hq, fun q hx => by simp at hx⟩, hd, by trivial, by trivial, by trivial, by trivial⟩
 ·rw [hq, List.getLast?_concat]
  have hA := vx h.s0 (hq ▸ h.chn) (by have := h.len; rw [hq] at this; omega)
  have hg : D.get q.no = some ⟨q.no, fa, lo⟩ := ace hf hA
  have hs := yv hf hA (by simp) (fa ++ lo) []
  simp only at hs
  have e : D.nl q.no = (D.ol q.no (fa ++ lo) [], 0) := by unfold Dk.nl; rw [hd, hg]; rfl
  simp only [e]
  rw [hw trivial] at hs ⊢
  refine ⟨by trivial, ⟨hq ▸ h.chn, h.s0, h.f0, hq ▸ h.len, hq ▸ h.few, .inr ⟨Q0, q, _, [], q.iu.length, rfl, hs, by simp, fun _ => by simp, Nat.le_refl _, by rw [nr, tp]; simp, .inr ?_⟩, fun h => by simp at h, hq ▸ h.siz⟩, hd, rfl, rfl, rfl, ?_⟩
  ·rw [List.take_length]; exact List.prefix_rfl
  ·unfold Dk.iz
   rw [hs, hf, ← hw trivial]
   simp [Fil.len]
theorem bmy (h : Vir s f Q F D w) (kl : List Int) : Vir s f Q F (D.uq kl) False ∧ (D.uq kl).je = false ∧ (D.uq kl).jt = false ∧ (D.uq kl).jb = D.jb := by
 rcases h.dsc with ⟨hq, hf, rfl⟩ | ⟨Q0, q, fa, lo, m, hq, hf, hp, hw, hm, hF, hy⟩
 ·obtain ⟨h1, h2, h3, h4⟩ := ayb hf kl
  exact ⟨⟨h.chn, h.s0, h.f0, h.len, h.few, .inl ⟨hq, h4, rfl⟩, h.nil, h.siz⟩, h2, h3, h1⟩
 ·have hA := vx h.s0 (hq ▸ h.chn) (by have := h.len; rw [hq] at this; omega)
  have hnd : (D.fs.map Fil.n).Nodup := by
   rw [hf, List.map_append, blj]
   have := apc h.s0 h.chn (by have := h.len; omega)
   rw [hq, List.map_append] at this
   exact this
  obtain ⟨k, h1, h2, h3, h4⟩ := azl hf hA (fun x hx => by obtain ⟨p, _, rfl⟩ := List.mem_map.1 hx; rfl) hnd kl
  refine ⟨⟨h.chn, h.s0, h.f0, h.len, h.few, .inr ⟨Q0, q, _, [], m, hq, h4, ?_, fun h => h.elim, hm, hF, ?_⟩, h.nil, h.siz⟩, h2, h3, h1⟩
  ·rw [List.append_nil]
   refine List.IsPrefix.trans ?_ hp
   exact (List.prefix_append_right_inj fa).2 (List.take_prefix _ _)
  ·exact hy.imp id fun h => h.trans (List.prefix_append _ _)
end
def Apd (D : Dk) (l : List Int) (fs : List Int → List Fil) (r : Dk × Int) : Prop := (r = (D, 9) ∧ D.jb < D.iz + l.length) ∨ ∃ E t, r = (E, if E.je then 10 else 0) ∧ E.fs = fs t ∧ t <+: l ∧ (E.je = false → t = l) ∧ E.jb = D.jb ∧ (D.jt = false → E.je = false ∧ E.jt = false)
section
variable {s f : Int} {Q Q0 : List Prt} {q : Prt} {F : Nat} {D : Dk} {w : Prop} {fa lo : List Int} {L : Lg} {b l : List Int} {A : List Fil} {k : Int}
theorem bhg (D : Dk) (l : List Int) : (D.after l).fs = D.fs := by unfold Dk.after; split <;> rfl
theorem bal (D : Dk) (l : List Int) : (D.after l).jb = D.jb := by unfold Dk.after; split <;> rfl
theorem awc (D : Dk) (l : List Int) : (D.after l).jt = D.jt := by unfold Dk.after; split <;> rfl
theorem arg (D : Dk) (l : List Int) : D.qd l <+: l := by
 unfold Dk.qd
 split
 ·exact List.take_prefix _ _
 ·exact List.prefix_rfl
theorem bbp (hd : D.je = false) (h : (D.after l).je = false) : D.qd l = l := by
 unfold Dk.qd
 unfold Dk.after at h
 by_cases ha : D.jt = true
 ·rw [if_pos ha] at h ⊢
  simp only [decide_eq_false_iff_not] at h
  exact List.take_of_length_le (by omega)
 ·rw [if_neg ha]
theorem bdf (hd : D.je = false) (h : D.jt = false) : (D.after l).je = false := by
 unfold Dk.after
 rw [h]
 simpa using hd
theorem awt {fs : List Int → List Fil} (hd : D.je = false) (hk : 0 ≤ k ∧ k < 64) (hp : ∃ E0 : Dk, D.put k l = E0.after l ∧ E0.fs = fs (D.qd l) ∧ E0.jb = D.jb ∧ E0.je = D.je ∧ E0.jt = D.jt ∧ E0.left = D.left) : Apd D l fs (D.append k l) := by
 unfold Dk.append
 rw [hd, if_neg (by simp), if_neg (by omega)]
 by_cases hr : D.jb < D.iz + l.length
 ·rw [if_pos hr]; exact .inl ⟨rfl, hr⟩
 ·rw [if_neg hr]
  obtain ⟨E0, h1, h2, h3, h4, h5, h6⟩ := hp
  have ht : E0.qd l = D.qd l := by unfold Dk.qd; rw [h5, h6]
  refine .inr ⟨_, D.qd l, rfl, by rw [h1, bhg, h2], arg _ _, fun h => ?_, by rw [h1, bal, h3], fun h => ?_⟩
  ·rw [← ht]
   exact bbp (h4.trans hd) (by rw [← h1]; exact h)
  ·rw [h1]
   exact ⟨bdf (h4.trans hd) (h5.trans h), (awc _ _).trans (h5.trans h)⟩
theorem bkm (hd : D.je = false) (hk : 0 ≤ k ∧ k < 64) (hA : ∀ x ∈ D.fs, x.n ≠ k) : Apd D l (fun t => D.fs ++ [⟨k, [], t⟩]) (D.append k l) := by
 refine awt hd hk ⟨(D.adw k).ol k [] (D.qd l), ?_, ?_, rfl, rfl, rfl, rfl⟩
 ·unfold Dk.put; rw [bll hA]
 ·exact yv (D := D.adw k) (A := D.fs) (f := ⟨k, [], []⟩) (B := []) rfl hA (by simp) [] (D.qd l)
theorem bkg (hd : D.je = false) (hk : 0 ≤ k ∧ k < 64) (h : D.fs = A ++ [⟨k, fa, lo⟩]) (hA : ∀ x ∈ A, x.n ≠ k) : Apd D l (fun t => A ++ [⟨k, fa, lo ++ t⟩]) (D.append k l) := by
 refine awt hd hk ⟨D.ol k fa (lo ++ D.qd l), ?_, ?_, rfl, rfl, rfl, rfl⟩
 ·unfold Dk.put; rw [ace h hA]
 ·exact yv h hA (by simp) fa (lo ++ D.qd l)
inductive App (s f : Int) (L : Lg) (F : Nat) (D : Dk) (b : List Int) : (Lg × Dk) × Int → Prop where
 | amh : 8192 < b.length → App s f L F D b ((L, D), 4)
 | vk (D' : Dk) : (63 ≤ L.gy.length ∨ D.jb < D.iz + (24 + b.length : Nat)) → ri s f L F D' → D'.jb = D.jb → D'.jt = D.jt → App s f L F D b ((L, D'), 9)
 | je (D' : Dk) (Q : List Prt) : D.jt = true → D'.je = true → Vir s f Q F D' False → jm Q = jm L.gy ++ [b] → D'.jb = D.jb → App s f L F D b ((L, D'), 10)
 | ok (L' : Lg) (D' : Dk) : ri s f L' F D' → jm L'.gy = jm L.gy ++ [b] → L'.gy.length ≤ L.gy.length + 1 → L'.gy ≠ [] → L'.ik = L.ik → D'.jb = D.jb → (D.jt = false → D'.jt = false) → D'.iz ≤ D.iz + (24 + b.length) → (∀ q, L.gy = [q] → q.size < L.ik → L'.gy.length = 1) → App s f L F D b ((L', D'), 0)
theorem ahg (q : Prt) (b : List Int) : body (q.ru b) = body q ++ ji b := by
 unfold body Prt.ru
 rw [afm, anl, List.append_assoc]
theorem bgr (no n : Int) (b : List Int) (z : Int) : body ⟨no, n, [b], z⟩ = nv n ++ ji b := by unfold body; rw [anl]
theorem afe (h : Chn s f (Q0 ++ [q])) (hs : 0 ≤ s ∧ s < 64) : q.no = (s + Q0.length) % 64 ∧ q.first = f + (jm Q0).length ∧ ∀ d ∈ q.iu, d.length ≤ 8192 := by
 obtain ⟨_, h2⟩ := (rl hs).1 h
 exact ⟨h2.1, h2.2.1, h2.2.2.1⟩
theorem aqm (h : Chn s f L.gy) (hs : 0 ≤ s ∧ s < 64) (h0 : L.gy = [] → f = 0) (hf0 : 0 ≤ f) (hf : f + (jm L.gy).length ≤ 1000000000000) : L.next = f + (jm L.gy).length := by
 unfold Lg.next
 rcases List.eq_nil_or_concat L.gy with hq | ⟨Q0, q, hq⟩
 ·rw [hq]; simp [jm, h0 hq]
 ·rw [List.concat_eq_append] at hq
  rw [hq, List.getLast?_concat]
  rw [hq] at h hf
  obtain ⟨_, h2, _⟩ := afe h hs
  rw [nr, tp] at hf ⊢
  simp only
  rw [h2, ia (by omega) (by simp at hf; omega)]
  simp; omega
theorem beb (h : Dsc Q F D w) : F ≤ (jm Q).length := by
 rcases h with ⟨_, _, rfl⟩ | ⟨Q0, q, fa, lo, m, rfl, _, _, _, hm, hF, _⟩
 ·exact Nat.zero_le _
 ·rw [nr, tp]; simp; omega
theorem bej {F' : Nat} (h : Vir s f Q F D w) (hF : F' ≤ F) : Vir s f Q F' D w := by
 refine ⟨h.chn, h.s0, h.f0, h.len, h.few, ?_, h.nil, h.siz⟩
 rcases h.dsc with ⟨h1, h2, h3⟩ | ⟨Q0, q, fa, lo, m, h1, h2, h3, h4, h5, h6, h7⟩
 ·exact .inl ⟨h1, h2, by omega⟩
 ·exact .inr ⟨Q0, q, fa, lo, m, h1, h2, h3, h4, h5, by omega, h7⟩
theorem bmz {D0 : Dk} (h : ri s f L F D) (hfs : D.fs = L.gy.map ng) (hlen : L.gy.length ≤ 62) (hfew : f + (jm L.gy).length + 1 ≤ 1000000000000) (hb : b.length ≤ 8192) (hm : ∀ q, L.gy = [q] → L.ik ≤ q.size) (hr : D.jb = D0.jb) (ha : D.jt = D0.jt) (hu : D.iz = D0.iz) {no : Int} (hno : no = (s + L.gy.length) % 64) : App s f L F D0 b (L.aba D b no) := by
 have hv := h.vir
 have hnx := aqm hv.chn hv.s0 (fun h => (hv.nil h).2) hv.f0 hv.few
 unfold Lg.aba
 have hbl : (nv L.next ++ ji b).length = 24 + b.length := by rw [List.length_append, agv, ny]; omega
 generalize hq' : (⟨no, L.next, [b], ((nv L.next ++ ji b).length : Nat)⟩ : Prt) = q'
 have e1 : q'.no = no := by rw [← hq']
 have e2 : q'.first = L.next := by rw [← hq']
 have e3 : q'.iu = [b] := by rw [← hq']
 have e5 : body q' = nv L.next ++ ji b := by rw [← hq', bgr]
 have e4 : q'.size = (body q').length := by rw [e5, ← hq']
 rw [← e5] at hbl ⊢
 have hch : Chn s f (L.gy ++ [q']) := (rl hv.s0).2 ⟨hv.chn, by rw [e1, hno], by rw [e2, hnx], by rw [e3]; simpa using hb, trivial⟩
 have hA := vx hv.s0 hch (by simp; omega)
 rw [← hfs, e1] at hA
 have hall : jm (L.gy ++ [q']) = jm L.gy ++ [b] := by rw [nr, tp, e3]
 have hF := beb hv.dsc
 have hsz : ∀ x ∈ L.gy ++ [q'], x.size = (body x).length := fun x hx => by
  rcases List.mem_append.1 hx with hx | hx
  ·exact h.size x hx
  ·rw [List.mem_singleton.1 hx]; exact e4
 have hvir : ∀ {E : Dk} {t : List Int} {w : Prop}, E.fs = D.fs ++ [⟨no, [], t⟩] → t <+: body q' → (w → t = body q') → Vir s f (L.gy ++ [q']) F E w := fun {E t w} hE ht hw => ⟨hch, hv.s0, hv.f0, by simp; omega, by rw [hall]; simp; omega, .inr ⟨L.gy, q', [], t, 0, rfl, by rw [hE, hfs, e1], ht, hw, Nat.zero_le _, hF, .inl rfl⟩, fun h => by simp at h, hsz⟩
 rcases bkm (l := body q') h.up (by omega) hA with ⟨e, hx⟩ | ⟨E, t, e, hE, ht, htl, hrm, har⟩
 ·rw [e, if_neg (by simp)]
  refine App.vk D (.inr ?_) h hr ha
  rw [← hr, ← hu]
  omega
 ·rw [e]
  cases hd : E.je with
  | true =>
   simp only [if_true]
   rw [if_neg (by simp)]
   refine App.je E _ ?_ hd (hvir hE ht fun h => h.elim) hall (hrm.trans hr)
   rw [← ha]
   cases hda : D.jt with
   | true => rfl
   | false => rw [(har hda).1] at hd; cases hd
  | false =>
   simp only [Bool.false_eq_true, if_false, if_true]
   have htl' := htl hd
   have hg : ri s f { L with gy := L.gy ++ [q'] } F E := ⟨hvir hE ht fun _ => htl', hsz, hd⟩
   refine App.ok { L with gy := L.gy ++ [q'] } E hg hall (by simp) (by simp) rfl (hrm.trans hr) (fun hx => (har (ha.trans hx)).2) ?_ fun q hq hsz => absurd (hm q hq) (by omega)
   rw [← hu]
   unfold Dk.iz
   rw [hE, htl']
   simp [Fil.len]
   omega
theorem bjl (h : ri s f L F D) (hq : L.gy = Q0 ++ [q]) : ∃ D1, D.nl q.no = (D1, 0) ∧ D1.fs = L.gy.map ng ∧ ri s f L F D1 ∧ D1.jb = D.jb ∧ D1.jt = D.jt ∧ D1.iz = D.iz := by
 have hv := h.vir
 obtain ⟨h1, h2, h3, h4, h5, h6, h7⟩ := apy hv h.up
 have e : L.nl D = D.nl q.no := by unfold Lg.nl; rw [h.up, hq, List.getLast?_concat]; rfl
 rw [e] at h1 h2 h3 h4 h5 h6 h7
 refine ⟨(D.nl q.no).1, by rw [← h1], ?_, ⟨bej h2 (beb hv.dsc), h.size, h3⟩, h6, h4, h7⟩
 rcases hv.dsc with ⟨hx, _⟩ | ⟨Q1, q1, fa, lo, m, hq1, hf, _, hw, _⟩
 ·rw [hx] at hq; simp at hq
 ·obtain ⟨rfl, hqq⟩ := List.append_inj' (hq.symm.trans hq1) rfl
  cases hqq
  have hA := vx hv.s0 (hq ▸ hv.chn) (by have := hv.len; rw [hq] at this; omega)
  have hs := yv hf hA (by simp) (fa ++ lo) []
  have hg : D.get q.no = some ⟨q.no, fa, lo⟩ := ace hf hA
  have e2 : D.nl q.no = (D.ol q.no (fa ++ lo) [], 0) := by unfold Dk.nl; rw [h.up, hg]; rfl
  simp only at hs
  rw [e2, hs, hw trivial, hq]
  simp [ng]
theorem big (h : ri s f L F D) (hfew : f + (jm L.gy).length + 1 ≤ 1000000000000) : App s f L F D b (L.append D b) := by
 have hv := h.vir
 unfold Lg.append
 by_cases hb : 8192 < b.length
 ·rw [if_pos hb]; exact App.amh hb
 ·rw [if_neg hb]
  rcases List.eq_nil_or_concat L.gy with hq | ⟨Q0, q, hq⟩
  ·have hsf := hv.nil hq
   have hfs : D.fs = L.gy.map ng := by
    rcases hv.dsc with ⟨_, hf, _⟩ | ⟨Q1, q1, fa, lo, m, hq1, _⟩
    ·rw [hf, hq]; rfl
    ·rw [hq] at hq1; simp at hq1
   rw [show L.gy.getLast? = none by rw [hq]; rfl]
   unfold Lg.aai
   rw [show L.gy.getLast? = none by rw [hq]; rfl]
   exact bmz h hfs (by rw [hq]; simp) hfew (by omega) (fun q hx => by rw [hq] at hx; simp at hx) rfl rfl rfl (by rw [hq, hsf.1]; rfl)
  ·rw [List.concat_eq_append] at hq
   have hgl : L.gy.getLast? = some q := by rw [hq, List.getLast?_concat]
   rw [hgl]
   simp only
   obtain ⟨cn, cf, cr⟩ := afe (hq ▸ hv.chn) hv.s0
   by_cases hm : L.ik ≤ q.size
   ·rw [if_pos hm]
    unfold Lg.aai
    rw [hgl]
    simp only
    by_cases h63 : 63 ≤ L.gy.length
    ·rw [if_pos h63]
     exact App.vk D (.inl h63) h rfl rfl
    ·rw [if_neg h63]
     obtain ⟨D1, e1, e2, e3, e4, e5, e6⟩ := bjl h hq
     rw [e1, if_pos rfl]
     refine bmz e3 e2 (by omega) hfew (by omega) (fun q1 hx => ?_) e4 e5 e6 ?_
     ·rw [hq] at hx
      have hx2 : Q0 ++ [q] = [] ++ [q1] := hx
      obtain ⟨_, hx3⟩ := List.append_inj' hx2 rfl
      cases hx3; exact hm
     ·rw [cn, hq]; simp; omega
   ·rw [if_neg hm]
    rcases hv.dsc with ⟨hx, _⟩ | ⟨Q1, q1, fa, lo, m, hq1, hf, _, hw, hmm, hF, hy⟩
    ·rw [hx] at hq; simp at hq
    obtain ⟨rfl, hqq⟩ := List.append_inj' (hq.symm.trans hq1) rfl
    cases hqq
    have hl63 := hv.len
    have hA := vx hv.s0 (hq ▸ hv.chn) (by rw [hq] at hl63; omega)
    have hset : L.gy.set (L.gy.length - 1) (q.ru b) = Q0 ++ [q.ru b] := by
     rw [hq]; simp
    have hch : Chn s f (Q0 ++ [q.ru b]) := (rl hv.s0).2 ⟨((rl hv.s0).1 (hq ▸ hv.chn)).1, cn, cf, fun d hd => by
     rcases List.mem_append.1 hd with hd | hd
     ·exact cr d hd
     ·rw [List.mem_singleton.1 hd]; omega, trivial⟩
    have hall : jm (Q0 ++ [q.ru b]) = jm L.gy ++ [b] := by rw [hq, nr, nr, tp, tp, List.append_assoc]; rfl
    have hsz : ∀ x ∈ Q0 ++ [q.ru b], x.size = (body x).length := fun x hx => by
     rcases List.mem_append.1 hx with hx | hx
     ·exact h.size x (by rw [hq]; exact List.mem_append_left _ hx)
     ·rw [List.mem_singleton.1 hx, ahg, List.length_append]
      have := h.size q (by rw [hq]; simp)
      show q.size + _ = _
      rw [this]; simp
    have hvir : ∀ {E : Dk} {t : List Int} {w : Prop}, E.fs = Q0.map ng ++ [⟨q.no, fa, lo ++ t⟩] → t <+: ji b → (w → t = ji b) → Vir s f (Q0 ++ [q.ru b]) F E w := fun {E t w} hE ht hwt => by
     have ew : fa ++ (lo ++ t) = body q ++ t := by rw [← hw trivial, List.append_assoc]
     refine ⟨hch, hv.s0, hv.f0, by rw [hq] at hl63; simpa using hl63, by rw [hall]; simp; omega, .inr ⟨Q0, q.ru b, fa, lo ++ t, m, rfl, hE, ?_, fun hh => ?_, ?_, hF, ?_⟩, fun h => by simp at h, hsz⟩
     ·rw [ew, ahg]; exact (List.prefix_append_right_inj _).2 ht
     ·rw [ew, ahg, hwt hh]
     ·unfold Prt.ru; simp; omega
     ·refine hy.imp id fun hy => ?_
      have : (q.ru b).iu.take m = q.iu.take m := by unfold Prt.ru; exact List.take_append_of_le_length hmm
      rw [this]
      exact hy
    rcases bkg (l := ji b) h.up (awz hv.s0 hv.chn q (by rw [hq]; simp)) hf hA with ⟨e, hx⟩ | ⟨E, t, e, hE, ht, htl, hrm, har⟩
    ·rw [e, if_neg (by simp)]
     refine App.vk D (.inr ?_) h rfl rfl
     rw [ny] at hx
     omega
    ·rw [e]
     cases hd : E.je with
     | true =>
      simp only [if_true]
      rw [if_neg (by simp)]
      refine App.je E _ ?_ hd (hvir hE ht fun h => h.elim) hall hrm
      cases hda : D.jt with
      | true => rfl
      | false => rw [(har hda).1] at hd; cases hd
     | false =>
      simp only [Bool.false_eq_true, if_false, if_true]
      rw [hset]
      have htl' := htl hd
      have hg : ri s f { L with gy := Q0 ++ [q.ru b] } F E := ⟨hvir hE ht fun _ => htl', hsz, hd⟩
      refine App.ok { L with gy := Q0 ++ [q.ru b] } E hg hall (by rw [hq]; simp) (by simp) rfl hrm (fun hx => (har hx).2) ?_ fun q1 hx _ => ?_
      ·unfold Dk.iz
       rw [hE, hf, htl']
       simp [Fil.len, ny]
       omega
      ·rw [hq] at hx
       have := congrArg List.length hx
       simpa using this
end
def up (a : Int) (c : Nat) : List Int := (List.range c).map fun i : Nat => a + (i : Int)
theorem xw (a : Int) (c : Nat) : (up a c).length = c := by simp [up]
theorem acj (a : Int) (c : Nat) (i : Nat) (h : i < (up a c).length) : (up a c)[i] = a + i := by simp [up]
theorem aml {a x : Int} {c : Nat} : x ∈ up a c ↔ a ≤ x ∧ x < a + c := by
 simp only [up, List.mem_map, List.mem_range]
 constructor
 ·rintro ⟨i, hi, rfl⟩; omega
 ·rintro ⟨h1, h2⟩; exact ⟨(x - a).toNat, by omega, by omega⟩
theorem agu (a : Int) (c : Nat) : (up a c).Pairwise (· ≤ ·) := by
 rw [List.pairwise_iff_getElem]
 intro i j hi hj hij
 rw [acj, acj]; omega
theorem awn {l l' : List Int} (h : l.Pairwise (· ≤ ·)) (hp : l'.Perm l) : mw l' = l := by
 have hs : (mw l').Pairwise fun a b => decide (a ≤ b) = true := List.pairwise_mergeSort (fun a b c h1 h2 => by simp at *; omega) (fun a b => by simp; omega) l'
 exact List.Perm.eq_of_pairwise (fun a b _ _ h1 h2 => by simp at h1 h2; omega) hs (h.imp fun h => by simpa using h) ((nu l').trans hp)
theorem ajh {ns : List Int} (h : ∀ i (hi : i < ns.length), 0 < i → (ns[i] + 63) % 64 ∈ ns) : ∀ f i, xx ns f i = ns
 | 0, _ => rfl
 | f + 1, i => by
  rw [xx]
  cases hg : ns[i]? with
  | none => rfl
  | some n =>
   obtain ⟨hi, rfl⟩ := List.getElem?_eq_some_iff.1 hg
   simp only
   rw [if_neg (fun hx => hx.2 (h i hi hx.1))]
   exact ajh h f (i + 1)
theorem aji {ns : List Int} {j : Nat} (hj : j < ns.length) (hj0 : 0 < j) (h : ∀ i (hi : i < ns.length), 0 < i → i < j → (ns[i] + 63) % 64 ∈ ns) (hn : (ns[j] + 63) % 64 ∉ ns) : ∀ f i, i ≤ j → j < i + f → xx ns f i = ns.drop j ++ ns.take j
 | 0, i, h1, h2 => by omega
 | f + 1, i, h1, h2 => by
  rw [xx, List.getElem?_eq_getElem (by omega)]
  simp only
  by_cases hij : i = j
  ·subst hij
   rw [if_pos ⟨hj0, hn⟩]
  ·rw [if_neg (fun hx => hx.2 (h i (by omega) hx.1 (by omega)))]
   exact aji hj hj0 h hn f (i + 1) (by omega) (by omega)
def wk (s : Int) (n : Nat) : List Int := (List.range n).map fun i : Nat => (s + (i : Int)) % 64
theorem azg {s : Int} {n : Nat} (hs : 0 ≤ s ∧ s < 64) (hn : n ≤ 63) : zh (mw (wk s n)) = wk s n := by
 by_cases hw : s + n ≤ 64
 ·have e : wk s n = up s n := by
   unfold wk up
   exact List.map_congr_left fun i hi => by rw [List.mem_range] at hi; omega
  rw [e, awn (agu s n) (List.Perm.refl _)]
  refine ajh (fun i hi h0 => ?_) _ _
  rw [acj, aml]
  rw [xw] at hi
  omega
 ·obtain ⟨a, ha⟩ : ∃ a : Nat, (a : Int) = s + n - 64 := ⟨(s + n - 64).toNat, by omega⟩
  obtain ⟨c, hc⟩ : ∃ c : Nat, (c : Int) = 64 - s := ⟨(64 - s).toNat, by omega⟩
  have e : wk s n = up s c ++ up 0 a := by
   apply List.ext_getElem
   ·simp [wk, xw]; omega
   ·intro i h1 h2
    rw [List.getElem_append]
    simp only [wk, List.length_map, List.length_range] at h1
    have el : (wk s n)[i]'(by simpa [wk] using h1) = (s + i) % 64 := by simp [wk]
    rw [el]
    split
    ·rename_i h; rw [acj]; rw [xw] at h; omega
    ·rename_i h; rw [acj]; rw [xw] at h ⊢; omega
  have hsrt : mw (wk s n) = up 0 a ++ up s c := by
   refine awn ?_ (by rw [e]; exact List.perm_append_comm)
   rw [List.pairwise_append]
   refine ⟨agu _ _, agu _ _, fun x hx y hy => ?_⟩
   rw [aml] at hx hy
   omega
  rw [hsrt]
  have hlen : (up 0 a ++ up s c).length = a + c := by simp [xw]
  have hmem : ∀ x, x ∈ up 0 a ++ up s c ↔ (0 ≤ x ∧ x < a) ∨ (s ≤ x ∧ x < 64) := fun x => by
   rw [List.mem_append, aml, aml]; omega
  have hga : (up 0 a ++ up s c)[a]'(by rw [hlen]; omega) = s := by
   rw [List.getElem_append_right (by rw [xw]; omega), acj]; simp [xw]
  have := aji (ns := up 0 a ++ up s c) (j := a) (by rw [hlen]; omega) (by omega) (fun i hi h0 hia => by
   rw [hmem, List.getElem_append_left (by rw [xw]; exact hia), acj]; omega) (by rw [hmem, hga]; omega) (up 0 a ++ up s c).length 0 (Nat.zero_le _) (by rw [hlen]; omega)
  unfold zh
  rw [this, e, List.drop_left' (xw _ _), List.take_left' (xw _ _)]
theorem bfr {Q : List Prt} {s f : Int} (hs : 0 ≤ s ∧ s < 64) (h : Chn s f Q) : Q.map Prt.no = wk s Q.length := by
 apply List.ext_getElem
 ·simp [wk]
 ·intro i h1 h2
  simp only [List.length_map] at h1
  rw [List.getElem_map, ahv hs h i h1]
  simp [wk]
theorem bba {Q : List Prt} {s f : Int} {D : Dk} (hs : 0 ≤ s ∧ s < 64) (h : Chn s f Q) (hl : Q.length ≤ 63) (hd : D.qp = Q.map Prt.no) : zh D.jg = Q.map Prt.no := by
 unfold Dk.jg
 rw [hd, bfr hs h, azg hs hl]
section
variable {s f : Int} {Q Q0 : List Prt} {q : Prt} {F : Nat} {D : Dk} {w : Prop} {fa lo : List Int} {L : Lg} {b l : List Int} {A B : List Fil} {k : Int}
theorem aay (n : Int) : (zx n).length = 8 := lx _
theorem ali {n : Int} (h0 : 0 ≤ n) (h1 : n ≤ 1000000000000) : IntKind.i64.wrap (akj (zx n)) = n := by
 unfold zx
 rw [acm h0 (by omega)]
 obtain ⟨m, rfl⟩ : ∃ m : Nat, n = m := ⟨n.toNat, by omega⟩
 have := aoe (n := m) (by omega) []
 rw [List.append_nil] at this
 rw [this, ia]
theorem atw (hd : D.je = false) (h : D.fs = A ++ ⟨k, fa, lo⟩ :: B) (hA : ∀ x ∈ A, x.n ≠ k) : D.lz k = (fa ++ lo, 0) := by
 unfold Dk.lz
 rw [hd, ace h hA]
 rfl
theorem auj (hr : ∀ d ∈ q.iu, d.length ≤ 8192) {p : List Int} (hp : ahk p) : vv (body q ++ p) = (zx q.first :: q.iu, (body q).length) := by
 rw [ari]
 exact aum (fun d hd => by
  rcases List.mem_cons.1 hd with rfl | hd
  ·rw [aay]; omega
  ·exact hr d hd) hp
theorem aof (hd : D.je = false) (h : D.fs = A ++ ⟨q.no, fa, lo⟩ :: B) (hA : ∀ x ∈ A, x.n ≠ q.no) (hc : fa ++ lo = body q) (hr : ∀ d ∈ q.iu, d.length ≤ 8192) (h0 : 0 ≤ q.first) (h1 : q.first ≤ 1000000000000) (hz : q.size = (body q).length) (lr : Bool) : qc D q.no lr = ((D, some q), 0) := by
 unfold qc
 have ha := auj hr aqn
 rw [List.append_nil] at ha
 rw [atw hd h hA]
 simp only [hc, ha]
 have e : abw q.no (zx q.first :: q.iu, (body q).length) = q := by
  unfold abw
  simp only [List.headD_cons, List.tail_cons]
  rw [ali h0 h1, ← hz]
 rw [if_neg (by simp), if_neg (by simp), if_neg (by simp), if_neg (by simp [aay]), if_neg (by omega), e]
theorem bgm {c : List Int} (hr : ∀ d ∈ q.iu, d.length ≤ 8192) (hc : c <+: body q) : (ahk c ∧ c.length < (nv q.first).length) ∨ ∃ j p, j ≤ q.iu.length ∧ c = nv q.first ++ cat (q.iu.take j) ++ p ∧ ahk p ∧ (c = body q → j = q.iu.length ∧ p = []) ∧ ∀ m, m ≤ q.iu.length → (nv q.first ++ cat (q.iu.take m)).length ≤ c.length → m ≤ j := by
 obtain ⟨r, he⟩ := hc
 rw [ari] at he
 have hd : ∀ d ∈ zx q.first :: q.iu, d.length ≤ 8192 := fun d hd => by
  rcases List.mem_cons.1 hd with rfl | hd
  ·rw [aay]; omega
  ·exact hr d hd
 obtain ⟨j, p, h1, h2, h3, h4, h5⟩ := als hd he
 cases j with
 | zero =>
  have hcp : c = p := by rw [h2]; simp [cat]
  subst hcp
  exact .inl ⟨h3, h5 (by simp)⟩
 | succ j =>
  have h1' : j ≤ q.iu.length := by simpa using h1
  have e : cat ((zx q.first :: q.iu).take (j + 1)) = nv q.first ++ cat (q.iu.take j) := by
   rw [List.take_succ_cons]; simp [cat, nv, zx]
  rw [e] at h2
  have hlen : ∀ m, m ≤ q.iu.length → (nv q.first ++ cat (q.iu.take m)).length ≤ c.length → m ≤ j := fun m hm hl => by
   by_cases hjm : m ≤ j
   ·exact hjm
   ·exfalso
    have hjl : j < q.iu.length := by omega
    have hp := h5 (by simpa using hjl)
    simp only [List.getElem_cons_succ] at hp
    have h6 : (cat (q.iu.take (j + 1))).length ≤ (cat (q.iu.take m)).length := arf (by omega)
    have e6 : cat (q.iu.take (j + 1)) = cat (q.iu.take j) ++ ji q.iu[j] := by rw [List.take_succ_eq_append_getElem hjl, afm, anl]
    rw [e6] at h6
    rw [h2] at hl
    simp only [List.length_append] at hl h6
    omega
  refine .inr ⟨j, p, h1', h2, h3, fun hb => ?_, hlen⟩
  have : q.iu.length ≤ j := hlen _ (Nat.le_refl _) (by rw [hb, List.take_length]; exact Nat.le_refl _)
  have hj : j = q.iu.length := by omega
  exact ⟨hj, h4 (by simp; omega)⟩
theorem ben {c : List Int} (h : ahk c) : vv c = ([], 0) := by
 have := aum (ds := []) (fun d hd => by simp at hd) h
 simpa [cat] using this
theorem bbu (hd : D.je = false) (h : D.fs = A ++ [⟨q.no, fa, lo⟩]) (hA : ∀ x ∈ A, x.n ≠ q.no) (hc : (fa ++ lo) <+: body q) (hr : ∀ d ∈ q.iu, d.length ≤ 8192) (h0 : 0 ≤ q.first) (h1 : q.first ≤ 1000000000000) (hz : q.size = (body q).length) :
  ((fa ++ lo).length < (nv q.first).length ∧ ∃ D', qc D q.no true = ((D', none), 0) ∧ D'.fs = A ∧ D'.jb = D.jb ∧ D'.jt = D.jt ∧ D'.je = false) ∨
  ∃ (j : Nat) (q' : Prt) (D' : Dk) (fa' lo' : List Int), j ≤ q.iu.length ∧ qc D q.no true = ((D', some q'), 0) ∧ D'.fs = A ++ [⟨q.no, fa', lo'⟩] ∧ fa' ++ lo' = body q' ∧ q'.no = q.no ∧ q'.first = q.first ∧ q'.iu = q.iu.take j ∧ q'.size = (body q').length ∧ D'.jb = D.jb ∧ D'.jt = D.jt ∧ D'.je = false ∧ fa'.length + lo'.length ≤ fa.length + lo.length ∧
   (fa ++ lo = body q → D' = D ∧ q' = q ∧ j = q.iu.length) ∧ (∀ m, m ≤ q.iu.length → (nv q.first ++ cat (q.iu.take m)).length ≤ (fa ++ lo).length → m ≤ j) := by
 have hg : D.get q.no = some ⟨q.no, fa, lo⟩ := ace h hA
 have hrd : D.lz q.no = (fa ++ lo, 0) := atw (B := []) hd h hA
 rcases bgm hr hc with ⟨ht, hl⟩ | ⟨j, p, hj, hcc, hp, hb, hm⟩
 ·refine .inl ⟨hl, D.rem q.no, ?_, ?_, rfl, rfl, hd⟩
  ·unfold qc
   rw [hrd]
   simp only [ben ht]
   rw [if_neg (by simp), if_neg (by simp), if_pos (by simp)]
   unfold Dk.aey
   rw [hd, hg]
   rfl
  ·have := bjn (B := []) h hA (by simp)
   simpa using this
 ·by_cases hbody : fa ++ lo = body q
  ·refine .inr ⟨q.iu.length, q, D, fa, lo, Nat.le_refl _, aof hd h hA hbody hr h0 h1 hz true, h, hbody, rfl, rfl, by simp, hz, rfl, rfl, hd, Nat.le_refl _, fun _ => ⟨rfl, rfl, rfl⟩, fun m hm _ => hm⟩
  ·obtain ⟨q', hq'⟩ : ∃ q' : Prt, q' = ⟨q.no, q.first, q.iu.take j, ((nv q.first ++ cat (q.iu.take j)).length : Nat)⟩ := ⟨_, rfl⟩
   have e1 : q'.no = q.no := by rw [hq']
   have e2 : q'.first = q.first := by rw [hq']
   have e3 : q'.iu = q.iu.take j := by rw [hq']
   have e4 : body q' = nv q.first ++ cat (q.iu.take j) := by unfold body; rw [e2, e3]
   have e5 : q'.size = (body q').length := by rw [e4, hq']
   have hcc' : fa ++ lo = body q' ++ p := by rw [hcc, e4]
   have hr' : ∀ d ∈ q'.iu, d.length ≤ 8192 := fun d hd => hr d (by rw [e3] at hd; exact List.mem_of_mem_take hd)
   have ha := auj hr' hp
   have eq : abw q.no (zx q'.first :: q'.iu, (body q').length) = q' := by
    unfold abw
    simp only [List.headD_cons, List.tail_cons]
    rw [e2, ali h0 h1, ← e5, e3, hq']
   by_cases hpn : p = []
   ·subst hpn
    rw [List.append_nil] at ha hcc'
    refine .inr ⟨j, q', D, fa, lo, hj, ?_, h, hcc', e1, e2, e3, e5, rfl, rfl, hd, Nat.le_refl _, fun hx => absurd hx hbody, hm⟩
    unfold qc
    rw [hrd]
    simp only [hcc', ha]
    rw [if_neg (by simp), if_neg (by simp), if_neg (by simp), if_neg (by simp [aay]), if_neg (by omega), eq]
   ·have hplen : 0 < p.length := List.length_pos_iff.2 hpn
    have hs := yv h hA (by simp) (body q') []
    simp only at hs
    have hcut : D.cut q.no ((body q').length : Nat) = (D.ol q.no (body q') [], 0) := by
     unfold Dk.cut
     rw [hd, hg]
     simp only [Bool.false_eq_true, if_false]
     have hl : (fa.length + lo.length : Nat) = (body q').length + p.length := by rw [← List.length_append, ← List.length_append, hcc']
     rw [if_neg (by omega), Int.toNat_natCast, hcc', List.take_left' rfl]
    refine .inr ⟨j, q', D.ol q.no (body q') [], body q', [], hj, ?_, hs, by simp, e1, e2, e3, e5, rfl, rfl, hd, by have := congrArg List.length hcc'; simp only [List.length_append] at this; simp; omega, fun hx => absurd hx hbody, hm⟩
    unfold qc
    rw [hrd]
    simp only [hcc', ha, hcut]
    rw [if_neg (by simp), if_neg (by simp), if_neg (by simp), if_neg (by simp [aay]), if_pos (by rw [List.length_append]; omega), if_neg (by simp), eq]
end
section
variable {s f : Int} {Q Q0 : List Prt} {q : Prt} {F : Nat} {D : Dk} {w : Prop} {fa lo : List Int} {L : Lg} {b l : List Int} {A B : List Fil} {k : Int}
theorem alx {acc : List Prt} (h : Chn s f acc) (hs : 0 ≤ s ∧ s < 64) (hne : acc ≠ []) (hf0 : 0 ≤ f) (hf : f + (jm acc).length ≤ 1000000000000) : aen acc = f + (jm acc).length :=
 aqm (L := ⟨0, acc⟩) h hs (fun h => absurd h hne) hf0 hf
theorem asp (hd : D.je = false) (hs : 0 ≤ s ∧ s < 64) (hf0 : 0 ≤ f) : ∀ (Q1 acc : List Prt), Chn s f (acc ++ Q1 ++ [q]) → (acc ++ Q1 ++ [q]).length ≤ 63 → f + (jm (acc ++ Q1 ++ [q])).length ≤ 1000000000000 → (∀ x ∈ Q1, x.size = (body x).length) → D.fs = (acc ++ Q1).map ng ++ B → ws (Q1.map Prt.no ++ [k]) D acc = ws [k] D (acc ++ Q1)
 | [], acc, _, _, _, _, _ => by simp
 | q1 :: Q1, acc, hc, hl, hfew, hz, hfs => by
  have e0 : acc ++ q1 :: Q1 ++ [q] = (acc ++ [q1]) ++ Q1 ++ [q] := by simp
  have e1 : acc ++ q1 :: Q1 ++ [q] = (acc ++ [q1]) ++ (Q1 ++ [q]) := by simp
  have e2 : acc ++ q1 :: Q1 ++ [q] = acc ++ (q1 :: Q1 ++ [q]) := by simp
  have hc1 : Chn s f (acc ++ [q1]) := ((rl hs).1 (e1 ▸ hc)).1
  have hl1 : (acc ++ [q1]).length ≤ 64 := by rw [e1, List.length_append] at hl; omega
  obtain ⟨_, cf, cr⟩ := afe hc1 hs
  have hA := vx hs hc1 hl1
  have hfew1 : f + ((jm acc).length : Int) ≤ 1000000000000 := by rw [e2, nr, List.length_append] at hfew; omega
  have hld := aof (A := acc.map ng) (B := Q1.map ng ++ B) (fa := body q1) (lo := []) hd (by rw [hfs]; simp [ng]) hA (by simp) cr (by omega) (by omega) (hz q1 (by simp)) false
  have ih := asp hd hs hf0 Q1 (acc ++ [q1]) (e0 ▸ hc) (e0 ▸ hl) (e0 ▸ hfew) (fun x hx => hz x (by simp [hx])) (by rw [hfs]; simp)
  rw [List.map_cons, List.cons_append, ws]
  have hem : (Q1.map Prt.no ++ [k]).isEmpty = false := by simp
  rw [hem, hld]
  simp only [ne_eq, not_true_eq_false, if_false]
  have hfirst : ¬ (¬ acc = [] ∧ ¬ q1.first = aen acc) := fun hx => hx.2 (by
   rw [alx ((rl hs).1 hc1).1 hs hx.1 hf0 hfew1, cf])
  rw [if_neg hfirst, ih]
  simp
theorem blv (h : Vir s f Q F D w) (hd : D.je = false) {ik : Int} (hm : 64 ≤ ik ∧ ik ≤ 1048576) :
  ∃ (s' f' : Int) (Q' : List Prt) (D' : Dk), aam D ik = ((D', some Q'), 0) ∧ ri s' f' ⟨ik, Q'⟩ 0 D' ∧ D'.jt = D.jt ∧ D'.jb = D.jb ∧ (∃ j, jm Q' = (jm Q).take j) ∧ F ≤ (jm Q').length ∧ (s = 0 → f = 0 → s' = 0 ∧ f' = 0) ∧ (w → D' = D ∧ Q' = Q ∧ s' = s ∧ f' = f) ∧ Q'.length ≤ Q.length ∧ D'.iz ≤ D.iz ∧ f' ≤ f := by
 unfold aam
 rw [if_neg (by omega), hd]
 simp only [Bool.false_eq_true, if_false]
 rcases h.dsc with ⟨hq, hf, rfl⟩ | ⟨Q0, q, fa, lo, m, hq, hf, hp, hw, hmm, hF, hy⟩
 ·have hfl : D.jg = [] := by unfold Dk.jg Dk.qp; rw [hf]; exact List.perm_nil.1 (nu [])
  have ho : zh ([] : List Int) = [] := rfl
  rw [hfl, ho, hq]
  obtain ⟨rfl, rfl⟩ := h.nil hq
  exact ⟨0, 0, [], D, rfl, ⟨⟨trivial, by omega, by omega, by simp, by simp [jm], .inl ⟨rfl, hf, rfl⟩, fun _ => ⟨rfl, rfl⟩, fun q hx => by simp at hx⟩, fun q hx => by simp at hx, hd⟩, rfl, rfl, ⟨0, rfl⟩, Nat.zero_le _, fun _ _ => ⟨rfl, rfl⟩, fun _ => ⟨rfl, rfl, rfl, rfl⟩, by simp, Nat.le_refl _, Int.le_refl _⟩
 ·have hs := h.s0
  have hf0 := h.f0
  have hl := h.len
  have hfew := h.few
  have hc := h.chn
  have hsz := h.siz
  have hk : D.qp = Q.map Prt.no := by unfold Dk.qp; rw [hf, hq, List.map_append, blj, List.map_append]; rfl
  rw [bba hs hc hl hk]
  subst hq
  have hA := vx hs hc (by omega)
  obtain ⟨cn, cf, cr⟩ := afe hc hs
  have hfew0 : f + ((jm Q0).length : Int) ≤ 1000000000000 := by rw [nr, List.length_append] at hfew; omega
  have hpre := asp (k := q.no) (B := [⟨q.no, fa, lo⟩]) hd hs hf0 Q0 [] hc hl hfew (fun x hx => hsz x (by simp [hx])) hf
  rw [List.nil_append] at hpre
  rw [List.map_append, List.map_cons, List.map_nil, hpre, ws]
  rcases bbu hd hf hA hp cr (by omega) (by omega) (hsz q (by simp)) with ⟨hlen, D', e1, e2, e3, e4, e5⟩ | ⟨j, q', D', fa', lo', hj, e1, e2, e3, e4, e5, e6, e7, e8, e9, e10, e13, e11, e12⟩
  ·have hem : ([] : List Int).isEmpty = true := rfl
   rw [hem, e1]
   simp only [ne_eq, not_true_eq_false, if_false, ws]
   have hm0 : m = 0 := by
    rcases hy with hy | hy
    ·exact hy
    ·have := hy.length_le
     simp only [List.length_append] at this hlen
     omega
   have hnw : ¬ w := fun hx => by
    have hbl : (body q).length = (nv q.first).length + (cat q.iu).length := by unfold body; rw [List.length_append]
    have := congrArg List.length (hw hx)
    omega
   have hc0 := ((rl hs).1 hc).1
   have hsz0 : ∀ x ∈ Q0, x.size = (body x).length := fun x hx => hsz x (by simp [hx])
   have hall : jm Q0 = (jm (Q0 ++ [q])).take (jm Q0).length := by rw [nr, List.take_left' rfl]
   have hlen0 : Q0.length ≤ 63 := by rw [List.length_append] at hl; omega
   rcases List.eq_nil_or_concat Q0 with hq0 | ⟨Q1, q1, hq0⟩
   ·subst hq0
    refine ⟨0, 0, [], D', rfl, ⟨⟨trivial, by omega, by omega, by simp, by simp [jm], .inl ⟨rfl, e2, rfl⟩, fun _ => ⟨rfl, rfl⟩, fun q hx => by simp at hx⟩, fun q hx => by simp at hx, e5⟩, e4, e3, ⟨_, hall⟩, ?_, fun _ _ => ⟨rfl, rfl⟩, fun hx => absurd hx hnw, by simp, by unfold Dk.iz; rw [e2, hf]; simp, hf0⟩
    omega
   ·rw [List.concat_eq_append] at hq0
    subst hq0
    refine ⟨s, f, Q1 ++ [q1], D', rfl, ⟨⟨hc0, hs, hf0, hlen0, hfew0, .inr ⟨Q1, q1, body q1, [], 0, rfl, by rw [e2]; simp [ng], by simp, fun _ => by simp, Nat.zero_le _, Nat.zero_le _, .inl rfl⟩, fun hx => by simp at hx, hsz0⟩, hsz0, e5⟩, e4, e3, ⟨_, hall⟩, by omega, fun a b => ⟨a, b⟩, fun hx => absurd hx hnw, by simp, by unfold Dk.iz; rw [e2, hf]; simp, Int.le_refl _⟩
  ·have hem : ([] : List Int).isEmpty = true := rfl
   rw [hem, e1]
   simp only [ne_eq, not_true_eq_false, if_false]
   have hfirst : ¬ (¬ Q0 = [] ∧ ¬ q'.first = aen Q0) := fun hx => hx.2 (by
    rw [alx ((rl hs).1 hc).1 hs hx.1 hf0 hfew0, e5, cf])
   rw [if_neg hfirst, ws]
   have hc' : Chn s f (Q0 ++ [q']) := (rl hs).2 ⟨((rl hs).1 hc).1, by rw [e4, cn], by rw [e5, cf], fun d hd => cr d (by rw [e6] at hd; exact List.mem_of_mem_take hd), trivial⟩
   have hsz' : ∀ x ∈ Q0 ++ [q'], x.size = (body x).length := fun x hx => by
    rcases List.mem_append.1 hx with hx | hx
    ·exact hsz x (by simp [hx])
    ·rw [List.mem_singleton.1 hx]; exact e7
   have hall : jm (Q0 ++ [q']) = (jm (Q0 ++ [q])).take ((jm Q0).length + j) := by
    rw [nr Q0 [q'], nr Q0 [q], tp, tp, e6, List.take_append, List.take_of_length_le (l := jm Q0) (by omega), Nat.add_sub_cancel_left]
   have hjl : (jm (Q0 ++ [q'])).length = (jm Q0).length + j := by rw [nr, tp, e6]; simp; omega
   have hql : (jm (Q0 ++ [q])).length = (jm Q0).length + q.iu.length := by rw [nr, tp]; simp
   refine ⟨s, f, Q0 ++ [q'], D', rfl, ⟨⟨hc', hs, hf0, by simpa using hl, by rw [hjl]; rw [hql] at hfew; omega, .inr ⟨Q0, q', fa', lo', 0, rfl, by rw [e2, e4], by rw [e3]; exact List.prefix_rfl, fun _ => e3, Nat.zero_le _, Nat.zero_le _, .inl rfl⟩, fun hx => by simp at hx, hsz'⟩, hsz', e10⟩, e9, e8, ⟨_, hall⟩, ?_, fun a b => ⟨a, b⟩, fun hx => ?_, by simp, by unfold Dk.iz; rw [e2, hf]; simp [Fil.len]; omega, Int.le_refl _⟩
   ·rw [hjl]
    have : m ≤ j := by
     rcases hy with hy | hy
     ·omega
     ·exact e12 m hmm (by have := hy.length_le; simp only [List.length_append] at this ⊢; omega)
    omega
   ·obtain ⟨a, b, _⟩ := e11 (hw hx)
    exact ⟨a, by rw [b], rfl, rfl⟩
end
open Go.Eng
structure Bal where
 n : Int
 jf : Int
deriving DecidableEq
structure Rg where
 p : Bal
 t : Bal
 v : Int
deriving DecidableEq
def ip : Bal := ⟨0, 0⟩
def Bal.qk (a b : Bal) : Bool := decide (a.n < b.n ∨ (a.n = b.n ∧ a.jf < b.jf))
def qv (v : Int) : Bool := decide (1 ≤ v ∧ v ≤ 3)
def tx (x : Int) : Prop := 0 ≤ x ∧ x < 18446744073709551616
def Bal.rng (b : Bal) : Prop := tx b.n ∧ tx b.jf
theorem alf {a b c : Bal} (h1 : a.qk b = false) (h2 : b.qk c = false) : a.qk c = false := by
 simp only [Bal.qk, decide_eq_false_iff_not] at *
 omega
theorem bid (a : Bal) : a.qk a = false := by simp [Bal.qk]
theorem bki {a b : Bal} (h1 : a.qk b = false) (h2 : b.qk a = false) : a = b := by
 simp only [Bal.qk, decide_eq_false_iff_not] at *
 obtain ⟨a1, a2⟩ := a
 obtain ⟨b1, b2⟩ := b
 simp only at h1 h2
 have e1 : a1 = b1 := by omega
 have e2 : a2 = b2 := by omega
 rw [e1, e2]
theorem ajx {x : Int} (h : tx x) (r : List Int) : akj (lw x ++ r) = x := by
 obtain ⟨h0, h1⟩ := h
 obtain ⟨n, rfl⟩ : ∃ n : Nat, x = n := ⟨x.toNat, by omega⟩
 exact aoe (by omega) r
abbrev abg := List (Int × Rg)
structure Pk where
 ie : Int
 tr : Int
 b : Bal
 jk : Bal
 v : Int
 ok : Bool
 sv : Value
 mv : Value
 iv : Value
def pkC (p : Pk) : List Value := [.int .i64 p.ie, .int .u64 p.tr, .int .u64 p.b.n, .int .u64 p.b.jf, .int .u64 p.jk.n, .int .u64 p.jk.jf, .int .i64 p.v, .bool p.ok, p.sv, p.mv, p.iv]
def pkA (p : Pk) : Value := .agg (pkC p).toArray
def bik (tr : Int) (b : Bal) (v : Int) : Value := .agg #[.int .u64 tr, .int .u64 b.n, .int .u64 b.jf, .int .i64 v]
def ano (tr : Int) (b : Bal) (v : Int) : Value := .iface T.y (bik tr b v)
theorem ajq {w : World} {v : Int} {K : KV} (h : K (.bool (qv v)) w) : gi P F.dt [.int .i64 v] w K := by
 rw [M.ei.fcall]
 apply M.ei.calls
 unfold M.ei
 unfold qv at h
 by_cases h1 : 1 ≤ v
 ·by_cases h2 : v ≤ 3
  ·rw [decide_eq_true ⟨h1, h2⟩] at h
   simp [h1, h2]; exact h
  ·rw [decide_eq_false (fun hh => h2 hh.2)] at h
   simp [h1, h2]; exact h
 ·rw [decide_eq_false (fun hh => h1 hh.1)] at h
  simp [h1]; exact h
theorem aal {w : World} {b : Nat} {p : Pk} {f : Nat × Nat} (h : w.heap[b]? = some (.cells (pkC p).toArray T.a f)) : ∀ (j : Nat) (u : Value), (pkC p)[j]? = some u → gr w b j = some u := fun j u hj => by
 rw [gt h]; simpa using hj
theorem avk {w : World} {p : Pk} (hk : p.ie = 4 ∨ p.ie = 6) {K : KV} (h : ∀ w', Fz w w' → K (ano p.tr p.b p.v) w') : gi P F.da [pkA p] w K := by
 rw [M.v.fcall]
 apply M.v.calls
 unfold M.v pkA
 have hb : (w.alloc (.cells (pkC p).toArray T.a)).heap[w.heap.size]? = some (.cells (pkC p).toArray T.a (0, 0)) := by rw [iq, if_pos rfl]
 have f1 : Fz w (w.alloc (.cells (pkC p).toArray T.a)) := (Fr.refl _ w).alloc _
 have c0 := aal hb 0 _ rfl
 have c1 := aal hb 1 _ rfl
 have c2 := aal hb 2 _ rfl
 have c3 := aal hb 3 _ rfl
 have c6 := aal hb 6 _ rfl
 simp
 generalize w.alloc (.cells (pkC p).toArray T.a) = w1 at *
 have hl2 : ∀ K, ldN P 2 w.heap.size 2 w1 K = K (.agg #[.int .u64 p.b.n, .int .u64 p.b.jf]) w1 := fun K => aeb c2 c3 K
 have n1 : ¬ p.ie = 1 := by omega
 have n2 : ¬ p.ie = 2 := by omega
 have n3 : ¬ p.ie = 3 := by omega
 simp [c0, n1, n2]
 unfold M.v.j1
 simp [n3]
 rcases hk with hk | hk
 ·simp [hk]
  unfold M.v.j2
  simp [c1, hl2, c6]
  exact h w1 f1
 ·simp [hk]
  unfold M.v.j2
  simp [c1, hl2, c6]
  exact h w1 f1
def arn (tr : Int) (b : Bal) (v : Int) : Bool := decide (0 < tr) && decide (0 < b.n) && (decide (v = 0) || qv v)
theorem avp {w : World} {tr v : Int} {b : Bal} {K : KV} (h : ∀ w', Fz w w' → K (.bool (arn tr b v)) w') : gi P F.bh [ano tr b v] w K := by
 rw [M.r.fcall]
 apply M.r.calls
 unfold M.r ano bik
 simp [agr, afb]
 have hb1 : (w.alloc (.cells #[.int .u64 0, .int .u64 0] T.c)).heap[w.heap.size]? = some (.cells #[.int .u64 0, .int .u64 0] T.c (0, 0)) := by rw [iq, if_pos rfl]
 have f1 : Fz w (w.alloc (.cells #[.int .u64 0, .int .u64 0] T.c)) := (Fr.refl _ w).alloc _
 refine ke (vs := [.int .u64 0, .int .u64 0]) hb1 rfl (by simp [kh]) fun w2 b2 f2 => ?_
 have f12 : Fz w w2 := f1.mu f2 fun g hg he => by omega
 have hb3 : (w2.alloc (.cells #[.int .u64 0, .int .u64 0, .int .u64 0, .int .i64 0] T.y)).heap[w2.heap.size]? = some (.cells #[.int .u64 0, .int .u64 0, .int .u64 0, .int .i64 0] T.y (0, 0)) := by rw [iq, if_pos rfl]
 have f3 : Fz w (w2.alloc (.cells #[.int .u64 0, .int .u64 0, .int .u64 0, .int .i64 0] T.y)) := f12.alloc _
 have hsz := f12.size
 refine ke (vs := [.int .u64 tr, .int .u64 b.n, .int .u64 b.jf, .int .i64 v]) hb3 rfl (by simp [kh]) fun w4 b4 f4 => ?_
 have f14 : Fz w w4 := f3.mu f4 fun g hg he => by omega
 generalize w2.heap.size = ob at *
 have c0 : gr w4 ob 0 = some (.int .u64 tr) := by rw [gt b4]; rfl
 have c1 : gr w4 ob 1 = some (.int .u64 b.n) := by rw [gt b4]; rfl
 have c3 : gr w4 ob 3 = some (.int .i64 v) := by rw [gt b4]; rfl
 have fin := h w4 f14
 unfold arn at fin
 by_cases h1 : 0 < tr
 ·by_cases h2 : 0 < b.n
  ·by_cases h3 : v = 0
   ·simp [c0, c1, c3, h1, h2, h3]
    simpa [h1, h2, h3] using fin
   ·simp [c0, c1, c3, h1, h2, h3]
    refine ajq ?_
    simpa [h1, h2, h3] using fin
  ·simp [c0, c1, c3, h1, h2]
   simpa [h1, h2] using fin
 ·simp [c0, c1, c3, h1]
  simpa [h1] using fin
def agx (k tr : Int) (b : Bal) (v : Int) : Pk := ⟨k, tr, b, ip, v, false, .slice none 0 0, .slice none 0 0, .slice none 0 0⟩
def bhj (tr : Int) (b : Bal) (v : Int) : Pk := ⟨if v = 0 then 4 else 6, tr, b, ip, v, false, .slice none 0 0, .slice none 0 0, .slice none 0 0⟩
theorem aut {w : World} {tr v : Int} {b : Bal} {K : KV} (h : ∀ w', Fz w w' → K (pkA (bhj tr b v)) w') : gi P F.ax [ano tr b v] w K := by
 rw [M.n.fcall]
 apply M.n.calls
 unfold M.n ano bik
 simp [agr, afb]
 have S0 : St w (w.alloc (.cells #[.int .i64 0, .int .u64 0, .int .u64 0, .int .u64 0, .int .u64 0, .int .u64 0, .int .i64 0, .bool false, .slice none 0 0, .slice none 0 0, .slice none 0 0] T.a)) (ii w.heap.size #[.int .i64 0, .int .u64 0, .int .u64 0, .int .u64 0, .int .u64 0, .int .u64 0, .int .i64 0, .bool false, .slice none 0 0, .slice none 0 0, .slice none 0 0] T.a :: []) := (St.jp w).add ((Fr.refl _ w).alloc _) (B := fun x => x = w.heap.size) ⟨by rw [iq, if_pos rfl], rfl⟩ fun x hx => by subst hx; rw [ju]; omega
 have z0 : (w.alloc (.cells #[.int .i64 0, .int .u64 0, .int .u64 0, .int .u64 0, .int .u64 0, .int .u64 0, .int .i64 0, .bool false, .slice none 0 0, .slice none 0 0, .slice none 0 0] T.a)).heap.size = w.heap.size + 1 := ju _ _
 generalize w.alloc (.cells #[.int .i64 0, .int .u64 0, .int .u64 0, .int .u64 0, .int .u64 0, .int .u64 0, .int .i64 0, .bool false, .slice none 0 0, .slice none 0 0, .slice none 0 0] T.a) = w1 at *
 have S1 : St w (w1.alloc (.cells #[.int .u64 0, .int .u64 0, .int .u64 0, .int .i64 0] T.y)) (ii w1.heap.size #[.int .u64 0, .int .u64 0, .int .u64 0, .int .i64 0] T.y :: _) := S0.add ((Fr.refl _ w1).alloc _) (B := fun x => x = w1.heap.size) ⟨by rw [iq, if_pos rfl], rfl⟩ fun x hx => by subst hx; rw [ju]; omega
 rw [z0] at S1
 generalize w.heap.size = pb at *
 generalize pb + 1 = ob at *
 refine ke (vs := [.int .u64 tr, .int .u64 b.n, .int .u64 b.jf, .int .i64 v]) S1.blk rfl (by simp [kh]) fun w2 b2 f2 => ?_
 have S2 := S1.nb f2 b2
 have askC : ∀ {W : World} {R : List Asn}, St w W (ii ob [Value.int .u64 tr, .int .u64 b.n, .int .u64 b.jf, .int .i64 v].toArray T.y :: R) → gr W ob 0 = some (.int .u64 tr) ∧ gr W ob 3 = some (.int .i64 v) ∧ ∀ K, ldN P 2 ob 1 W K = K (.agg #[.int .u64 b.n, .int .u64 b.jf]) W := fun {W R} S' => by
  have hh := S'.blk
  exact ⟨by rw [gt hh]; rfl, by rw [gt hh]; rfl, fun K => aeb (by rw [gt hh]; rfl) (by rw [gt hh]; rfl) K⟩
 obtain ⟨c0, c3, cl⟩ := askC S2
 simp [c0, c3, cl]
 have pkL : ∀ {W : World} {R : List Asn} {q : Pk}, St w W (ii pb (pkC q).toArray T.a :: R) → ∀ K, ldN P 11 pb 0 W K = K (pkA q) W := fun {W R q} S' K => qy (pkC q) 11 rfl (fun k u hk => by rw [Nat.zero_add]; exact aal S'.blk k u hk) K
 have pkO : ∀ (k : Int), ∀ u ∈ pkC (agx k tr b v), kh u = true := fun k u hu => by
  simp only [pkC, agx, List.mem_cons, List.not_mem_nil, or_false] at hu
  rcases hu with rfl | rfl | rfl | rfl | rfl | rfl | rfl | rfl | rfl | rfl | rfl <;> rfl
 have hres : ∀ {W : World} {R : List Asn} {q : Pk}, St w W (ii pb (pkC q).toArray T.a :: R) → ∀ K, pw P T.a (.pointer (some ⟨pb, 0, none⟩)) W K = K (pkA q) W := fun {W R q} S' K => by rw [ail]; exact pkL S' K
 refine ke (vs := pkC (agx 4 tr b v)) S2.swap.blk rfl (pkO 4) fun w3 b3 f3 => ?_
 have S3 := S2.swap.nb f3 b3
 obtain ⟨_, d3, _⟩ := askC S3.swap
 by_cases hv : v = 0
 ·simp [d3, hv]
  subst hv
  rw [pkL S3]
  have e : pkA (agx 4 tr b 0) = .agg #[.int .i64 4, .int .u64 tr, .int .u64 b.n, .int .u64 b.jf, .int .u64 0, .int .u64 0, .int .i64 0, .bool false, .slice none 0 0, .slice none 0 0, .slice none 0 0] := rfl
  rw [e]
  simp
  refine ke (vs := pkC (agx 4 tr b 0)) S3.blk rfl (pkO 4) fun w5 b5 f5 => ?_
  have S5 := S3.nb f5 b5
  rw [hres S5]
  exact ⟨rfl, h w5 S5.fr⟩
 ·have e0 := aal S3.blk 0 _ rfl
  have ez := nw S3.blk
  simp [d3, hv, e0, ez]
  have S4 : St w (w3.setCell ⟨pb, 0, none⟩ (.int .i64 6)) (ii pb (pkC (agx 6 tr b v)).toArray T.a :: _) := S3.nb ((Fr.refl (fun x => x = pb) w3).setCell (.inl rfl) _ _) ((nj S3.blk).trans rfl)
  rw [pkL S4]
  have e : pkA (agx 6 tr b v) = .agg #[.int .i64 6, .int .u64 tr, .int .u64 b.n, .int .u64 b.jf, .int .u64 0, .int .u64 0, .int .i64 v, .bool false, .slice none 0 0, .slice none 0 0, .slice none 0 0] := rfl
  rw [e]
  simp
  refine ke (vs := pkC (agx 6 tr b v)) S4.blk rfl (pkO 6) fun w5 b5 f5 => ?_
  have S5 := S4.nb f5 b5
  rw [hres S5]
  have fin := h w5 S5.fr
  unfold bhj at fin
  rw [if_neg hv] at fin
  exact ⟨rfl, fin⟩
end Go.Proofs.YtfnhoaemapheoaaGreat
