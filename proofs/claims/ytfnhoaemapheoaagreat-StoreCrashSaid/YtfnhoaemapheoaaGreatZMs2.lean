/-
  Packets: equal ballots, equal rows, alike. No condition.
-/
import Derived.Test.YtfnhoaemapheoaaGreatZWl1
import Derived.Test.YtfnhoaemapheoaaGreatZSpn0
import Derived.Test.YtfnhoaemapheoaaGreatZSgD
import Derived.Test.YtfnhoaemapheoaaGreatZEngSl
import Derived.Test.YtfnhoaemapheoaaGreatZMs0
import Derived.Test.YtfnhoaemapheoaaGreatM
import Derived.Test.YtfnhoaemapheoaaGreatFacts
set_option maxRecDepth 100000
namespace Go.Proofs.YtfnhoaemapheoaaGreat
open Go.Eng
def kt (b : Bal) : Value := .agg #[.int .u64 b.n, .int .u64 b.jl]
theorem apa (x y : Bal) (w : World) : (Op.equalIn 10000 T.d (kt x) (kt y)).run P w = .ok (x.n == y.n && (x.jl == y.jl)) w := by
 have hS : P.underlying T.d = some (.struct (P.fieldsOf T.d)) := by kernel_rfl
 have hp : P.stoodInHeld T.d = false := by kernel_rfl
 unfold kt
 rw [show (10000 : Nat) = 9999 + 1 from rfl, run_equalIn_agg w 9999 T.d _ _ hS hp]
 simp only [Program.fieldsOf, show P.underlying T.d = _ from Tryz.underlying40]
 have u22 : P.underlying T.g = some (.int .u64) := by kernel_rfl
 have a22 : aer P T.g = false := by kernel_rfl
 refine eqF (by decide) a22 rfl rfl (run_equalIn_int w 9998 T.g _ _ _ _ u22) ?_
 have := eqF (fs := []) (d := 9999) (xs := #[.int .u64 x.n, .int .u64 x.jl]) (ys := #[.int .u64 y.n, .int .u64 y.jl]) (f := { name := "Node", type := T.g, offset := 1, embedded := false, tag := "", pkgPath := "", byteOffset := 8 }) (w := w) (c := true) (by decide) a22 rfl rfl (run_equalIn_int w 9998 T.g _ _ _ _ u22) rfl
 simpa using this
theorem bjh (x y : Bal) : (x.n == y.n && (x.jl == y.jl)) = decide (x = y) := by
 obtain ⟨a, b⟩ := x
 obtain ⟨a', b'⟩ := y
 simp only [Bal.mk.injEq]
 by_cases h1 : a = a' <;> by_cases h2 : b = b' <;> simp [h1, h2]
theorem wu (rx ry : Operand) (x y : Bal) (w : World) (K : KV) : ij P .eql T.d rx ry (kt x) (kt y) w K = K (.bool (decide (x = y))) w := by
 have hm : P.eqGuardType P.depth T.d = false := by kernel_rfl
 have hg := run_eqGuard_agg (P := P) w .eql T.d rx ry #[.int .u64 x.n, .int .u64 x.jl] #[.int .u64 y.n, .int .u64 y.jl] hm
 have he := apa x y w
 rw [bjh] at he
 unfold ij jv
 unfold kt at he ⊢
 rw [Sem.run_bind, hg]
 simp only [Result.andThen]
 rw [run_eql_struct, he]
 rfl
theorem aiw (rx ry : Operand) (x y : Bal) (w : World) (K : KV) : ij P .neq T.d rx ry (kt x) (kt y) w K = K (.bool !(decide (x = y))) w := by
 have hm : P.eqGuardType P.depth T.d = false := by kernel_rfl
 have hg := run_eqGuard_agg (P := P) w .neq T.d rx ry #[.int .u64 x.n, .int .u64 x.jl] #[.int .u64 y.n, .int .u64 y.jl] hm
 have he := apa x y w
 rw [bjh] at he
 unfold ij jv
 unfold kt at he ⊢
 rw [Sem.run_bind, hg]
 simp only [Result.andThen]
 rw [run_neq_struct, he]
 rfl
set_option maxRecDepth 100000
structure ql (w : World) (p : Pk) (ls : List Spn) (lm : List Mem) (lu : List Int) : Prop where
 s : SlS w p.sv ls
 m : SlM w p.mv lm
 u : SlU w p.iv lu
 ls : ls.length ≤ 1000000
 lm : lm.length ≤ 1000000
 lu : lu.length ≤ 1000000
theorem ql.fr {w w' : World} {p : Pk} {ls : List Spn} {lm : List Mem} {lu : List Int} (h : ql w p ls lm lu) (hf : Fz w w') : ql w' p ls lm lu :=
 ⟨h.s.fr hf fun _ _ _ h => h, h.m.fr hf fun _ _ _ h => h, h.u.fr hf fun _ _ _ h => h, h.ls, h.lm, h.lu⟩
theorem ql.one {w : World} {p : Pk} {ls : List Spn} {lm : List Mem} {lu : List Int} (h : ql w p ls lm lu) : (∃ a c, p.sv = .slice a ls.length c) ∧ (∃ a c, p.mv = .slice a lm.length c) ∧ ∃ a c, p.iv = .slice a lu.length c := by
 obtain ⟨a1, c1, h1, _⟩ := h.s
 obtain ⟨a2, c2, h2, _⟩ := h.m
 obtain ⟨a3, c3, h3, _⟩ := h.u
 exact ⟨⟨a1, c1, h1⟩, ⟨a2, c2, h2⟩, a3, c3, h3⟩
theorem atn {w : World} {p : Pk} {ls : List Spn} {lm : List Mem} {lu : List Int} (h : ql w p ls lm lu) (K : KV) : nc P T.a (pkA p) w K = K (.pointer (some ⟨w.heap.size, 0, none⟩)) (w.alloc (.cells (pkC p).toArray T.a)) := by
 rw [xm]; rfl
theorem ju {W w : World} {pb : Nat} {p : Pk} {R : List Asn} (S : St W w (iq pb (pkC p).toArray T.a :: R)) : ic w pb 0 = some (.int .i64 p.ip) ∧ ic w pb 1 = some (.int .u64 p.tr) ∧ (∀ K, ldN P 2 pb 2 w K = K (kt p.b) w) ∧ (∀ K, ldN P 2 pb 4 w K = K (kt p.jr) w) ∧ ic w pb 6 = some (.int .i64 p.v) ∧ ic w pb 7 = some (.bool p.ok) ∧ ic w pb 8 = some p.sv ∧ ic w pb 9 = some p.mv ∧ ic w pb 10 = some p.iv ∧ ∀ K, ldN P 11 pb 0 w K = K (pkA p) w := by
 have hh := S.blk
 have hc := fun j u hj => abd hh j u hj
 exact ⟨hc 0 _ rfl, hc 1 _ rfl, fun K => aeu (hc 2 _ rfl) (hc 3 _ rfl) K, fun K => aeu (hc 4 _ rfl) (hc 5 _ rfl) K, hc 6 _ rfl, hc 7 _ rfl, hc 8 _ rfl, hc 9 _ rfl, hc 10 _ rfl, fun K => po (pkC p) 11 rfl (fun k u hk => by rw [Nat.zero_add]; exact hc k u hk) K⟩
end Go.Proofs.YtfnhoaemapheoaaGreat
set_option maxRecDepth 100000
namespace Go.Proofs.YtfnhoaemapheoaaGreat.Suint64
open Go.Eng Go.Sort
abbrev Rw (w : World) (g : Nat) (e : TypeId) (cap : Nat) (d : Array Int) : Prop := @SG.Rw seU w g e cap d
abbrev Rf (w w' : World) (g : Nat) (e : TypeId) (cap : Nat) (d : Array Int) : Prop := @SG.Rf seU w w' g e cap d
theorem alo {w w' : World} {g : Nat} {e : TypeId} {cap : Nat} {d : Array Int} (h : Rf w w' g e cap d) : Rw w' g e cap d := @SG.Rf.row seU _ _ _ _ _ _ h
theorem aqs {w w' : World} {g : Nat} {e : TypeId} {cap : Nat} {d : Array Int} (h : Rf w w' g e cap d) : Fr (fun b => b = g) w w' := @SG.Rf.fr seU _ _ _ _ _ _ h
abbrev adl (x : Int) : Value := .int .u64 x
abbrev rz (x : Int) : List Value := [.int .u64 x]
abbrev OwN (w : World) (base : Nat) (v : Value) (l : List Int) : Prop := Ow w base T.g 1 rz v l
theorem asv : auw P T.h T.g adl rz 1 8 where
 et := et.h
 by5 := by decide
 ld := fun b i w K => kr
 st := fun b i a n c w K => kr
 bs := fun x w K => kr
 len := fun _ => rfl
 one := fun _ u hu => by simp at hu; subst hu; rfl
 ne := by decide
theorem agq {g : FuncId} {gn : Func} (hg : P.funcs[g]? = some gn) (hgn : (gn.name == "runtime.NumGoroutine") = false) (hgb : gn.body.isNone = false) {cap : List Value} {w : World} {Out : List Int → Prop} (hs : agn P g cap adl Out 60000 w) {K : KV}
  (h : ∀ w' v xs, Out xs → OwN w' w.heap.size v xs → Fz w w' → K v w') : ku P F.cl [.func (.func g) #[] cap.toArray] w K := by
 apply M.cq.calls
 unfold M.cq
 have hf : ∀ (args : List Value) (w : World) (K : KV), gr P F.n args w K = ku P F.n args w K := fun args w K => aek FN.n.at (by kernel_rfl) (by kernel_rfl) args w K
 rw [hf]
 exact acz (tQ := T.bl) (att asv) asv.ld FN.n.at (by kernel_rfl) (by kernel_rfl) (by kernel_rfl) hg hgn hgb hs h
theorem Ow.rw {w : World} {base g n cap : Nat} {l : List Int} (h : OwN w base (.slice (some ⟨g, 0, none⟩) n cap) l) : n = l.length ∧ base ≤ g ∧ cap ≤ maxLen ∧ Rw w g T.g cap l.toArray := by
 rcases h.2 with ⟨h0, _⟩ | ⟨g', cap', cur, hv, hb, hc, h1, h2, h3, h4⟩
 ·cases h0
 ·injection hv with q1 q2 q3
  injection q1 with q1
  injection q1 with q1
  subst q1 q2 q3
  refine ⟨rfl, hb, h2, cur, hc, by simpa using h3, by simpa using h1, fun j hj => ?_⟩
  show cur[j]? = some (.int .u64 l.toArray[j]!)
  have hj' : j < l.length := by simpa using hj
  have h5 : (cur.toList.take (l.length * 1))[j]? = (l.flatMap rz)[j]? := by rw [h4]
  rw [List.getElem?_take_of_lt (by omega)] at h5
  have h6 : (l.flatMap rz)[j]? = some (.int .u64 l[j]) := by
   have := zy (enc := rz) (sz := 1) (fun _ => rfl) l j l[j] 0 (.int .u64 l[j]) (List.getElem?_eq_getElem hj') rfl
   simpa using this
  rw [h6] at h5
  simpa [hj'] using h5
theorem aar : ∀ l : List Int, l.flatMap rz = l.map adl
 | [] => rfl
 | x :: l => by rw [List.flatMap_cons, aar l]; rfl
theorem aqk {w : World} {base g cap : Nat} {l : List Int} (hb : base ≤ g) (hm : cap ≤ maxLen) (h : Rw w g T.g cap l.toArray) : OwN w base (.slice (some ⟨g, 0, none⟩) l.length cap) l := by
 obtain ⟨cur, h1, h2, h3, h4'⟩ := h
 have h4 : ∀ j, j < l.toArray.size → cur[j]? = some (.int .u64 l.toArray[j]!) := h4'
 refine ⟨by rw [aar]; simp, .inr ⟨g, cap, cur, rfl, hb, h1, by simpa using h3, hm, by simpa using h2, ?_⟩⟩
 rw [aar]
 apply List.ext_getElem?
 intro j
 by_cases hj : j < l.length
 ·rw [List.getElem?_take_of_lt (by omega)]
  have := h4 j (by simpa using hj)
  simp [hj] at this ⊢
  exact this
 ·rw [List.getElem?_take_eq_none (by omega), List.getElem?_eq_none (by simp; omega)]
theorem zj {w : World} {K : KV} (h : K (.tuple #[]) w) : ku P F.d [.slice none 0 0] w K := @SG.zj seU w K h
theorem aao {w : World} {g cap n : Nat} {e : TypeId} {d : Array Int} (H : Rw w g e cap d) (hn : d.size = n) (h6 : n < 60000) {K : KV}
  (h : ∀ w', Rf w w' g e cap (d.toList.mergeSort fun x y => decide (x ≤ y)).toArray → K (.tuple #[]) w') : ku P F.d [.slice (some ⟨g, 0, none⟩) n cap] w K := @SG.aao seU w g cap n e d H hn h6 K h
def mo (l : List Int) : List Int := l.mergeSort fun x y => decide (x ≤ y)
theorem nu (l : List Int) : (mo l).Perm l := List.mergeSort_perm ..
theorem vt {l l' : List Int} (h : l.Perm l') : mo l = mo l' := by
 unfold mo
 have hs : ∀ l : List Int, (l.mergeSort fun x y => decide (x ≤ y)).Pairwise fun a b => decide (a ≤ b) = true := fun l => List.pairwise_mergeSort (fun a b c h1 h2 => by simp at *; omega) (fun a b => by simp; omega) l
 exact List.Perm.eq_of_pairwise (fun a b _ _ h1 h2 => by simp at h1 h2; omega) (hs l) (hs l') (((List.mergeSort_perm ..).trans h).trans (List.mergeSort_perm ..).symm)
theorem aid {g : FuncId} {gn : Func} (hg : P.funcs[g]? = some gn) (hgn : (gn.name == "runtime.NumGoroutine") = false) (hgb : gn.body.isNone = false) {cap : List Value} {w : World} {ks : List Int} (hk : ks.length < 60000) (hs : agn P g cap adl (fun xs => xs.Perm ks) 60000 w) {K : KV}
  (h : ∀ w' v, OwN w' w.heap.size v (mo ks) → Fz w w' → K v w') : ku P F.bn [.func (.func g) #[] cap.toArray] w K := by
 apply M.cv.calls
 unfold M.cv
 rw [M.cq.fcall]
 refine agq hg hgn hgb hs fun w1 v xs hx o1 f1 => ?_
 rw [M.ey.fcall]
 have hlen := hx.length_eq
 rcases o1.2 with ⟨rfl, h0⟩ | ⟨g1, cap1, cur, rfl, hb1, _⟩
 ·refine zj ?_
  have hx0 : xs = [] := List.length_eq_zero_iff.1 h0
  have hk0 : ks = [] := List.length_eq_zero_iff.1 (by rw [← hlen, hx0]; rfl)
  refine h w1 _ ?_ f1
  subst hk0
  rw [show mo [] = [] from by simp [mo]]
  exact Ow.none
 ·obtain ⟨_, hbg, hcm, hrw⟩ := Ow.rw o1
  refine aao hrw (by simp) (by omega) fun w2 H2 => ?_
  have hp : mo xs = mo ks := vt hx
  have hl : (mo xs).length = xs.length := (nu xs).length_eq
  refine h w2 _ ?_ (f1.lq (aqs H2) fun b hb he => by omega)
  rw [← hp]
  have := aqk (base := w.heap.size) (l := mo xs) hbg hcm (alo H2)
  rw [hl] at this
  exact this
end Go.Proofs.YtfnhoaemapheoaaGreat.Suint64
set_option maxRecDepth 100000
namespace Go.Proofs.YtfnhoaemapheoaaGreat.KeyV
open Go.Eng Go.Sort Go.Proofs.YtfnhoaemapheoaaGreat.Suint64
end Go.Proofs.YtfnhoaemapheoaaGreat.KeyV
set_option maxRecDepth 100000
namespace Go.Proofs.YtfnhoaemapheoaaGreat.CM
open Go.Eng
end Go.Proofs.YtfnhoaemapheoaaGreat.CM
set_option maxRecDepth 100000
namespace Go.Proofs.YtfnhoaemapheoaaGreat
open Go.Eng
set_option maxRecDepth 100000
section
variable {w0 w : World} {R : List Asn} {r : Nat} {A L : List Mem} {tv : Value}
theorem sy {m : MP} (S : St w0 w (jy r .u64 m :: R)) : pt w r .u64 m ∧ (kj m).Nodup := by
 obtain ⟨B, h1, _⟩ := S.open
 exact h1.1
theorem atm {m : MP} (S : St w0 w (jy r .u64 m :: R)) {o : Obj} {k : Int} {v : Value} (h : pt (World.setObj w r o) r .u64 (tu m k v)) : St w0 (World.setObj w r o) (jy r .u64 (tu m k v) :: R) := by
 obtain ⟨B, ⟨k1, k2⟩, hB, cl⟩ := S.open
 refine cl (World.setObj w r o) [jy r .u64 (tu m k v)] ((Fr.refl B w).setObj (.inl k2) o) (Rs.one (B := B) ⟨⟨h, ?_⟩, k2⟩ fun b hb => .inl hb)
 rw [aln]
 split
 ·exact k1.2
 ·rename_i hx
  rw [List.nodup_append]
  exact ⟨k1.2, by simp, fun a ha b hb' hab => by
   simp at hb'
   exact hx (by rw [← hb', ← hab]; exact ha)⟩
end
section
variable {w0 w : World} {R : List Asn} {r : Nat} {A L : List Mem} {tv : Value}
end
def sn (l : List Mem) (i : Nat) : Int := match i with
 | 0 => 0
 | i + 1 => (l[i]?.map Mem.id).getD 0
def MbI (W : World) (l : List Mem) : KL := fun x w1 => ∃ (u : Value) (i : Nat), x = [u, .int .i64 (i : Nat)] ∧ i ≤ l.length ∧ (tm 0 l && !(l.any qz)) = (tm (sn l i) (l.drop i) && !((l.drop i).any qz)) ∧ Fz W w1
theorem aqj {w : World} {v : Value} {l : List Mem} (hs : SlM w v l) (hlen : l.length ≤ 1000000) (hid : ∀ m ∈ l, 0 ≤ m.id) {K : KV} (h : ∀ w', Fz w w' → K (.bool (aal l)) w') : gr P F.cy [v] w K := by
 rw [M.aw.fcall]
 apply M.aw.calls
 unfold M.aw
 rw [ib]
 refine ⟨MbI w l, fun x _ => l.length - ms x 1, ⟨_, 0, rfl, Nat.zero_le _, rfl, Fr.refl _ _⟩, ?_⟩
 rintro x w1 ⟨u, i, rfl, hi, hr, f1⟩
 have q0 : gv [u, .int .i64 (i : Nat)] 0 = u := rfl
 have q1 : gv [u, .int .i64 (i : Nat)] 1 = .int .i64 (i : Nat) := rfl
 have hs1 := hs.fr f1 fun _ _ _ h => h
 simp only [ib, q1]
 rw [hs1.jb (by kernel_rfl)]
 have hmr : aal l = ((tm 0 l && !(l.any qz)) && (decide (0 < l.length) && decide (l.length ≤ 16))) := by
  unfold aal
  cases tm 0 l <;> cases l.any qz <;> simp
 by_cases hil : i < l.length
 ·have hil' : (i : Int) < l.length := by omega
  simp [hil']
  unfold M.aw.j2
  obtain ⟨b, o, cap, hv, hb, _, hc⟩ := hs1.at hil
  have hld : ∀ K, ldN P 3 b (o + i * 3) w1 K = K (rt l[i]) w1 := fun K => ldM hc K
  have hwi : IntKind.i64.wrap ((i : Int) + 1) = ((i + 1 : Nat) : Int) := by rw [ig]; rfl
  have hdrop : l.drop i = l[i] :: l.drop (i + 1) := List.drop_eq_getElem_cons hil
  have hlast : sn l (i + 1) = l[i].id := by unfold sn; simp [List.getElem?_eq_getElem hil]
  have hm0 := hid _ (List.getElem_mem hil)
  -- the one ahead
  have hprev : 0 < i → ∃ p, l[i - 1]? = some p ∧ sn l i = p.id ∧ ∀ j u, (adr p)[j]? = some u → ic w1 b (o + (i - 1) * 3 + j) = some u := fun h0 => by
   have hp : i - 1 < l.length := by omega
   obtain ⟨b', o', cap', hv', _, _, hc'⟩ := hs1.at hp
   have hvv := hv.symm.trans hv'
   injection hvv with ha1 _ _
   injection ha1 with ha1
   injection ha1 with ha4 ha5
   subst ha4 ha5
   refine ⟨l[i - 1], List.getElem?_eq_getElem hp, ?_, hc'⟩
   obtain ⟨k, rfl⟩ : ∃ k, i = k + 1 := ⟨i - 1, by omega⟩
   have hp' : k < l.length := by omega
   show (l[k]?.map Mem.id).getD 0 = _
   rw [List.getElem?_eq_getElem hp']; rfl
  rw [hdrop] at hr
  have hcons : (tm (sn l i) (l[i] :: l.drop (i + 1)) && !((l[i] :: l.drop (i + 1)).any qz)) = ((decide (sn l i < l[i].id) && !(qz l[i])) && (tm (sn l (i + 1)) (l.drop (i + 1)) && !((l.drop (i + 1)).any qz))) := by
   rw [List.any_cons, hlast]
   show ((decide (sn l i < l[i].id) && tm l[i].id (l.drop (i + 1))) && _) = _
   cases decide (sn l i < l[i].id) <;> cases tm l[i].id (l.drop (i + 1)) <;> cases qz l[i] <;> simp
  rw [hcons] at hr
  generalize hm : l[i] = m at *
  subst hv
  simp [q0, q1, hil, hld]
  rw [show rt m = .agg #[.int .u64 m.id, .int .u64 m.inc, .int .i64 m.st] from rfl]
  simp
  have hba : (w1.alloc (.cells #[.int .u64 0, .int .u64 0, .int .i64 0] T.r)).heap[w1.heap.size]? = some (.cells #[.int .u64 0, .int .u64 0, .int .i64 0] T.r (0, 0)) := by rw [iw, if_pos rfl]
  refine km (vs := [.int .u64 m.id, .int .u64 m.inc, .int .i64 m.st]) hba rfl (by simp) fun w2 b2 f2 => ?_
  have f2' : Fz w1 w2 := ((Fr.refl _ w1).alloc _).lq f2 fun y hy he => by subst he; omega
  have c0 : ic w2 w1.heap.size 0 = some (.int .u64 m.id) := by rw [ie b2]; rfl
  have c1 : ic w2 w1.heap.size 1 = some (.int .u64 m.inc) := by rw [ie b2]; rfl
  have c2 : ic w2 w1.heap.size 2 = some (.int .i64 m.st) := by rw [ie b2]; rfl
  have fin : Fz w (Eng.dr w2 1) := (f1.trans f2').dr 1
  have no : (decide (sn l i < m.id) && !(qz m)) = false → K (.bool false) (Eng.dr w2 1) := fun hx => by
   rw [hx, Bool.false_and] at hr
   have := h (Eng.dr w2 1) fin
   rw [hmr, hr] at this
   simpa using this
  have yes : (decide (sn l i < m.id) && !(qz m)) = true → MbI w l [u, .int .i64 ((i + 1 : Nat) : Int)] (Eng.dr w2 1) ∧ l.length - ms [u, .int .i64 ((i + 1 : Nat) : Int)] 1 < l.length - ms [u, .int .i64 (i : Nat)] 1 := fun hx => by
   rw [hx, Bool.true_and] at hr
   exact ⟨⟨_, i + 1, rfl, by omega, hr, fin⟩, by simp [ms, gv]; omega⟩
  by_cases e0 : m.id = 0
  ·have hb0 : (decide (sn l i < m.id) && !(qz m)) = false := by
    have : ¬ sn l i < m.id := by
     have : 0 ≤ sn l i := by
      by_cases h0 : 0 < i
      ·obtain ⟨p, hp, hpl, _⟩ := hprev h0
       rw [hpl]; exact hid p (List.mem_of_getElem? hp)
      ·have : i = 0 := by omega
       subst this; exact Int.le_refl _
     omega
    rw [decide_eq_false this, Bool.false_and]
   simp [c0, e0]
   exact no hb0
  by_cases e1 : m.inc = 0
  ·have hb0 : (decide (sn l i < m.id) && !(qz m)) = false := by
    unfold qz; simp [e1]
   simp [c0, c1, e0, e1]
   exact no hb0
  by_cases e2 : m.st < 0
  ·have hb0 : (decide (sn l i < m.id) && !(qz m)) = false := by
    unfold qz; simp [e2]
   simp [c0, c1, c2, e0, e1, e2]
   exact no hb0
  by_cases e3 : 2 < m.st
  ·have hb0 : (decide (sn l i < m.id) && !(qz m)) = false := by
    unfold qz; simp [e3]
   simp [c0, c1, c2, e0, e1, e2, e3]
   exact no hb0
  have hodd : qz m = false := by unfold qz; simp [e1, e2, e3]
  by_cases e4 : 0 < i
  ·obtain ⟨p, hp, hpl, hpc⟩ := hprev e4
   have cp := hpc 0 _ rfl
   simp only [Nat.add_zero] at cp
   have cp2 : ic w2 b (o + (i - 1) * 3) = some (.int .u64 p.id) := by rw [tz (f2'.ke b hb fun h => h)]; exact cp
   have e4' : (0 : Int) < i := by omega
   have hsub : IntKind.i64.wrap ((i : Int) - 1) = ((i - 1 : Nat) : Int) := by rw [ig]; omega
   have hi1 : i - 1 < l.length := by omega
   have hi1' : ((i - 1 : Nat) : Int) < l.length := by omega
   by_cases e5 : m.id ≤ p.id
   ·have hb0 : (decide (sn l i < m.id) && !(qz m)) = false := by
     rw [hpl, decide_eq_false (by omega), Bool.false_and]
    simp [c0, c1, c2, e0, e1, e2, e3, e4, hsub, hi1, cp2, e5]
    exact no hb0
   ·have hb0 : (decide (sn l i < m.id) && !(qz m)) = true := by
     rw [hpl, decide_eq_true (by omega), hodd]; rfl
    simp [c0, c1, c2, e0, e1, e2, e3, e4, hsub, hi1, cp2, e5, hwi]
    exact yes hb0
  ·have hi0 : i = 0 := by omega
   have hb0 : (decide (sn l i < m.id) && !(qz m)) = true := by
    have : sn l i < m.id := by rw [hi0]; show 0 < m.id; omega
    rw [decide_eq_true this, hodd]; rfl
   simp [c0, c1, c2, e0, e1, e2, e3, e4, hwi]
   exact yes hb0
 ·have hil' : ¬ (i : Int) < l.length := by omega
  simp [hil']
  unfold M.aw.j0
  rw [List.drop_of_length_le (by omega)] at hr
  have hr' : (tm 0 l && !(l.any qz)) = true := by rw [hr]; rfl
  rw [hmr, hr', Bool.true_and] at h
  rw [hs1.jb (by kernel_rfl)]
  have hx : decide ((l.length : Int) ≤ 16) = decide (l.length ≤ 16) := by
   by_cases h16 : l.length ≤ 16
   ·rw [decide_eq_true h16, decide_eq_true (by omega)]
   ·rw [decide_eq_false h16, decide_eq_false (by omega)]
  by_cases h0 : 0 < l.length
  ·have h0' : (1 : Int) ≤ l.length := by omega
   simp [h0']
   rw [hs1.jb (by kernel_rfl)]
   simp
   rw [hx]
   have := h w1 f1
   simpa [h0] using this
  ·have h0' : ¬ (1 : Int) ≤ l.length := by omega
   simp [h0']
   have := h w1 f1
   simpa [h0] using this
structure Nd where
 id : Int
 bzm : Int
 caf : Int
 now : Int
 due : Int
 left : Bool
 v : List Mem
 h : MP
section
variable {n : Nd} {frm now pick : Int} {l : List Mem}
end
section
variable {w0 w : World} {R : List Asn}
end
section
variable {w0 w : World} {R : List Asn} {p r : Nat} {v : Value} {n : Nd}
end
section
variable {w0 w : World} {R : List Asn}
end
section
variable {w0 w : World} {R : List Asn} {p r : Nat} {v : Value} {n : Nd}
end
def tf (tr : Int) : List Int → List Spn → Bool
 | _, [] => true
 | met, s :: r => (decide (ly s = 0) && (decide (s.iu = tr) && !(decide (s.id ∈ met)))) && tf tr (met ++ [s.id]) r
def rp (tr : Int) (l : List Spn) : Bool := tf tr [] l && (decide (0 < l.length) && decide (l.length ≤ 16))
theorem aiu {tr : Int} {met : List Int} {s : Spn} {r : List Spn} (h : ¬ (ly s = 0 ∧ s.iu = tr ∧ s.id ∉ met)) : tf tr met (s :: r) = false := by
 rw [tf]
 by_cases h1 : ly s = 0 <;> by_cases h2 : s.iu = tr <;> by_cases h3 : s.id ∈ met <;> simp_all
theorem abc {tr : Int} {met : List Int} {s : Spn} {r : List Spn} (h1 : ly s = 0) (h2 : s.iu = tr) (h3 : s.id ∉ met) : tf tr met (s :: r) = tf tr (met ++ [s.id]) r := by
 rw [tf]; simp [h1, h2, h3]
def MsI (W : World) (mb : Nat) (tr : Int) (l : List Spn) : KL := fun x w1 => ∃ (u0 u1 : Value) (i : Nat) (m : MP), x = [u0, u1, .int .i64 (i : Nat)] ∧ i ≤ l.length ∧ St W w1 (jy mb .u64 m :: []) ∧ (∀ k, mn m k = if k ∈ (l.take i).map Spn.id then some (.bool true) else none) ∧ tf tr [] l = tf tr ((l.take i).map Spn.id) (l.drop i)
theorem apu {w : World} {v : Value} {l : List Spn} {tr : Int} (hs : SlS w v l) (hlen : l.length ≤ 1000000) {K : KV} (h : ∀ w', Fz w w' → K (.bool (rp tr l)) w') : gr P F.eo [.int .u64 tr, v] w K := by
 rw [M.cc.fcall]
 apply M.cc.calls
 unfold M.cc
 rw [amj]
 have hlv : ∀ w' K, biT P .len #[T.b] T.c [false] [v] w' K = K (.int .i64 l.length) w' := fun w' K => hs.jb (by kernel_rfl) [false]
 have S0 : St w (w.alloc (.map #[] 0)) (jy w.heap.size .u64 [] :: []) := (St.ji w).add ((Fr.refl _ w).alloc _) (B := fun x => x = w.heap.size) ⟨⟨aik w .u64, by simp [kj]⟩, rfl⟩ fun x hx => by subst hx; rw [jz]; omega
 generalize w.alloc (.map #[] 0) = w1 at *
 generalize w.heap.size = mb at *
 simp [hlv]
 refine ⟨MsI w mb tr l, fun x _ => l.length - ms x 2, ⟨_, _, 0, [], rfl, Nat.zero_le _, S0, fun k => by simp [mn], rfl⟩, ?_⟩
 rintro x w2 ⟨u0, u1, i, m, rfl, hi, S2, hm, hg⟩
 by_cases hil : i < l.length
 ·have hili : (i : Int) < (l.length : Int) := by omega
  simp [hil]
  unfold M.cc.j2
  have hs2 : SlS w2 v l := hs.fr S2.fr fun _ _ _ h => h
  obtain ⟨b, o, cap, hv, _, _, hc⟩ := hs2.at hil
  have hia : ∀ w' K, iaT P T.b v (.int .i64 (i : Nat)) w' K = K (.pointer (some ⟨b, o + i * 8, none⟩)) w' := fun w' K => by rw [hv]; simp [hil]
  have hld : ∀ K, ldN P 8 b (o + i * 8) w2 K = K (ko l[i]) w2 := fun K => ldS (fun k u hk => hc k u hk) K
  have hdrop : l.drop i = l[i] :: l.drop (i + 1) := List.drop_eq_getElem_cons hil
  rw [hdrop] at hg
  have htk : (l.take (i + 1)).map Spn.id = (l.take i).map Spn.id ++ [l[i].id] := by rw [List.take_succ_eq_append_getElem hil, List.map_append]; rfl
  generalize l[i] = s at *
  simp [hia, hld]
  unfold ko
  simp
  have S3 : St w (w2.alloc (.cells #[.int .u64 0, .int .u64 0, .int .u64 0, .int .u64 0, .int .u64 0, .string ⟨#[]⟩, .string ⟨#[]⟩, .bool false] T.e)) (iq w2.heap.size #[.int .u64 0, .int .u64 0, .int .u64 0, .int .u64 0, .int .u64 0, .string ⟨#[]⟩, .string ⟨#[]⟩, .bool false] T.e :: jy mb .u64 m :: []) := S2.add ((Fr.refl _ w2).alloc _) (B := fun x => x = w2.heap.size) ⟨by rw [iw, if_pos rfl], rfl⟩ fun x hx => by subst hx; rw [jz]; omega
  generalize w2.heap.size = sb at *
  refine km (vs := ja s) S3.blk rfl (og s) fun w4 b4 f4 => ?_
  have S4 : St w w4 (iq sb (ja s).toArray T.e :: jy mb .u64 m :: []) := S3.ni f4 b4
  have spC : ∀ {W : World}, St w W (iq sb (ja s).toArray T.e :: jy mb .u64 m :: []) → ic W sb 0 = some (.int .u64 s.iu) ∧ ic W sb 1 = some (.int .u64 s.id) ∧ ∀ K, ldN P 8 sb 0 W K = K (ko s) W := fun {W} S' => by
   have hh : atq W sb s := S'.blk
   exact ⟨yd hh 0 _ rfl, yd hh 1 _ rfl, fun K => ldS (fun k v hk => by rw [Nat.zero_add]; exact yd hh k v hk) K⟩
  obtain ⟨_, _, sl⟩ := spC S4
  simp [sl]
  rw [M.de.fcall]
  refine akk s fun w5 f5 => ?_
  have S5 := S4.jt f5
  obtain ⟨s0, s1, _⟩ := spC S5
  have bad : ¬ (ly s = 0 ∧ s.iu = tr ∧ s.id ∉ (l.take i).map Spn.id) → K (.bool false) w5 := fun hb => by
   have := h w5 S5.fr
   unfold rp at this
   rw [hg, aiu hb] at this
   simpa using this
  have hmap := (sy S5.swap).1
  have hw : IntKind.i64.wrap ((i : Int) + 1) = ((i + 1 : Nat) : Int) := by rw [ig]; omega
  by_cases h1 : ly s = 0
  case neg =>
   simp [h1]
   exact bad fun hh => h1 hh.1
  by_cases h2 : s.iu = tr
  case neg =>
   simp [h1, s0, h2]
   exact bad fun hh => h2 hh.2.1
  have hmk := hm s.id
  by_cases h3 : s.id ∈ (l.take i).map Spn.id
  ·rw [if_pos h3] at hmk
   simp [h1, s0, h2, s1, aba mt.ay hmap, hmk]
   exact bad fun hh => hh.2.2 h3
  ·rw [if_neg h3] at hmk
   simp [h1, s0, h2, s1, aba mt.ay hmap, hmk]
   refine aqw mt.ay hmap s.id _ _ fun ob hob => ?_
   have S6 := atm S5.swap hob
   rw [hw]
   refine ⟨⟨_, _, i + 1, _, rfl, hil, (S6.swap).drop, fun k => ?_, ?_⟩, by simp [ms, gv]; omega⟩
   ·rw [ahz, hm k, htk]
    by_cases hk : s.id = k
    ·subst hk; simp
    ·have hk' : ¬ k = s.id := fun e => hk e.symm
     simp [hk, hk']
   ·rw [hg, abc h1 h2 h3, htk]
 ·have hili : ¬ (i : Int) < (l.length : Int) := by omega
  simp [hil]
  unfold M.cc.j0
  rw [List.drop_of_length_le (by omega)] at hg
  have fin := h w2 S2.fr
  unfold rp at fin
  rw [hg, tf] at fin
  by_cases h1 : 0 < l.length
  ·have h1i : (0 : Int) < (l.length : Int) := by omega
   by_cases h2 : l.length ≤ 16
   ·have h2i : (l.length : Int) ≤ 16 := by omega
    simp [hlv, h1]
    try rw [hlv]
    simp [h2i]
    simpa [h1, h2] using fin
   ·have h2i : ¬ (l.length : Int) ≤ 16 := by omega
    simp [hlv, h1]
    try rw [hlv]
    simp [h2i]
    simpa [h1, h2] using fin
  ·have h1i : ¬ (0 : Int) < (l.length : Int) := by omega
   simp [hlv, h1i]
   simpa [h1] using fin
theorem ahm {w : World} {v : Value} {l : List Int} (hs : SlU w v l) (hlen : l.length ≤ 1000000) {K : KV} (h : ∀ w' v', SlU w' v' l → (∀ x, v'.ownBlock = some x → w.heap.size ≤ x) → Fz w w' → K v' w') : gr P F.bg [v] w K := by
 rw [M.bt.fcall]
 apply M.bt.calls
 unfold M.bt
 simp only [ib]
 have hs' := hs
 obtain ⟨a, cap, rfl, _⟩ := hs'
 cases a with
 | none =>
  simp
  have hz : l = [] := by
   obtain ⟨a', cap', hv, _, _, h3⟩ := hs
   cases l with
   | nil => rfl
   | cons x l =>
    obtain ⟨b, o, ha, _⟩ := h3 0 x rfl
    injection hv with h1 _ _
    rw [← h1] at ha; cases ha
  subst hz
  exact h w _ Sl.nil (fun x hx => by simp [Value.ownBlock] at hx) (Fr.refl _ _)
 | some a =>
  simp
  have f0 : Fz w (w.alloc (.cells #[] T.g)) := (Fr.refl _ w).alloc _
  refine rq et.h pu akh (base := w.heap.size) (Ow.empty (by rw [iw, if_pos rfl]) (Nat.le_refl _)) (hs.fr f0 fun _ _ _ h => h) (by simp; omega) (by decide) (by simp) _ fun v3 w3 o3 f3 g3 => ?_
  rw [List.nil_append] at o3
  exact h w3 v3 (o3.sl pu) (fun x hx => (o3.lt hx).1) (f0.lq f3 fun b hb hv => by simp [Value.ownBlock] at hv; omega)
inductive ThR (w : World) (p : Pk) (ls : List Spn) (lm : List Mem) (lu : List Int) : Value → Prop
 | om (v : Value) : (p.ip = 1 ∨ p.ip = 2) → SlS w v ls → ThR w p ls lm lu (.iface T.s (.agg #[.int .u64 p.tr, .bool (decide (p.ip = 2)), v]))
 | ahx (v : Value) : p.ip = 3 → SlM w v lm → ThR w p ls lm lu (.iface T.u (.agg #[v]))
 | ask : (p.ip = 4 ∨ p.ip = 6) → ThR w p ls lm lu (ant p.tr p.b p.v)
 | aaf : (p.ip = 5 ∨ p.ip = 7) → ThR w p ls lm lu (.iface T.n (.agg #[.int .u64 p.tr, .int .u64 p.b.n, .int .u64 p.b.jl, .bool p.ok, .int .u64 p.jr.n, .int .u64 p.jr.jl, .int .i64 p.v, .bool (decide (p.ip = 7))]))
 | wg : p.ip = 8 → ThR w p ls lm lu (.iface T.z (.agg #[.int .u64 p.tr, .int .i64 p.v]))
 | xu (v : Value) : p.ip = 9 → SlS w v ls → ThR w p ls lm lu (.iface T.j (.agg #[.int .u64 p.tr, .int .u64 p.b.n, .int .u64 p.b.jl, v]))
 | aac (v : Value) : p.ip = 10 → SlU w v lu → ThR w p ls lm lu (.iface T.o (.agg #[.int .u64 p.tr, v]))
 | none : ¬ (1 ≤ p.ip ∧ p.ip ≤ 10) → ThR w p ls lm lu .nilIface
def ako (w : World) (t : Value) : Prop := ∀ a b c v, t = .iface T.j (.agg #[a, b, c, v]) → ∀ g, v.ownBlock = some g → w.heap.size ≤ g
theorem ako.mono {w w' : World} {t : Value} (h : ako w' t) (hs : w.heap.size ≤ w'.heap.size) : ako w t := fun a b c v he g hg => Nat.le_trans hs (h a b c v he g hg)
theorem acs {w : World} {e : TypeId} {x : Value} (h : e ≠ T.j) : ako w (.iface e x) := fun a b c v he => by
 injection he with h1 _
 exact absurd h1 h
theorem aph {w : World} {p : Pk} {ls : List Spn} {lm : List Mem} {lu : List Int} (hp : ql w p ls lm lu) {K : KV} (h : ∀ w' t, ThR w' p ls lm lu t → ako w t → Fz w w' → K t w') : gr P F.db [pkA p] w K := by
 by_cases ha : p.ip = 4 ∨ p.ip = 6
 ·exact awk ha fun w' f => h w' _ (.ask ha) (acs (by decide)) f
 rw [M.w.fcall]
 apply M.w.calls
 unfold M.w
 rw [atn hp]
 have S1 : St w (w.alloc (.cells (pkC p).toArray T.a)) (iq w.heap.size (pkC p).toArray T.a :: []) := (St.ji w).add ((Fr.refl _ w).alloc _) (B := fun x => x = w.heap.size) ⟨by rw [iw, if_pos rfl], rfl⟩ fun x hx => by subst hx; rw [jz]; omega
 generalize w.alloc (.cells (pkC p).toArray T.a) = w1 at *
 generalize w.heap.size = pb at *
 have f1 := S1.fr
 have hp1 := hp.fr f1
 have fd : Fz w1 (dr w1 1) := (Fr.refl _ w1).dr 1
 have hpd := hp1.fr fd
 have Sd := S1.jt fd
 obtain ⟨_, _, e2, _⟩ := ju Sd
 obtain ⟨c0, c1, c2, c4, c6, c7, c8, c9, c10, _⟩ := ju S1
 obtain ⟨⟨a1, k1, h1⟩, ⟨a2, k2, h2⟩, a3, k3, h3⟩ := hp.one
 have n4 : ¬ p.ip = 4 := fun h => ha (.inl h)
 have n6 : ¬ p.ip = 6 := fun h => ha (.inr h)
 by_cases q1 : p.ip = 1 ∨ p.ip = 2
 ·have fin : ∀ d : Bool, d = decide (p.ip = 2) → ∀ w2 v2, SlS w2 v2 ls → Fz (dr w1 1) w2 → K (.iface T.s (.agg #[.int .u64 p.tr, .bool d, v2])) w2 := fun d hd w2 v2 s2 f2 => by
   subst hd
   exact h w2 _ (.om v2 q1 s2) (acs (by decide)) (f1.trans (fd.trans f2))
  have c8' := c8
  rw [h1] at c8'
  rcases q1 with q | q
  ·simp [c0, q]
   unfold M.w.j1
   simp [c1, c0, q, c8']
   rw [← h1, M.j.fcall]
   refine adm hpd.s hpd.ls fun w2 v2 s2 _ f2 => ?_
   obtain ⟨a, c, hv, _⟩ := id s2
   have fin' := fin false (by simp [q]) w2 v2 s2 f2
   have S2 := Sd.jt f2
   obtain ⟨d0, d1, _⟩ := ju S2
   rw [hv] at fin' ⊢
   simp [d0, d1, q]
   exact fin'
  ·simp [c0, q]
   unfold M.w.j1
   simp [c1, c0, q, c8']
   rw [← h1, M.j.fcall]
   refine adm hpd.s hpd.ls fun w2 v2 s2 _ f2 => ?_
   obtain ⟨a, c, hv, _⟩ := id s2
   have fin' := fin true (by simp [q]) w2 v2 s2 f2
   have S2 := Sd.jt f2
   obtain ⟨d0, d1, _⟩ := ju S2
   rw [hv] at fin' ⊢
   simp [d0, d1, q]
   exact fin'
 have n1 : ¬ p.ip = 1 := fun h => q1 (.inl h)
 have n2 : ¬ p.ip = 2 := fun h => q1 (.inr h)
 simp [c0, n1, n2]
 unfold M.w.j1
 by_cases q3 : p.ip = 3
 ·have c9' := c9
  rw [h2] at c9'
  simp [q3, c9']
  rw [← h2]
  refine apm hp1.m hp1.lm fun w2 v2 s2 _ f2 => ?_
  obtain ⟨a, c, hv, _⟩ := id s2
  have fin := h w2 _ (.ahx v2 q3 s2) (acs (by decide)) (f1.trans f2)
  rw [hv] at fin ⊢
  simp
  exact fin
 simp [q3, n4, n6]
 unfold M.w.j2
 by_cases q5 : p.ip = 5 ∨ p.ip = 7
 ·have fin := h w1 _ (.aaf (ls := ls) (lm := lm) (lu := lu) q5) (acs (by decide)) f1
  unfold kt at c2 c4
  rcases q5 with q | q
  ·simp [q]
   unfold M.w.j3
   simp [c0, c1, c2, c4, c6, c7, q]
   simp [q] at fin
   exact fin
  ·simp [q]
   unfold M.w.j3
   simp [c0, c1, c2, c4, c6, c7, q]
   simp [q] at fin
   exact fin
 have n5 : ¬ p.ip = 5 := fun h => q5 (.inl h)
 have n7 : ¬ p.ip = 7 := fun h => q5 (.inr h)
 simp [n5, n7]
 unfold M.w.j3
 by_cases q8 : p.ip = 8
 ·simp [q8, c1, c6]
  exact h w1 _ (.wg q8) (acs (by decide)) f1
 by_cases q9 : p.ip = 9
 ·have c8' := c8
  rw [h1] at c8'
  unfold kt at c2 e2
  simp [q9, c1, c2, e2, c8']
  rw [← h1, M.j.fcall]
  refine adm hpd.s hpd.ls fun w2 v2 s2 n2 f2 => ?_
  obtain ⟨a, c, hv, _⟩ := id s2
  have hown : ako w (.iface T.j (.agg #[.int .u64 p.tr, .int .u64 p.b.n, .int .u64 p.b.jl, v2])) := fun a b c v he g hg => by
   injection he with _ h2
   injection h2 with h2
   have h3 := congrArg (fun x : Array Value => x[3]?) h2
   simp at h3
   rw [← h3] at hg
   have := (n2 g hg).1
   have := (f1.trans fd).size
   omega
  have fin := h w2 _ (.xu v2 q9 s2) hown (f1.trans (fd.trans f2))
  have S2 := Sd.jt f2
  obtain ⟨_, d1, d2, _⟩ := ju S2
  unfold kt at d2
  rw [hv] at fin ⊢
  simp [d1, d2]
  exact fin
 by_cases q10 : p.ip = 10
 ·have c10' := c10
  rw [h3] at c10'
  simp [q10, c1, c10']
  rw [← h3]
  refine ahm hpd.u hpd.lu fun w2 v2 s2 _ f2 => ?_
  obtain ⟨a, c, hv, _⟩ := id s2
  have fin := h w2 _ (.aac v2 q10 s2) (acs (by decide)) (f1.trans (fd.trans f2))
  have S2 := Sd.jt f2
  obtain ⟨_, d1, _⟩ := ju S2
  rw [hv] at fin ⊢
  simp [d1]
  exact fin
 simp [q8, q9, q10]
 exact h w1 _ (.none (by omega)) (fun a b c v e => by cases e) f1
def ahw (tr : Int) (l : List Spn) : Bool := decide (0 < tr) && rp tr l
theorem aqg {w : World} {tr : Int} {d : Bool} {v : Value} {l : List Spn} (hs : SlS w v l) (hlen : l.length ≤ 1000000) {K : KV} (h : ∀ w', Fz w w' → K (.bool (ahw tr l)) w') : gr P F.bf [.iface T.s (.agg #[.int .u64 tr, .bool d, v])] w K := by
 rw [M.s.fcall]
 apply M.s.calls
 unfold M.s
 obtain ⟨a, c, hv, _⟩ := id hs
 rw [hv]
 simp
 have S0 : St w (w.alloc (.cells #[.int .u64 0, .int .u64 0] T.d)) (iq w.heap.size #[.int .u64 0, .int .u64 0] T.d :: []) := (St.ji w).add ((Fr.refl _ w).alloc _) (B := fun x => x = w.heap.size) ⟨by rw [iw, if_pos rfl], rfl⟩ fun x hx => by subst hx; rw [jz]; omega
 refine km (vs := [.int .u64 0, .int .u64 0]) S0.blk rfl (by simp [kq]) fun w2 b2 f2 => ?_
 have S2 := S0.ni f2 b2
 have S3 : St w (w2.alloc (.cells #[.int .u64 0, .bool false, .slice none 0 0] T.s)) (iq w2.heap.size #[.int .u64 0, .bool false, .slice none 0 0] T.s :: _) := S2.add ((Fr.refl _ w2).alloc _) (B := fun x => x = w2.heap.size) ⟨by rw [iw, if_pos rfl], rfl⟩ fun x hx => by subst hx; rw [jz]; omega
 refine km (vs := [.int .u64 tr, .bool d, .slice a l.length c]) S3.blk rfl (by simp [kq]) fun w4 b4 f4 => ?_
 have S4 := S3.ni f4 b4
 generalize w2.heap.size = ob at *
 have c0 : ic w4 ob 0 = some (.int .u64 tr) := by rw [ie b4]; rfl
 have c2 : ic w4 ob 2 = some (.slice a l.length c) := by rw [ie b4]; rfl
 unfold ahw at h
 by_cases h1 : 0 < tr
 ·simp [c0, c2, h1]
  rw [← hv]
  refine apu (hs.fr S4.fr fun _ _ _ h => h) hlen fun w5 f5 => ?_
  have fin := h w5 (S4.fr.trans f5)
  simpa [h1] using fin
 ·have fin := h w4 S4.fr
  simp [c0, h1]
  simpa [h1] using fin
def ajo (tr : Int) (b : Bal) (l : List Spn) : Bool := decide (0 < tr) && decide (0 < b.n) && rp tr l
theorem aol {w : World} {tr : Int} {b : Bal} {v : Value} {l : List Spn} (hs : SlS w v l) (hlen : l.length ≤ 1000000) {K : KV} (h : ∀ w', Fz w w' → K (.bool (ajo tr b l)) w') : gr P F.bf [.iface T.j (.agg #[.int .u64 tr, .int .u64 b.n, .int .u64 b.jl, v])] w K := by
 rw [M.s.fcall]
 apply M.s.calls
 unfold M.s
 obtain ⟨a, c, hv, _⟩ := id hs
 rw [hv]
 simp [adw, aca, ahf, adx, afg]
 have S0 : St w (w.alloc (.cells #[.int .u64 0, .int .u64 0] T.d)) (iq w.heap.size #[.int .u64 0, .int .u64 0] T.d :: []) := (St.ji w).add ((Fr.refl _ w).alloc _) (B := fun x => x = w.heap.size) ⟨by rw [iw, if_pos rfl], rfl⟩ fun x hx => by subst hx; rw [jz]; omega
 refine km (vs := [.int .u64 0, .int .u64 0]) S0.blk rfl (by simp [kq]) fun w2 b2 f2 => ?_
 have S2 := S0.ni f2 b2
 have S3 : St w (w2.alloc (.cells #[.int .u64 0, .int .u64 0, .int .u64 0, .slice none 0 0] T.j)) (iq w2.heap.size #[.int .u64 0, .int .u64 0, .int .u64 0, .slice none 0 0] T.j :: _) := S2.add ((Fr.refl _ w2).alloc _) (B := fun x => x = w2.heap.size) ⟨by rw [iw, if_pos rfl], rfl⟩ fun x hx => by subst hx; rw [jz]; omega
 refine km (vs := [.int .u64 tr, .int .u64 b.n, .int .u64 b.jl, .slice a l.length c]) S3.blk rfl (by simp [kq]) fun w4 b4 f4 => ?_
 have S4 := S3.ni f4 b4
 generalize w2.heap.size = ob at *
 have c0 : ic w4 ob 0 = some (.int .u64 tr) := by rw [ie b4]; rfl
 have c1 : ic w4 ob 1 = some (.int .u64 b.n) := by rw [ie b4]; rfl
 have c3 : ic w4 ob 3 = some (.slice a l.length c) := by rw [ie b4]; rfl
 unfold ajo at h
 by_cases h1 : 0 < tr
 ·by_cases h2 : 0 < b.n
  ·simp [c0, c1, c3, h1, h2]
   rw [← hv]
   refine apu (hs.fr S4.fr fun _ _ _ h => h) hlen fun w5 f5 => ?_
   have fin := h w5 (S4.fr.trans f5)
   simpa [h1, h2] using fin
  ·have fin := h w4 S4.fr
   simp [c0, c1, h1, h2]
   simpa [h1, h2] using fin
 ·have fin := h w4 S4.fr
  simp [c0, h1]
  simpa [h1] using fin
def aql (tr v : Int) : Bool := decide (0 < tr) && ro v
theorem atf {w : World} {tr v : Int} {K : KV} (h : ∀ w', Fz w w' → K (.bool (aql tr v)) w') : gr P F.bf [.iface T.z (.agg #[.int .u64 tr, .int .i64 v])] w K := by
 rw [M.s.fcall]
 apply M.s.calls
 unfold M.s
 simp [agy, aee, akg, ahg]
 have S0 : St w (w.alloc (.cells #[.int .u64 0, .int .u64 0] T.d)) (iq w.heap.size #[.int .u64 0, .int .u64 0] T.d :: []) := (St.ji w).add ((Fr.refl _ w).alloc _) (B := fun x => x = w.heap.size) ⟨by rw [iw, if_pos rfl], rfl⟩ fun x hx => by subst hx; rw [jz]; omega
 refine km (vs := [.int .u64 0, .int .u64 0]) S0.blk rfl (by simp [kq]) fun w2 b2 f2 => ?_
 have S2 := S0.ni f2 b2
 have S3 : St w (w2.alloc (.cells #[.int .u64 0, .int .i64 0] T.z)) (iq w2.heap.size #[.int .u64 0, .int .i64 0] T.z :: _) := S2.add ((Fr.refl _ w2).alloc _) (B := fun x => x = w2.heap.size) ⟨by rw [iw, if_pos rfl], rfl⟩ fun x hx => by subst hx; rw [jz]; omega
 refine km (vs := [.int .u64 tr, .int .i64 v]) S3.blk rfl (by simp [kq]) fun w4 b4 f4 => ?_
 have S4 := S3.ni f4 b4
 generalize w2.heap.size = ob at *
 have c0 : ic w4 ob 0 = some (.int .u64 tr) := by rw [ie b4]; rfl
 have c1 : ic w4 ob 1 = some (.int .i64 v) := by rw [ie b4]; rfl
 have fin := h w4 S4.fr
 unfold aql at fin
 by_cases h1 : 0 < tr
 ·simp [c0, c1, h1]
  refine akm ?_
  simpa [h1] using fin
 ·simp [c0, h1]
  simpa [h1] using fin
def sm : Int → List Int → Bool
 | _, [] => true
 | mf, m :: l => decide (mf < m) && sm m l
def RuI (W : World) (l : List Int) : KL := fun x w1 => ∃ (u0 u1 : Value) (mf : Int) (i : Nat), x = [u0, u1, .int .u64 mf, .int .i64 (i : Nat)] ∧ i ≤ l.length ∧ sm 0 l = sm mf (l.drop i) ∧ Fz W w1
theorem axs {w : World} (m : Int) {K : KV} (h : K (.int .u64 m) w) : nr P (.func (.func F.dk) #[] #[]) [.int .u64 m] w K := by
 rw [M.dy.rcall]
 apply M.dy.calls
 unfold M.dy
 exact h
theorem bic {w : World} {v : Value} {l : List Int} (hs : SlU w v l) (hlen : l.length ≤ 1000000) {K : KV} (h : ∀ w', Fz w w' → K (.bool (sm 0 l && (decide (0 < l.length) && decide (l.length ≤ 16)))) w') :
  gr P F.da [v, .int .i64 16, .func (.func F.dk) #[] #[]] w K := by
 rw [M.ax.fcall]
 apply M.ax.calls
 unfold M.ax
 simp only [ib]
 rw [hs.jb (by kernel_rfl)]
 refine ⟨RuI w l, fun x _ => l.length - ms x 3, ⟨_, _, 0, 0, rfl, Nat.zero_le _, rfl, Fr.refl _ _⟩, ?_⟩
 rintro x w1 ⟨u0, u1, mf, i, rfl, hi, hr, f1⟩
 have q2 : gv [u0, u1, .int .u64 mf, .int .i64 (i : Nat)] 2 = .int .u64 mf := rfl
 have q3 : gv [u0, u1, .int .u64 mf, .int .i64 (i : Nat)] 3 = .int .i64 (i : Nat) := rfl
 have hs1 := hs.fr f1 fun _ _ _ h => h
 simp only [q3]
 by_cases hil : i < l.length
 ·have hil' : (i : Int) < l.length := by omega
  simp [hil']
  unfold M.ax.j2
  obtain ⟨b, o, cap, hv, hb, _, hc⟩ := hs1.at hil
  have hld := hc 0 _ rfl
  have hwi : IntKind.i64.wrap ((i : Int) + 1) = ((i + 1 : Nat) : Int) := by rw [ig]; rfl
  have hdrop : l.drop i = l[i] :: l.drop (i + 1) := List.drop_eq_getElem_cons hil
  rw [hdrop] at hr
  generalize l[i] = m at *
  subst hv
  have hld' : ic w1 b (o + i) = some (.int .u64 m) := by simpa using hld
  simp [q2, q3, hil, hld']
  refine axs m ?_
  simp
  by_cases hle : m ≤ mf
  ·have hlt : ¬ mf < m := by omega
   simp [hle]
   have hf : sm 0 l = false := by rw [hr]; unfold sm; simp [hlt]
   rw [hf] at h
   exact h w1 f1
  ·have hlt : mf < m := by omega
   simp [hle]
   refine axs m ?_
   simp [hwi]
   refine ⟨⟨_, _, m, i + 1, rfl, by omega, ?_, f1⟩, by simp [ms, gv]; omega⟩
   rw [hr]
   show (decide (mf < m) && sm m (l.drop (i + 1))) = _
   simp [hlt]
 ·have hil' : ¬ (i : Int) < l.length := by omega
  have hr1 : sm 0 l = true := by rw [hr, List.drop_of_length_le (by omega)]; rfl
  simp [hil']
  unfold M.ax.j0
  rw [hs1.jb (by kernel_rfl)]
  rw [hr1] at h
  by_cases h0 : 0 < l.length
  ·have h0' : (0 : Int) < l.length := by omega
   have hx : decide ((l.length : Int) ≤ 16) = decide (l.length ≤ 16) := by
    by_cases h16 : l.length ≤ 16
    ·rw [decide_eq_true h16, decide_eq_true (by omega)]
    ·rw [decide_eq_false h16, decide_eq_false (by omega)]
   simp [h0]
   rw [hs1.jb (by kernel_rfl)]
   simp
   rw [hx]
   have := h w1 f1
   simpa [h0] using this
  ·simp [h0]
   have := h w1 f1
   simpa [h0] using this
def amb (tr : Int) (l : List Int) : Bool := decide (0 < tr) && (sm 0 l && (decide (0 < l.length) && decide (l.length ≤ 16)))
theorem apw {w : World} {tr : Int} {v : Value} {l : List Int} (hs : SlU w v l) (hlen : l.length ≤ 1000000) {K : KV} (h : ∀ w', Fz w w' → K (.bool (amb tr l)) w') : gr P F.bf [.iface T.o (.agg #[.int .u64 tr, v])] w K := by
 rw [M.s.fcall]
 apply M.s.calls
 unfold M.s
 obtain ⟨a, c, hv, _⟩ := id hs
 rw [hv]
 simp [aau, zn, adu, aam, abz, xe]
 have S0 : St w (w.alloc (.cells #[.int .u64 0, .int .u64 0] T.d)) (iq w.heap.size #[.int .u64 0, .int .u64 0] T.d :: []) := (St.ji w).add ((Fr.refl _ w).alloc _) (B := fun x => x = w.heap.size) ⟨by rw [iw, if_pos rfl], rfl⟩ fun x hx => by subst hx; rw [jz]; omega
 refine km (vs := [.int .u64 0, .int .u64 0]) S0.blk rfl (by simp [kq]) fun w2 b2 f2 => ?_
 have S2 := S0.ni f2 b2
 have S3 : St w (w2.alloc (.cells #[.int .u64 0, .slice none 0 0] T.o)) (iq w2.heap.size #[.int .u64 0, .slice none 0 0] T.o :: _) := S2.add ((Fr.refl _ w2).alloc _) (B := fun x => x = w2.heap.size) ⟨by rw [iw, if_pos rfl], rfl⟩ fun x hx => by subst hx; rw [jz]; omega
 refine km (vs := [.int .u64 tr, .slice a l.length c]) S3.blk rfl (by simp [kq]) fun w4 b4 f4 => ?_
 have S4 := S3.ni f4 b4
 generalize w2.heap.size = ob at *
 have c0 : ic w4 ob 0 = some (.int .u64 tr) := by rw [ie b4]; rfl
 have c1 : ic w4 ob 1 = some (.slice a l.length c) := by rw [ie b4]; rfl
 unfold amb at h
 by_cases h1 : 0 < tr
 ·simp [c0, c1, h1]
  rw [← hv]
  refine bic (hs.fr S4.fr fun _ _ _ h => h) hlen fun w5 f5 => ?_
  have fin := h w5 (S4.fr.trans f5)
  simpa [h1] using fin
 ·have fin := h w4 S4.fr
  simp [c0, h1]
  simpa [h1] using fin
def ahk (tr : Int) (b : Bal) (ok : Bool) (jr : Bal) (v : Int) (jj : Bool) : Bool :=
 if tr = 0 ∨ b.n = 0 then false else if ok = false then decide (v = 0) && !(decide (jr = ir)) else if jj = true then decide (v = 0) && decide (jr = ir) else (ro v && !(decide (jr = ir))) || (decide (v = 0) && decide (jr = ir))
theorem aqf {w : World} {tr v : Int} {b jr : Bal} {ok jj : Bool} {K : KV} (h : ∀ w', Fz w w' → K (.bool (ahk tr b ok jr v jj)) w') : gr P F.bf [.iface T.n (.agg #[.int .u64 tr, .int .u64 b.n, .int .u64 b.jl, .bool ok, .int .u64 jr.n, .int .u64 jr.jl, .int .i64 v, .bool jj])] w K := by
 rw [M.s.fcall]
 apply M.s.calls
 unfold M.s
 simp [afp, adj, aht]
 have S0 : St w (w.alloc (.cells #[.int .u64 0, .int .u64 0] T.d)) (iq w.heap.size #[.int .u64 0, .int .u64 0] T.d :: []) := (St.ji w).add ((Fr.refl _ w).alloc _) (B := fun x => x = w.heap.size) ⟨by rw [iw, if_pos rfl], rfl⟩ fun x hx => by subst hx; rw [jz]; omega
 refine km (vs := [.int .u64 0, .int .u64 0]) S0.blk rfl (by simp [kq]) fun w2 b2 f2 => ?_
 have S2 := S0.ni f2 b2
 have S3 : St w (w2.alloc (.cells #[.int .u64 0, .int .u64 0, .int .u64 0, .bool false, .int .u64 0, .int .u64 0, .int .i64 0, .bool false] T.n)) (iq w2.heap.size #[.int .u64 0, .int .u64 0, .int .u64 0, .bool false, .int .u64 0, .int .u64 0, .int .i64 0, .bool false] T.n :: _) := S2.add ((Fr.refl _ w2).alloc _) (B := fun x => x = w2.heap.size) ⟨by rw [iw, if_pos rfl], rfl⟩ fun x hx => by subst hx; rw [jz]; omega
 refine km (vs := [.int .u64 tr, .int .u64 b.n, .int .u64 b.jl, .bool ok, .int .u64 jr.n, .int .u64 jr.jl, .int .i64 v, .bool jj]) S3.blk rfl (by simp [kq]) fun w4 b4 f4 => ?_
 have S4 := S3.ni f4 b4
 have fin := h w4 S4.fr
 have z0 : ∀ K, ldN P 2 w.heap.size 0 w4 K = K (kt ir) w4 := fun K => by
  have hh := S4.swap.blk
  exact aeu (by rw [ie hh]; rfl) (by rw [ie hh]; rfl) K
 generalize w2.heap.size = ob at *
 generalize w.heap.size = zb at *
 have c0 : ic w4 ob 0 = some (.int .u64 tr) := by rw [ie b4]; rfl
 have c1 : ic w4 ob 1 = some (.int .u64 b.n) := by rw [ie b4]; rfl
 have c3 : ic w4 ob 3 = some (.bool ok) := by rw [ie b4]; rfl
 have c4 : ∀ K, ldN P 2 ob 4 w4 K = K (kt jr) w4 := fun K => aeu (by rw [ie b4]; rfl) (by rw [ie b4]; rfl) K
 have c6 : ic w4 ob 6 = some (.int .i64 v) := by rw [ie b4]; rfl
 have c7 : ic w4 ob 7 = some (.bool jj) := by rw [ie b4]; rfl
 unfold ahk at fin
 by_cases h1 : tr = 0
 ·simp [c0, h1]
  simpa [h1] using fin
 by_cases h2 : b.n = 0
 ·simp [c0, c1, h1, h2]
  simpa [h2] using fin
 cases ok with
 | false =>
  by_cases h3 : v = 0
  ·simp [c0, c1, c3, c6, c4, z0, h1, h2, h3, aiw]
   simpa [h1, h2, h3] using fin
  ·simp [c0, c1, c3, c6, h1, h2, h3]
   simpa [h1, h2, h3] using fin
 | true =>
 cases jj with
 | true =>
  by_cases h3 : v = 0
  ·simp [c0, c1, c3, c6, c7, c4, z0, h1, h2, h3, wu]
   simpa [h1, h2, h3] using fin
  ·simp [c0, c1, c3, c6, c7, h1, h2, h3]
   simpa [h1, h2, h3] using fin
 | false =>
 simp [c0, c1, c3, c7, h1, h2]
 unfold M.s.j1
 simp [c6]
 refine akm ?_
 by_cases h4 : ro v = true
 ·have hv0 : ¬ v = 0 := fun hh => by subst hh; exact absurd h4 (by decide)
  by_cases h5 : jr = ir
  ·simp [h4, c4, z0, aiw, h5, c6, hv0]
   simpa [h1, h2, h4, h5, hv0] using fin
  ·simp [h4, c4, z0, aiw, h5]
   simpa [h1, h2, h4, h5] using fin
 ·by_cases h3 : v = 0
  ·subst h3
   have ht : ro 0 = false := by decide
   simp [ht, c6, c4, z0, wu]
   simpa [h1, h2, ht] using fin
  ·simp [h4, c6, h3]
   simpa [h1, h2, h4, h3] using fin
abbrev iz : Value := .slice none 0 0
theorem ye {w W : World} {pb : Nat} {R : List Asn} {q : Pk} (S : St w W (iq pb (pkC q).toArray T.a :: R)) (K : KV) : ldN P 11 pb 0 W K = K (pkA q) W := (ju S).2.2.2.2.2.2.2.2.2 K
theorem aad {w W : World} {pb : Nat} {R : List Asn} {q : Pk} (S : St w W (iq pb (pkC q).toArray T.a :: R)) (K : KV) : pp P T.a (.pointer (some ⟨pb, 0, none⟩)) W K = K (pkA q) W := by rw [ajp]; exact ye S K
theorem ue {k tr v : Int} {b s : Bal} {ok : Bool} {a1 a2 a3 : Option Addr} {l1 l2 l3 c1 c2 c3 : Nat} : ∀ u ∈ pkC ⟨k, tr, b, s, v, ok, .slice a1 l1 c1, .slice a2 l2 c2, .slice a3 l3 c3⟩, kq u = true := fun u hu => by
 simp only [pkC, List.mem_cons, List.not_mem_nil, or_false] at hu
 rcases hu with rfl | rfl | rfl | rfl | rfl | rfl | rfl | rfl | rfl | rfl | rfl <;> rfl
theorem afi (w : World) : St w (w.alloc (.cells #[.int .i64 0, .int .u64 0, .int .u64 0, .int .u64 0, .int .u64 0, .int .u64 0, .int .i64 0, .bool false, .slice none 0 0, .slice none 0 0, .slice none 0 0] T.a)) (iq w.heap.size #[.int .i64 0, .int .u64 0, .int .u64 0, .int .u64 0, .int .u64 0, .int .u64 0, .int .i64 0, .bool false, .slice none 0 0, .slice none 0 0, .slice none 0 0] T.a :: []) := (St.ji w).add ((Fr.refl _ w).alloc _) (B := fun x => x = w.heap.size) ⟨by rw [iw, if_pos rfl], rfl⟩ fun x hx => by subst hx; rw [jz]; omega
theorem act {w0 w : World} {R : List Asn} (S : St w0 w R) (cs : Array Value) (t : TypeId) : St w0 (w.alloc (.cells cs t)) (iq w.heap.size cs t :: R) := S.add ((Fr.refl _ w).alloc _) (B := fun x => x = w.heap.size) ⟨by rw [iw, if_pos rfl], rfl⟩ fun x hx => by subst hx; rw [jz]; omega
theorem aqb {w : World} {tr v : Int} {K : KV} (h : ∀ w', Fz w w' → K (pkA ⟨8, tr, ir, ir, v, false, iz, iz, iz⟩) w') : gr P F.ax [.iface T.z (.agg #[.int .u64 tr, .int .i64 v])] w K := by
 rw [M.n.fcall]
 apply M.n.calls
 unfold M.n
 simp [agy, aee, akg, ahg]
 have S0 := afi w
 have z0 : (w.alloc (.cells #[.int .i64 0, .int .u64 0, .int .u64 0, .int .u64 0, .int .u64 0, .int .u64 0, .int .i64 0, .bool false, .slice none 0 0, .slice none 0 0, .slice none 0 0] T.a)).heap.size = w.heap.size + 1 := jz _ _
 generalize w.alloc (.cells #[.int .i64 0, .int .u64 0, .int .u64 0, .int .u64 0, .int .u64 0, .int .u64 0, .int .i64 0, .bool false, .slice none 0 0, .slice none 0 0, .slice none 0 0] T.a) = w1 at *
 have S1 := act S0 #[.int .u64 0, .int .i64 0] T.z
 rw [z0] at S1
 generalize w.heap.size = pb at *
 generalize pb + 1 = ob at *
 refine km (vs := [.int .u64 tr, .int .i64 v]) S1.blk rfl (by simp [kq]) fun w2 b2 f2 => ?_
 have S2 := S1.ni f2 b2
 have c0 : ic w2 ob 0 = some (.int .u64 tr) := by rw [ie b2]; rfl
 have c1 : ic w2 ob 1 = some (.int .i64 v) := by rw [ie b2]; rfl
 simp [c0, c1]
 refine km (vs := pkC ⟨8, tr, ir, ir, v, false, iz, iz, iz⟩) S2.swap.blk rfl ue fun w3 b3 f3 => ?_
 have S3 := S2.swap.ni f3 b3
 rw [ye S3]
 have e : pkA ⟨8, tr, ir, ir, v, false, iz, iz, iz⟩ = .agg #[.int .i64 8, .int .u64 tr, .int .u64 0, .int .u64 0, .int .u64 0, .int .u64 0, .int .i64 v, .bool false, .slice none 0 0, .slice none 0 0, .slice none 0 0] := rfl
 rw [e]
 simp
 refine km (vs := pkC ⟨8, tr, ir, ir, v, false, iz, iz, iz⟩) S3.blk rfl ue fun w5 b5 f5 => ?_
 have S5 := S3.ni f5 b5
 rw [aad S5]
 exact ⟨rfl, h w5 S5.fr⟩
theorem aoi {w : World} {tr v : Int} {b jr : Bal} {ok jj : Bool} {K : KV} (h : ∀ w', Fz w w' → K (pkA ⟨if jj = true then 7 else 5, tr, b, jr, v, ok, iz, iz, iz⟩) w') : gr P F.ax [.iface T.n (.agg #[.int .u64 tr, .int .u64 b.n, .int .u64 b.jl, .bool ok, .int .u64 jr.n, .int .u64 jr.jl, .int .i64 v, .bool jj])] w K := by
 rw [M.n.fcall]
 apply M.n.calls
 unfold M.n
 simp [afp, adj, aht]
 have S0 := afi w
 have z0 : (w.alloc (.cells #[.int .i64 0, .int .u64 0, .int .u64 0, .int .u64 0, .int .u64 0, .int .u64 0, .int .i64 0, .bool false, .slice none 0 0, .slice none 0 0, .slice none 0 0] T.a)).heap.size = w.heap.size + 1 := jz _ _
 generalize w.alloc (.cells #[.int .i64 0, .int .u64 0, .int .u64 0, .int .u64 0, .int .u64 0, .int .u64 0, .int .i64 0, .bool false, .slice none 0 0, .slice none 0 0, .slice none 0 0] T.a) = w1 at *
 have S1 := act S0 #[.int .u64 0, .int .u64 0, .int .u64 0, .bool false, .int .u64 0, .int .u64 0, .int .i64 0, .bool false] T.n
 rw [z0] at S1
 generalize w.heap.size = pb at *
 generalize pb + 1 = ob at *
 refine km (vs := [.int .u64 tr, .int .u64 b.n, .int .u64 b.jl, .bool ok, .int .u64 jr.n, .int .u64 jr.jl, .int .i64 v, .bool jj]) S1.blk rfl (by simp [kq]) fun w2 b2 f2 => ?_
 have S2 := S1.ni f2 b2
 have reC : ∀ {W : World} {R : List Asn}, St w W (iq ob [.int .u64 tr, .int .u64 b.n, .int .u64 b.jl, .bool ok, .int .u64 jr.n, .int .u64 jr.jl, .int .i64 v, .bool jj].toArray T.n :: R) → ic W ob 0 = some (.int .u64 tr) ∧ (∀ K, ldN P 2 ob 1 W K = K (.agg #[.int .u64 b.n, .int .u64 b.jl]) W) ∧ ic W ob 3 = some (.bool ok) ∧ (∀ K, ldN P 2 ob 4 W K = K (.agg #[.int .u64 jr.n, .int .u64 jr.jl]) W) ∧ ic W ob 6 = some (.int .i64 v) ∧ ic W ob 7 = some (.bool jj) := fun {W R} S' => by
  have hh := S'.blk
  exact ⟨by rw [ie hh]; rfl, fun K => aeu (by rw [ie hh]; rfl) (by rw [ie hh]; rfl) K, by rw [ie hh]; rfl, fun K => aeu (by rw [ie hh]; rfl) (by rw [ie hh]; rfl) K, by rw [ie hh]; rfl, by rw [ie hh]; rfl⟩
 obtain ⟨c0, c1, c3, c4, c6, _⟩ := reC S2
 simp [c0, c1, c3, c4, c6]
 refine km (vs := pkC ⟨5, tr, b, jr, v, ok, iz, iz, iz⟩) S2.swap.blk rfl ue fun w3 b3 f3 => ?_
 have S3 := S2.swap.ni f3 b3
 obtain ⟨_, _, _, _, _, d7⟩ := reC S3.swap
 cases jj with
 | false =>
  simp [d7]
  rw [ye S3]
  have e : pkA ⟨5, tr, b, jr, v, ok, iz, iz, iz⟩ = .agg #[.int .i64 5, .int .u64 tr, .int .u64 b.n, .int .u64 b.jl, .int .u64 jr.n, .int .u64 jr.jl, .int .i64 v, .bool ok, .slice none 0 0, .slice none 0 0, .slice none 0 0] := rfl
  rw [e]
  simp
  refine km (vs := pkC ⟨5, tr, b, jr, v, ok, iz, iz, iz⟩) S3.blk rfl ue fun w5 b5 f5 => ?_
  have S5 := S3.ni f5 b5
  rw [aad S5]
  exact ⟨rfl, h w5 S5.fr⟩
 | true =>
  have e0 := abd S3.blk 0 _ rfl
  have ez := pg S3.blk
  simp [d7, e0, ez]
  have S4 : St w (w3.setCell ⟨pb, 0, none⟩ (.int .i64 7)) (iq pb (pkC ⟨7, tr, b, jr, v, ok, iz, iz, iz⟩).toArray T.a :: _) := S3.ni ((Fr.refl (fun x => x = pb) w3).setCell (.inl rfl) _ _) ((nj S3.blk).trans rfl)
  rw [ye S4]
  have e : pkA ⟨7, tr, b, jr, v, ok, iz, iz, iz⟩ = .agg #[.int .i64 7, .int .u64 tr, .int .u64 b.n, .int .u64 b.jl, .int .u64 jr.n, .int .u64 jr.jl, .int .i64 v, .bool ok, .slice none 0 0, .slice none 0 0, .slice none 0 0] := rfl
  rw [e]
  simp
  refine km (vs := pkC ⟨7, tr, b, jr, v, ok, iz, iz, iz⟩) S4.blk rfl ue fun w5 b5 f5 => ?_
  have S5 := S4.ni f5 b5
  rw [aad S5]
  exact ⟨rfl, h w5 S5.fr⟩
theorem anq {w : World} {tr : Int} {d : Bool} {v : Value} {l : List Spn} (hs : SlS w v l) (hlen : l.length ≤ 1000000) {K : KV} (h : ∀ w' v', SlS w' v' l → Fz w w' → K (pkA ⟨if d = true then 2 else 1, tr, ir, ir, 0, false, v', iz, iz⟩) w') : gr P F.ax [.iface T.s (.agg #[.int .u64 tr, .bool d, v])] w K := by
 rw [M.n.fcall]
 apply M.n.calls
 unfold M.n
 obtain ⟨a, c, hv, _⟩ := id hs
 rw [hv]
 simp
 have S0 := afi w
 have z0 : (w.alloc (.cells #[.int .i64 0, .int .u64 0, .int .u64 0, .int .u64 0, .int .u64 0, .int .u64 0, .int .i64 0, .bool false, .slice none 0 0, .slice none 0 0, .slice none 0 0] T.a)).heap.size = w.heap.size + 1 := jz _ _
 generalize w.alloc (.cells #[.int .i64 0, .int .u64 0, .int .u64 0, .int .u64 0, .int .u64 0, .int .u64 0, .int .i64 0, .bool false, .slice none 0 0, .slice none 0 0, .slice none 0 0] T.a) = w1 at *
 have S1 := act S0 #[.int .u64 0, .bool false, .slice none 0 0] T.s
 rw [z0] at S1
 generalize w.heap.size = pb at *
 generalize pb + 1 = ob at *
 refine km (vs := [Value.int .u64 tr, .bool d, .slice a l.length c]) S1.blk rfl (by simp [kq]) fun w2 b2 f2 => ?_
 have S2 := S1.ni f2 b2
 have thC : ∀ {W : World} {R : List Asn}, St w W (iq ob [Value.int .u64 tr, .bool d, .slice a l.length c].toArray T.s :: R) → ic W ob 0 = some (.int .u64 tr) ∧ ic W ob 1 = some (.bool d) ∧ ic W ob 2 = some (.slice a l.length c) := fun {W R} S' => by
  have hh := S'.blk
  exact ⟨by rw [ie hh]; rfl, by rw [ie hh]; rfl, by rw [ie hh]; rfl⟩
 have hpl : pb < w2.heap.size := (Array.getElem?_eq_some_iff.1 S2.swap.blk).1
 have fd : Fz w2 (dr w2 1) := (Fr.refl _ w2).dr 1
 have Sd := S2.jt fd
 obtain ⟨c0, c1, c2⟩ := thC S2
 obtain ⟨e0, e1, e2⟩ := thC Sd
 simp [c0, c2, e0, e2]
 rw [← hv]
 rw [M.j.fcall]
 refine adm ((hs.fr Sd.fr fun _ _ _ h => h)) hlen fun w3 v3 s3 n3 f3 => ?_
 obtain ⟨a3, c3, hv3, _⟩ := id s3
 have S3 := Sd.jt f3
 obtain ⟨g0, g1, g2⟩ := thC S3
 have hnn : ∀ b, v3.ownBlock = some b → b ≠ pb := fun b hb => by
  have := n3 b hb
  have := fd.size
  omega
 rw [hv3] at s3 hnn ⊢
 simp [g0, g2]
 refine km (vs := pkC ⟨1, tr, ir, ir, 0, false, .slice a3 l.length c3, iz, iz⟩) S3.swap.blk rfl ue fun w4 b4 f4 => ?_
 have S4 := S3.swap.ni f4 b4
 have s4 : SlS w4 (.slice a3 l.length c3) l := s3.fr f4 fun b hb _ => hnn b hb
 obtain ⟨i0, i1, i2⟩ := thC S4.swap
 cases d with
 | false =>
  simp [i0, i2, i1]
  rw [ye S4]
  have e : pkA ⟨1, tr, ir, ir, 0, false, .slice a3 l.length c3, iz, iz⟩ = .agg #[.int .i64 1, .int .u64 tr, .int .u64 0, .int .u64 0, .int .u64 0, .int .u64 0, .int .i64 0, .bool false, .slice a3 l.length c3, .slice none 0 0, .slice none 0 0] := rfl
  rw [e]
  simp
  refine km (vs := pkC ⟨1, tr, ir, ir, 0, false, .slice a3 l.length c3, iz, iz⟩) S4.blk rfl ue fun w5 b5 f5 => ?_
  have S5 := S4.ni f5 b5
  rw [aad S5]
  exact ⟨rfl, h w5 _ (s4.fr f5 fun b hb _ => hnn b hb) S5.fr⟩
 | true =>
  have e0 := abd S4.blk 0 _ rfl
  have ez := pg S4.blk
  simp [i0, i2, i1, e0, ez]
  have f6 : Fr (fun x => x = pb) w4 (w4.setCell ⟨pb, 0, none⟩ (.int .i64 2)) := (Fr.refl (fun x => x = pb) w4).setCell (.inl rfl) _ _
  have S6 : St w (w4.setCell ⟨pb, 0, none⟩ (.int .i64 2)) (iq pb (pkC ⟨2, tr, ir, ir, 0, false, .slice a3 l.length c3, iz, iz⟩).toArray T.a :: _) := S4.ni f6 ((nj S4.blk).trans rfl)
  have s6 : SlS (w4.setCell ⟨pb, 0, none⟩ (.int .i64 2)) (.slice a3 l.length c3) l := s4.fr f6 fun b hb _ => hnn b hb
  rw [ye S6]
  have e : pkA ⟨2, tr, ir, ir, 0, false, .slice a3 l.length c3, iz, iz⟩ = .agg #[.int .i64 2, .int .u64 tr, .int .u64 0, .int .u64 0, .int .u64 0, .int .u64 0, .int .i64 0, .bool false, .slice a3 l.length c3, .slice none 0 0, .slice none 0 0] := rfl
  rw [e]
  simp
  refine km (vs := pkC ⟨2, tr, ir, ir, 0, false, .slice a3 l.length c3, iz, iz⟩) S6.blk rfl ue fun w5 b5 f5 => ?_
  have S5 := S6.ni f5 b5
  rw [aad S5]
  exact ⟨rfl, h w5 _ (s6.fr f5 fun b hb _ => hnn b hb) S5.fr⟩
theorem amz {w : World} {tr : Int} {b : Bal} {v : Value} {l : List Spn} (hs : SlS w v l) (hlen : l.length ≤ 1000000) {K : KV} (h : ∀ w' v', SlS w' v' l → Fz w w' → K (pkA ⟨9, tr, b, ir, 0, false, v', iz, iz⟩) w') : gr P F.ax [.iface T.j (.agg #[.int .u64 tr, .int .u64 b.n, .int .u64 b.jl, v])] w K := by
 rw [M.n.fcall]
 apply M.n.calls
 unfold M.n
 obtain ⟨a, c, hv, _⟩ := id hs
 rw [hv]
 simp [adw, aca, ahf, adx, afg]
 have S0 := afi w
 have z0 : (w.alloc (.cells #[.int .i64 0, .int .u64 0, .int .u64 0, .int .u64 0, .int .u64 0, .int .u64 0, .int .i64 0, .bool false, .slice none 0 0, .slice none 0 0, .slice none 0 0] T.a)).heap.size = w.heap.size + 1 := jz _ _
 generalize w.alloc (.cells #[.int .i64 0, .int .u64 0, .int .u64 0, .int .u64 0, .int .u64 0, .int .u64 0, .int .i64 0, .bool false, .slice none 0 0, .slice none 0 0, .slice none 0 0] T.a) = w1 at *
 have S1 := act S0 #[.int .u64 0, .int .u64 0, .int .u64 0, .slice none 0 0] T.j
 rw [z0] at S1
 generalize w.heap.size = pb at *
 generalize pb + 1 = ob at *
 refine km (vs := [Value.int .u64 tr, .int .u64 b.n, .int .u64 b.jl, .slice a l.length c]) S1.blk rfl (by simp [kq]) fun w2 b2 f2 => ?_
 have S2 := S1.ni f2 b2
 have thC : ∀ {W : World} {R : List Asn}, St w W (iq ob [Value.int .u64 tr, .int .u64 b.n, .int .u64 b.jl, .slice a l.length c].toArray T.j :: R) → ic W ob 0 = some (.int .u64 tr) ∧ (∀ K, ldN P 2 ob 1 W K = K (.agg #[.int .u64 b.n, .int .u64 b.jl]) W) ∧ ic W ob 3 = some (.slice a l.length c) := fun {W R} S' => by
  have hh := S'.blk
  exact ⟨by rw [ie hh]; rfl, fun K => aeu (by rw [ie hh]; rfl) (by rw [ie hh]; rfl) K, by rw [ie hh]; rfl⟩
 have hpl : pb < w2.heap.size := (Array.getElem?_eq_some_iff.1 S2.swap.blk).1
 have fd : Fz w2 (dr w2 1) := (Fr.refl _ w2).dr 1
 have Sd := S2.jt fd
 obtain ⟨c0, c1, c2⟩ := thC S2
 obtain ⟨e0, e1, e2⟩ := thC Sd
 simp [c0, c1, c2, e0, e1, e2]
 rw [← hv]
 rw [M.j.fcall]
 refine adm ((hs.fr Sd.fr fun _ _ _ h => h)) hlen fun w3 v3 s3 n3 f3 => ?_
 obtain ⟨a3, c3, hv3, _⟩ := id s3
 have S3 := Sd.jt f3
 obtain ⟨g0, g1, g2⟩ := thC S3
 have hnn : ∀ b, v3.ownBlock = some b → b ≠ pb := fun b hb => by
  have := n3 b hb
  have := fd.size
  omega
 rw [hv3] at s3 hnn ⊢
 simp [g0, g1, g2]
 refine km (vs := pkC ⟨9, tr, b, ir, 0, false, .slice a3 l.length c3, iz, iz⟩) S3.swap.blk rfl ue fun w4 b4 f4 => ?_
 have S4 := S3.swap.ni f4 b4
 have s4 : SlS w4 (.slice a3 l.length c3) l := s3.fr f4 fun b hb _ => hnn b hb
 rw [ye S4]
 have e : pkA ⟨9, tr, b, ir, 0, false, .slice a3 l.length c3, iz, iz⟩ = .agg #[.int .i64 9, .int .u64 tr, .int .u64 b.n, .int .u64 b.jl, .int .u64 0, .int .u64 0, .int .i64 0, .bool false, .slice a3 l.length c3, .slice none 0 0, .slice none 0 0] := rfl
 rw [e]
 simp
 refine km (vs := pkC ⟨9, tr, b, ir, 0, false, .slice a3 l.length c3, iz, iz⟩) S4.blk rfl ue fun w5 b5 f5 => ?_
 have S5 := S4.ni f5 b5
 rw [aad S5]
 exact ⟨rfl, h w5 _ (s4.fr f5 fun b hb _ => hnn b hb) S5.fr⟩
theorem aod {w : World} {tr : Int} {v : Value} {l : List Int} (hs : SlU w v l) (hlen : l.length ≤ 1000000) {K : KV} (h : ∀ w' v', SlU w' v' l → Fz w w' → K (pkA ⟨10, tr, ir, ir, 0, false, iz, iz, v'⟩) w') : gr P F.ax [.iface T.o (.agg #[.int .u64 tr, v])] w K := by
 rw [M.n.fcall]
 apply M.n.calls
 unfold M.n
 obtain ⟨a, c, hv, _⟩ := id hs
 rw [hv]
 simp [aau, zn, adu, aam, abz, xe]
 have S0 := afi w
 have z0 : (w.alloc (.cells #[.int .i64 0, .int .u64 0, .int .u64 0, .int .u64 0, .int .u64 0, .int .u64 0, .int .i64 0, .bool false, .slice none 0 0, .slice none 0 0, .slice none 0 0] T.a)).heap.size = w.heap.size + 1 := jz _ _
 generalize w.alloc (.cells #[.int .i64 0, .int .u64 0, .int .u64 0, .int .u64 0, .int .u64 0, .int .u64 0, .int .i64 0, .bool false, .slice none 0 0, .slice none 0 0, .slice none 0 0] T.a) = w1 at *
 have S1 := act S0 #[.int .u64 0, .slice none 0 0] T.o
 rw [z0] at S1
 generalize w.heap.size = pb at *
 generalize pb + 1 = ob at *
 refine km (vs := [Value.int .u64 tr, .slice a l.length c]) S1.blk rfl (by simp [kq]) fun w2 b2 f2 => ?_
 have S2 := S1.ni f2 b2
 have thC : ∀ {W : World} {R : List Asn}, St w W (iq ob [Value.int .u64 tr, .slice a l.length c].toArray T.o :: R) → ic W ob 0 = some (.int .u64 tr) ∧ ic W ob 1 = some (.slice a l.length c) := fun {W R} S' => by
  have hh := S'.blk
  exact ⟨by rw [ie hh]; rfl, by rw [ie hh]; rfl⟩
 have hpl : pb < w2.heap.size := (Array.getElem?_eq_some_iff.1 S2.swap.blk).1
 have fd : Fz w2 (dr w2 1) := (Fr.refl _ w2).dr 1
 have Sd := S2.jt fd
 obtain ⟨c0, c1⟩ := thC S2
 obtain ⟨e0, e1⟩ := thC Sd
 simp [c0, c1, e0, e1]
 rw [← hv]
 refine ahm ((hs.fr Sd.fr fun _ _ _ h => h)) hlen fun w3 v3 s3 n3 f3 => ?_
 obtain ⟨a3, c3, hv3, _⟩ := id s3
 have S3 := Sd.jt f3
 obtain ⟨g0, g1⟩ := thC S3
 have hnn : ∀ b, v3.ownBlock = some b → b ≠ pb := fun b hb => by
  have := n3 b hb
  have := fd.size
  omega
 rw [hv3] at s3 hnn ⊢
 simp [g0, g1]
 refine km (vs := pkC ⟨10, tr, ir, ir, 0, false, iz, iz, .slice a3 l.length c3⟩) S3.swap.blk rfl ue fun w4 b4 f4 => ?_
 have S4 := S3.swap.ni f4 b4
 have s4 : SlU w4 (.slice a3 l.length c3) l := s3.fr f4 fun b hb _ => hnn b hb
 rw [ye S4]
 have e : pkA ⟨10, tr, ir, ir, 0, false, iz, iz, .slice a3 l.length c3⟩ = .agg #[.int .i64 10, .int .u64 tr, .int .u64 0, .int .u64 0, .int .u64 0, .int .u64 0, .int .i64 0, .bool false, .slice none 0 0, .slice none 0 0, .slice a3 l.length c3] := rfl
 rw [e]
 simp
 refine km (vs := pkC ⟨10, tr, ir, ir, 0, false, iz, iz, .slice a3 l.length c3⟩) S4.blk rfl ue fun w5 b5 f5 => ?_
 have S5 := S4.ni f5 b5
 rw [aad S5]
 exact ⟨rfl, h w5 _ (s4.fr f5 fun b hb _ => hnn b hb) S5.fr⟩
def uh (p : Pk) (ls : List Spn) (lm : List Mem) (lu : List Int) : Bool :=
 if p.ip = 1 ∨ p.ip = 2 then ahw p.tr ls else if p.ip = 3 then aal lm else if p.ip = 4 ∨ p.ip = 6 then asq p.tr p.b p.v else if p.ip = 5 ∨ p.ip = 7 then ahk p.tr p.b p.ok p.jr p.v (decide (p.ip = 7)) else if p.ip = 8 then aql p.tr p.v else if p.ip = 9 then ajo p.tr p.b ls else if p.ip = 10 then amb p.tr lu else false
theorem ThR.fr {w w' : World} {p : Pk} {ls : List Spn} {lm : List Mem} {lu : List Int} {t : Value} (h : ThR w p ls lm lu t) (hf : Fz w w') : ThR w' p ls lm lu t := by
 cases h with
 | om v hk hs => exact .om v hk (hs.fr hf fun _ _ _ h => h)
 | ahx v hk hs => exact .ahx v hk (hs.fr hf fun _ _ _ h => h)
 | ask hk => exact .ask hk
 | aaf hk => exact .aaf hk
 | wg hk => exact .wg hk
 | xu v hk hs => exact .xu v hk (hs.fr hf fun _ _ _ h => h)
 | aac v hk hs => exact .aac v hk (hs.fr hf fun _ _ _ h => h)
 | none hk => exact .none hk
theorem blb (n : Nat) (w : World) (K : KV) : ij P .eql T.au (.tmp n) (.const .nilIface) .nilIface .nilIface w K = K (.bool true) w := kr
theorem ThR.eqn {w : World} {p : Pk} {ls : List Spn} {lm : List Mem} {lu : List Int} {t : Value} (h : ThR w p ls lm lu t) (hk : 1 ≤ p.ip ∧ p.ip ≤ 10) (rx ry : Operand) (w1 : World) (K : KV) : ij P .eql T.au rx ry t .nilIface w1 K = K (.bool false) w1 := by
 cases h with
 | om v hk hs => exact bbx _ _ _ _ _
 | ahx v hk hs => exact awp _ _ _ _ _
 | ask hk => exact bjw _ _ _ _ _
 | aaf hk => exact bed _ _ _ _ _
 | wg hk => exact bfm _ _ _ _ _
 | xu v hk hs => exact ayr _ _ _ _ _
 | aac v hk hs => exact bdw _ _ _ _ _
 | none hn => exact absurd hk hn
theorem ThR.bol {w : World} {p : Pk} {ls : List Spn} {lm : List Mem} {lu : List Int} {t : Value} (h : ThR w p ls lm lu t) (hk : ¬ (1 ≤ p.ip ∧ p.ip ≤ 10)) : t = .nilIface := by
 cases h with
 | none hn => rfl
 | _ => omega
theorem blc {w : World} {p : Pk} {ls : List Spn} {lm : List Mem} {lu : List Int} {t : Value} (ht : ThR w p ls lm lu t) (hk : 1 ≤ p.ip ∧ p.ip ≤ 10) (l1 : ls.length ≤ 1000000) (l2 : lm.length ≤ 1000000) (l3 : lu.length ≤ 1000000) {K : KV}
  (h : ∀ w', Fz w w' → K (.bool (uh p ls lm lu)) w') : gr P F.bf [t] w K := by
 unfold uh at h
 cases ht with
 | om v q hs => simp only [if_pos q] at h; exact aqg hs l1 h
 | ahx v q hs => simp only [q, show ¬ ((3 : Int) = 1 ∨ (3 : Int) = 2) by omega, if_false, if_true] at h; exact bdm hs l2 h
 | ask q => rw [if_neg (by omega), if_neg (by omega), if_pos q] at h; exact awb h
 | aaf q => rw [if_neg (by omega), if_neg (by omega), if_neg (by omega), if_pos q] at h; exact aqf h
 | wg q => rw [if_neg (by omega), if_neg (by omega), if_neg (by omega), if_neg (by omega), if_pos q] at h; exact atf h
 | xu v q hs => rw [if_neg (by omega), if_neg (by omega), if_neg (by omega), if_neg (by omega), if_neg (by omega), if_pos q] at h; exact aol hs l1 h
 | aac v q hs => rw [if_neg (by omega), if_neg (by omega), if_neg (by omega), if_neg (by omega), if_neg (by omega), if_neg (by omega), if_pos q] at h; exact apw hs l3 h
 | none q => exact absurd hk q
structure aat (w : World) (p : Pk) (ls : List Spn) (lm : List Mem) (lu : List Int) : Prop where
 s : SlS w p.sv ls
 m : SlM w p.mv lm
 u : SlU w p.iv lu
structure ya (p : Pk) : Prop where
 tr : uo p.tr
 b : p.b.rng
 jr : p.jr.rng
theorem aat.fr {w w' : World} {p : Pk} {ls : List Spn} {lm : List Mem} {lu : List Int} (h : aat w p ls lm lu) (hf : Fz w w') : aat w' p ls lm lu :=
 ⟨h.s.fr hf fun _ _ _ h => h, h.m.fr hf fun _ _ _ h => h, h.u.fr hf fun _ _ _ h => h⟩
theorem aat.rd {w : World} {p : Pk} {ls : List Spn} {lm : List Mem} {lu : List Int} (h : aat w p ls lm lu) (h1 : ls.length ≤ 1000000) (h2 : lm.length ≤ 1000000) (h3 : lu.length ≤ 1000000) : ql w p ls lm lu := ⟨h.s, h.m, h.u, h1, h2, h3⟩
theorem wfP {x : Int} (h : (Lit.int .u64 x).wf = true) : 0 ≤ x ∧ x ≤ 18446744073709551615 := by
 simp [Lit.wf, IntKind.min, IntKind.max, IntKind.bits, IntKind.signed] at h
 omega
theorem aai {x : Int} (h : (Lit.int .u64 x).wf = true) : uo x := by
 have := wfP h
 exact ⟨this.1, by omega⟩
theorem aoe {α : Type} {w : World} {sz : Nat} {enc : α → List Value} {Q : α → Prop} {v : Value} {l : List α} (h : tp w sz (fun w b o x => rdE enc w b o x ∧ Q x) v l) : Sl w sz enc v l ∧ ∀ x ∈ l, Q x := by
 refine ⟨tp.mono h fun b o x hx => hx.1, fun x hx => ?_⟩
 obtain ⟨i, hi, rfl⟩ := List.getElem_of_mem hx
 obtain ⟨a, cap, _, _, _, h3⟩ := h
 obtain ⟨b, o, _, _, hr⟩ := h3 i _ (List.getElem?_eq_getElem hi)
 exact hr.2
theorem bfq {w : World} {n : Nat} {v : Value} (h : TV P w n T.h [v]) : ∃ l, SlU w v l ∧ ∀ x ∈ l, uo x := by
 have : ∃ l : List Int, tp w 1 (fun w b o x => rdE pi w b o x ∧ uo x) v l := by
  refine ada (sz := 1) (rd := fun w b o x => rdE pi w b o x ∧ uo x) (e := T.g) (by kernel_rfl) (by kernel_rfl) (by decide) (fun n b o cs ht hl hc => ?_) h
  obtain ⟨x, hx, hw⟩ := sp (k := .u64) (by kernel_rfl) ht
  subst hx
  exact ⟨x, fun j u hj => hc j u hj, aai hw⟩
 obtain ⟨l, hl⟩ := this
 exact ⟨l, aoe hl⟩
structure wt (s : Spn) : Prop where
 tr : uo s.iu
 id : uo s.id
 par : uo s.ou
 st : uo s.ji
 ln : uo s.len
theorem bdl {w : World} {n : Nat} {v : Value} (h : TV P w n T.b [v]) : ∃ l, SlS w v l ∧ ∀ s ∈ l, wt s := by
 suffices hh : ∃ l : List Spn, tp w 8 (fun w b o x => rdE ja w b o x ∧ wt x) v l by
  obtain ⟨l, hl⟩ := hh
  exact ⟨l, aoe hl⟩
 refine ada (sz := 8) (rd := fun w b o x => rdE ja w b o x ∧ wt x) Tryz.underlying42 (by kernel_rfl) (by decide) (fun n b o cs ht hl hc => ?_) h
 obtain ⟨_, hf⟩ := abt Tryz.underlying85 ht
 obtain ⟨m0, t0⟩ := hf 0 _ rfl
 obtain ⟨m1, t1⟩ := hf 1 _ rfl
 obtain ⟨m2, t2⟩ := hf 2 _ rfl
 obtain ⟨m3, t3⟩ := hf 3 _ rfl
 obtain ⟨m4, t4⟩ := hf 4 _ rfl
 obtain ⟨m5, t5⟩ := hf 5 _ rfl
 obtain ⟨m6, t6⟩ := hf 6 _ rfl
 obtain ⟨m7, t7⟩ := hf 7 _ rfl
 obtain ⟨x0, e0, g0⟩ := sp Tryz.underlying35 t0
 obtain ⟨x1, e1, g1⟩ := sp Tryz.underlying35 t1
 obtain ⟨x2, e2, g2⟩ := sp Tryz.underlying35 t2
 obtain ⟨x3, e3, g3⟩ := sp Tryz.underlying35 t3
 obtain ⟨x4, e4, g4⟩ := sp Tryz.underlying35 t4
 obtain ⟨x5, e5, _⟩ := apv Tryz.underlying9 t5
 obtain ⟨x6, e6, _⟩ := apv Tryz.underlying9 t6
 obtain ⟨x7, e7⟩ := ayb Tryz.underlying4 t7
 have c0 : Tryz.prog.cellsOf T.g = 1 := by kernel_rfl
 have c1 : Tryz.prog.cellsOf T.ah = 1 := by kernel_rfl
 have c2 : Tryz.prog.cellsOf T.av = 1 := by kernel_rfl
 match cs, hl with
 | [u0, u1, u2, u3, u4, u5, u6, u7], _ =>
  simp [c0, c1, c2] at e0 e1 e2 e3 e4 e5 e6 e7
  subst e0 e1 e2 e3 e4 e5 e6 e7
  exact ⟨⟨x0, x1, x2, x3, x4, x5, x6, x7⟩, fun j u hj => hc j u hj, aai g0, aai g1, aai g2, aai g3, aai g4⟩
theorem bjz {w : World} {n : Nat} {c : Array Value} (ht : TV P w n T.r c.toList) : ∃ m, Value.agg c = rt m ∧ 0 ≤ m.id ∧ 0 ≤ m.inc := by
 obtain ⟨hl, hf⟩ := abt Tryz.underlying139 ht
 have hl3 : Tryz.prog.cellsOf T.r = 3 := by kernel_rfl
 rw [hl3] at hl
 obtain ⟨m0, t0⟩ := hf 0 _ rfl
 obtain ⟨m1, t1⟩ := hf 1 _ rfl
 obtain ⟨m2, t2⟩ := hf 2 _ rfl
 obtain ⟨x0, e0, y0⟩ := sp (k := .u64) (by kernel_rfl) t0
 obtain ⟨x1, e1, y1⟩ := sp (k := .u64) (by kernel_rfl) t1
 obtain ⟨x2, e2, _⟩ := sp (k := .i64) (by kernel_rfl) t2
 have c0 : Tryz.prog.cellsOf T.g = 1 := by kernel_rfl
 have c1 : Tryz.prog.cellsOf T.c = 1 := by kernel_rfl
 refine ⟨⟨x0, x1, x2⟩, ?_, (wfP y0).1, (wfP y1).1⟩
 unfold rt
 congr 1
 apply Array.toList_inj.1
 match hcl : c.toList, hl with
 | [u0, u1, u2], _ =>
  rw [hcl] at e0 e1 e2
  simp [c0, c1] at e0 e1 e2
  subst e0 e1 e2
  rfl
theorem awh {w : World} {n : Nat} {v : Value} (h : TV P w n T.k [v]) : ∃ l, SlM w v l ∧ ∀ m ∈ l, 0 ≤ m.id ∧ 0 ≤ m.inc := by
 suffices hh : ∃ l : List Mem, tp w 3 (fun w b o x => rdE adr w b o x ∧ (0 ≤ x.id ∧ 0 ≤ x.inc)) v l by
  obtain ⟨l, hl⟩ := hh
  exact ⟨l, aoe hl⟩
 refine ada (sz := 3) (rd := fun w b o x => rdE adr w b o x ∧ (0 ≤ x.id ∧ 0 ≤ x.inc)) et.k.ty (by kernel_rfl) (by decide) (fun n b o cs ht hl hc => ?_) h
 obtain ⟨m, hm, hr⟩ := bjz (c := cs.toArray) (by simpa using ht)
 unfold rt at hm
 injection hm with hm
 have : cs = adr m := by
  have := congrArg Array.toList hm
  simpa [adr] using this
 subst this
 exact ⟨m, fun j u hj => hc j u hj, hr⟩
structure LsR (ls : List Spn) (lm : List Mem) (lu : List Int) : Prop where
 s : ∀ x ∈ ls, wt x
 m : ∀ x ∈ lm, 0 ≤ x.id ∧ 0 ≤ x.inc
 u : ∀ x ∈ lu, uo x
theorem bdg {w : World} {n : Nat} {cs : List Value} (ht : TV P w n T.d cs) : ∃ b : Bal, cs = [.int .u64 b.n, .int .u64 b.jl] ∧ b.rng := by
 obtain ⟨hl, hf⟩ := abt Tryz.underlying40 ht
 have hl2 : Tryz.prog.cellsOf T.d = 2 := by kernel_rfl
 rw [hl2] at hl
 obtain ⟨m0, t0⟩ := hf 0 _ rfl
 obtain ⟨m1, t1⟩ := hf 1 _ rfl
 obtain ⟨x0, e0, h0⟩ := sp (k := .u64) (by kernel_rfl) t0
 obtain ⟨x1, e1, h1⟩ := sp (k := .u64) (by kernel_rfl) t1
 have c0 : Tryz.prog.cellsOf T.g = 1 := by kernel_rfl
 match cs, hl with
 | [u0, u1], _ =>
  simp [c0] at e0 e1
  subst e0 e1
  exact ⟨⟨x0, x1⟩, rfl, aai h0, aai h1⟩
theorem bny {w : World} {n : Nat} {cs : List Value} (ht : TV P w n T.a cs) : ∃ p ls lm lu, cs = pkC p ∧ aat w p ls lm lu ∧ ya p ∧ LsR ls lm lu := by
 obtain ⟨hl, hf⟩ := abt Tryz.underlying46 ht
 have hl11 : Tryz.prog.cellsOf T.a = 11 := by kernel_rfl
 rw [hl11] at hl
 obtain ⟨m0, t0⟩ : ∃ m, TV P w m T.c ((cs.drop 0).take (P.cellsOf T.c)) := hf 0 _ rfl
 obtain ⟨m1, t1⟩ : ∃ m, TV P w m T.g ((cs.drop 1).take (P.cellsOf T.g)) := hf 1 _ rfl
 obtain ⟨m2, t2⟩ : ∃ m, TV P w m T.d ((cs.drop 2).take (P.cellsOf T.d)) := hf 2 _ rfl
 obtain ⟨m3, t3⟩ : ∃ m, TV P w m T.d ((cs.drop 4).take (P.cellsOf T.d)) := hf 3 _ rfl
 obtain ⟨m4, t4⟩ : ∃ m, TV P w m T.q ((cs.drop 6).take (P.cellsOf T.q)) := hf 4 _ rfl
 obtain ⟨m5, t5⟩ : ∃ m, TV P w m T.av ((cs.drop 7).take (P.cellsOf T.av)) := hf 5 _ rfl
 obtain ⟨m6, t6⟩ : ∃ m, TV P w m T.b ((cs.drop 8).take (P.cellsOf T.b)) := hf 6 _ rfl
 obtain ⟨m7, t7⟩ : ∃ m, TV P w m T.k ((cs.drop 9).take (P.cellsOf T.k)) := hf 7 _ rfl
 obtain ⟨m8, t8⟩ : ∃ m, TV P w m T.h ((cs.drop 10).take (P.cellsOf T.h)) := hf 8 _ rfl
 have c0 : P.cellsOf T.c = 1 := by kernel_rfl
 have c1 : P.cellsOf T.g = 1 := by kernel_rfl
 have c2 : P.cellsOf T.d = 2 := by kernel_rfl
 have c3 : P.cellsOf T.q = 1 := by kernel_rfl
 have c4 : P.cellsOf T.av = 1 := by kernel_rfl
 have c5 : P.cellsOf T.b = 1 := by kernel_rfl
 have c6 : P.cellsOf T.k = 1 := by kernel_rfl
 have c7 : P.cellsOf T.h = 1 := by kernel_rfl
 match cs, hl with
 | [u0, u1, u2, u3, u4, u5, u6, u7, u8, u9, u10], _ =>
  simp only [c0, c1, c2, c3, c4, c5, c6, c7, List.drop_zero, List.drop_succ_cons, List.take_succ_cons, List.take_zero] at t0 t1 t2 t3 t4 t5 t6 t7 t8
  obtain ⟨x0, e0, _⟩ := sp (k := .i64) (by kernel_rfl) t0
  obtain ⟨x1, e1, g1⟩ := sp (k := .u64) (by kernel_rfl) t1
  obtain ⟨b2, e2, g2⟩ := bdg t2
  obtain ⟨b3, e3, g3⟩ := bdg t3
  obtain ⟨x4, e4, _⟩ := sp (k := .i64) (by kernel_rfl) t4
  obtain ⟨x5, e5⟩ := ayb (by kernel_rfl) t5
  obtain ⟨ls, s6, f6⟩ := bdl t6
  obtain ⟨lm, s7, f7⟩ := awh t7
  obtain ⟨lu, s8, f8⟩ := bfq t8
  simp only [List.cons.injEq, and_true] at e0 e1 e2 e3 e4 e5
  obtain ⟨rfl, rfl⟩ := e2
  obtain ⟨rfl, rfl⟩ := e3
  subst e0 e1 e4 e5
  exact ⟨⟨x0, x1, b2, b3, x4, x5, u8, u9, u10⟩, ls, lm, lu, rfl, ⟨s6, s7, s8⟩, ⟨aai g1, g2, g3⟩, f6, f7, f8⟩
open Go.Eng Go.Proofs.YtfnhoaemapheoaaGreat.Sint
abbrev PB := SV × List Int
section
variable {w0 w w' : World} {R : List Asn} {v : Value} {l : List PB} {ls : List (List Int)}
end
section
variable {s f : Int} {Q Q0 : List Prt} {q : Prt} {F : Nat} {D : Dk} {w : Prop} {fa lo : List Int} {L : Lg} {b l : List Int}
theorem avk : ∀ ds : List (List Int), 8 * ds.length ≤ (cat ds).length
 | [] => by simp
 | d :: ds => by
  have := avk ds
  have e : cat (d :: ds) = jo d ++ cat ds := by simp [cat]
  rw [e, List.length_append, oz]; simp; omega
theorem auj : ∀ Q0 : List Prt, 8 * (jq Q0).length ≤ ((Q0.map nt).map Fil.len).sum
 | [] => by simp [jq]
 | q :: Q0 => by
  have h1 := auj Q0
  have h2 := avk q.jc
  have e : jq (q :: Q0) = q.jc ++ jq Q0 := by unfold jq; simp
  have e2 : (nt q).len = (pd q.first).length + (cat q.jc).length := by unfold nt Fil.len body; simp
  rw [e, List.map_cons, List.map_cons, List.sum_cons, List.length_append, e2]
  omega
theorem azn : ∀ Q0 : List Prt, ∀ q ∈ Q0, (body q).length ≤ ((Q0.map nt).map Fil.len).sum := fun Q0 q hq => by
 have : (nt q).len ≤ ((Q0.map nt).map Fil.len).sum := agp (List.mem_map_of_mem (List.mem_map_of_mem hq))
 have e2 : (nt q).len = (body q).length := by unfold nt Fil.len; simp
 omega
theorem aps (h : sd s f L F D) : (∀ q ∈ L.ii, (body q).length ≤ D.jg) ∧ 8 * (jq L.ii).length ≤ D.jg := by
 rcases h.vir.dsc with ⟨hq, _⟩ | ⟨Q0, q, fa, lo, m, hq, hf, _, hw, _⟩
 ·rw [hq]; exact ⟨fun q h => by simp at h, by simp [jq]⟩
 ·have hb : fa.length + lo.length = (body q).length := by rw [← hw trivial, List.length_append]
  have hc : (body q).length = (pd q.first).length + (cat q.jc).length := by unfold body; rw [List.length_append]
  have hcg := avk q.jc
  have hu : D.jg = ((Q0.map nt).map Fil.len).sum + (body q).length := by
   unfold Dk.jg
   rw [hf, List.map_append, List.sum_append]
   simp [Fil.len]; omega
  refine ⟨fun x hx => ?_, ?_⟩
  ·rw [hq] at hx
   rcases List.mem_append.1 hx with hx | hx
   ·have := azn Q0 x hx; omega
   ·rw [List.mem_singleton.1 hx]; omega
  ·have := auj Q0
   rw [hq, ot, ud, List.length_append]
   omega
theorem aui : ∀ {Q : List Prt} {s f : Int}, Chn s f Q → ∀ q ∈ Q, ∀ d ∈ q.jc, d.length ≤ 8192
 | q :: r, s, f, h, x, hx, d, hd => by
  rcases List.mem_cons.1 hx with rfl | hx
  ·exact h.2.2.1 d hd
  ·exact aui h.2.2.2 x hx d hd
theorem bnn : ∀ {Q : List Prt}, ∀ q ∈ Q, q.jc.length ≤ (jq Q).length := fun {Q} q hq => by
 obtain ⟨a, c, rfl⟩ := List.append_of_mem hq
 unfold jq; simp; omega
end
section
variable {w0 w : World} {R : List Asn} {p hb : Nat} {L : Lg} {D : Dk} {s f : Int} {G : Nat}
theorem apb (S : St w0 w (iy hb D :: R)) : D.jf ≤ 1048576 ∧ (D.jg : Int) ≤ D.jf := by
 obtain ⟨r, m, es, hk, _⟩ := zf S
 exact ⟨hk.jf, hk.jg⟩
theorem atd (S : St w0 w (iy hb D :: R)) (h : sd s f L G D) : (jq L.ii).length ≤ 131072 := by
 have h1 := apb S
 have h2 := (aps h).2
 omega
theorem bne (S : St w0 w (iy hb D :: R)) (h : sd s f L G D) : LgB L := by
 have h1 := apb S
 have h2 := aps h
 refine ⟨by have := h.vir.len; omega, axo h.vir.s0 h.vir.chn, fun q hq => ?_, fun q hq => ?_⟩
 ·have := bnn q hq; omega
 ·have := h.size q hq
  have := h2.1 q hq
  omega
theorem bim (S : St w0 w (nb p hb L :: iy hb D :: R)) (h : sd s f L G D) {K : KV} (hK : ∀ w' v', St w0 w' (ng v' (jq L.ii) :: nb p hb L :: iy hb D :: R) → K v' w') : gr P F.cu [jx p] w K := by
 have h1 := atd S.swap h
 exact bkr S (by have := h.vir.len; omega) (by unfold Lg.all; unfold jq at h1; omega) (fun q hq d hd => by have := aui h.vir.chn q hq d hd; omega) hK
end
def th : Lg → Dk → List (List Int) → (Lg × Dk) × Int
 | L, D, [] => ((L, D), 0)
 | L, D, b :: r => if (L.append D b).2 = 0 then th (L.append D b).1.1 (L.append D b).1.2 r else L.append D b
inductive Wr (s f : Int) (L : Lg) (F : Nat) (D : Dk) (jc : List (List Int)) : (Lg × Dk) × Int → Prop
 | ok (L' : Lg) (D' : Dk) : sd s f L' F D' → jq L'.ii = jq L.ii ++ jc → L'.im = L.im → D'.jf = D.jf → (D.jw = false → D'.jw = false) → Wr s f L F D jc ((L', D'), 0)
 | uq (i : Nat) (L' : Lg) (D' : Dk) : i < jc.length → sd s f L' F D' → jq L'.ii = jq L.ii ++ jc.take i → L'.im = L.im → D'.jf = D.jf → (D.jw = false → D'.jw = false) → Wr s f L F D jc ((L', D'), 9)
 | jj (i j : Nat) (L' : Lg) (D0 D' : Dk) (Q : List Prt) : D.jw = true → sd s f L' F D0 → jq L'.ii = jq L.ii ++ jc.take j → L'.im = L.im → D'.jj = true → Vir s f Q F D' False → jq Q = jq L.ii ++ jc.take i → D'.jf = D.jf → Wr s f L F D jc ((L', D'), 10)
theorem bnl {s f : Int} {F : Nat} : ∀ (jc : List (List Int)) {L : Lg} {D : Dk}, sd s f L F D → (∀ b ∈ jc, b.length ≤ 8192) → f + (jq L.ii).length + jc.length ≤ 1000000000000 → Wr s f L F D jc (th L D jc)
 | [], L, D, h, _, _ => .ok L D h (by simp) rfl rfl id
 | b :: r, L, D, h, hl, hn => by
  have ha := bgd (b := b) h (by simp at hn; omega)
  rw [th]
  have hb := hl b (by simp)
  generalize L.append D b = x at ha ⊢
  cases ha with
  | amt hx => omega
  | uq D' hx g e1 e2 =>
   rw [if_neg (by simp)]
   exact .uq 0 L D' (by simp) g (by simp) rfl e1 (fun h => by rw [e2]; exact h)
  | jj D' Q e1 e2 e3 e4 e5 =>
   rw [if_neg (by simp)]
   exact .jj 1 0 L D D' Q e1 h (by simp) rfl e2 e3 (by simpa using e4) e5
  | ok L' D' g e1 e2 e3 e4 e5 e6 e7 e8 =>
   rw [if_pos rfl]
   have hr := bnl r g (fun x hx => hl x (List.mem_cons_of_mem _ hx)) (by rw [e1]; simp at hn ⊢; omega)
   simp only
   generalize th L' D' r = y at hr ⊢
   cases hr with
   | ok L2 D2 g2 a1 a2 a3 a4 => exact .ok L2 D2 g2 (by rw [a1, e1]; simp) (by rw [a2, e4]) (by rw [a3, e5]) (fun h => a4 (e6 h))
   | uq i L2 D2 hi g2 a1 a2 a3 a4 => exact .uq (i + 1) L2 D2 (by simp; omega) g2 (by rw [a1, e1]; simp) (by rw [a2, e4]) (by rw [a3, e5]) (fun h => a4 (e6 h))
   | jj i j L2 D0 D2 Q b1 b2 b3 b4 b5 b6 b7 b8 =>
    have harm : D.jw = true := by
     cases ha : D.jw with
     | true => rfl
     | false => rw [e6 ha] at b1; exact absurd b1 (by decide)
    exact .jj (i + 1) (j + 1) L2 D0 D2 Q harm b2 (by rw [b3, e1]; simp) (by rw [b4, e4]) b5 b6 (by rw [b7, e1]; simp) (by rw [b8, e5])
def tj (a b : Int) : Int := if a < b then -1 else if b < a then 1 else 0
theorem aay {w : World} (a b : Int) {K : KV} (h : K (.int .i64 (tj a b)) w) : gr P F.bm [.int .u64 a, .int .u64 b] w K := by
 have nan : ∀ (z : Int) {K : KV}, K (.bool false) w → gr P F.al [.int .u64 z] w K := fun z K hK => by
  rw [M.dr.fcall]
  apply M.dr.calls
  unfold M.dr
  simpa using hK
 rw [M.bv.fcall]
 apply M.bv.calls
 unfold M.bv
 refine nan a ?_
 refine nan b ?_
 simp
 unfold M.bv.j2
 unfold tj at h
 by_cases h1 : a < b
 ·simp [h1] at h ⊢; exact h
 ·by_cases h2 : b < a
  ·simp [h1, h2] at h ⊢; exact h
  ·simp [h1, h2] at h ⊢; exact h
theorem bdu {w : World} {v : Value} {l : List Int} (hs : Sl w 1 zh v l) (hlen : l.length ≤ 1000) {K : KV} (h : K (.int .i64 (orK l)) w) : ku P F.fd [v] w K := by
 apply M.ds.calls
 unfold M.ds
 simp only [ib]
 rw [hs.jb (by simp)]
 refine ⟨OrI w l, fun x _ => l.length - ms x 2, ⟨_, _, 0, rfl, rfl, Nat.zero_le _, fun j k _ h => by omega⟩, ?_⟩
 rintro x w1 ⟨a, b, i, rfl, rfl, hi, hz⟩
 have gv2 : gv [a, b, .int .i64 (i : Int)] 2 = .int .i64 (i : Int) := rfl
 simp only [gv2]
 by_cases hil : i < l.length
 ·obtain ⟨bb, o, cap, rfl, hb, _, hr⟩ := hs.at hil
  have e0 := hr 0 _ rfl
  simp only [Nat.mul_one, Nat.add_zero] at e0
  have hw : IntKind.i64.wrap ((i : Int) + 1) = ((i + 1 : Nat) : Int) := by rw [ig]; rfl
  simp [hil]
  unfold M.ds.j2
  simp only [ib, gv2]
  by_cases hk : l[i] = 0
  ·simp [hil, e0, hk, hw]
   refine ⟨⟨_, _, i + 1, rfl, rfl, by omega, fun j k hj hlt => ?_⟩, by simp [ms, gv]; omega⟩
   by_cases hji : j = i
   ·subst hji
    rw [List.getElem?_eq_getElem hil] at hj
    cases hj; exact hk
   ·exact hz j k hj (by omega)
  ·simp [hil, e0, hk]
   have : orK l = l[i] := by
    unfold orK
    have : l.find? (fun k => !decide (k = 0)) = some l[i] := by
     rw [List.find?_eq_some_iff_getElem]
     refine ⟨by simpa using hk, i, hil, rfl, fun j hj => ?_⟩
     have := hz j _ (List.getElem?_eq_getElem (by omega)) hj
     simp [this]
    rw [this]; rfl
   rw [this] at h; exact h
 ·simp [hil]
  have : orK l = 0 := by
   unfold orK
   have : l.find? (fun k => !decide (k = 0)) = none := by
    rw [List.find?_eq_none]
    intro k hk
    obtain ⟨j, hj, rfl⟩ := List.mem_iff_getElem.1 hk
    have := hz j _ (List.getElem?_eq_getElem hj) (by omega)
    simp [this]
   rw [this]; rfl
  rw [this] at h; exact h
theorem or2 (a b : Int) : orK [a, b] = if a = 0 then b else a := by
 unfold orK
 by_cases ha : a = 0 <;> by_cases hb : b = 0 <;> simp [ha, hb]
theorem bgl {a b : Bal} : decide ((orK [tj a.n b.n, tj a.jl b.jl]) < 0) = a.wy b := by
 rw [or2]
 unfold tj Bal.wy
 apply decide_eq_decide.2
 repeat' split
 all_goals omega
theorem ady {w : World} {b : Nat} {x : Bal} {f : Nat × Nat} (h : w.heap[b]? = some (.cells #[.int .u64 x.n, .int .u64 x.jl] T.d f)) : ic w b 0 = some (.int .u64 x.n) ∧ ic w b 1 = some (.int .u64 x.jl) ∧ ∀ K, ldN P 2 b 0 w K = K (kt x) w :=
 ⟨by rw [ie h]; rfl, by rw [ie h]; rfl, fun K => aeu (by rw [ie h]; rfl) (by rw [ie h]; rfl) K⟩
theorem bnt (x y : Bal) {w : World} {Q : Value → Value → World → Prop} (h : ∀ w1 b1 b2, St w w1 (iq b2 #[.int .u64 y.n, .int .u64 y.jl] T.d :: iq b1 #[.int .u64 x.n, .int .u64 x.jl] T.d :: []) → Q (jx b1) (jx b2) w1) :
  nc P T.d (kt x) w fun v1 w1 => nc P T.d (kt y) w1 fun v2 w2 => Q v1 v2 w2 := by
 rw [xm, xm]
 exact h _ _ _ (afr (afr (St.ji w) #[.int .u64 x.n, .int .u64 x.jl] T.d) #[.int .u64 y.n, .int .u64 y.jl] T.d)
theorem bcq {w : World} (x y : Bal) {K : KV} (h : ∀ w', Fz w w' → K (.int .i64 (orK [tj x.n y.n, tj x.jl y.jl])) w') : gr P F.fe [kt x, kt y] w K := by
 rw [M.es.fcall]
 apply M.es.calls
 unfold M.es
 refine bnt x y fun w1 b1 b2 S1 => ?_
 have S2 := S1.jt ((Fr.refl _ w1).dr 1)
 obtain ⟨y0, y1, _⟩ := ady S2.blk
 obtain ⟨x0, x1, _⟩ := ady S2.swap.blk
 simp only [jx]
 rw [qw]
 simp only [vd] at x0 x1 y0 y1
 simp [x0, x1, y0, y1]
 refine aay _ _ ?_
 simp [x1, y1]
 refine aay _ _ ?_
 simp
 have S3 : St w ((dr w1 1).alloc (.cells #[.int .i64 (tj x.n y.n), .int .i64 (tj x.jl y.jl)] T.c)) _ := afr S2 #[.int .i64 (tj x.n y.n), .int .i64 (tj x.jl y.jl)] T.c
 have hsl : Sl ((dr w1 1).alloc (.cells #[.int .i64 (tj x.n y.n), .int .i64 (tj x.jl y.jl)] T.c)) 1 zh (.slice (some ⟨w1.heap.size, 0, none⟩) 2 2) [tj x.n y.n, tj x.jl y.jl] := by
  have hh := S3.blk
  rw [show (dr w1 1).heap.size = w1.heap.size from rfl] at hh
  refine ⟨some ⟨w1.heap.size, 0, none⟩, 2, rfl, by simp, by simp [maxLen], fun i z hz => ⟨w1.heap.size, 0, rfl, qa hh, fun j u hj => ?_⟩⟩
  rw [ie hh]
  match i, j with
  | 0, 0 => simp [zh] at hz hj ⊢; rw [hz]; exact hj
  | 1, 0 => simp [zh] at hz hj ⊢; rw [hz]; exact hj
  | i + 2, _ => simp at hz
  | _, j + 1 => simp [zh] at hj
 rw [M.ds.fcall]
 exact bdu hsl (by simp) (h _ S3.fr)
theorem baw {w : World} (x y : Bal) {K : KV} (h : ∀ w', Fz w w' → K (.bool (x.wy y)) w') : gr P F.eb [kt x, kt y] w K := by
 rw [M.dm.fcall]
 apply M.dm.calls
 unfold M.dm
 refine bnt x y fun w1 b1 b2 S1 => ?_
 obtain ⟨y0, y1, _⟩ := ady S1.blk
 obtain ⟨x0, x1, _⟩ := ady S1.swap.blk
 simp only [jx]
 have fin := h w1 S1.fr
 unfold Bal.wy at fin
 by_cases h1 : x.n < y.n
 ·simp [x0, x1, y0, y1, h1] at fin ⊢; exact fin
 ·by_cases h2 : x.n = y.n
  ·simp [x0, x1, y0, y1, h2] at fin ⊢; exact fin
  ·simp [x0, x1, y0, y1, h1, h2] at fin ⊢; exact fin
section
variable {w0 w : World} {b : Nat} {t : TypeId} {R : List Asn}
theorem pm {x : Bal} (S : St w0 w (iq b #[.int .u64 x.n, .int .u64 x.jl] t :: R)) : ic w b 0 = some (.int .u64 x.n) ∧ ic w b 1 = some (.int .u64 x.jl) ∧ ∀ K, ldN P 2 b 0 w K = K (kt x) w :=
 ⟨by rw [S.cell]; rfl, by rw [S.cell]; rfl, fun K => S.ldA [.int .u64 x.n, .int .u64 x.jl] rfl rfl K⟩
theorem bon : Value.agg #[.int .u64 0, .int .u64 0] = kt ir := rfl
end
def pk0 (k tr : Int) (x s : Bal) (v : Int) (ok : Bool) : Pk := ⟨k, tr, x, s, v, ok, .slice none 0 0, .slice none 0 0, .slice none 0 0⟩
theorem axy (k tr : Int) (x s : Bal) (v : Int) (ok : Bool) : ∀ u ∈ pkC (pk0 k tr x s v ok), kq u = true := fun u hu => by
 simp only [pkC, pk0, List.mem_cons, List.not_mem_nil, or_false] at hu
 rcases hu with rfl | rfl | rfl | rfl | rfl | rfl | rfl | rfl | rfl | rfl | rfl <;> rfl
def pkZ : Pk := pk0 0 0 ir ir 0 false
section
variable {w0 w : World} {b : Nat} {R : List Asn}
theorem als {cs : Array Value} {q : Pk} (S : St w0 w (iq b cs T.a :: R)) (hs : cs.size = 11) (h1 : ∀ u ∈ pkC q, kq u = true) {K : KV} (h : ∀ w', St w0 w' (iq b (pkC q).toArray T.a :: R) → K undef w') : stN P b 0 (pkC q) w K :=
 S.put h1 (by simp [pkC, hs]) (by
  have hl : cs.toList.length = 11 := by simpa using hs
  have h2 : (pkC q).length = 11 := rfl
  rw [h2, List.take_zero, List.nil_append, List.drop_eq_nil_of_le (by omega), List.append_nil]) h
theorem agb (S : St w0 w R) : St w0 (w.alloc (.cells #[.int .i64 0, .int .u64 0, .int .u64 0, .int .u64 0, .int .u64 0, .int .u64 0, .int .i64 0, .bool false, .slice none 0 0, .slice none 0 0, .slice none 0 0] T.a)) (iq w.heap.size (pkC pkZ).toArray T.a :: R) := S.mkB (pkC pkZ).toArray T.a
theorem xf {q : Pk} (S : St w0 w (iq b (pkC q).toArray T.a :: R)) (K : KV) : ldN P 11 b 0 w K = K (pkA q) w := S.ldA (pkC q) rfl rfl K
theorem bos {q : Pk} (S : St w0 w (iq b (pkC q).toArray T.a :: R)) (K : KV) : pp P T.a (.pointer (some ⟨b, 0, none⟩)) w K = K (pkA q) w := by rw [ajp]; exact xf S K
theorem asm {cs : Array Value} {q : Pk} (S : St w0 w (iq b cs T.a :: R)) (hs : cs.size = 11) (h1 : ∀ u ∈ pkC q, kq u = true) {K : KV} (h : ∀ w', St w0 w' (iq b (pkC q).toArray T.a :: R) → K (pkA q) w') :
  stN P b 0 (pkC q) w fun _ w => pp P T.a (.pointer (some ⟨b, 0, none⟩)) w fun r0 w' => w' = w ∧ K r0 w :=
 als S hs h1 fun w' S' => by rw [bos S']; exact ⟨rfl, h w' S'⟩
end
def td (l1 l2 : List Spn) : Bool := decide (l1.length = l2.length) && (List.zipWith vq l1 l2).all id
theorem aov {l1 l2 : List Spn} {i : Nat} (h1 : i < l1.length) (h2 : i < l2.length) (h : vq l1[i] l2[i] = false) : td l1 l2 = false := by
 unfold td
 have : (List.zipWith vq l1 l2).all id = false := by
  rw [List.all_eq_false]
  refine ⟨vq l1[i] l2[i], ?_, by simp [h]⟩
  rw [List.mem_iff_getElem]
  exact ⟨i, by simp; omega, by simp⟩
 rw [this, Bool.and_false]
theorem agd {l1 l2 : List Spn} (hl : l1.length = l2.length) (h : ∀ j (h1 : j < l1.length) (h2 : j < l2.length), vq l1[j] l2[j] = true) : td l1 l2 = true := by
 unfold td
 rw [decide_eq_true hl, Bool.true_and, List.all_eq_true]
 intro x hx
 obtain ⟨j, hj, rfl⟩ := List.getElem_of_mem hx
 simp only [List.length_zipWith] at hj
 rw [List.getElem_zipWith]
 exact h j (by omega) (by omega)
theorem avv (l : List Spn) : td l l = true := agd rfl fun j _ _ => amm _
theorem awg {w : World} {v1 v2 : Value} {l1 l2 : List Spn} (h1 : SlS w v1 l1) (h2 : SlS w v2 l2) (hn : l1.length ≤ 1000000) {K : KV}
  (h : ∀ w', Fz w w' → K (.bool (td l1 l2)) w') : gr P F.bp [v1, v2] w K := by
 rw [M.l.fcall]
 apply M.l.calls
 unfold M.l
 simp only [ib]
 rw [h1.jb (by simp), h2.jb (by simp)]
 by_cases hne : l1.length = l2.length
 case neg =>
  have hne' : ¬ (l1.length : Int) = (l2.length : Int) := by omega
  have hz : td l1 l2 = false := by unfold td; simp [hne]
  rw [hz] at h
  simp [hne']
  exact h w (Fr.refl _ _)
 simp [hne]
 unfold M.l.j0
 simp only [ib]
 refine ⟨bee w l1 l2, fun x _ => l1.length - ms x 1, ⟨_, 0, rfl, Nat.zero_le _, fun j _ _ h => by omega, Fr.refl _ _⟩, ?_⟩
 rintro x w1 ⟨a, i, rfl, hin, hpre, hf1⟩
 have g1 : gv [a, .int .i64 (i : Int)] 1 = .int .i64 (i : Int) := rfl
 simp only [g1]
 have hr1 : SlS w1 v1 l1 := h1.fr hf1 fun _ _ _ h => h
 have hr2 : SlS w1 v2 l2 := h2.fr hf1 fun _ _ _ h => h
 rw [hr1.jb (by simp)]
 by_cases hlt : i < l1.length
 ·have hlt2 : i < l2.length := by omega
  obtain ⟨b1, o1, c1, rfl, _, _, k1⟩ := hr1.at hlt
  obtain ⟨b2, o2, c2, rfl, _, _, k2⟩ := hr2.at hlt2
  have hw : IntKind.i64.wrap ((i : Int) + 1) = ((i + 1 : Nat) : Int) := by rw [ig]; rfl
  have d1 : ∀ K, ldN P 8 b1 (o1 + i * 8) (dr w1 1) K = K (ko l1[i]) (dr w1 1) := fun K => ldS (w := dr w1 1) k1 K
  have d2 : ∀ K, ldN P 8 b2 (o2 + i * 8) (dr w1 1) K = K (ko l2[i]) (dr w1 1) := fun K => ldS (w := dr w1 1) k2 K
  simp [hlt]
  unfold M.l.j3
  simp only [ib, g1]
  cases hs : vq l1[i] l2[i] with
  | true =>
   simp [hlt, hlt2, d1, d2, acq, hs, hw]
   refine ⟨⟨_, i + 1, rfl, by omega, fun j a1 a2 hj => ?_, hf1.dr 1⟩, by simp [ms, gv]; omega⟩
   by_cases hji : j = i
   ·subst hji; exact hs
   ·exact hpre j a1 a2 (by omega)
  | false =>
   rw [aov hlt hlt2 hs] at h
   simp [hlt, hlt2, d1, d2, acq, hs]
   exact h _ (hf1.dr 1)
 ·simp [hlt]
  have := h _ hf1
  rw [agd hne fun j a1 a2 => hpre j a1 a2 (by omega)] at this
  exact this
def mw (p q : Pk) : Bool := decide (p.ip = q.ip) && (decide (p.tr = q.tr) && (decide (p.b = q.b) && (decide (p.jr = q.jr) && (decide (p.v = q.v) && (p.ok == q.ok)))))
def sj (p q : Pk) (ls ls' : List Spn) (lm lm' : List Mem) (lu lu' : List Int) : Bool := decide (lm = lm') && (decide (lu = lu') && (td ls ls' && mw p q))
theorem aat.one {w : World} {p : Pk} {ls : List Spn} {lm : List Mem} {lu : List Int} (h : aat w p ls lm lu) : kq p.sv = true ∧ kq p.mv = true ∧ kq p.iv = true := by
 obtain ⟨a1, c1, h1, _⟩ := h.s
 obtain ⟨a2, c2, h2, _⟩ := h.m
 obtain ⟨a3, c3, h3, _⟩ := h.u
 rw [h1, h2, h3]
 exact ⟨rfl, rfl, rfl⟩
theorem ql.sl {w : World} {p : Pk} {ls : List Spn} {lm : List Mem} {lu : List Int} (h : ql w p ls lm lu) : aat w p ls lm lu := ⟨h.s, h.m, h.u⟩
theorem ane {α : Type} {l1 l2 : List α} (hl : l1.length = l2.length) (h : ∀ j (h1 : j < l1.length) (h2 : j < l2.length), l1[j] = l2[j]) : l1 = l2 := List.ext_getElem hl h
def SaM (W : World) (pb qb : Nat) (p q : Pk) (lm lm' : List Mem) : KL := fun x w1 => ∃ (u : Value) (i : Nat), x = [u, .int .i64 (i : Nat)] ∧ i ≤ lm.length ∧ (∀ j (h1 : j < lm.length) (h2 : j < lm'.length), j < i → lm[j] = lm'[j]) ∧ St W w1 (iq qb (pkC q).toArray T.a :: iq pb (pkC p).toArray T.a :: [])
def SaU (W : World) (pb qb : Nat) (p q : Pk) (lu lu' : List Int) : KL := fun x w1 => ∃ (u : Value) (i : Nat), x = [u, .int .i64 (i : Nat)] ∧ i ≤ lu.length ∧ (∀ j (h1 : j < lu.length) (h2 : j < lu'.length), j < i → lu[j] = lu'[j]) ∧ St W w1 (iq qb (pkC q).toArray T.a :: iq pb (pkC p).toArray T.a :: [])
theorem axf (rx ry : Operand) (x y : Mem) (w : World) (K : KV) : ij P .neq T.r rx ry (rt x) (rt y) w K = K (.bool !(decide (x = y))) w := bdy rx ry x y w K
theorem bdr {w : World} {p q : Pk} {ls ls' : List Spn} {lm lm' : List Mem} {lu lu' : List Int} (hp : ql w p ls lm lu) (hq : ql w q ls' lm' lu') {K : KV}
  (h : ∀ w', Fz w w' → K (.bool (sj p q ls ls' lm lm' lu lu')) w') : gr P F.ec [pkA p, pkA q] w K := by
 rw [M.m.fcall]
 apply M.m.calls
 unfold M.m
 refine St.tt (St.ji w) fun pb w1 S1 => ?_
 refine St.tt S1 fun qb w2 S2 => ?_
 have S2' : St w w2 (iq qb (pkC q).toArray T.a :: iq pb (pkC p).toArray T.a :: []) := S2
 have hp2 := hp.fr S2'.fr
 have hq2 := hq.fr S2'.fr
 obtain ⟨q0, q1, q2, q4, q6, q7, q8, q9, q10, _⟩ := ju S2'
 obtain ⟨p0, p1, p2, p4, p6, p7, p8, p9, p10, _⟩ := ju S2'.swap
 have lm1 : ∀ w' K, biT P .len #[T.k] T.c [false] [p.mv] w' K = K (.int .i64 lm.length) w' := fun w' K => hp.m.jb (by kernel_rfl) [false]
 have lm2 : ∀ w' K, biT P .len #[T.k] T.c [false] [q.mv] w' K = K (.int .i64 lm'.length) w' := fun w' K => hq.m.jb (by kernel_rfl) [false]
 have lu1 : ∀ w' K, biT P .len #[T.h] T.c [false] [p.iv] w' K = K (.int .i64 lu.length) w' := fun w' K => hp.u.jb (by kernel_rfl) [false]
 have lu2 : ∀ w' K, biT P .len #[T.h] T.c [false] [q.iv] w' K = K (.int .i64 lu'.length) w' := fun w' K => hq.u.jb (by kernel_rfl) [false]
 have no : ∀ w', Fz w w' → sj p q ls ls' lm lm' lu lu' = false → K (.bool false) w' := fun w' f e => by
  have := h w' f
  rwa [e] at this
 by_cases hm : lm.length = lm'.length
 case neg =>
  have hm' : ¬ (lm.length : Int) = (lm'.length : Int) := by omega
  simp [p9, q9, lm1, lm2, hm']
  refine no _ S2.fr ?_
  unfold sj
  rw [decide_eq_false fun he => hm (congrArg List.length he)]
  rfl
 by_cases hu : lu.length = lu'.length
 case neg =>
  have hu' : ¬ (lu.length : Int) = (lu'.length : Int) := by omega
  simp [p9, q9, lm1, lm2, hm, p10, q10, lu1, lu2, hu']
  refine no _ S2.fr ?_
  unfold sj
  rw [decide_eq_false (p := lu = lu') fun he => hu (congrArg List.length he)]
  simp
 simp [p9, q9, lm1, lm2, hm, p10, q10, lu1, lu2, hu, p8, q8]
 refine awg hp2.s hq2.s hp.ls fun w3 f3 => ?_
 have S3 := S2'.jt f3
 cases hs : td ls ls' with
 | false =>
  simp
  refine no _ S3.fr ?_
  unfold sj
  simp [hs]
 | true =>
 simp
 unfold M.m.j0
 refine ⟨SaM w pb qb p q lm lm', fun x _ => lm.length - ms x 1, ⟨_, 0, rfl, Nat.zero_le _, fun j _ _ h => by omega, S3⟩, ?_⟩
 rintro x w4 ⟨u, i, rfl, hi, hpre, S4⟩
 unfold M.m.j2
 obtain ⟨q0, q1, q2, q4, q6, q7, q8, q9, q10, _⟩ := ju S4
 obtain ⟨p0, p1, p2, p4, p6, p7, p8, p9, p10, _⟩ := ju S4.swap
 by_cases hil : i < lm.length
 ·have hil' : (i : Int) < (lm.length : Int) := by omega
  have hil2 : i < lm'.length := by omega
  have hw : IntKind.i64.wrap ((i : Int) + 1) = ((i + 1 : Nat) : Int) := by have := hp.lm; rw [ig]; rfl
  simp [p9, lm1, hil]
  unfold M.m.j3
  obtain ⟨b1, o1, c1, e1, _, _, k1⟩ := (hp.fr S4.fr).m.at hil
  obtain ⟨b2, o2, c2, e2, _, _, k2⟩ := (hq.fr S4.fr).m.at hil2
  have i1 : ∀ w' K, iaT P T.k p.mv (.int .i64 (i : Nat)) w' K = K (.pointer (some ⟨b1, o1 + i * 3, none⟩)) w' := fun w' K => by rw [e1]; simp [hil]
  have i2 : ∀ w' K, iaT P T.k q.mv (.int .i64 (i : Nat)) w' K = K (.pointer (some ⟨b2, o2 + i * 3, none⟩)) w' := fun w' K => by rw [e2]; simp [hil2]
  have d1 : ∀ K, ldN P 3 b1 (o1 + i * 3) (dr w4 1) K = K (rt lm[i]) (dr w4 1) := fun K => ldM (w := dr w4 1) k1 K
  have d2 : ∀ K, ldN P 3 b2 (o2 + i * 3) (dr w4 1) K = K (rt lm'[i]) (dr w4 1) := fun K => ldM (w := dr w4 1) k2 K
  by_cases he : lm[i] = lm'[i]
  ·simp [p9, q9, i1, i2, d1, d2, axf, he, hw]
   refine ⟨⟨_, i + 1, rfl, by omega, fun j a1 a2 hj => ?_, S4.jt ((Fr.refl _ w4).dr 1)⟩, by simp [ms, gv]; omega⟩
   by_cases hji : j = i
   ·subst hji; exact he
   ·exact hpre j a1 a2 (by omega)
  ·simp [p9, q9, i1, i2, d1, d2, axf, he]
   refine no _ (S4.jt ((Fr.refl _ w4).dr 1)).fr ?_
   unfold sj
   rw [decide_eq_false (p := lm = lm') fun hee => he (by simp [hee])]
   rfl
 have hil' : ¬ (i : Int) < (lm.length : Int) := by omega
 have hme : lm = lm' := ane hm fun j a1 a2 => hpre j a1 a2 (by omega)
 simp [p9, lm1, hil]
 refine ⟨SaU w pb qb p q lu lu', fun x _ => lu.length - ms x 1, ⟨_, 0, rfl, Nat.zero_le _, fun j _ _ h => by omega, S4⟩, ?_⟩
 rintro x w5 ⟨u, i, rfl, hi, hpre2, S5⟩
 unfold M.m.j6
 obtain ⟨q0, q1, q2, q4, q6, q7, q8, q9, q10, _⟩ := ju S5
 obtain ⟨p0, p1, p2, p4, p6, p7, p8, p9, p10, _⟩ := ju S5.swap
 by_cases hil : i < lu.length
 ·have hil' : (i : Int) < (lu.length : Int) := by omega
  have hil2 : i < lu'.length := by omega
  have hw : IntKind.i64.wrap ((i : Int) + 1) = ((i + 1 : Nat) : Int) := by have := hp.lu; rw [ig]; rfl
  simp [p10, lu1, hil]
  unfold M.m.j7
  obtain ⟨b1, o1, c1, e1, _, k1⟩ := afa (hp.fr S5.fr).u hil
  obtain ⟨b2, o2, c2, e2, _, k2⟩ := afa (hq.fr S5.fr).u hil2
  have i1 : ∀ w' K, iaT P T.h p.iv (.int .i64 (i : Nat)) w' K = K (.pointer (some ⟨b1, o1 + i, none⟩)) w' := fun w' K => by rw [e1]; simp [hil]
  have i2 : ∀ w' K, iaT P T.h q.iv (.int .i64 (i : Nat)) w' K = K (.pointer (some ⟨b2, o2 + i, none⟩)) w' := fun w' K => by rw [e2]; simp [hil2]
  by_cases he : lu[i] = lu'[i]
  ·simp [p10, q10, i1, i2, k1, k2, he, hw]
   refine ⟨⟨_, i + 1, rfl, by omega, fun j a1 a2 hj => ?_, S5.jt ((Fr.refl _ w5).dr 1)⟩, by simp [ms, gv]; omega⟩
   by_cases hji : j = i
   ·subst hji; exact he
   ·exact hpre2 j a1 a2 (by omega)
  ·simp [p10, q10, i1, i2, k1, k2, he]
   refine no _ (S5.jt ((Fr.refl _ w5).dr 1)).fr ?_
   unfold sj
   rw [decide_eq_false (p := lu = lu') fun hee => he (by simp [hee])]
   simp
 have hil' : ¬ (i : Int) < (lu.length : Int) := by omega
 have hue : lu = lu' := ane hu fun j a1 a2 => hpre2 j a1 a2 (by omega)
 simp [p10, lu1, hil]
 unfold M.m.j5
 have fin := h w5 S5.fr
 unfold sj at fin
 rw [decide_eq_true hme, decide_eq_true hue, hs, Bool.true_and, Bool.true_and, Bool.true_and] at fin
 unfold mw at fin
 have hbo : agf P T.av = true := by kernel_rfl
 by_cases a0 : p.ip = q.ip
 case neg =>
  simp [a0] at fin
  simp [p0, q0, a0]
  exact fin
 by_cases a1 : p.tr = q.tr
 case neg =>
  simp [a1] at fin
  simp [p0, q0, a0, p1, q1, a1]
  exact fin
 by_cases a2 : p.b = q.b
 case neg =>
  simp [a2] at fin
  simp [p0, q0, a0, p1, q1, a1, p2, q2, wu, a2]
  exact fin
 by_cases a3 : p.jr = q.jr
 case neg =>
  simp [a3] at fin
  simp [p0, q0, a0, p1, q1, a1, p2, q2, wu, a2, p4, q4, a3]
  exact fin
 by_cases a4 : p.v = q.v
 case neg =>
  simp [a4] at fin
  simp [p0, q0, a0, p1, q1, a1, p2, q2, wu, a2, p4, q4, a3, p6, q6, a4]
  exact fin
 simp [a0, a1, a2, a3, a4] at fin
 simp [p0, q0, a0, p1, q1, a1, p2, q2, wu, a2, p4, q4, a3, p6, q6, a4, p7, q7, aga hbo]
 exact fin
def lx (p : Pk) : Pk := ⟨p.ip, if p.ip = 3 then 0 else p.tr, if p.ip = 4 ∨ p.ip = 5 ∨ p.ip = 6 ∨ p.ip = 7 ∨ p.ip = 9 then p.b else ir, if p.ip = 5 ∨ p.ip = 7 then p.jr else ir, if p.ip = 5 ∨ p.ip = 6 ∨ p.ip = 8 then p.v else 0, if p.ip = 5 ∨ p.ip = 7 then p.ok else false,
 if p.ip = 1 ∨ p.ip = 2 ∨ p.ip = 9 then p.sv else .slice none 0 0, if p.ip = 3 then p.mv else .slice none 0 0, if p.ip = 10 then p.iv else .slice none 0 0⟩
def px (p : Pk) (l : List Spn) : List Spn := if p.ip = 1 ∨ p.ip = 2 ∨ p.ip = 9 then l else []
def qc (p : Pk) (l : List Mem) : List Mem := if p.ip = 3 then l else []
def qd (p : Pk) (l : List Int) : List Int := if p.ip = 10 then l else []
theorem axj {w : World} {p : Pk} {ls : List Spn} {lm : List Mem} {lu : List Int} (h : ql w p ls lm lu) : ql w (lx p) (px p ls) (qc p lm) (qd p lu) := by
 refine ⟨?_, ?_, ?_, ?_, ?_, ?_⟩
 ·unfold lx px; simp only; split
  ·exact h.s
  ·exact Sl.nil
 ·unfold lx qc; simp only; split
  ·exact h.m
  ·exact Sl.nil
 ·unfold lx qd; simp only; split
  ·exact h.u
  ·exact Sl.nil
 ·unfold px; split
  ·exact h.ls
  ·simp
 ·unfold qc; split
  ·exact h.lm
  ·simp
 ·unfold qd; split
  ·exact h.lu
  ·simp
theorem aii (b : Nat) (q : Pk) (w : World) (K : KV) : stT P T.a (.pointer (some ⟨b, 0, none⟩)) (pkA q) w K = stN P b 0 (pkC q) w K := by simp [pkA, pkC]
theorem bkm {q : Pk} (h1 : kq q.sv = true) (h2 : kq q.mv = true) (h3 : kq q.iv = true) : ∀ u ∈ pkC q, kq u = true := fun u hu => by
 simp only [pkC, List.mem_cons, List.not_mem_nil, or_false] at hu
 rcases hu with rfl | rfl | rfl | rfl | rfl | rfl | rfl | rfl | rfl | rfl | rfl <;> first | rfl | assumption
theorem ql.cells {w : World} {p : Pk} {ls : List Spn} {lm : List Mem} {lu : List Int} (h : ql w p ls lm lu) : ∀ u ∈ pkC p, kq u = true := bkm h.sl.one.1 h.sl.one.2.1 h.sl.one.2.2
theorem bkz {w : World} {p : Pk} {ls : List Spn} {lm : List Mem} {lu : List Int} (hp : ql w p ls lm lu) {K : KV} (h : ∀ w', Fz w w' → K (pkA (lx p)) w') : gr P F.ed [pkA p] w K := by
 rw [M.ac.fcall]
 apply M.ac.calls
 unfold M.ac
 refine St.tt (St.ji w) fun b1 w1 S1 => ?_
 have S1' : St w w1 (iq b1 (pkC p).toArray T.a :: []) := S1
 obtain ⟨c0, c1, c2, c4, c6, c7, c8, c9, c10, _⟩ := ju S1'
 simp
 have S2 := agb S1'
 generalize w1.heap.size = b2 at *
 generalize w1.alloc _ = w2 at *
 obtain ⟨c0, c1, c2, c4, c6, c7, c8, c9, c10, _⟩ := ju S2.swap
 simp [c0, c1]
 have S3 := agb S2
 generalize w2.heap.size = b3 at *
 generalize w2.alloc _ = w3 at *
 refine als (q := pk0 p.ip p.tr ir ir 0 false) S3 rfl (axy _ _ _ _ _ _) fun w4 S4 => ?_
 obtain ⟨o1, o2, o3⟩ := hp.sl.one
 obtain ⟨⟨a1, k1, h1⟩, ⟨a2, k2, h2⟩, a3, k3, h3⟩ := hp.one
 have fin : ∀ w' q, lx p = q → St w w' (iq b3 (pkC q).toArray T.a :: iq b2 (pkC pkZ).toArray T.a :: iq b1 (pkC p).toArray T.a :: []) →
   ldN P 11 b3 0 w' fun t w => stT P T.a (.pointer (some ⟨b2, 0, none⟩)) t w fun _ w => pp P T.a (.pointer (some ⟨b2, 0, none⟩)) w fun v w' => w' = w ∧ K v w := fun w' q e S' => by
  rw [xf S', aii]
  refine asm S'.swap rfl ?_ fun w7 S7 => ?_
  ·rw [← e]
   exact (axj hp).cells
  ·have := h w7 S7.fr
   rwa [e] at this
 obtain ⟨c0, c1, c2, c4, c6, c7, c8, c9, c10, _⟩ := ju S4.up2
 simp only [kt] at c2 c4
 by_cases q1 : p.ip = 1
 ·have e : lx p = ⟨p.ip, p.tr, ir, ir, 0, false, (.slice a1 ls.length k1), iz, iz⟩ := by unfold lx; simp [q1, h1]
  rw [h1] at c8
  rw [h2] at c9
  rw [h3] at c10
  simp [c0, q1]
  unfold M.ac.j1
  simp [c2, c4, c6, c7, c8, c9, c10]
  refine S4.vy rfl (by simp [pkC]) fun w5 S5 => ?_
  have S5 : St w w5 (iq b3 (pkC ⟨p.ip, p.tr, ir, ir, 0, false, (.slice a1 ls.length k1), iz, iz⟩).toArray T.a :: _) := S5
  obtain ⟨d0, d1, d2, d4, d6, d7, d8, d9, d10, _⟩ := ju S5.up2
  simp only [kt] at d2 d4
  rw [h1] at d8
  rw [h2] at d9
  rw [h3] at d10
  exact fin _ _ e S5
 by_cases q2 : p.ip = 2
 ·have e : lx p = ⟨p.ip, p.tr, ir, ir, 0, false, (.slice a1 ls.length k1), iz, iz⟩ := by unfold lx; simp [q2, h1]
  rw [h1] at c8
  rw [h2] at c9
  rw [h3] at c10
  simp [c0, q2]
  unfold M.ac.j1
  simp [c2, c4, c6, c7, c8, c9, c10]
  refine S4.vy rfl (by simp [pkC]) fun w5 S5 => ?_
  have S5 : St w w5 (iq b3 (pkC ⟨p.ip, p.tr, ir, ir, 0, false, (.slice a1 ls.length k1), iz, iz⟩).toArray T.a :: _) := S5
  obtain ⟨d0, d1, d2, d4, d6, d7, d8, d9, d10, _⟩ := ju S5.up2
  simp only [kt] at d2 d4
  rw [h1] at d8
  rw [h2] at d9
  rw [h3] at d10
  exact fin _ _ e S5
 by_cases q3 : p.ip = 3
 ·have e : lx p = ⟨p.ip, 0, ir, ir, 0, false, iz, (.slice a2 lm.length k2), iz⟩ := by unfold lx; simp [q3, h2]
  rw [h1] at c8
  rw [h2] at c9
  rw [h3] at c10
  simp [c0, q3]
  unfold M.ac.j1
  simp [c2, c4, c6, c7, c8, c9, c10]
  refine S4.vy rfl (by simp [pkC]) fun w5 S5 => ?_
  have S5 : St w w5 (iq b3 (pkC ⟨p.ip, 0, ir, ir, 0, false, iz, iz, iz⟩).toArray T.a :: _) := S5
  obtain ⟨d0, d1, d2, d4, d6, d7, d8, d9, d10, _⟩ := ju S5.up2
  simp only [kt] at d2 d4
  rw [h1] at d8
  rw [h2] at d9
  rw [h3] at d10
  simp [d2, d4, d6, d7, d8, d9, d10]
  refine S5.vy rfl (by simp [pkC]) fun w6 S6 => ?_
  have S6 : St w w6 (iq b3 (pkC ⟨p.ip, 0, ir, ir, 0, false, iz, (.slice a2 lm.length k2), iz⟩).toArray T.a :: _) := S6
  obtain ⟨d0, d1, d2, d4, d6, d7, d8, d9, d10, _⟩ := ju S6.up2
  simp only [kt] at d2 d4
  rw [h1] at d8
  rw [h2] at d9
  rw [h3] at d10
  exact fin _ _ e S6
 by_cases q4 : p.ip = 4
 ·have e : lx p = ⟨p.ip, p.tr, p.b, ir, 0, false, iz, iz, iz⟩ := by unfold lx; simp [q4]
  rw [h1] at c8
  rw [h2] at c9
  rw [h3] at c10
  simp [c0, q4]
  unfold M.ac.j1
  simp [c2, c4, c6, c7, c8, c9, c10]
  refine St.put (cs' := (pkC ⟨p.ip, p.tr, p.b, ir, 0, false, iz, iz, iz⟩).toArray) (vs := [.int .u64 p.b.n, .int .u64 p.b.jl]) S4 (by simp) (by simp [pkC]) rfl fun w5 S5 => ?_
  obtain ⟨d0, d1, d2, d4, d6, d7, d8, d9, d10, _⟩ := ju S5.up2
  simp only [kt] at d2 d4
  rw [h1] at d8
  rw [h2] at d9
  rw [h3] at d10
  exact fin _ _ e S5
 by_cases q5 : p.ip = 5
 ·have e : lx p = ⟨p.ip, p.tr, p.b, p.jr, p.v, p.ok, iz, iz, iz⟩ := by unfold lx; simp [q5]
  have S4 := S4.jt ((Fr.refl _ w4).dr 1)
  obtain ⟨d0, d1, d2, d4, d6, d7, d8, d9, d10, _⟩ := ju S4.up2
  simp only [vd, kt] at d2 d4 d6 d7 d8
  rw [h1] at d8
  simp [c0, q5]
  unfold M.ac.j1
  simp [d2, d4, d6, d7, d8]
  refine St.put (cs' := (pkC ⟨p.ip, p.tr, p.b, ir, 0, false, iz, iz, iz⟩).toArray) (vs := [.int .u64 p.b.n, .int .u64 p.b.jl]) S4 (by simp) (by simp [pkC]) rfl fun w5 S5 => ?_
  obtain ⟨d0, d1, d2, d4, d6, d7, d8, d9, d10, _⟩ := ju S5.up2
  simp only [kt] at d2 d4
  rw [h1] at d8
  rw [h2] at d9
  rw [h3] at d10
  simp [d2, d4, d6, d7, d8, d9, d10]
  refine S5.vy rfl (by simp [pkC]) fun w6 S6 => ?_
  have S6 : St w w6 (iq b3 (pkC ⟨p.ip, p.tr, p.b, ir, 0, p.ok, iz, iz, iz⟩).toArray T.a :: _) := S6
  obtain ⟨d0, d1, d2, d4, d6, d7, d8, d9, d10, _⟩ := ju S6.up2
  simp only [kt] at d2 d4
  rw [h1] at d8
  rw [h2] at d9
  rw [h3] at d10
  simp [d2, d4, d6, d7, d8, d9, d10]
  refine St.put (cs' := (pkC ⟨p.ip, p.tr, p.b, p.jr, 0, p.ok, iz, iz, iz⟩).toArray) (vs := [.int .u64 p.jr.n, .int .u64 p.jr.jl]) S6 (by simp) (by simp [pkC]) rfl fun w7 S7 => ?_
  obtain ⟨d0, d1, d2, d4, d6, d7, d8, d9, d10, _⟩ := ju S7.up2
  simp only [kt] at d2 d4
  rw [h1] at d8
  rw [h2] at d9
  rw [h3] at d10
  simp [d2, d4, d6, d7, d8, d9, d10]
  refine S7.vy rfl (by simp [pkC]) fun w8 S8 => ?_
  have S8 : St w w8 (iq b3 (pkC ⟨p.ip, p.tr, p.b, p.jr, p.v, p.ok, iz, iz, iz⟩).toArray T.a :: _) := S8
  obtain ⟨d0, d1, d2, d4, d6, d7, d8, d9, d10, _⟩ := ju S8.up2
  simp only [kt] at d2 d4
  rw [h1] at d8
  rw [h2] at d9
  rw [h3] at d10
  exact fin _ _ e S8
 by_cases q6 : p.ip = 6
 ·have e : lx p = ⟨p.ip, p.tr, p.b, ir, p.v, false, iz, iz, iz⟩ := by unfold lx; simp [q6]
  have S4 := S4.jt ((Fr.refl _ w4).dr 1)
  obtain ⟨d0, d1, d2, d4, d6, d7, d8, d9, d10, _⟩ := ju S4.up2
  simp only [vd, kt] at d2 d4 d6 d7 d8
  rw [h1] at d8
  simp [c0, q6]
  unfold M.ac.j1
  simp [d2, d4, d6, d7, d8]
  refine St.put (cs' := (pkC ⟨p.ip, p.tr, p.b, ir, 0, false, iz, iz, iz⟩).toArray) (vs := [.int .u64 p.b.n, .int .u64 p.b.jl]) S4 (by simp) (by simp [pkC]) rfl fun w5 S5 => ?_
  obtain ⟨d0, d1, d2, d4, d6, d7, d8, d9, d10, _⟩ := ju S5.up2
  simp only [kt] at d2 d4
  rw [h1] at d8
  rw [h2] at d9
  rw [h3] at d10
  simp [d2, d4, d6, d7, d8, d9, d10]
  refine S5.vy rfl (by simp [pkC]) fun w6 S6 => ?_
  have S6 : St w w6 (iq b3 (pkC ⟨p.ip, p.tr, p.b, ir, p.v, false, iz, iz, iz⟩).toArray T.a :: _) := S6
  obtain ⟨d0, d1, d2, d4, d6, d7, d8, d9, d10, _⟩ := ju S6.up2
  simp only [kt] at d2 d4
  rw [h1] at d8
  rw [h2] at d9
  rw [h3] at d10
  exact fin _ _ e S6
 by_cases q7 : p.ip = 7
 ·have e : lx p = ⟨p.ip, p.tr, p.b, p.jr, 0, p.ok, iz, iz, iz⟩ := by unfold lx; simp [q7]
  have S4 := S4.jt ((Fr.refl _ w4).dr 1)
  obtain ⟨d0, d1, d2, d4, d6, d7, d8, d9, d10, _⟩ := ju S4.up2
  simp only [vd, kt] at d2 d4 d6 d7 d8
  rw [h1] at d8
  simp [c0, q7]
  unfold M.ac.j1
  simp [d2, d4, d6, d7, d8]
  refine St.put (cs' := (pkC ⟨p.ip, p.tr, p.b, ir, 0, false, iz, iz, iz⟩).toArray) (vs := [.int .u64 p.b.n, .int .u64 p.b.jl]) S4 (by simp) (by simp [pkC]) rfl fun w5 S5 => ?_
  obtain ⟨d0, d1, d2, d4, d6, d7, d8, d9, d10, _⟩ := ju S5.up2
  simp only [kt] at d2 d4
  rw [h1] at d8
  rw [h2] at d9
  rw [h3] at d10
  simp [d2, d4, d6, d7, d8, d9, d10]
  refine S5.vy rfl (by simp [pkC]) fun w6 S6 => ?_
  have S6 : St w w6 (iq b3 (pkC ⟨p.ip, p.tr, p.b, ir, 0, p.ok, iz, iz, iz⟩).toArray T.a :: _) := S6
  obtain ⟨d0, d1, d2, d4, d6, d7, d8, d9, d10, _⟩ := ju S6.up2
  simp only [kt] at d2 d4
  rw [h1] at d8
  rw [h2] at d9
  rw [h3] at d10
  simp [d2, d4, d6, d7, d8, d9, d10]
  refine St.put (cs' := (pkC ⟨p.ip, p.tr, p.b, p.jr, 0, p.ok, iz, iz, iz⟩).toArray) (vs := [.int .u64 p.jr.n, .int .u64 p.jr.jl]) S6 (by simp) (by simp [pkC]) rfl fun w7 S7 => ?_
  obtain ⟨d0, d1, d2, d4, d6, d7, d8, d9, d10, _⟩ := ju S7.up2
  simp only [kt] at d2 d4
  rw [h1] at d8
  rw [h2] at d9
  rw [h3] at d10
  exact fin _ _ e S7
 by_cases q8 : p.ip = 8
 ·have e : lx p = ⟨p.ip, p.tr, ir, ir, p.v, false, iz, iz, iz⟩ := by unfold lx; simp [q8]
  rw [h1] at c8
  rw [h2] at c9
  rw [h3] at c10
  simp [c0, q8]
  unfold M.ac.j1
  simp [c2, c4, c6, c7, c8, c9, c10]
  refine S4.vy rfl (by simp [pkC]) fun w5 S5 => ?_
  have S5 : St w w5 (iq b3 (pkC ⟨p.ip, p.tr, ir, ir, p.v, false, iz, iz, iz⟩).toArray T.a :: _) := S5
  obtain ⟨d0, d1, d2, d4, d6, d7, d8, d9, d10, _⟩ := ju S5.up2
  simp only [kt] at d2 d4
  rw [h1] at d8
  rw [h2] at d9
  rw [h3] at d10
  exact fin _ _ e S5
 by_cases q9 : p.ip = 9
 ·have e : lx p = ⟨p.ip, p.tr, p.b, ir, 0, false, (.slice a1 ls.length k1), iz, iz⟩ := by unfold lx; simp [q9, h1]
  have S4 := S4.jt ((Fr.refl _ w4).dr 1)
  obtain ⟨d0, d1, d2, d4, d6, d7, d8, d9, d10, _⟩ := ju S4.up2
  simp only [vd, kt] at d2 d4 d6 d7 d8
  rw [h1] at d8
  simp [c0, q9]
  unfold M.ac.j1
  simp [d2, d4, d6, d7, d8]
  refine St.put (cs' := (pkC ⟨p.ip, p.tr, p.b, ir, 0, false, iz, iz, iz⟩).toArray) (vs := [.int .u64 p.b.n, .int .u64 p.b.jl]) S4 (by simp) (by simp [pkC]) rfl fun w5 S5 => ?_
  obtain ⟨d0, d1, d2, d4, d6, d7, d8, d9, d10, _⟩ := ju S5.up2
  simp only [kt] at d2 d4
  rw [h1] at d8
  rw [h2] at d9
  rw [h3] at d10
  simp [d2, d4, d6, d7, d8, d9, d10]
  refine S5.vy rfl (by simp [pkC]) fun w6 S6 => ?_
  have S6 : St w w6 (iq b3 (pkC ⟨p.ip, p.tr, p.b, ir, 0, false, (.slice a1 ls.length k1), iz, iz⟩).toArray T.a :: _) := S6
  obtain ⟨d0, d1, d2, d4, d6, d7, d8, d9, d10, _⟩ := ju S6.up2
  simp only [kt] at d2 d4
  rw [h1] at d8
  rw [h2] at d9
  rw [h3] at d10
  exact fin _ _ e S6
 by_cases q10 : p.ip = 10
 ·have e : lx p = ⟨p.ip, p.tr, ir, ir, 0, false, iz, iz, (.slice a3 lu.length k3)⟩ := by unfold lx; simp [q10, h3]
  rw [h1] at c8
  rw [h2] at c9
  rw [h3] at c10
  simp [c0, q10]
  unfold M.ac.j1
  simp [c2, c4, c6, c7, c8, c9, c10]
  refine S4.vy rfl (by simp [pkC]) fun w5 S5 => ?_
  have S5 : St w w5 (iq b3 (pkC ⟨p.ip, p.tr, ir, ir, 0, false, iz, iz, (.slice a3 lu.length k3)⟩).toArray T.a :: _) := S5
  obtain ⟨d0, d1, d2, d4, d6, d7, d8, d9, d10, _⟩ := ju S5.up2
  simp only [kt] at d2 d4
  rw [h1] at d8
  rw [h2] at d9
  rw [h3] at d10
  exact fin _ _ e S5
 have e : lx p = ⟨p.ip, p.tr, ir, ir, 0, false, iz, iz, iz⟩ := by unfold lx; simp [q1, q2, q3, q4, q5, q6, q7, q8, q9, q10]
 simp [c0, q1, q2]
 unfold M.ac.j1
 simp [q3, q4, q5, q6, q7, q8, q9, q10]
 exact fin _ _ e S4
def bpm (W : World) (l1 l2 : List Spn) : KL := fun x w1 => ∃ (u0 u1 : Value) (i : Nat), x = [u0, u1, .int .i64 (i : Nat)] ∧ i ≤ l1.length ∧ (∀ j (h1 : j < l1.length) (h2 : j < l2.length), j < i → vq l1[j] l2[j] = true) ∧ Fz W w1
def bpu (W : World) (l1 l2 : List Int) : KL := fun x w1 => ∃ (u0 u1 : Value) (i : Nat), x = [u0, u1, .int .i64 (i : Nat)] ∧ i ≤ l1.length ∧ (∀ j (h1 : j < l1.length) (h2 : j < l2.length), j < i → l1[j] = l2[j]) ∧ Fz W w1
theorem bcz {w : World} {v1 v2 : Value} {l1 l2 : List Spn} (s1 : SlS w v1 l1) (s2 : SlS w v2 l2) (hlen : l1.length ≤ 1000000) {K : KV} (h : ∀ w', Fz w w' → K (.bool (td l1 l2)) w') : gr P F.bi [v1, v2] w K := by
 rw [M.p.fcall]
 apply M.p.calls
 unfold M.p
 simp only [ib]
 rw [s1.jb (by kernel_rfl), s2.jb (by kernel_rfl)]
 by_cases hne : l1.length = l2.length
 ·simp [hne]
  unfold M.p.j0
  simp only [ib]
  rw [s1.jb (by kernel_rfl)]
  refine ⟨bpm w l1 l2, fun x _ => l1.length - ms x 2, ⟨_, _, 0, rfl, Nat.zero_le _, fun j _ _ h => by omega, Fr.refl _ _⟩, ?_⟩
  rintro x w1 ⟨u0, u1, i, rfl, hi, hpre, f1⟩
  by_cases hil : i < l1.length
  ·have hili : (i : Int) < (l1.length : Int) := by omega
   obtain ⟨b1, o1, cap1, hv1, _, _, e1⟩ := (s1.fr f1 fun _ _ _ h => h : SlS w1 v1 l1).at hil
   obtain ⟨b2, o2, cap2, hv2, _, _, e2⟩ := (s2.fr f1 fun _ _ _ h => h : SlS w1 v2 l2).at (show i < l2.length by omega)
   have hl2i : i < l2.length := by omega
   have q1 : ∀ w' K, iaT P T.b v1 (.int .i64 (i : Nat)) w' K = K (.pointer (some ⟨b1, o1 + i * 8, none⟩)) w' := fun w' K => by rw [hv1]; simp [hil]
   have q2 : ∀ w' K, iaT P T.b v2 (.int .i64 (i : Nat)) w' K = K (.pointer (some ⟨b2, o2 + i * 8, none⟩)) w' := fun w' K => by rw [hv2]; simp [hl2i]
   have g1 : ∀ K, ldN P 8 b1 (o1 + i * 8) (dr w1 1) K = K (ko l1[i]) (dr w1 1) := fun K => ldS (fun k v hk => by rw [vd]; exact e1 k v hk) K
   have g2 : ∀ K, ldN P 8 b2 (o2 + i * 8) (dr w1 1) K = K (ko l2[i]) (dr w1 1) := fun K => ldS (fun k v hk => by rw [vd]; exact e2 k v hk) K
   have hw : IntKind.i64.wrap ((i : Int) + 1) = ((i + 1 : Nat) : Int) := by rw [ig]; omega
   simp [hili]
   unfold M.p.j3
   simp [q1, q2, g1, g2, acq]
   cases hs : vq l1[i] l2[i] with
   | true =>
    simp
    rw [hw]
    refine ⟨⟨_, _, i + 1, rfl, hil, fun j a1 a2 hj => ?_, f1.dr 1⟩, by simp [ms, gv]; omega⟩
    by_cases hji : j = i
    ·subst hji; exact hs
    ·exact hpre j a1 a2 (by omega)
   | false =>
    simp
    have := h _ (f1.dr 1)
    rw [aov hil hl2i hs] at this
    exact this
  ·have hili : ¬ (i : Int) < (l1.length : Int) := by omega
   simp [hili]
   have := h w1 f1
   rw [agd hne fun j a1 a2 => hpre j a1 a2 (by omega)] at this
   exact this
 ·have hni : ¬ (l1.length : Int) = (l2.length : Int) := by omega
  simp [hni]
  have := h w (Fr.refl _ _)
  have hz : td l1 l2 = false := by unfold td; simp [hne]
  rw [hz] at this
  exact this
theorem bcc {w : World} {v1 v2 : Value} {l1 l2 : List Int} (s1 : SlU w v1 l1) (s2 : SlU w v2 l2) (hlen : l1.length ≤ 1000000) {K : KV} (h : ∀ w', Fz w w' → K (.bool (decide (l1 = l2))) w') : gr P F.br [v1, v2] w K := by
 rw [M.x.fcall]
 apply M.x.calls
 unfold M.x
 simp only [ib]
 rw [s1.jb (by kernel_rfl), s2.jb (by kernel_rfl)]
 by_cases hne : l1.length = l2.length
 ·simp [hne]
  unfold M.x.j0
  simp only [ib]
  rw [s1.jb (by kernel_rfl)]
  refine ⟨bpu w l1 l2, fun x _ => l1.length - ms x 2, ⟨_, _, 0, rfl, Nat.zero_le _, fun j _ _ h => by omega, Fr.refl _ _⟩, ?_⟩
  rintro x w1 ⟨u0, u1, i, rfl, hi, hpre, f1⟩
  by_cases hil : i < l1.length
  ·have hili : (i : Int) < (l1.length : Int) := by omega
   have hl2i : i < l2.length := by omega
   obtain ⟨b1, o1, cap1, hv1, _, e1⟩ := afa (s1.fr f1 fun _ _ _ h => h : SlU w1 v1 l1) hil
   obtain ⟨b2, o2, cap2, hv2, _, e2⟩ := afa (s2.fr f1 fun _ _ _ h => h : SlU w1 v2 l2) hl2i
   have q1 : ∀ w' K, iaT P T.h v1 (.int .i64 (i : Nat)) w' K = K (.pointer (some ⟨b1, o1 + i, none⟩)) w' := fun w' K => by rw [hv1]; simp [hil]
   have q2 : ∀ w' K, iaT P T.h v2 (.int .i64 (i : Nat)) w' K = K (.pointer (some ⟨b2, o2 + i, none⟩)) w' := fun w' K => by rw [hv2]; simp [hl2i]
   have hw : IntKind.i64.wrap ((i : Int) + 1) = ((i + 1 : Nat) : Int) := by rw [ig]; omega
   simp [hili]
   unfold M.x.j3
   simp [q1, q2, e1, e2]
   by_cases hs : l1[i] = l2[i]
   ·simp [hs]
    rw [hw]
    refine ⟨⟨_, _, i + 1, rfl, hil, fun j a1 a2 hj => ?_, f1.dr 1⟩, by simp [ms, gv]; omega⟩
    by_cases hji : j = i
    ·subst hji; exact hs
    ·exact hpre j a1 a2 (by omega)
   ·simp [hs]
    have := h _ (f1.dr 1)
    rw [decide_eq_false fun he => hs (by simp [he])] at this
    exact this
  ·have hili : ¬ (i : Int) < (l1.length : Int) := by omega
   simp [hili]
   have := h w1 f1
   rw [decide_eq_true (ane hne fun j a1 a2 => hpre j a1 a2 (by omega))] at this
   exact this
 ·have hni : ¬ (l1.length : Int) = (l2.length : Int) := by omega
  simp [hni]
  have := h w (Fr.refl _ _)
  rw [decide_eq_false fun he => hne (congrArg List.length he)] at this
  exact this
theorem bir {w : World} {p q : Pk} {ls ls' : List Spn} {lm lm' : List Mem} {lu lu' : List Int} (hp : ql w p ls lm lu) (hq : ql w q ls' lm' lu') {K : KV}
  (h : ∀ w', Fz w w' → K (.bool (sj p q ls ls' lm lm' lu lu')) w') : gr P F.fc [pkA p, pkA q] w K := by
 rw [M.ek.fcall]
 apply M.ek.calls
 unfold M.ek
 rw [atn hp, atn (hq.fr ((Fr.refl _ w).alloc _))]
 have S1 : St w (w.alloc (.cells (pkC p).toArray T.a)) (iq w.heap.size (pkC p).toArray T.a :: []) := (St.ji w).add ((Fr.refl _ w).alloc _) (B := fun x => x = w.heap.size) ⟨by rw [iw, if_pos rfl], rfl⟩ fun x hx => by subst hx; rw [jz]; omega
 generalize w.alloc (.cells (pkC p).toArray T.a) = w1 at *
 have S2 : St w (w1.alloc (.cells (pkC q).toArray T.a)) (iq w1.heap.size (pkC q).toArray T.a :: _) := S1.add ((Fr.refl _ w1).alloc _) (B := fun x => x = w1.heap.size) ⟨by rw [iw, if_pos rfl], rfl⟩ fun x hx => by subst hx; rw [jz]; omega
 generalize w1.alloc (.cells (pkC q).toArray T.a) = w2 at *
 generalize w.heap.size = pb at *
 generalize w1.heap.size = qb at *
 obtain ⟨q0, q1, q2, q4, q6, q7, q8, q9, q10, _⟩ := ju S2
 obtain ⟨p0, p1, p2, p4, p6, p7, p8, p9, p10, _⟩ := ju S2.swap
 have hbo : agf P T.av = true := by kernel_rfl
 have no : ∀ bb : Bool, bb = false → (mw p q = false) → K (.bool bb) w2 := fun bb hb hl => by
  subst hb
  have := h w2 S2.fr
  unfold sj at this
  rw [hl, Bool.and_false, Bool.and_false, Bool.and_false] at this
  exact this
 by_cases a0 : p.ip = q.ip
 case neg =>
  simp [p0, q0, a0]
  exact no false rfl (by simp [mw, a0])
 by_cases a1 : p.tr = q.tr
 case neg =>
  simp [p0, q0, a0, p1, q1, a1]
  exact no false rfl (by simp [mw, a1])
 by_cases a2 : p.b = q.b
 case neg =>
  simp [p0, q0, a0, p1, q1, a1, p2, q2, wu, a2]
  exact no false rfl (by simp [mw, a2])
 by_cases a3 : p.jr = q.jr
 case neg =>
  simp [p0, q0, a0, p1, q1, a1, p2, q2, wu, a2, p4, q4, a3]
  exact no false rfl (by simp [mw, a3])
 by_cases a4 : p.v = q.v
 case neg =>
  simp [p0, q0, a0, p1, q1, a1, p2, q2, wu, a2, p4, q4, a3, p6, q6, a4]
  exact no false rfl (by simp [mw, a4])
 by_cases a5 : p.ok = q.ok
 case neg =>
  have a5' : (p.ok == q.ok) = false := by simpa using a5
  simp [p0, q0, a0, p1, q1, a1, p2, q2, wu, a2, p4, q4, a3, p6, q6, a4, p7, q7, aga hbo, a5']
  exact no false rfl (by simp [mw, a5])
 obtain ⟨⟨sa, sc, es⟩, ⟨ma, mc, em⟩, ua, uc, eu⟩ := hp.one
 obtain ⟨⟨sa', sc', es'⟩, ⟨ma', mc', em'⟩, ua', uc', eu'⟩ := hq.one
 simp [p0, q0, a0, p1, q1, a1, p2, q2, wu, a2, p4, q4, a3, p6, q6, a4, p7, q7, aga hbo, a5, p8, q8]
 have hp2 := hp.fr S2.fr
 have hq2 := hq.fr S2.fr
 have fb : mw p q = true := by simp [mw, a0, a1, a2, a3, a4, a5]
 have fin := h
 unfold sj at fin
 rw [fb] at fin
 refine bcz hp2.s hq2.s hp.ls fun w3 f3 => ?_
 have S3 := S2.jt f3
 obtain ⟨_, _, _, _, _, _, _, q9, _, _⟩ := ju S3
 obtain ⟨_, _, _, _, _, _, _, p9, _, _⟩ := ju S3.swap
 have hp3 := hp.fr S3.fr
 have hq3 := hq.fr S3.fr
 cases hb1 : td ls ls' with
 | false =>
  simp
  have := fin w3 S3.fr
  rw [hb1] at this
  simpa using this
 | true =>
 rw [hb1] at fin
 simp [p9, q9]
 refine bfc hp3.m hq3.m hp.lm fun w4 f4 => ?_
 have S4 := S3.jt f4
 obtain ⟨_, _, _, _, _, _, _, _, q10, _⟩ := ju S4
 obtain ⟨_, _, _, _, _, _, _, _, p10, _⟩ := ju S4.swap
 have hp4 := hp.fr S4.fr
 have hq4 := hq.fr S4.fr
 by_cases hm : lm = lm'
 case neg =>
  simp [hm]
  have := fin w4 S4.fr
  simpa [hm] using this
 simp [hm, p10, q10]
 refine bcc hp4.u hq4.u hp.lu fun w5 f5 => ?_
 have := fin w5 (S4.jt f5).fr
 simpa [hm] using this
def byt (s : ByteArray) (k : Nat) : Nat := (s.get! k).toNat
theorem bde (s : ByteArray) {i : Nat} (h : i < s.size) {k : IntKind} (w : World) (K : KV) : ixT P T.ah (.string s) (.int k (i : Int)) w K = K (.int .u8 (byt s i)) w := by
 have hu : P.underlying T.ah = some .string := ww aoh
 have hg : s[i]? = some (s.get! i) := by
  rw [getElem?_pos s i h]
  have e : s.get! i = s[i]'h := by
   simp [ByteArray.get!, getElem!_pos, h]
   rfl
  rw [e]
 simp [ixT, jv, Instr.index, asIntOf, Sem.run_bind, jn hu, Result.andThen, Sem.run_pure, hg, byt]
theorem bmo {s d : TypeId} {ks k2 : IntKind} (hs : P.underlying s = some (.int ks)) (hd : P.underlying d = some (.int k2)) (k : IntKind) (x : Int) (w : World) (K : KV) : cvT P s d (.int k x) w K = K (.int k2 (k2.wrap x)) w := by
 simp [cvT, jv, convert, Sem.run_bind, jn hs, jn hd, Result.andThen, Conv.intToInt, Sem.run_pure]
def lg (t : ByteArray) (r : Nat) : Nat → Nat
 | 0 => r
 | k + 1 => lg t r k * 64 + byt t (k + 1) - 128
def vh (t : ByteArray) (k : Nat) : Bool := decide (128 ≤ byt t k) && decide (byt t k ≤ 191)
def ol (b0 : Nat) : Nat × Nat × Nat := if 194 ≤ b0 ∧ b0 ≤ 223 then (2, 128, b0 - 192) else if 224 ≤ b0 ∧ b0 ≤ 239 then (3, 2048, b0 - 224) else if 240 ≤ b0 ∧ b0 ≤ 244 then (4, 65536, b0 - 240) else (0, 0, 0)
def um (t : ByteArray) : Nat → Bool
 | 0 => true
 | k + 1 => um t k && vh t (k + 1)
def rr (t : ByteArray) : Nat × Nat :=
 if t.size = 0 then (0, 0) else if byt t 0 < 128 then (byt t 0, 1) else
 if (ol (byt t 0)).1 = 0 ∨ t.size < (ol (byt t 0)).1 then (0, 0) else
 if um t ((ol (byt t 0)).1 - 1) = false then (0, 0) else
 if lg t (ol (byt t 0)).2.2 ((ol (byt t 0)).1 - 1) < (ol (byt t 0)).2.1 ∨ 1114111 < lg t (ol (byt t 0)).2.2 ((ol (byt t 0)).1 - 1) ∨ (55296 ≤ lg t (ol (byt t 0)).2.2 ((ol (byt t 0)).1 - 1) ∧ lg t (ol (byt t 0)).2.2 ((ol (byt t 0)).1 - 1) ≤ 57343) then (0, 0) else (lg t (ol (byt t 0)).2.2 ((ol (byt t 0)).1 - 1), (ol (byt t 0)).1)
theorem aic (t : ByteArray) (k : Nat) : byt t k < 256 := UInt8.toNat_lt _
theorem auh (t : ByteArray) {r : Nat} (hr : r ≤ 31) : ∀ k, um t k = true → lg t r k + 1 ≤ 32 * 64 ^ k
 | 0, _ => by simp [lg]; omega
 | k + 1, h => by
  simp only [um, Bool.and_eq_true, vh, decide_eq_true_eq] at h
  have := auh t hr k h.1
  simp only [lg, Nat.pow_succ]
  omega
theorem ajw (x : Int) (w : World) (K : KV) : cvT P T.ao T.aw (.int .u8 x) w K = K (.int .i32 (IntKind.i32.wrap x)) w := bmo (ks := .u8) (by kernel_rfl) (by kernel_rfl) .u8 x w K
theorem xn {x : Int} (h0 : -2147483648 ≤ x) (h1 : x < 2147483648) : IntKind.i32.wrap x = x := by
 show (if (true && decide (x % 4294967296 ≥ 2147483648)) = true then x % 4294967296 - 4294967296 else x % 4294967296) = x
 by_cases h : x % 4294967296 ≥ 2147483648
 ·simp [h]; omega
 ·simp [h]; omega
theorem alg {t : ByteArray} {k : Nat} (h : vh t (k + 1) = false) : ∀ {n : Nat}, k + 1 < n → um t (n - 1) = false
 | 0, hn => by omega
 | n + 1, hn => by
  rw [Nat.add_sub_cancel]
  by_cases hk : k + 1 = n
  ·subst hk; simp [um, h]
  ·have := alg h (n := n) (by omega)
   cases n with
   | zero => omega
   | succ n => rw [Nat.add_sub_cancel] at this; simp [um, this]
def boo (w : World) (t : ByteArray) (r n : Nat) : KL := fun x w1 => ∃ (a b : Value) (k : Nat), x = [a, b, .int .i32 (lg t r k : Nat), .int .i64 ((k + 1 : Nat) : Int)] ∧ w1 = w ∧ k + 1 ≤ n ∧ um t k = true
theorem bdn {w : World} {t : ByteArray} {n least r : Nat} (hn : 2 ≤ n) (hn4 : n ≤ 4) (hr : r ≤ 31) (hl : least ≤ 65536) (hsz : n ≤ t.size) {x3 x2 : List Value} (e1 : gv x2 1 = .int .i64 (n : Nat)) (e2 : gv x2 2 = .int .i32 (least : Nat)) (e3 : gv x2 3 = .int .i32 (r : Nat)) {K : KV}
  (h : K (.tuple #[.int .i32 ((if um t (n - 1) = false then 0 else if lg t r (n - 1) < least ∨ 1114111 < lg t r (n - 1) ∨ (55296 ≤ lg t r (n - 1) ∧ lg t r (n - 1) ≤ 57343) then 0 else lg t r (n - 1) : Nat) : Int), .int .i64 ((if um t (n - 1) = false then 0 else if lg t r (n - 1) < least ∨ 1114111 < lg t r (n - 1) ∨ (55296 ≤ lg t r (n - 1) ∧ lg t r (n - 1) ≤ 57343) then 0 else n : Nat) : Int)]) w) :
  M.g.j3 x3 x2 (.string t) w K := by
 unfold M.g.j3
 simp only [ib, e3]
 refine ⟨boo w t r n, fun x _ => n - ms x 3, ⟨_, _, 0, rfl, rfl, by omega, rfl⟩, ?_⟩
 rintro x w1 ⟨a, b, k, rfl, rfl, hk, hc⟩
 have g2 : gv [a, b, .int .i32 (lg t r k : Nat), .int .i64 ((k + 1 : Nat) : Int)] 2 = .int .i32 (lg t r k : Nat) := rfl
 have g3 : gv [a, b, .int .i32 (lg t r k : Nat), .int .i64 ((k + 1 : Nat) : Int)] 3 = .int .i64 ((k + 1 : Nat) : Int) := rfl
 simp only [e1, g3]
 have hb := auh t hr k hc
 have hp : (64 : Nat) ^ k ≤ 64 ^ 3 := Nat.pow_le_pow_right (by omega) (by omega)
 by_cases hlt : k + 1 < n
 ·have hlt' : ((k + 1 : Nat) : Int) < n := by omega
  have hix : ∀ K, ixT P T.ah (.string t) (.int .i64 ((k + 1 : Nat) : Int)) w1 K = K (.int .u8 (byt t (k + 1))) w1 := fun K => bde t (by omega) w1 K
  simp only [lw, hlt', decide_true, Eng.cond_true]
  unfold M.g.j6
  have hix' := hix
  push_cast at hix'
  have hbl := aic t (k + 1)
  have hw : IntKind.i64.wrap (((k + 1 : Nat) : Int) + 1) = ((k + 1 + 1 : Nat) : Int) := by rw [ig]; rfl
  simp only [ib, g2, g3, hix]
  by_cases h1 : byt t (k + 1) < 128
  ·have h1' : (byt t (k + 1) : Int) < 128 := by omega
   have hcf : um t (n - 1) = false := alg (by simp [vh]; omega) hlt
   simp [h1']
   rw [hcf] at h
   simpa using h
  ·have h1' : ¬ (byt t (k + 1) : Int) < 128 := by omega
   by_cases h2 : 191 < byt t (k + 1)
   ·have h2' : (191 : Int) < byt t (k + 1) := by omega
    have hcf : um t (n - 1) = false := alg (by simp [vh]; omega) hlt
    simp [h1', hix', h2']
    rw [hcf] at h
    simpa using h
   ·have h2' : ¬ (191 : Int) < byt t (k + 1) := by omega
    simp [h1', hix', h2']
    unfold M.g.j8
    have hm1 : IntKind.i32.wrap ((lg t r k : Int) * 64) = (lg t r k : Int) * 64 := xn (by omega) (by omega)
    have hm2 : IntKind.i32.wrap (byt t (k + 1) : Int) = byt t (k + 1) := xn (by omega) (by omega)
    have hm3 : IntKind.i32.wrap ((lg t r k : Int) * 64 + byt t (k + 1)) = (lg t r k : Int) * 64 + byt t (k + 1) := xn (by omega) (by omega)
    have hm4 : IntKind.i32.wrap ((lg t r k : Int) * 64 + byt t (k + 1) - 128) = ((lg t r (k + 1) : Nat) : Int) := by
     rw [xn (by omega) (by omega)]
     simp only [lg]; omega
    push_cast at g2 g3 hw
    simp only [g2, g3, hix', ajw, vx, kz, lz, hm1, hm2, hm3, hm4, hw]
    refine ⟨⟨_, _, k + 1, rfl, rfl, by omega, by simp [um, hc, vh]; omega⟩, ?_⟩
    simp [ms, gv]; omega
 ·have hke : n - 1 = k := by omega
  have hlt' : ¬ ((k + 1 : Nat) : Int) < n := by omega
  rw [hke, hc] at h
  simp only [lw, hlt', decide_false, Eng.cond_false]
  unfold M.g.j4
  have q3 : ∀ p q s u : Value, gv [p, q, s, u] 3 = u := fun _ _ _ _ => rfl
  simp only [ib, q3, g2, e1, e2]
  generalize lg t r k = v at *
  simp only [Bool.true_eq_false, if_false] at h
  by_cases a1 : v < least
  ·have a1' : (v : Int) < least := by omega
   simp [a1, a1'] at h ⊢
   exact h
  by_cases a2 : 1114111 < v
  ·have a1' : ¬ (v : Int) < least := by omega
   have a2' : (1114111 : Int) < v := by omega
   simp [a1, a1', a2, a2'] at h ⊢
   exact h
  by_cases a3 : 55296 ≤ v
  ·by_cases a4 : v ≤ 57343
   ·have a1' : ¬ (v : Int) < least := by omega
    have a2' : ¬ (1114111 : Int) < v := by omega
    have a3' : (55296 : Int) ≤ v := by omega
    have a4' : (v : Int) ≤ 57343 := by omega
    simp [a1, a1', a2, a2', a3, a3', a4, a4'] at h ⊢
    exact h
   ·have a1' : ¬ (v : Int) < least := by omega
    have a2' : ¬ (1114111 : Int) < v := by omega
    have a3' : (55296 : Int) ≤ v := by omega
    have a4' : ¬ (v : Int) ≤ 57343 := by omega
    simp [a1, a1', a2, a2', a3, a3', a4, a4'] at h ⊢
    exact h
  ·have a1' : ¬ (v : Int) < least := by omega
   have a2' : ¬ (1114111 : Int) < v := by omega
   have a3' : ¬ (55296 : Int) ≤ v := by omega
   simp [a1, a1', a2, a2', a3, a3'] at h ⊢
   exact h
theorem blo {w : World} (t : ByteArray) {K : KV} (h : K (.tuple #[.int .i32 ((rr t).1 : Nat), .int .i64 ((rr t).2 : Nat)]) w) : ku P F.ej [.string t] w K := by
 apply M.g.calls
 unfold M.g
 simp only [ib]
 unfold rr at h
 by_cases h0 : t.size = 0
 ·simp [h0] at h ⊢
  exact h
 have hsz : 0 < t.size := by omega
 have hix : ∀ K, ixT P T.ah (.string t) (.int .i64 0) w K = K (.int .u8 (byt t 0)) w := fun K => bde t hsz w K
 have hbl := aic t 0
 have hw0 : IntKind.i32.wrap (byt t 0 : Int) = byt t 0 := xn (by omega) (by omega)
 simp [h0] at h ⊢
 unfold M.g.j0
 simp only [ib, hix]
 by_cases h1 : byt t 0 < 128
 ·have h1' : (byt t 0 : Int) < 128 := by omega
  simp [h1, h1', ajw, hw0] at h ⊢
  exact h
 have h1' : ¬ (byt t 0 : Int) < 128 := by omega
 simp [h1, h1'] at h ⊢
 unfold M.g.j1
 simp only [ib]
 have fin : ∀ (n least r : Nat) (x2 : List Value), ol (byt t 0) = (n, least, r) → n ≠ 0 → 2 ≤ n → n ≤ 4 → r ≤ 31 → least ≤ 65536 → gv x2 1 = .int .i64 (n : Nat) → gv x2 2 = .int .i32 (least : Nat) → gv x2 3 = .int .i32 (r : Nat) → M.g.j2 x2 (.string t) [.int .i32 0, .int .i64 0] w K := by
  intro n least r x2 hc hn0 hn hn4 hr hl e1 e2 e3
  rw [hc] at h
  unfold M.g.j2
  have hn0' : ¬ (n : Int) = 0 := by omega
  by_cases hs : t.size < n
  ·have hs' : (t.size : Int) < n := by omega
   simp [e1, hn0, hn0', hs, hs'] at h ⊢
   exact h
  ·have hs' : ¬ (t.size : Int) < n := by omega
   simp only [ib]
   simp [e1, hn0, hn0', hs, hs'] at h ⊢
   refine bdn hn hn4 hr hl (by omega) e1 e2 e3 ?_
   by_cases hcs : um t (n - 1) = false
   ·simp [hcs] at h ⊢; exact h
   ·by_cases hv : lg t r (n - 1) < least ∨ 1114111 < lg t r (n - 1) ∨ (55296 ≤ lg t r (n - 1) ∧ lg t r (n - 1) ≤ 57343)
    ·simp [hcs, hv] at h ⊢; exact h
    ·simp [hcs, hv] at h ⊢; exact h
 generalize hb0 : byt t 0 = b0 at *
 have hsub : ∀ (y : Int), 0 ≤ y → y < 300 → (b0 : Int) - y = (((b0 : Int) - y)) := fun _ _ _ => rfl
 by_cases c1 : 194 ≤ b0 ∧ b0 ≤ 223
 ·have p1 : (194 : Int) ≤ b0 := by omega
  have p2 : (b0 : Int) ≤ 223 := by omega
  have hw1 : IntKind.i32.wrap ((b0 : Int) - 192) = ((b0 - 192 : Nat) : Int) := by rw [xn (by omega) (by omega)]; omega
  simp [p1, p2, ajw, hw0, hw1]
  refine fin 2 128 (b0 - 192) _ (by simp [ol, c1]) (by decide) (by decide) (by decide) (by omega) (by decide) rfl rfl rfl
 have hz : ∀ x2, gv x2 1 = .int .i64 0 → ol b0 = (0, 0, 0) → M.g.j2 x2 (.string t) [.int .i32 0, .int .i64 0] w K := by
  intro x2 e1 hc
  rw [hc] at h
  unfold M.g.j2
  simp only [ib]
  simp [e1] at h ⊢
  exact h
 by_cases d1 : 224 ≤ b0
 ·have p1 : (194 : Int) ≤ b0 := by omega
  have p2 : ¬ (b0 : Int) ≤ 223 := by omega
  have p3 : (224 : Int) ≤ b0 := by omega
  by_cases d2 : b0 ≤ 239
  ·have p4 : (b0 : Int) ≤ 239 := by omega
   have hw1 : IntKind.i32.wrap ((b0 : Int) - 224) = ((b0 - 224 : Nat) : Int) := by rw [xn (by omega) (by omega)]; omega
   simp [p1, p2, p3, p4, ajw, hw0, hw1]
   exact fin 3 2048 (b0 - 224) _ (by simp [ol, c1, d1, d2]) (by decide) (by decide) (by decide) (by omega) (by decide) rfl rfl rfl
  ·have p4 : ¬ (b0 : Int) ≤ 239 := by omega
   have p5 : (240 : Int) ≤ b0 := by omega
   by_cases d3 : b0 ≤ 244
   ·have p6 : (b0 : Int) ≤ 244 := by omega
    have hw1 : IntKind.i32.wrap ((b0 : Int) - 240) = ((b0 - 240 : Nat) : Int) := by rw [xn (by omega) (by omega)]; omega
    simp [p1, p2, p3, p4, p5, p6, ajw, hw0, hw1]
    exact fin 4 65536 (b0 - 240) _ (by unfold ol; rw [if_neg c1, if_neg (by omega), if_pos (by omega)]) (by decide) (by decide) (by decide) (by omega) (by decide) rfl rfl rfl
   ·have p6 : ¬ (b0 : Int) ≤ 244 := by omega
    simp [p1, p2, p3, p4, p5, p6, ajw, hw0]
    exact hz _ rfl (by unfold ol; rw [if_neg c1, if_neg (by omega), if_neg (by omega)])
 ·have p1 : ¬ (194 : Int) ≤ b0 := by omega
  have p3 : ¬ (224 : Int) ≤ b0 := by omega
  have p5 : ¬ (240 : Int) ≤ b0 := by omega
  simp [p1, p3, p5]
  exact hz _ rfl (by unfold ol; rw [if_neg c1, if_neg (by omega), if_neg (by omega)])
end Go.Proofs.YtfnhoaemapheoaaGreat
