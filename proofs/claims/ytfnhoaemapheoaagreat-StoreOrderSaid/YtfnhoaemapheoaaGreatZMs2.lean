/-
  Packets: equal ballots, equal rows, alike. No condition.
-/
import Derived.Test.YtfnhoaemapheoaaGreatZWl1
import Derived.Test.YtfnhoaemapheoaaGreatZSpn0
import Derived.Test.YtfnhoaemapheoaaGreatZSgD
import Derived.Test.YtfnhoaemapheoaaGreatZEngSl
import Derived.Test.YtfnhoaemapheoaaGreatZMs0
import Derived.Test.YtfnhoaemapheoaaGreatM
import Derived.Test.YtfnhoaemapheoaaGreatFacts
set_option maxRecDepth 100000
namespace Go.Proofs.YtfnhoaemapheoaaGreat
open Go.Eng
def ku (b : Bal) : Value := .agg #[.int .u64 b.n, .int .u64 b.jf]
theorem aoy (x y : Bal) (w : World) : (Op.equalIn 10000 T.c (ku x) (ku y)).run P w = .ok (x.n == y.n && (x.jf == y.jf)) w := by
 have hS : P.underlying T.c = some (.struct (P.fieldsOf T.c)) := by kernel_rfl
 have hp : P.stoodInHeld T.c = false := by kernel_rfl
 unfold ku
 rw [show (10000 : Nat) = 9999 + 1 from rfl, run_equalIn_agg w 9999 T.c _ _ hS hp]
 simp only [Program.fieldsOf, show P.underlying T.c = _ from Tryz.underlying40]
 have u22 : P.underlying T.g = some (.int .u64) := by kernel_rfl
 have a22 : adv P T.g = false := by kernel_rfl
 refine eqF (by decide) a22 rfl rfl (run_equalIn_int w 9998 T.g _ _ _ _ u22) ?_
 have := eqF (fs := []) (d := 9999) (xs := #[.int .u64 x.n, .int .u64 x.jf]) (ys := #[.int .u64 y.n, .int .u64 y.jf]) (f := { name := "Node", type := T.g, offset := 1, embedded := false, tag := "", pkgPath := "", byteOffset := 8 }) (w := w) (c := true) (by decide) a22 rfl rfl (run_equalIn_int w 9998 T.g _ _ _ _ u22) rfl
 simpa using this
theorem bis (x y : Bal) : (x.n == y.n && (x.jf == y.jf)) = decide (x = y) := by
 obtain ⟨a, b⟩ := x
 obtain ⟨a', b'⟩ := y
 simp only [Bal.mk.injEq]
 by_cases h1 : a = a' <;> by_cases h2 : b = b' <;> simp [h1, h2]
theorem vz (rx ry : Operand) (x y : Bal) (w : World) (K : KV) : ib P .eql T.c rx ry (ku x) (ku y) w K = K (.bool (decide (x = y))) w := by
 have hm : P.eqGuardType P.depth T.c = false := by kernel_rfl
 have hg := run_eqGuard_agg (P := P) w .eql T.c rx ry #[.int .u64 x.n, .int .u64 x.jf] #[.int .u64 y.n, .int .u64 y.jf] hm
 have he := aoy x y w
 rw [bis] at he
 unfold ib jn
 unfold ku at he ⊢
 rw [Sem.run_bind, hg]
 simp only [Result.andThen]
 rw [run_eql_struct, he]
 rfl
theorem amf (rx ry : Operand) (x y : Bal) (w : World) (K : KV) : ib P .neq T.c rx ry (ku x) (ku y) w K = K (.bool !(decide (x = y))) w := by
 have hm : P.eqGuardType P.depth T.c = false := by kernel_rfl
 have hg := run_eqGuard_agg (P := P) w .neq T.c rx ry #[.int .u64 x.n, .int .u64 x.jf] #[.int .u64 y.n, .int .u64 y.jf] hm
 have he := aoy x y w
 rw [bis] at he
 unfold ib jn
 unfold ku at he ⊢
 rw [Sem.run_bind, hg]
 simp only [Result.andThen]
 rw [run_neq_struct, he]
 rfl
set_option maxRecDepth 100000
structure pn (w : World) (p : Pk) (ls : List Spn) (lm : List Mem) (lu : List Int) : Prop where
 s : SlS w p.sv ls
 m : SlM w p.mv lm
 u : SlU w p.iv lu
 ls : ls.length ≤ 1000000
 lm : lm.length ≤ 1000000
 lu : lu.length ≤ 1000000
theorem pn.fr {w w' : World} {p : Pk} {ls : List Spn} {lm : List Mem} {lu : List Int} (h : pn w p ls lm lu) (hf : Fz w w') : pn w' p ls lm lu :=
 ⟨h.s.fr hf fun _ _ _ h => h, h.m.fr hf fun _ _ _ h => h, h.u.fr hf fun _ _ _ h => h, h.ls, h.lm, h.lu⟩
theorem pn.one {w : World} {p : Pk} {ls : List Spn} {lm : List Mem} {lu : List Int} (h : pn w p ls lm lu) : (∃ a c, p.sv = .slice a ls.length c) ∧ (∃ a c, p.mv = .slice a lm.length c) ∧ ∃ a c, p.iv = .slice a lu.length c := by
 obtain ⟨a1, c1, h1, _⟩ := h.s
 obtain ⟨a2, c2, h2, _⟩ := h.m
 obtain ⟨a3, c3, h3, _⟩ := h.u
 exact ⟨⟨a1, c1, h1⟩, ⟨a2, c2, h2⟩, a3, c3, h3⟩
theorem aue {w : World} {p : Pk} {ls : List Spn} {lm : List Mem} {lu : List Int} (h : pn w p ls lm lu) (K : KV) : my P T.a (pkA p) w K = K (.pointer (some ⟨w.heap.size, 0, none⟩)) (w.alloc (.cells (pkC p).toArray T.a)) := by
 rw [xj]; rfl
theorem jl {W w : World} {pb : Nat} {p : Pk} {R : List Asn} (S : St W w (ii pb (pkC p).toArray T.a :: R)) : gr w pb 0 = some (.int .i64 p.ie) ∧ gr w pb 1 = some (.int .u64 p.tr) ∧ (∀ K, ldN P 2 pb 2 w K = K (ku p.b) w) ∧ (∀ K, ldN P 2 pb 4 w K = K (ku p.jk) w) ∧ gr w pb 6 = some (.int .i64 p.v) ∧ gr w pb 7 = some (.bool p.ok) ∧ gr w pb 8 = some p.sv ∧ gr w pb 9 = some p.mv ∧ gr w pb 10 = some p.iv ∧ ∀ K, ldN P 11 pb 0 w K = K (pkA p) w := by
 have hh := S.blk
 have hc := fun j u hj => aal hh j u hj
 exact ⟨hc 0 _ rfl, hc 1 _ rfl, fun K => aeb (hc 2 _ rfl) (hc 3 _ rfl) K, fun K => aeb (hc 4 _ rfl) (hc 5 _ rfl) K, hc 6 _ rfl, hc 7 _ rfl, hc 8 _ rfl, hc 9 _ rfl, hc 10 _ rfl, fun K => qy (pkC p) 11 rfl (fun k u hk => by rw [Nat.zero_add]; exact hc k u hk) K⟩
end Go.Proofs.YtfnhoaemapheoaaGreat
set_option maxRecDepth 100000
namespace Go.Proofs.YtfnhoaemapheoaaGreat.Suint64
open Go.Eng Go.Sort
abbrev Rw (w : World) (g : Nat) (e : TypeId) (cap : Nat) (d : Array Int) : Prop := @SG.Rw seU w g e cap d
abbrev Rf (w w' : World) (g : Nat) (e : TypeId) (cap : Nat) (d : Array Int) : Prop := @SG.Rf seU w w' g e cap d
theorem akq {w w' : World} {g : Nat} {e : TypeId} {cap : Nat} {d : Array Int} (h : Rf w w' g e cap d) : Rw w' g e cap d := @SG.Rf.row seU _ _ _ _ _ _ h
theorem aqh {w w' : World} {g : Nat} {e : TypeId} {cap : Nat} {d : Array Int} (h : Rf w w' g e cap d) : Fr (fun b => b = g) w w' := @SG.Rf.fr seU _ _ _ _ _ _ h
abbrev acx (x : Int) : Value := .int .u64 x
abbrev sp (x : Int) : List Value := [.int .u64 x]
abbrev OwN (w : World) (base : Nat) (v : Value) (l : List Int) : Prop := Ow w base T.g 1 sp v l
theorem aur : auc P T.i T.g acx sp 1 8 where
 et := et.i
 by5 := by decide
 ld := fun b i w K => kr
 st := fun b i a n c w K => kr
 bs := fun x w K => kr
 len := fun _ => rfl
 one := fun _ u hu => by simp at hu; subst hu; rfl
 ne := by decide
theorem afw {g : FuncId} {gn : Func} (hg : P.funcs[g]? = some gn) (hgn : (gn.name == "runtime.NumGoroutine") = false) (hgb : gn.body.isNone = false) {cap : List Value} {w : World} {Out : List Int → Prop} (hs : afv P g cap acx Out 60000 w) {K : KV}
  (h : ∀ w' v xs, Out xs → OwN w' w.heap.size v xs → Fz w w' → K v w') : kg P F.cl [.func (.func g) #[] cap.toArray] w K := by
 apply M.cj.calls
 unfold M.cj
 have hf : ∀ (args : List Value) (w : World) (K : KV), gi P F.n args w K = kg P F.n args w K := fun args w K => ado FN.n.at (by kernel_rfl) (by kernel_rfl) args w K
 rw [hf]
 exact acr (tQ := T.bk) (aru aur) aur.ld FN.n.at (by kernel_rfl) (by kernel_rfl) (by kernel_rfl) hg hgn hgb hs h
theorem Ow.rw {w : World} {base g n cap : Nat} {l : List Int} (h : OwN w base (.slice (some ⟨g, 0, none⟩) n cap) l) : n = l.length ∧ base ≤ g ∧ cap ≤ maxLen ∧ Rw w g T.g cap l.toArray := by
 rcases h.2 with ⟨h0, _⟩ | ⟨g', cap', cur, hv, hb, hc, h1, h2, h3, h4⟩
 ·cases h0
 ·injection hv with q1 q2 q3
  injection q1 with q1
  injection q1 with q1
  subst q1 q2 q3
  refine ⟨rfl, hb, h2, cur, hc, by simpa using h3, by simpa using h1, fun j hj => ?_⟩
  show cur[j]? = some (.int .u64 l.toArray[j]!)
  have hj' : j < l.length := by simpa using hj
  have h5 : (cur.toList.take (l.length * 1))[j]? = (l.flatMap sp)[j]? := by rw [h4]
  rw [List.getElem?_take_of_lt (by omega)] at h5
  have h6 : (l.flatMap sp)[j]? = some (.int .u64 l[j]) := by
   have := zk (enc := sp) (sz := 1) (fun _ => rfl) l j l[j] 0 (.int .u64 l[j]) (List.getElem?_eq_getElem hj') rfl
   simpa using this
  rw [h6] at h5
  simpa [hj'] using h5
theorem aaa : ∀ l : List Int, l.flatMap sp = l.map acx
 | [] => rfl
 | x :: l => by rw [List.flatMap_cons, aaa l]; rfl
theorem aqc {w : World} {base g cap : Nat} {l : List Int} (hb : base ≤ g) (hm : cap ≤ maxLen) (h : Rw w g T.g cap l.toArray) : OwN w base (.slice (some ⟨g, 0, none⟩) l.length cap) l := by
 obtain ⟨cur, h1, h2, h3, h4'⟩ := h
 have h4 : ∀ j, j < l.toArray.size → cur[j]? = some (.int .u64 l.toArray[j]!) := h4'
 refine ⟨by rw [aaa]; simp, .inr ⟨g, cap, cur, rfl, hb, h1, by simpa using h3, hm, by simpa using h2, ?_⟩⟩
 rw [aaa]
 apply List.ext_getElem?
 intro j
 by_cases hj : j < l.length
 ·rw [List.getElem?_take_of_lt (by omega)]
  have := h4 j (by simpa using hj)
  simp [hj] at this ⊢
  exact this
 ·rw [List.getElem?_take_eq_none (by omega), List.getElem?_eq_none (by simp; omega)]
theorem yo {w : World} {K : KV} (h : K (.tuple #[]) w) : kg P F.d [.slice none 0 0] w K := @SG.yo seU w K h
theorem aaf {w : World} {g cap n : Nat} {e : TypeId} {d : Array Int} (H : Rw w g e cap d) (hn : d.size = n) (h6 : n < 60000) {K : KV}
  (h : ∀ w', Rf w w' g e cap (d.toList.mergeSort fun x y => decide (x ≤ y)).toArray → K (.tuple #[]) w') : kg P F.d [.slice (some ⟨g, 0, none⟩) n cap] w K := @SG.aaf seU w g cap n e d H hn h6 K h
def mw (l : List Int) : List Int := l.mergeSort fun x y => decide (x ≤ y)
theorem nu (l : List Int) : (mw l).Perm l := List.mergeSort_perm ..
theorem vg {l l' : List Int} (h : l.Perm l') : mw l = mw l' := by
 unfold mw
 have hs : ∀ l : List Int, (l.mergeSort fun x y => decide (x ≤ y)).Pairwise fun a b => decide (a ≤ b) = true := fun l => List.pairwise_mergeSort (fun a b c h1 h2 => by simp at *; omega) (fun a b => by simp; omega) l
 exact List.Perm.eq_of_pairwise (fun a b _ _ h1 h2 => by simp at h1 h2; omega) (hs l) (hs l') (((List.mergeSort_perm ..).trans h).trans (List.mergeSort_perm ..).symm)
theorem aie {g : FuncId} {gn : Func} (hg : P.funcs[g]? = some gn) (hgn : (gn.name == "runtime.NumGoroutine") = false) (hgb : gn.body.isNone = false) {cap : List Value} {w : World} {ks : List Int} (hk : ks.length < 60000) (hs : afv P g cap acx (fun xs => xs.Perm ks) 60000 w) {K : KV}
  (h : ∀ w' v, OwN w' w.heap.size v (mw ks) → Fz w w' → K v w') : kg P F.bo [.func (.func g) #[] cap.toArray] w K := by
 apply M.co.calls
 unfold M.co
 rw [M.cj.fcall]
 refine afw hg hgn hgb hs fun w1 v xs hx o1 f1 => ?_
 rw [M.en.fcall]
 have hlen := hx.length_eq
 rcases o1.2 with ⟨rfl, h0⟩ | ⟨g1, cap1, cur, rfl, hb1, _⟩
 ·refine yo ?_
  have hx0 : xs = [] := List.length_eq_zero_iff.1 h0
  have hk0 : ks = [] := List.length_eq_zero_iff.1 (by rw [← hlen, hx0]; rfl)
  refine h w1 _ ?_ f1
  subst hk0
  rw [show mw [] = [] from by simp [mw]]
  exact Ow.none
 ·obtain ⟨_, hbg, hcm, hrw⟩ := Ow.rw o1
  refine aaf hrw (by simp) (by omega) fun w2 H2 => ?_
  have hp : mw xs = mw ks := vg hx
  have hl : (mw xs).length = xs.length := (nu xs).length_eq
  refine h w2 _ ?_ (f1.mu (aqh H2) fun b hb he => by omega)
  rw [← hp]
  have := aqc (base := w.heap.size) (l := mw xs) hbg hcm (akq H2)
  rw [hl] at this
  exact this
end Go.Proofs.YtfnhoaemapheoaaGreat.Suint64
set_option maxRecDepth 100000
namespace Go.Proofs.YtfnhoaemapheoaaGreat.KeyV
open Go.Eng Go.Sort Go.Proofs.YtfnhoaemapheoaaGreat.Suint64
end Go.Proofs.YtfnhoaemapheoaaGreat.KeyV
set_option maxRecDepth 100000
namespace Go.Proofs.YtfnhoaemapheoaaGreat.CM
open Go.Eng
end Go.Proofs.YtfnhoaemapheoaaGreat.CM
set_option maxRecDepth 100000
namespace Go.Proofs.YtfnhoaemapheoaaGreat
open Go.Eng
set_option maxRecDepth 100000
section
variable {w0 w : World} {R : List Asn} {r : Nat} {A L : List Mem} {tv : Value}
theorem sj {m : MP} (S : St w0 w (jq r .u64 m :: R)) : pg w r .u64 m ∧ (jz m).Nodup := by
 obtain ⟨B, h1, _⟩ := S.open
 exact h1.1
theorem ase {m : MP} (S : St w0 w (jq r .u64 m :: R)) {o : Obj} {k : Int} {v : Value} (h : pg (World.setObj w r o) r .u64 (sw m k v)) : St w0 (World.setObj w r o) (jq r .u64 (sw m k v) :: R) := by
 obtain ⟨B, ⟨k1, k2⟩, hB, cl⟩ := S.open
 refine cl (World.setObj w r o) [jq r .u64 (sw m k v)] ((Fr.refl B w).setObj (.inl k2) o) (Rs.one (B := B) ⟨⟨h, ?_⟩, k2⟩ fun b hb => .inl hb)
 rw [alo]
 split
 ·exact k1.2
 ·rename_i hx
  rw [List.nodup_append]
  exact ⟨k1.2, by simp, fun a ha b hb' hab => by
   simp at hb'
   exact hx (by rw [← hb', ← hab]; exact ha)⟩
end
section
variable {w0 w : World} {R : List Asn} {r : Nat} {A L : List Mem} {tv : Value}
end
def rn (l : List Mem) (i : Nat) : Int := match i with
 | 0 => 0
 | i + 1 => (l[i]?.map Mem.id).getD 0
def MbI (W : World) (l : List Mem) : KL := fun x w1 => ∃ (u : Value) (i : Nat), x = [u, .int .i64 (i : Nat)] ∧ i ≤ l.length ∧ (sx 0 l && !(l.any qn)) = (sx (rn l i) (l.drop i) && !((l.drop i).any qn)) ∧ Fz W w1
theorem apq {w : World} {v : Value} {l : List Mem} (hs : SlM w v l) (hlen : l.length ≤ 1000000) (hid : ∀ m ∈ l, 0 ≤ m.id) {K : KV} (h : ∀ w', Fz w w' → K (.bool (zg l)) w') : gi P F.cx [v] w K := by
 rw [M.au.fcall]
 apply M.au.calls
 unfold M.au
 rw [gp]
 refine ⟨MbI w l, fun x _ => l.length - ms x 1, ⟨_, 0, rfl, Nat.zero_le _, rfl, Fr.refl _ _⟩, ?_⟩
 rintro x w1 ⟨u, i, rfl, hi, hr, f1⟩
 have q0 : gv [u, .int .i64 (i : Nat)] 0 = u := rfl
 have q1 : gv [u, .int .i64 (i : Nat)] 1 = .int .i64 (i : Nat) := rfl
 have hs1 := hs.fr f1 fun _ _ _ h => h
 simp only [gp, q1]
 rw [hs1.iy (by kernel_rfl)]
 have hmr : zg l = ((sx 0 l && !(l.any qn)) && (decide (0 < l.length) && decide (l.length ≤ 16))) := by
  unfold zg
  cases sx 0 l <;> cases l.any qn <;> simp
 by_cases hil : i < l.length
 ·have hil' : (i : Int) < l.length := by omega
  simp [hil']
  unfold M.au.j2
  obtain ⟨b, o, cap, hv, hb, _, hc⟩ := hs1.at hil
  have hld : ∀ K, ldN P 3 b (o + i * 3) w1 K = K (rj l[i]) w1 := fun K => ldM hc K
  have hwi : IntKind.i64.wrap ((i : Int) + 1) = ((i + 1 : Nat) : Int) := by rw [ia]; rfl
  have hdrop : l.drop i = l[i] :: l.drop (i + 1) := List.drop_eq_getElem_cons hil
  have hlast : rn l (i + 1) = l[i].id := by unfold rn; simp [List.getElem?_eq_getElem hil]
  have hm0 := hid _ (List.getElem_mem hil)
  -- the one ahead
  have hprev : 0 < i → ∃ p, l[i - 1]? = some p ∧ rn l i = p.id ∧ ∀ j u, (acq p)[j]? = some u → gr w1 b (o + (i - 1) * 3 + j) = some u := fun h0 => by
   have hp : i - 1 < l.length := by omega
   obtain ⟨b', o', cap', hv', _, _, hc'⟩ := hs1.at hp
   have hvv := hv.symm.trans hv'
   injection hvv with ha1 _ _
   injection ha1 with ha1
   injection ha1 with ha4 ha5
   subst ha4 ha5
   refine ⟨l[i - 1], List.getElem?_eq_getElem hp, ?_, hc'⟩
   obtain ⟨k, rfl⟩ : ∃ k, i = k + 1 := ⟨i - 1, by omega⟩
   have hp' : k < l.length := by omega
   show (l[k]?.map Mem.id).getD 0 = _
   rw [List.getElem?_eq_getElem hp']; rfl
  rw [hdrop] at hr
  have hcons : (sx (rn l i) (l[i] :: l.drop (i + 1)) && !((l[i] :: l.drop (i + 1)).any qn)) = ((decide (rn l i < l[i].id) && !(qn l[i])) && (sx (rn l (i + 1)) (l.drop (i + 1)) && !((l.drop (i + 1)).any qn))) := by
   rw [List.any_cons, hlast]
   show ((decide (rn l i < l[i].id) && sx l[i].id (l.drop (i + 1))) && _) = _
   cases decide (rn l i < l[i].id) <;> cases sx l[i].id (l.drop (i + 1)) <;> cases qn l[i] <;> simp
  rw [hcons] at hr
  generalize hm : l[i] = m at *
  subst hv
  simp [q0, q1, hil, hld]
  rw [show rj m = .agg #[.int .u64 m.id, .int .u64 m.inc, .int .i64 m.st] from rfl]
  simp
  have hba : (w1.alloc (.cells #[.int .u64 0, .int .u64 0, .int .i64 0] T.q)).heap[w1.heap.size]? = some (.cells #[.int .u64 0, .int .u64 0, .int .i64 0] T.q (0, 0)) := by rw [iq, if_pos rfl]
  refine ke (vs := [.int .u64 m.id, .int .u64 m.inc, .int .i64 m.st]) hba rfl (by simp) fun w2 b2 f2 => ?_
  have f2' : Fz w1 w2 := ((Fr.refl _ w1).alloc _).mu f2 fun y hy he => by subst he; omega
  have c0 : gr w2 w1.heap.size 0 = some (.int .u64 m.id) := by rw [gt b2]; rfl
  have c1 : gr w2 w1.heap.size 1 = some (.int .u64 m.inc) := by rw [gt b2]; rfl
  have c2 : gr w2 w1.heap.size 2 = some (.int .i64 m.st) := by rw [gt b2]; rfl
  have fin : Fz w (Eng.dr w2 1) := (f1.trans f2').dr 1
  have no : (decide (rn l i < m.id) && !(qn m)) = false → K (.bool false) (Eng.dr w2 1) := fun hx => by
   rw [hx, Bool.false_and] at hr
   have := h (Eng.dr w2 1) fin
   rw [hmr, hr] at this
   simpa using this
  have yes : (decide (rn l i < m.id) && !(qn m)) = true → MbI w l [u, .int .i64 ((i + 1 : Nat) : Int)] (Eng.dr w2 1) ∧ l.length - ms [u, .int .i64 ((i + 1 : Nat) : Int)] 1 < l.length - ms [u, .int .i64 (i : Nat)] 1 := fun hx => by
   rw [hx, Bool.true_and] at hr
   exact ⟨⟨_, i + 1, rfl, by omega, hr, fin⟩, by simp [ms, gv]; omega⟩
  by_cases e0 : m.id = 0
  ·have hb0 : (decide (rn l i < m.id) && !(qn m)) = false := by
    have : ¬ rn l i < m.id := by
     have : 0 ≤ rn l i := by
      by_cases h0 : 0 < i
      ·obtain ⟨p, hp, hpl, _⟩ := hprev h0
       rw [hpl]; exact hid p (List.mem_of_getElem? hp)
      ·have : i = 0 := by omega
       subst this; exact Int.le_refl _
     omega
    rw [decide_eq_false this, Bool.false_and]
   simp [c0, e0]
   exact no hb0
  by_cases e1 : m.inc = 0
  ·have hb0 : (decide (rn l i < m.id) && !(qn m)) = false := by
    unfold qn; simp [e1]
   simp [c0, c1, e0, e1]
   exact no hb0
  by_cases e2 : m.st < 0
  ·have hb0 : (decide (rn l i < m.id) && !(qn m)) = false := by
    unfold qn; simp [e2]
   simp [c0, c1, c2, e0, e1, e2]
   exact no hb0
  by_cases e3 : 2 < m.st
  ·have hb0 : (decide (rn l i < m.id) && !(qn m)) = false := by
    unfold qn; simp [e3]
   simp [c0, c1, c2, e0, e1, e2, e3]
   exact no hb0
  have hodd : qn m = false := by unfold qn; simp [e1, e2, e3]
  by_cases e4 : 0 < i
  ·obtain ⟨p, hp, hpl, hpc⟩ := hprev e4
   have cp := hpc 0 _ rfl
   simp only [Nat.add_zero] at cp
   have cp2 : gr w2 b (o + (i - 1) * 3) = some (.int .u64 p.id) := by rw [wd (f2'.jy b hb fun h => h)]; exact cp
   have e4' : (0 : Int) < i := by omega
   have hsub : IntKind.i64.wrap ((i : Int) - 1) = ((i - 1 : Nat) : Int) := by rw [ia]; omega
   have hi1 : i - 1 < l.length := by omega
   have hi1' : ((i - 1 : Nat) : Int) < l.length := by omega
   by_cases e5 : m.id ≤ p.id
   ·have hb0 : (decide (rn l i < m.id) && !(qn m)) = false := by
     rw [hpl, decide_eq_false (by omega), Bool.false_and]
    simp [c0, c1, c2, e0, e1, e2, e3, e4, hsub, hi1, cp2, e5]
    exact no hb0
   ·have hb0 : (decide (rn l i < m.id) && !(qn m)) = true := by
     rw [hpl, decide_eq_true (by omega), hodd]; rfl
    simp [c0, c1, c2, e0, e1, e2, e3, e4, hsub, hi1, cp2, e5, hwi]
    exact yes hb0
  ·have hi0 : i = 0 := by omega
   have hb0 : (decide (rn l i < m.id) && !(qn m)) = true := by
    have : rn l i < m.id := by rw [hi0]; show 0 < m.id; omega
    rw [decide_eq_true this, hodd]; rfl
   simp [c0, c1, c2, e0, e1, e2, e3, e4, hwi]
   exact yes hb0
 ·have hil' : ¬ (i : Int) < l.length := by omega
  simp [hil']
  unfold M.au.j0
  rw [List.drop_of_length_le (by omega)] at hr
  have hr' : (sx 0 l && !(l.any qn)) = true := by rw [hr]; rfl
  rw [hmr, hr', Bool.true_and] at h
  rw [hs1.iy (by kernel_rfl)]
  have hx : decide ((l.length : Int) ≤ 16) = decide (l.length ≤ 16) := by
   by_cases h16 : l.length ≤ 16
   ·rw [decide_eq_true h16, decide_eq_true (by omega)]
   ·rw [decide_eq_false h16, decide_eq_false (by omega)]
  by_cases h0 : 0 < l.length
  ·have h0' : (1 : Int) ≤ l.length := by omega
   simp [h0']
   rw [hs1.iy (by kernel_rfl)]
   simp
   rw [hx]
   have := h w1 f1
   simpa [h0] using this
  ·have h0' : ¬ (1 : Int) ≤ l.length := by omega
   simp [h0']
   have := h w1 f1
   simpa [h0] using this
structure Nd where
 id : Int
 byb : Int
 bza : Int
 now : Int
 due : Int
 left : Bool
 v : List Mem
 h : MP
section
variable {n : Nd} {frm now pick : Int} {l : List Mem}
end
section
variable {w0 w : World} {R : List Asn}
end
section
variable {w0 w : World} {R : List Asn} {p r : Nat} {v : Value} {n : Nd}
end
section
variable {w0 w : World} {R : List Asn}
end
section
variable {w0 w : World} {R : List Asn} {p r : Nat} {v : Value} {n : Nd}
end
def sm (tr : Int) : List Int → List Spn → Bool
 | _, [] => true
 | met, s :: r => (decide (ll s = 0) && (decide (s.iw = tr) && !(decide (s.id ∈ met)))) && sm tr (met ++ [s.id]) r
def qz (tr : Int) (l : List Spn) : Bool := sm tr [] l && (decide (0 < l.length) && decide (l.length ≤ 16))
theorem aid {tr : Int} {met : List Int} {s : Spn} {r : List Spn} (h : ¬ (ll s = 0 ∧ s.iw = tr ∧ s.id ∉ met)) : sm tr met (s :: r) = false := by
 rw [sm]
 by_cases h1 : ll s = 0 <;> by_cases h2 : s.iw = tr <;> by_cases h3 : s.id ∈ met <;> simp_all
theorem aao {tr : Int} {met : List Int} {s : Spn} {r : List Spn} (h1 : ll s = 0) (h2 : s.iw = tr) (h3 : s.id ∉ met) : sm tr met (s :: r) = sm tr (met ++ [s.id]) r := by
 rw [sm]; simp [h1, h2, h3]
def MsI (W : World) (mb : Nat) (tr : Int) (l : List Spn) : KL := fun x w1 => ∃ (u0 u1 : Value) (i : Nat) (m : MP), x = [u0, u1, .int .i64 (i : Nat)] ∧ i ≤ l.length ∧ St W w1 (jq mb .u64 m :: []) ∧ (∀ k, ly m k = if k ∈ (l.take i).map Spn.id then some (.bool true) else none) ∧ sm tr [] l = sm tr ((l.take i).map Spn.id) (l.drop i)
theorem aox {w : World} {v : Value} {l : List Spn} {tr : Int} (hs : SlS w v l) (hlen : l.length ≤ 1000000) {K : KV} (h : ∀ w', Fz w w' → K (.bool (qz tr l)) w') : gi P F.ef [.int .u64 tr, v] w K := by
 rw [M.bv.fcall]
 apply M.bv.calls
 unfold M.bv
 rw [alb]
 have hlv : ∀ w' K, biT P .len #[T.d] T.b [false] [v] w' K = K (.int .i64 l.length) w' := fun w' K => hs.iy (by kernel_rfl) [false]
 have S0 : St w (w.alloc (.map #[] 0)) (jq w.heap.size .u64 [] :: []) := (St.jp w).add ((Fr.refl _ w).alloc _) (B := fun x => x = w.heap.size) ⟨⟨ahl w .u64, by simp [jz]⟩, rfl⟩ fun x hx => by subst hx; rw [ju]; omega
 generalize w.alloc (.map #[] 0) = w1 at *
 generalize w.heap.size = mb at *
 simp [hlv]
 refine ⟨MsI w mb tr l, fun x _ => l.length - ms x 2, ⟨_, _, 0, [], rfl, Nat.zero_le _, S0, fun k => by simp [ly], rfl⟩, ?_⟩
 rintro x w2 ⟨u0, u1, i, m, rfl, hi, S2, hm, hg⟩
 by_cases hil : i < l.length
 ·have hili : (i : Int) < (l.length : Int) := by omega
  simp [hil]
  unfold M.bv.j2
  have hs2 : SlS w2 v l := hs.fr S2.fr fun _ _ _ h => h
  obtain ⟨b, o, cap, hv, _, _, hc⟩ := hs2.at hil
  have hia : ∀ w' K, iaT P T.d v (.int .i64 (i : Nat)) w' K = K (.pointer (some ⟨b, o + i * 8, none⟩)) w' := fun w' K => by rw [hv]; simp [hil]
  have hld : ∀ K, ldN P 8 b (o + i * 8) w2 K = K (km l[i]) w2 := fun K => ldS (fun k u hk => hc k u hk) K
  have hdrop : l.drop i = l[i] :: l.drop (i + 1) := List.drop_eq_getElem_cons hil
  rw [hdrop] at hg
  have htk : (l.take (i + 1)).map Spn.id = (l.take i).map Spn.id ++ [l[i].id] := by rw [List.take_succ_eq_append_getElem hil, List.map_append]; rfl
  generalize l[i] = s at *
  simp [hia, hld]
  unfold km
  simp
  have S3 : St w (w2.alloc (.cells #[.int .u64 0, .int .u64 0, .int .u64 0, .int .u64 0, .int .u64 0, .string ⟨#[]⟩, .string ⟨#[]⟩, .bool false] T.e)) (ii w2.heap.size #[.int .u64 0, .int .u64 0, .int .u64 0, .int .u64 0, .int .u64 0, .string ⟨#[]⟩, .string ⟨#[]⟩, .bool false] T.e :: jq mb .u64 m :: []) := S2.add ((Fr.refl _ w2).alloc _) (B := fun x => x = w2.heap.size) ⟨by rw [iq, if_pos rfl], rfl⟩ fun x hx => by subst hx; rw [ju]; omega
  generalize w2.heap.size = sb at *
  refine ke (vs := ir s) S3.blk rfl (oh s) fun w4 b4 f4 => ?_
  have S4 : St w w4 (ii sb (ir s).toArray T.e :: jq mb .u64 m :: []) := S3.nb f4 b4
  have spC : ∀ {W : World}, St w W (ii sb (ir s).toArray T.e :: jq mb .u64 m :: []) → gr W sb 0 = some (.int .u64 s.iw) ∧ gr W sb 1 = some (.int .u64 s.id) ∧ ∀ K, ldN P 8 sb 0 W K = K (km s) W := fun {W} S' => by
   have hh : asx W sb s := S'.blk
   exact ⟨xn hh 0 _ rfl, xn hh 1 _ rfl, fun K => ldS (fun k v hk => by rw [Nat.zero_add]; exact xn hh k v hk) K⟩
  obtain ⟨_, _, sl⟩ := spC S4
  simp [sl]
  rw [M.cx.fcall]
  refine ajr s fun w5 f5 => ?_
  have S5 := S4.jo f5
  obtain ⟨s0, s1, _⟩ := spC S5
  have bad : ¬ (ll s = 0 ∧ s.iw = tr ∧ s.id ∉ (l.take i).map Spn.id) → K (.bool false) w5 := fun hb => by
   have := h w5 S5.fr
   unfold qz at this
   rw [hg, aid hb] at this
   simpa using this
  have hmap := (sj S5.swap).1
  have hw : IntKind.i64.wrap ((i : Int) + 1) = ((i + 1 : Nat) : Int) := by rw [ia]; omega
  by_cases h1 : ll s = 0
  case neg =>
   simp [h1]
   exact bad fun hh => h1 hh.1
  by_cases h2 : s.iw = tr
  case neg =>
   simp [h1, s0, h2]
   exact bad fun hh => h2 hh.2.1
  have hmk := hm s.id
  by_cases h3 : s.id ∈ (l.take i).map Spn.id
  ·rw [if_pos h3] at hmk
   simp [h1, s0, h2, s1, aaj mt.aw hmap, hmk]
   exact bad fun hh => hh.2.2 h3
  ·rw [if_neg h3] at hmk
   simp [h1, s0, h2, s1, aaj mt.aw hmap, hmk]
   refine aqg mt.aw hmap s.id _ _ fun ob hob => ?_
   have S6 := ase S5.swap hob
   rw [hw]
   refine ⟨⟨_, _, i + 1, _, rfl, hil, (S6.swap).drop, fun k => ?_, ?_⟩, by simp [ms, gv]; omega⟩
   ·rw [ahm, hm k, htk]
    by_cases hk : s.id = k
    ·subst hk; simp
    ·have hk' : ¬ k = s.id := fun e => hk e.symm
     simp [hk, hk']
   ·rw [hg, aao h1 h2 h3, htk]
 ·have hili : ¬ (i : Int) < (l.length : Int) := by omega
  simp [hil]
  unfold M.bv.j0
  rw [List.drop_of_length_le (by omega)] at hg
  have fin := h w2 S2.fr
  unfold qz at fin
  rw [hg, sm] at fin
  by_cases h1 : 0 < l.length
  ·have h1i : (0 : Int) < (l.length : Int) := by omega
   by_cases h2 : l.length ≤ 16
   ·have h2i : (l.length : Int) ≤ 16 := by omega
    simp [hlv, h1]
    try rw [hlv]
    simp [h2i]
    simpa [h1, h2] using fin
   ·have h2i : ¬ (l.length : Int) ≤ 16 := by omega
    simp [hlv, h1]
    try rw [hlv]
    simp [h2i]
    simpa [h1, h2] using fin
  ·have h1i : ¬ (0 : Int) < (l.length : Int) := by omega
   simp [hlv, h1i]
   simpa [h1] using fin
theorem ahd {w : World} {v : Value} {l : List Int} (hs : SlU w v l) (hlen : l.length ≤ 1000000) {K : KV} (h : ∀ w' v', SlU w' v' l → (∀ x, v'.ownBlock = some x → w.heap.size ≤ x) → Fz w w' → K v' w') : gi P F.bi [v] w K := by
 rw [M.bn.fcall]
 apply M.bn.calls
 unfold M.bn
 simp only [gp]
 have hs' := hs
 obtain ⟨a, cap, rfl, _⟩ := hs'
 cases a with
 | none =>
  simp
  have hz : l = [] := by
   obtain ⟨a', cap', hv, _, _, h3⟩ := hs
   cases l with
   | nil => rfl
   | cons x l =>
    obtain ⟨b, o, ha, _⟩ := h3 0 x rfl
    injection hv with h1 _ _
    rw [← h1] at ha; cases ha
  subst hz
  exact h w _ Sl.nil (fun x hx => by simp [Value.ownBlock] at hx) (Fr.refl _ _)
 | some a =>
  simp
  have f0 : Fz w (w.alloc (.cells #[] T.g)) := (Fr.refl _ w).alloc _
  refine ww et.i vq ath (base := w.heap.size) (Ow.empty (by rw [iq, if_pos rfl]) (Nat.le_refl _)) (hs.fr f0 fun _ _ _ h => h) (by simp; omega) (by decide) (by simp) _ fun v3 w3 o3 f3 g3 => ?_
  rw [List.nil_append] at o3
  exact h w3 v3 (o3.sl vq) (fun x hx => (o3.lt hx).1) (f0.mu f3 fun b hb hv => by simp [Value.ownBlock] at hv; omega)
inductive ThR (w : World) (p : Pk) (ls : List Spn) (lm : List Mem) (lu : List Int) : Value → Prop
 | nq (v : Value) : (p.ie = 1 ∨ p.ie = 2) → SlS w v ls → ThR w p ls lm lu (.iface T.r (.agg #[.int .u64 p.tr, .bool (decide (p.ie = 2)), v]))
 | ahc (v : Value) : p.ie = 3 → SlM w v lm → ThR w p ls lm lu (.iface T.t (.agg #[v]))
 | ask : (p.ie = 4 ∨ p.ie = 6) → ThR w p ls lm lu (ano p.tr p.b p.v)
 | zj : (p.ie = 5 ∨ p.ie = 7) → ThR w p ls lm lu (.iface T.m (.agg #[.int .u64 p.tr, .int .u64 p.b.n, .int .u64 p.b.jf, .bool p.ok, .int .u64 p.jk.n, .int .u64 p.jk.jf, .int .i64 p.v, .bool (decide (p.ie = 7))]))
 | ur : p.ie = 8 → ThR w p ls lm lu (.iface T.z (.agg #[.int .u64 p.tr, .int .i64 p.v]))
 | xg (v : Value) : p.ie = 9 → SlS w v ls → ThR w p ls lm lu (.iface T.h (.agg #[.int .u64 p.tr, .int .u64 p.b.n, .int .u64 p.b.jf, v]))
 | zy (v : Value) : p.ie = 10 → SlU w v lu → ThR w p ls lm lu (.iface T.n (.agg #[.int .u64 p.tr, v]))
 | none : ¬ (1 ≤ p.ie ∧ p.ie ≤ 10) → ThR w p ls lm lu .nilIface
def akh (w : World) (t : Value) : Prop := ∀ a b c v, t = .iface T.h (.agg #[a, b, c, v]) → ∀ g, v.ownBlock = some g → w.heap.size ≤ g
theorem akh.mono {w w' : World} {t : Value} (h : akh w' t) (hs : w.heap.size ≤ w'.heap.size) : akh w t := fun a b c v he g hg => Nat.le_trans hs (h a b c v he g hg)
theorem acb {w : World} {e : TypeId} {x : Value} (h : e ≠ T.h) : akh w (.iface e x) := fun a b c v he => by
 injection he with h1 _
 exact absurd h1 h
theorem apd {w : World} {p : Pk} {ls : List Spn} {lm : List Mem} {lu : List Int} (hp : pn w p ls lm lu) {K : KV} (h : ∀ w' t, ThR w' p ls lm lu t → akh w t → Fz w w' → K t w') : gi P F.da [pkA p] w K := by
 by_cases ha : p.ie = 4 ∨ p.ie = 6
 ·exact avk ha fun w' f => h w' _ (.ask ha) (acb (by decide)) f
 rw [M.v.fcall]
 apply M.v.calls
 unfold M.v
 rw [aue hp]
 have S1 : St w (w.alloc (.cells (pkC p).toArray T.a)) (ii w.heap.size (pkC p).toArray T.a :: []) := (St.jp w).add ((Fr.refl _ w).alloc _) (B := fun x => x = w.heap.size) ⟨by rw [iq, if_pos rfl], rfl⟩ fun x hx => by subst hx; rw [ju]; omega
 generalize w.alloc (.cells (pkC p).toArray T.a) = w1 at *
 generalize w.heap.size = pb at *
 have f1 := S1.fr
 have hp1 := hp.fr f1
 have fd : Fz w1 (dr w1 1) := (Fr.refl _ w1).dr 1
 have hpd := hp1.fr fd
 have Sd := S1.jo fd
 obtain ⟨_, _, e2, _⟩ := jl Sd
 obtain ⟨c0, c1, c2, c4, c6, c7, c8, c9, c10, _⟩ := jl S1
 obtain ⟨⟨a1, k1, h1⟩, ⟨a2, k2, h2⟩, a3, k3, h3⟩ := hp.one
 have n4 : ¬ p.ie = 4 := fun h => ha (.inl h)
 have n6 : ¬ p.ie = 6 := fun h => ha (.inr h)
 by_cases q1 : p.ie = 1 ∨ p.ie = 2
 ·have fin : ∀ d : Bool, d = decide (p.ie = 2) → ∀ w2 v2, SlS w2 v2 ls → Fz (dr w1 1) w2 → K (.iface T.r (.agg #[.int .u64 p.tr, .bool d, v2])) w2 := fun d hd w2 v2 s2 f2 => by
   subst hd
   exact h w2 _ (.nq v2 q1 s2) (acb (by decide)) (f1.trans (fd.trans f2))
  have c8' := c8
  rw [h1] at c8'
  rcases q1 with q | q
  ·simp [c0, q]
   unfold M.v.j1
   simp [c1, c0, q, c8']
   rw [← h1, M.j.fcall]
   refine aco hpd.s hpd.ls fun w2 v2 s2 _ f2 => ?_
   obtain ⟨a, c, hv, _⟩ := id s2
   have fin' := fin false (by simp [q]) w2 v2 s2 f2
   have S2 := Sd.jo f2
   obtain ⟨d0, d1, _⟩ := jl S2
   rw [hv] at fin' ⊢
   simp [d0, d1, q]
   exact fin'
  ·simp [c0, q]
   unfold M.v.j1
   simp [c1, c0, q, c8']
   rw [← h1, M.j.fcall]
   refine aco hpd.s hpd.ls fun w2 v2 s2 _ f2 => ?_
   obtain ⟨a, c, hv, _⟩ := id s2
   have fin' := fin true (by simp [q]) w2 v2 s2 f2
   have S2 := Sd.jo f2
   obtain ⟨d0, d1, _⟩ := jl S2
   rw [hv] at fin' ⊢
   simp [d0, d1, q]
   exact fin'
 have n1 : ¬ p.ie = 1 := fun h => q1 (.inl h)
 have n2 : ¬ p.ie = 2 := fun h => q1 (.inr h)
 simp [c0, n1, n2]
 unfold M.v.j1
 by_cases q3 : p.ie = 3
 ·have c9' := c9
  rw [h2] at c9'
  simp [q3, c9']
  rw [← h2]
  refine aon hp1.m hp1.lm fun w2 v2 s2 _ f2 => ?_
  obtain ⟨a, c, hv, _⟩ := id s2
  have fin := h w2 _ (.ahc v2 q3 s2) (acb (by decide)) (f1.trans f2)
  rw [hv] at fin ⊢
  simp
  exact fin
 simp [q3, n4, n6]
 unfold M.v.j2
 by_cases q5 : p.ie = 5 ∨ p.ie = 7
 ·have fin := h w1 _ (.zj (ls := ls) (lm := lm) (lu := lu) q5) (acb (by decide)) f1
  unfold ku at c2 c4
  rcases q5 with q | q
  ·simp [q]
   unfold M.v.j3
   simp [c0, c1, c2, c4, c6, c7, q]
   simp [q] at fin
   exact fin
  ·simp [q]
   unfold M.v.j3
   simp [c0, c1, c2, c4, c6, c7, q]
   simp [q] at fin
   exact fin
 have n5 : ¬ p.ie = 5 := fun h => q5 (.inl h)
 have n7 : ¬ p.ie = 7 := fun h => q5 (.inr h)
 simp [n5, n7]
 unfold M.v.j3
 by_cases q8 : p.ie = 8
 ·simp [q8, c1, c6]
  exact h w1 _ (.ur q8) (acb (by decide)) f1
 by_cases q9 : p.ie = 9
 ·have c8' := c8
  rw [h1] at c8'
  unfold ku at c2 e2
  simp [q9, c1, c2, e2, c8']
  rw [← h1, M.j.fcall]
  refine aco hpd.s hpd.ls fun w2 v2 s2 n2 f2 => ?_
  obtain ⟨a, c, hv, _⟩ := id s2
  have hown : akh w (.iface T.h (.agg #[.int .u64 p.tr, .int .u64 p.b.n, .int .u64 p.b.jf, v2])) := fun a b c v he g hg => by
   injection he with _ h2
   injection h2 with h2
   have h3 := congrArg (fun x : Array Value => x[3]?) h2
   simp at h3
   rw [← h3] at hg
   have := (n2 g hg).1
   have := (f1.trans fd).size
   omega
  have fin := h w2 _ (.xg v2 q9 s2) hown (f1.trans (fd.trans f2))
  have S2 := Sd.jo f2
  obtain ⟨_, d1, d2, _⟩ := jl S2
  unfold ku at d2
  rw [hv] at fin ⊢
  simp [d1, d2]
  exact fin
 by_cases q10 : p.ie = 10
 ·have c10' := c10
  rw [h3] at c10'
  simp [q10, c1, c10']
  rw [← h3]
  refine ahd hpd.u hpd.lu fun w2 v2 s2 _ f2 => ?_
  obtain ⟨a, c, hv, _⟩ := id s2
  have fin := h w2 _ (.zy v2 q10 s2) (acb (by decide)) (f1.trans (fd.trans f2))
  have S2 := Sd.jo f2
  obtain ⟨_, d1, _⟩ := jl S2
  rw [hv] at fin ⊢
  simp [d1]
  exact fin
 simp [q8, q9, q10]
 exact h w1 _ (.none (by omega)) (fun a b c v e => by cases e) f1
def ahy (tr : Int) (l : List Spn) : Bool := decide (0 < tr) && qz tr l
theorem apw {w : World} {tr : Int} {d : Bool} {v : Value} {l : List Spn} (hs : SlS w v l) (hlen : l.length ≤ 1000000) {K : KV} (h : ∀ w', Fz w w' → K (.bool (ahy tr l)) w') : gi P F.bh [.iface T.r (.agg #[.int .u64 tr, .bool d, v])] w K := by
 rw [M.r.fcall]
 apply M.r.calls
 unfold M.r
 obtain ⟨a, c, hv, _⟩ := id hs
 rw [hv]
 simp
 have S0 : St w (w.alloc (.cells #[.int .u64 0, .int .u64 0] T.c)) (ii w.heap.size #[.int .u64 0, .int .u64 0] T.c :: []) := (St.jp w).add ((Fr.refl _ w).alloc _) (B := fun x => x = w.heap.size) ⟨by rw [iq, if_pos rfl], rfl⟩ fun x hx => by subst hx; rw [ju]; omega
 refine ke (vs := [.int .u64 0, .int .u64 0]) S0.blk rfl (by simp [kh]) fun w2 b2 f2 => ?_
 have S2 := S0.nb f2 b2
 have S3 : St w (w2.alloc (.cells #[.int .u64 0, .bool false, .slice none 0 0] T.r)) (ii w2.heap.size #[.int .u64 0, .bool false, .slice none 0 0] T.r :: _) := S2.add ((Fr.refl _ w2).alloc _) (B := fun x => x = w2.heap.size) ⟨by rw [iq, if_pos rfl], rfl⟩ fun x hx => by subst hx; rw [ju]; omega
 refine ke (vs := [.int .u64 tr, .bool d, .slice a l.length c]) S3.blk rfl (by simp [kh]) fun w4 b4 f4 => ?_
 have S4 := S3.nb f4 b4
 generalize w2.heap.size = ob at *
 have c0 : gr w4 ob 0 = some (.int .u64 tr) := by rw [gt b4]; rfl
 have c2 : gr w4 ob 2 = some (.slice a l.length c) := by rw [gt b4]; rfl
 unfold ahy at h
 by_cases h1 : 0 < tr
 ·simp [c0, c2, h1]
  rw [← hv]
  refine aox (hs.fr S4.fr fun _ _ _ h => h) hlen fun w5 f5 => ?_
  have fin := h w5 (S4.fr.trans f5)
  simpa [h1] using fin
 ·have fin := h w4 S4.fr
  simp [c0, h1]
  simpa [h1] using fin
def ajb (tr : Int) (b : Bal) (l : List Spn) : Bool := decide (0 < tr) && decide (0 < b.n) && qz tr l
theorem ant {w : World} {tr : Int} {b : Bal} {v : Value} {l : List Spn} (hs : SlS w v l) (hlen : l.length ≤ 1000000) {K : KV} (h : ∀ w', Fz w w' → K (.bool (ajb tr b l)) w') : gi P F.bh [.iface T.h (.agg #[.int .u64 tr, .int .u64 b.n, .int .u64 b.jf, v])] w K := by
 rw [M.r.fcall]
 apply M.r.calls
 unfold M.r
 obtain ⟨a, c, hv, _⟩ := id hs
 rw [hv]
 simp [adi, abl, agp, adg, aek]
 have S0 : St w (w.alloc (.cells #[.int .u64 0, .int .u64 0] T.c)) (ii w.heap.size #[.int .u64 0, .int .u64 0] T.c :: []) := (St.jp w).add ((Fr.refl _ w).alloc _) (B := fun x => x = w.heap.size) ⟨by rw [iq, if_pos rfl], rfl⟩ fun x hx => by subst hx; rw [ju]; omega
 refine ke (vs := [.int .u64 0, .int .u64 0]) S0.blk rfl (by simp [kh]) fun w2 b2 f2 => ?_
 have S2 := S0.nb f2 b2
 have S3 : St w (w2.alloc (.cells #[.int .u64 0, .int .u64 0, .int .u64 0, .slice none 0 0] T.h)) (ii w2.heap.size #[.int .u64 0, .int .u64 0, .int .u64 0, .slice none 0 0] T.h :: _) := S2.add ((Fr.refl _ w2).alloc _) (B := fun x => x = w2.heap.size) ⟨by rw [iq, if_pos rfl], rfl⟩ fun x hx => by subst hx; rw [ju]; omega
 refine ke (vs := [.int .u64 tr, .int .u64 b.n, .int .u64 b.jf, .slice a l.length c]) S3.blk rfl (by simp [kh]) fun w4 b4 f4 => ?_
 have S4 := S3.nb f4 b4
 generalize w2.heap.size = ob at *
 have c0 : gr w4 ob 0 = some (.int .u64 tr) := by rw [gt b4]; rfl
 have c1 : gr w4 ob 1 = some (.int .u64 b.n) := by rw [gt b4]; rfl
 have c3 : gr w4 ob 3 = some (.slice a l.length c) := by rw [gt b4]; rfl
 unfold ajb at h
 by_cases h1 : 0 < tr
 ·by_cases h2 : 0 < b.n
  ·simp [c0, c1, c3, h1, h2]
   rw [← hv]
   refine aox (hs.fr S4.fr fun _ _ _ h => h) hlen fun w5 f5 => ?_
   have fin := h w5 (S4.fr.trans f5)
   simpa [h1, h2] using fin
  ·have fin := h w4 S4.fr
   simp [c0, c1, h1, h2]
   simpa [h1, h2] using fin
 ·have fin := h w4 S4.fr
  simp [c0, h1]
  simpa [h1] using fin
def aqe (tr v : Int) : Bool := decide (0 < tr) && qv v
theorem aqo {w : World} {tr v : Int} {K : KV} (h : ∀ w', Fz w w' → K (.bool (aqe tr v)) w') : gi P F.bh [.iface T.z (.agg #[.int .u64 tr, .int .i64 v])] w K := by
 rw [M.r.fcall]
 apply M.r.calls
 unfold M.r
 simp [agm, ads, ajm, agi]
 have S0 : St w (w.alloc (.cells #[.int .u64 0, .int .u64 0] T.c)) (ii w.heap.size #[.int .u64 0, .int .u64 0] T.c :: []) := (St.jp w).add ((Fr.refl _ w).alloc _) (B := fun x => x = w.heap.size) ⟨by rw [iq, if_pos rfl], rfl⟩ fun x hx => by subst hx; rw [ju]; omega
 refine ke (vs := [.int .u64 0, .int .u64 0]) S0.blk rfl (by simp [kh]) fun w2 b2 f2 => ?_
 have S2 := S0.nb f2 b2
 have S3 : St w (w2.alloc (.cells #[.int .u64 0, .int .i64 0] T.z)) (ii w2.heap.size #[.int .u64 0, .int .i64 0] T.z :: _) := S2.add ((Fr.refl _ w2).alloc _) (B := fun x => x = w2.heap.size) ⟨by rw [iq, if_pos rfl], rfl⟩ fun x hx => by subst hx; rw [ju]; omega
 refine ke (vs := [.int .u64 tr, .int .i64 v]) S3.blk rfl (by simp [kh]) fun w4 b4 f4 => ?_
 have S4 := S3.nb f4 b4
 generalize w2.heap.size = ob at *
 have c0 : gr w4 ob 0 = some (.int .u64 tr) := by rw [gt b4]; rfl
 have c1 : gr w4 ob 1 = some (.int .i64 v) := by rw [gt b4]; rfl
 have fin := h w4 S4.fr
 unfold aqe at fin
 by_cases h1 : 0 < tr
 ·simp [c0, c1, h1]
  refine ajq ?_
  simpa [h1] using fin
 ·simp [c0, h1]
  simpa [h1] using fin
def ro : Int → List Int → Bool
 | _, [] => true
 | lr, m :: l => decide (lr < m) && ro m l
def RuI (W : World) (l : List Int) : KL := fun x w1 => ∃ (u0 u1 : Value) (lr : Int) (i : Nat), x = [u0, u1, .int .u64 lr, .int .i64 (i : Nat)] ∧ i ≤ l.length ∧ ro 0 l = ro lr (l.drop i) ∧ Fz W w1
theorem axg {w : World} (m : Int) {K : KV} (h : K (.int .u64 m) w) : nf P (.func (.func F.dh) #[] #[]) [.int .u64 m] w K := by
 rw [M.dp.rcall]
 apply M.dp.calls
 unfold M.dp
 exact h
theorem bfo {w : World} {v : Value} {l : List Int} (hs : SlU w v l) (hlen : l.length ≤ 1000000) {K : KV} (h : ∀ w', Fz w w' → K (.bool (ro 0 l && (decide (0 < l.length) && decide (l.length ≤ 16)))) w') :
  gi P F.cz [v, .int .i64 16, .func (.func F.dh) #[] #[]] w K := by
 rw [M.av.fcall]
 apply M.av.calls
 unfold M.av
 simp only [gp]
 rw [hs.iy (by kernel_rfl)]
 refine ⟨RuI w l, fun x _ => l.length - ms x 3, ⟨_, _, 0, 0, rfl, Nat.zero_le _, rfl, Fr.refl _ _⟩, ?_⟩
 rintro x w1 ⟨u0, u1, lr, i, rfl, hi, hr, f1⟩
 have q2 : gv [u0, u1, .int .u64 lr, .int .i64 (i : Nat)] 2 = .int .u64 lr := rfl
 have q3 : gv [u0, u1, .int .u64 lr, .int .i64 (i : Nat)] 3 = .int .i64 (i : Nat) := rfl
 have hs1 := hs.fr f1 fun _ _ _ h => h
 simp only [q3]
 by_cases hil : i < l.length
 ·have hil' : (i : Int) < l.length := by omega
  simp [hil']
  unfold M.av.j2
  obtain ⟨b, o, cap, hv, hb, _, hc⟩ := hs1.at hil
  have hld := hc 0 _ rfl
  have hwi : IntKind.i64.wrap ((i : Int) + 1) = ((i + 1 : Nat) : Int) := by rw [ia]; rfl
  have hdrop : l.drop i = l[i] :: l.drop (i + 1) := List.drop_eq_getElem_cons hil
  rw [hdrop] at hr
  generalize l[i] = m at *
  subst hv
  have hld' : gr w1 b (o + i) = some (.int .u64 m) := by simpa using hld
  simp [q2, q3, hil, hld']
  refine axg m ?_
  simp
  by_cases hle : m ≤ lr
  ·have hlt : ¬ lr < m := by omega
   simp [hle]
   have hf : ro 0 l = false := by rw [hr]; unfold ro; simp [hlt]
   rw [hf] at h
   exact h w1 f1
  ·have hlt : lr < m := by omega
   simp [hle]
   refine axg m ?_
   simp [hwi]
   refine ⟨⟨_, _, m, i + 1, rfl, by omega, ?_, f1⟩, by simp [ms, gv]; omega⟩
   rw [hr]
   show (decide (lr < m) && ro m (l.drop (i + 1))) = _
   simp [hlt]
 ·have hil' : ¬ (i : Int) < l.length := by omega
  have hr1 : ro 0 l = true := by rw [hr, List.drop_of_length_le (by omega)]; rfl
  simp [hil']
  unfold M.av.j0
  rw [hs1.iy (by kernel_rfl)]
  rw [hr1] at h
  by_cases h0 : 0 < l.length
  ·have h0' : (0 : Int) < l.length := by omega
   have hx : decide ((l.length : Int) ≤ 16) = decide (l.length ≤ 16) := by
    by_cases h16 : l.length ≤ 16
    ·rw [decide_eq_true h16, decide_eq_true (by omega)]
    ·rw [decide_eq_false h16, decide_eq_false (by omega)]
   simp [h0]
   rw [hs1.iy (by kernel_rfl)]
   simp
   rw [hx]
   have := h w1 f1
   simpa [h0] using this
  ·simp [h0]
   have := h w1 f1
   simpa [h0] using this
def akm (tr : Int) (l : List Int) : Bool := decide (0 < tr) && (ro 0 l && (decide (0 < l.length) && decide (l.length ≤ 16)))
theorem apm {w : World} {tr : Int} {v : Value} {l : List Int} (hs : SlU w v l) (hlen : l.length ≤ 1000000) {K : KV} (h : ∀ w', Fz w w' → K (.bool (akm tr l)) w') : gi P F.bh [.iface T.n (.agg #[.int .u64 tr, v])] w K := by
 rw [M.r.fcall]
 apply M.r.calls
 unfold M.r
 obtain ⟨a, c, hv, _⟩ := id hs
 rw [hv]
 simp [aac, yw, adb, aad, abc, wo]
 have S0 : St w (w.alloc (.cells #[.int .u64 0, .int .u64 0] T.c)) (ii w.heap.size #[.int .u64 0, .int .u64 0] T.c :: []) := (St.jp w).add ((Fr.refl _ w).alloc _) (B := fun x => x = w.heap.size) ⟨by rw [iq, if_pos rfl], rfl⟩ fun x hx => by subst hx; rw [ju]; omega
 refine ke (vs := [.int .u64 0, .int .u64 0]) S0.blk rfl (by simp [kh]) fun w2 b2 f2 => ?_
 have S2 := S0.nb f2 b2
 have S3 : St w (w2.alloc (.cells #[.int .u64 0, .slice none 0 0] T.n)) (ii w2.heap.size #[.int .u64 0, .slice none 0 0] T.n :: _) := S2.add ((Fr.refl _ w2).alloc _) (B := fun x => x = w2.heap.size) ⟨by rw [iq, if_pos rfl], rfl⟩ fun x hx => by subst hx; rw [ju]; omega
 refine ke (vs := [.int .u64 tr, .slice a l.length c]) S3.blk rfl (by simp [kh]) fun w4 b4 f4 => ?_
 have S4 := S3.nb f4 b4
 generalize w2.heap.size = ob at *
 have c0 : gr w4 ob 0 = some (.int .u64 tr) := by rw [gt b4]; rfl
 have c1 : gr w4 ob 1 = some (.slice a l.length c) := by rw [gt b4]; rfl
 unfold akm at h
 by_cases h1 : 0 < tr
 ·simp [c0, c1, h1]
  rw [← hv]
  refine bfo (hs.fr S4.fr fun _ _ _ h => h) hlen fun w5 f5 => ?_
  have fin := h w5 (S4.fr.trans f5)
  simpa [h1] using fin
 ·have fin := h w4 S4.fr
  simp [c0, h1]
  simpa [h1] using fin
def ahu (tr : Int) (b : Bal) (ok : Bool) (jk : Bal) (v : Int) (je : Bool) : Bool :=
 if tr = 0 ∨ b.n = 0 then false else if ok = false then decide (v = 0) && !(decide (jk = ip)) else if je = true then decide (v = 0) && decide (jk = ip) else (qv v && !(decide (jk = ip))) || (decide (v = 0) && decide (jk = ip))
theorem aps {w : World} {tr v : Int} {b jk : Bal} {ok je : Bool} {K : KV} (h : ∀ w', Fz w w' → K (.bool (ahu tr b ok jk v je)) w') : gi P F.bh [.iface T.m (.agg #[.int .u64 tr, .int .u64 b.n, .int .u64 b.jf, .bool ok, .int .u64 jk.n, .int .u64 jk.jf, .int .i64 v, .bool je])] w K := by
 rw [M.r.fcall]
 apply M.r.calls
 unfold M.r
 simp [aeo, acp, ahz]
 have S0 : St w (w.alloc (.cells #[.int .u64 0, .int .u64 0] T.c)) (ii w.heap.size #[.int .u64 0, .int .u64 0] T.c :: []) := (St.jp w).add ((Fr.refl _ w).alloc _) (B := fun x => x = w.heap.size) ⟨by rw [iq, if_pos rfl], rfl⟩ fun x hx => by subst hx; rw [ju]; omega
 refine ke (vs := [.int .u64 0, .int .u64 0]) S0.blk rfl (by simp [kh]) fun w2 b2 f2 => ?_
 have S2 := S0.nb f2 b2
 have S3 : St w (w2.alloc (.cells #[.int .u64 0, .int .u64 0, .int .u64 0, .bool false, .int .u64 0, .int .u64 0, .int .i64 0, .bool false] T.m)) (ii w2.heap.size #[.int .u64 0, .int .u64 0, .int .u64 0, .bool false, .int .u64 0, .int .u64 0, .int .i64 0, .bool false] T.m :: _) := S2.add ((Fr.refl _ w2).alloc _) (B := fun x => x = w2.heap.size) ⟨by rw [iq, if_pos rfl], rfl⟩ fun x hx => by subst hx; rw [ju]; omega
 refine ke (vs := [.int .u64 tr, .int .u64 b.n, .int .u64 b.jf, .bool ok, .int .u64 jk.n, .int .u64 jk.jf, .int .i64 v, .bool je]) S3.blk rfl (by simp [kh]) fun w4 b4 f4 => ?_
 have S4 := S3.nb f4 b4
 have fin := h w4 S4.fr
 have z0 : ∀ K, ldN P 2 w.heap.size 0 w4 K = K (ku ip) w4 := fun K => by
  have hh := S4.swap.blk
  exact aeb (by rw [gt hh]; rfl) (by rw [gt hh]; rfl) K
 generalize w2.heap.size = ob at *
 generalize w.heap.size = zb at *
 have c0 : gr w4 ob 0 = some (.int .u64 tr) := by rw [gt b4]; rfl
 have c1 : gr w4 ob 1 = some (.int .u64 b.n) := by rw [gt b4]; rfl
 have c3 : gr w4 ob 3 = some (.bool ok) := by rw [gt b4]; rfl
 have c4 : ∀ K, ldN P 2 ob 4 w4 K = K (ku jk) w4 := fun K => aeb (by rw [gt b4]; rfl) (by rw [gt b4]; rfl) K
 have c6 : gr w4 ob 6 = some (.int .i64 v) := by rw [gt b4]; rfl
 have c7 : gr w4 ob 7 = some (.bool je) := by rw [gt b4]; rfl
 unfold ahu at fin
 by_cases h1 : tr = 0
 ·simp [c0, h1]
  simpa [h1] using fin
 by_cases h2 : b.n = 0
 ·simp [c0, c1, h1, h2]
  simpa [h2] using fin
 cases ok with
 | false =>
  by_cases h3 : v = 0
  ·simp [c0, c1, c3, c6, c4, z0, h1, h2, h3, amf]
   simpa [h1, h2, h3] using fin
  ·simp [c0, c1, c3, c6, h1, h2, h3]
   simpa [h1, h2, h3] using fin
 | true =>
 cases je with
 | true =>
  by_cases h3 : v = 0
  ·simp [c0, c1, c3, c6, c7, c4, z0, h1, h2, h3, vz]
   simpa [h1, h2, h3] using fin
  ·simp [c0, c1, c3, c6, c7, h1, h2, h3]
   simpa [h1, h2, h3] using fin
 | false =>
 simp [c0, c1, c3, c7, h1, h2]
 unfold M.r.j1
 simp [c6]
 refine ajq ?_
 by_cases h4 : qv v = true
 ·have hv0 : ¬ v = 0 := fun hh => by subst hh; exact absurd h4 (by decide)
  by_cases h5 : jk = ip
  ·simp [h4, c4, z0, amf, h5, c6, hv0]
   simpa [h1, h2, h4, h5, hv0] using fin
  ·simp [h4, c4, z0, amf, h5]
   simpa [h1, h2, h4, h5] using fin
 ·by_cases h3 : v = 0
  ·subst h3
   have ht : qv 0 = false := by decide
   simp [ht, c6, c4, z0, vz]
   simpa [h1, h2, ht] using fin
  ·simp [h4, c6, h3]
   simpa [h1, h2, h4, h3] using fin
abbrev ij : Value := .slice none 0 0
theorem xl {w W : World} {pb : Nat} {R : List Asn} {q : Pk} (S : St w W (ii pb (pkC q).toArray T.a :: R)) (K : KV) : ldN P 11 pb 0 W K = K (pkA q) W := (jl S).2.2.2.2.2.2.2.2.2 K
theorem zn {w W : World} {pb : Nat} {R : List Asn} {q : Pk} (S : St w W (ii pb (pkC q).toArray T.a :: R)) (K : KV) : pw P T.a (.pointer (some ⟨pb, 0, none⟩)) W K = K (pkA q) W := by rw [ail]; exact xl S K
theorem ti {k tr v : Int} {b s : Bal} {ok : Bool} {a1 a2 a3 : Option Addr} {l1 l2 l3 c1 c2 c3 : Nat} : ∀ u ∈ pkC ⟨k, tr, b, s, v, ok, .slice a1 l1 c1, .slice a2 l2 c2, .slice a3 l3 c3⟩, kh u = true := fun u hu => by
 simp only [pkC, List.mem_cons, List.not_mem_nil, or_false] at hu
 rcases hu with rfl | rfl | rfl | rfl | rfl | rfl | rfl | rfl | rfl | rfl | rfl <;> rfl
theorem afc (w : World) : St w (w.alloc (.cells #[.int .i64 0, .int .u64 0, .int .u64 0, .int .u64 0, .int .u64 0, .int .u64 0, .int .i64 0, .bool false, .slice none 0 0, .slice none 0 0, .slice none 0 0] T.a)) (ii w.heap.size #[.int .i64 0, .int .u64 0, .int .u64 0, .int .u64 0, .int .u64 0, .int .u64 0, .int .i64 0, .bool false, .slice none 0 0, .slice none 0 0, .slice none 0 0] T.a :: []) := (St.jp w).add ((Fr.refl _ w).alloc _) (B := fun x => x = w.heap.size) ⟨by rw [iq, if_pos rfl], rfl⟩ fun x hx => by subst hx; rw [ju]; omega
theorem ach {w0 w : World} {R : List Asn} (S : St w0 w R) (cs : Array Value) (t : TypeId) : St w0 (w.alloc (.cells cs t)) (ii w.heap.size cs t :: R) := S.add ((Fr.refl _ w).alloc _) (B := fun x => x = w.heap.size) ⟨by rw [iq, if_pos rfl], rfl⟩ fun x hx => by subst hx; rw [ju]; omega
theorem apo {w : World} {tr v : Int} {K : KV} (h : ∀ w', Fz w w' → K (pkA ⟨8, tr, ip, ip, v, false, ij, ij, ij⟩) w') : gi P F.ax [.iface T.z (.agg #[.int .u64 tr, .int .i64 v])] w K := by
 rw [M.n.fcall]
 apply M.n.calls
 unfold M.n
 simp [agm, ads, ajm, agi]
 have S0 := afc w
 have z0 : (w.alloc (.cells #[.int .i64 0, .int .u64 0, .int .u64 0, .int .u64 0, .int .u64 0, .int .u64 0, .int .i64 0, .bool false, .slice none 0 0, .slice none 0 0, .slice none 0 0] T.a)).heap.size = w.heap.size + 1 := ju _ _
 generalize w.alloc (.cells #[.int .i64 0, .int .u64 0, .int .u64 0, .int .u64 0, .int .u64 0, .int .u64 0, .int .i64 0, .bool false, .slice none 0 0, .slice none 0 0, .slice none 0 0] T.a) = w1 at *
 have S1 := ach S0 #[.int .u64 0, .int .i64 0] T.z
 rw [z0] at S1
 generalize w.heap.size = pb at *
 generalize pb + 1 = ob at *
 refine ke (vs := [.int .u64 tr, .int .i64 v]) S1.blk rfl (by simp [kh]) fun w2 b2 f2 => ?_
 have S2 := S1.nb f2 b2
 have c0 : gr w2 ob 0 = some (.int .u64 tr) := by rw [gt b2]; rfl
 have c1 : gr w2 ob 1 = some (.int .i64 v) := by rw [gt b2]; rfl
 simp [c0, c1]
 refine ke (vs := pkC ⟨8, tr, ip, ip, v, false, ij, ij, ij⟩) S2.swap.blk rfl ti fun w3 b3 f3 => ?_
 have S3 := S2.swap.nb f3 b3
 rw [xl S3]
 have e : pkA ⟨8, tr, ip, ip, v, false, ij, ij, ij⟩ = .agg #[.int .i64 8, .int .u64 tr, .int .u64 0, .int .u64 0, .int .u64 0, .int .u64 0, .int .i64 v, .bool false, .slice none 0 0, .slice none 0 0, .slice none 0 0] := rfl
 rw [e]
 simp
 refine ke (vs := pkC ⟨8, tr, ip, ip, v, false, ij, ij, ij⟩) S3.blk rfl ti fun w5 b5 f5 => ?_
 have S5 := S3.nb f5 b5
 rw [zn S5]
 exact ⟨rfl, h w5 S5.fr⟩
theorem amp {w : World} {tr v : Int} {b jk : Bal} {ok je : Bool} {K : KV} (h : ∀ w', Fz w w' → K (pkA ⟨if je = true then 7 else 5, tr, b, jk, v, ok, ij, ij, ij⟩) w') : gi P F.ax [.iface T.m (.agg #[.int .u64 tr, .int .u64 b.n, .int .u64 b.jf, .bool ok, .int .u64 jk.n, .int .u64 jk.jf, .int .i64 v, .bool je])] w K := by
 rw [M.n.fcall]
 apply M.n.calls
 unfold M.n
 simp [aeo, acp, ahz]
 have S0 := afc w
 have z0 : (w.alloc (.cells #[.int .i64 0, .int .u64 0, .int .u64 0, .int .u64 0, .int .u64 0, .int .u64 0, .int .i64 0, .bool false, .slice none 0 0, .slice none 0 0, .slice none 0 0] T.a)).heap.size = w.heap.size + 1 := ju _ _
 generalize w.alloc (.cells #[.int .i64 0, .int .u64 0, .int .u64 0, .int .u64 0, .int .u64 0, .int .u64 0, .int .i64 0, .bool false, .slice none 0 0, .slice none 0 0, .slice none 0 0] T.a) = w1 at *
 have S1 := ach S0 #[.int .u64 0, .int .u64 0, .int .u64 0, .bool false, .int .u64 0, .int .u64 0, .int .i64 0, .bool false] T.m
 rw [z0] at S1
 generalize w.heap.size = pb at *
 generalize pb + 1 = ob at *
 refine ke (vs := [.int .u64 tr, .int .u64 b.n, .int .u64 b.jf, .bool ok, .int .u64 jk.n, .int .u64 jk.jf, .int .i64 v, .bool je]) S1.blk rfl (by simp [kh]) fun w2 b2 f2 => ?_
 have S2 := S1.nb f2 b2
 have reC : ∀ {W : World} {R : List Asn}, St w W (ii ob [.int .u64 tr, .int .u64 b.n, .int .u64 b.jf, .bool ok, .int .u64 jk.n, .int .u64 jk.jf, .int .i64 v, .bool je].toArray T.m :: R) → gr W ob 0 = some (.int .u64 tr) ∧ (∀ K, ldN P 2 ob 1 W K = K (.agg #[.int .u64 b.n, .int .u64 b.jf]) W) ∧ gr W ob 3 = some (.bool ok) ∧ (∀ K, ldN P 2 ob 4 W K = K (.agg #[.int .u64 jk.n, .int .u64 jk.jf]) W) ∧ gr W ob 6 = some (.int .i64 v) ∧ gr W ob 7 = some (.bool je) := fun {W R} S' => by
  have hh := S'.blk
  exact ⟨by rw [gt hh]; rfl, fun K => aeb (by rw [gt hh]; rfl) (by rw [gt hh]; rfl) K, by rw [gt hh]; rfl, fun K => aeb (by rw [gt hh]; rfl) (by rw [gt hh]; rfl) K, by rw [gt hh]; rfl, by rw [gt hh]; rfl⟩
 obtain ⟨c0, c1, c3, c4, c6, _⟩ := reC S2
 simp [c0, c1, c3, c4, c6]
 refine ke (vs := pkC ⟨5, tr, b, jk, v, ok, ij, ij, ij⟩) S2.swap.blk rfl ti fun w3 b3 f3 => ?_
 have S3 := S2.swap.nb f3 b3
 obtain ⟨_, _, _, _, _, d7⟩ := reC S3.swap
 cases je with
 | false =>
  simp [d7]
  rw [xl S3]
  have e : pkA ⟨5, tr, b, jk, v, ok, ij, ij, ij⟩ = .agg #[.int .i64 5, .int .u64 tr, .int .u64 b.n, .int .u64 b.jf, .int .u64 jk.n, .int .u64 jk.jf, .int .i64 v, .bool ok, .slice none 0 0, .slice none 0 0, .slice none 0 0] := rfl
  rw [e]
  simp
  refine ke (vs := pkC ⟨5, tr, b, jk, v, ok, ij, ij, ij⟩) S3.blk rfl ti fun w5 b5 f5 => ?_
  have S5 := S3.nb f5 b5
  rw [zn S5]
  exact ⟨rfl, h w5 S5.fr⟩
 | true =>
  have e0 := aal S3.blk 0 _ rfl
  have ez := nw S3.blk
  simp [d7, e0, ez]
  have S4 : St w (w3.setCell ⟨pb, 0, none⟩ (.int .i64 7)) (ii pb (pkC ⟨7, tr, b, jk, v, ok, ij, ij, ij⟩).toArray T.a :: _) := S3.nb ((Fr.refl (fun x => x = pb) w3).setCell (.inl rfl) _ _) ((nj S3.blk).trans rfl)
  rw [xl S4]
  have e : pkA ⟨7, tr, b, jk, v, ok, ij, ij, ij⟩ = .agg #[.int .i64 7, .int .u64 tr, .int .u64 b.n, .int .u64 b.jf, .int .u64 jk.n, .int .u64 jk.jf, .int .i64 v, .bool ok, .slice none 0 0, .slice none 0 0, .slice none 0 0] := rfl
  rw [e]
  simp
  refine ke (vs := pkC ⟨7, tr, b, jk, v, ok, ij, ij, ij⟩) S4.blk rfl ti fun w5 b5 f5 => ?_
  have S5 := S4.nb f5 b5
  rw [zn S5]
  exact ⟨rfl, h w5 S5.fr⟩
theorem amy {w : World} {tr : Int} {d : Bool} {v : Value} {l : List Spn} (hs : SlS w v l) (hlen : l.length ≤ 1000000) {K : KV} (h : ∀ w' v', SlS w' v' l → Fz w w' → K (pkA ⟨if d = true then 2 else 1, tr, ip, ip, 0, false, v', ij, ij⟩) w') : gi P F.ax [.iface T.r (.agg #[.int .u64 tr, .bool d, v])] w K := by
 rw [M.n.fcall]
 apply M.n.calls
 unfold M.n
 obtain ⟨a, c, hv, _⟩ := id hs
 rw [hv]
 simp
 have S0 := afc w
 have z0 : (w.alloc (.cells #[.int .i64 0, .int .u64 0, .int .u64 0, .int .u64 0, .int .u64 0, .int .u64 0, .int .i64 0, .bool false, .slice none 0 0, .slice none 0 0, .slice none 0 0] T.a)).heap.size = w.heap.size + 1 := ju _ _
 generalize w.alloc (.cells #[.int .i64 0, .int .u64 0, .int .u64 0, .int .u64 0, .int .u64 0, .int .u64 0, .int .i64 0, .bool false, .slice none 0 0, .slice none 0 0, .slice none 0 0] T.a) = w1 at *
 have S1 := ach S0 #[.int .u64 0, .bool false, .slice none 0 0] T.r
 rw [z0] at S1
 generalize w.heap.size = pb at *
 generalize pb + 1 = ob at *
 refine ke (vs := [Value.int .u64 tr, .bool d, .slice a l.length c]) S1.blk rfl (by simp [kh]) fun w2 b2 f2 => ?_
 have S2 := S1.nb f2 b2
 have thC : ∀ {W : World} {R : List Asn}, St w W (ii ob [Value.int .u64 tr, .bool d, .slice a l.length c].toArray T.r :: R) → gr W ob 0 = some (.int .u64 tr) ∧ gr W ob 1 = some (.bool d) ∧ gr W ob 2 = some (.slice a l.length c) := fun {W R} S' => by
  have hh := S'.blk
  exact ⟨by rw [gt hh]; rfl, by rw [gt hh]; rfl, by rw [gt hh]; rfl⟩
 have hpl : pb < w2.heap.size := (Array.getElem?_eq_some_iff.1 S2.swap.blk).1
 have fd : Fz w2 (dr w2 1) := (Fr.refl _ w2).dr 1
 have Sd := S2.jo fd
 obtain ⟨c0, c1, c2⟩ := thC S2
 obtain ⟨e0, e1, e2⟩ := thC Sd
 simp [c0, c2, e0, e2]
 rw [← hv]
 rw [M.j.fcall]
 refine aco ((hs.fr Sd.fr fun _ _ _ h => h)) hlen fun w3 v3 s3 n3 f3 => ?_
 obtain ⟨a3, c3, hv3, _⟩ := id s3
 have S3 := Sd.jo f3
 obtain ⟨g0, g1, g2⟩ := thC S3
 have hnn : ∀ b, v3.ownBlock = some b → b ≠ pb := fun b hb => by
  have := n3 b hb
  have := fd.size
  omega
 rw [hv3] at s3 hnn ⊢
 simp [g0, g2]
 refine ke (vs := pkC ⟨1, tr, ip, ip, 0, false, .slice a3 l.length c3, ij, ij⟩) S3.swap.blk rfl ti fun w4 b4 f4 => ?_
 have S4 := S3.swap.nb f4 b4
 have s4 : SlS w4 (.slice a3 l.length c3) l := s3.fr f4 fun b hb _ => hnn b hb
 obtain ⟨i0, i1, i2⟩ := thC S4.swap
 cases d with
 | false =>
  simp [i0, i2, i1]
  rw [xl S4]
  have e : pkA ⟨1, tr, ip, ip, 0, false, .slice a3 l.length c3, ij, ij⟩ = .agg #[.int .i64 1, .int .u64 tr, .int .u64 0, .int .u64 0, .int .u64 0, .int .u64 0, .int .i64 0, .bool false, .slice a3 l.length c3, .slice none 0 0, .slice none 0 0] := rfl
  rw [e]
  simp
  refine ke (vs := pkC ⟨1, tr, ip, ip, 0, false, .slice a3 l.length c3, ij, ij⟩) S4.blk rfl ti fun w5 b5 f5 => ?_
  have S5 := S4.nb f5 b5
  rw [zn S5]
  exact ⟨rfl, h w5 _ (s4.fr f5 fun b hb _ => hnn b hb) S5.fr⟩
 | true =>
  have e0 := aal S4.blk 0 _ rfl
  have ez := nw S4.blk
  simp [i0, i2, i1, e0, ez]
  have f6 : Fr (fun x => x = pb) w4 (w4.setCell ⟨pb, 0, none⟩ (.int .i64 2)) := (Fr.refl (fun x => x = pb) w4).setCell (.inl rfl) _ _
  have S6 : St w (w4.setCell ⟨pb, 0, none⟩ (.int .i64 2)) (ii pb (pkC ⟨2, tr, ip, ip, 0, false, .slice a3 l.length c3, ij, ij⟩).toArray T.a :: _) := S4.nb f6 ((nj S4.blk).trans rfl)
  have s6 : SlS (w4.setCell ⟨pb, 0, none⟩ (.int .i64 2)) (.slice a3 l.length c3) l := s4.fr f6 fun b hb _ => hnn b hb
  rw [xl S6]
  have e : pkA ⟨2, tr, ip, ip, 0, false, .slice a3 l.length c3, ij, ij⟩ = .agg #[.int .i64 2, .int .u64 tr, .int .u64 0, .int .u64 0, .int .u64 0, .int .u64 0, .int .i64 0, .bool false, .slice a3 l.length c3, .slice none 0 0, .slice none 0 0] := rfl
  rw [e]
  simp
  refine ke (vs := pkC ⟨2, tr, ip, ip, 0, false, .slice a3 l.length c3, ij, ij⟩) S6.blk rfl ti fun w5 b5 f5 => ?_
  have S5 := S6.nb f5 b5
  rw [zn S5]
  exact ⟨rfl, h w5 _ (s6.fr f5 fun b hb _ => hnn b hb) S5.fr⟩
theorem akt {w : World} {tr : Int} {b : Bal} {v : Value} {l : List Spn} (hs : SlS w v l) (hlen : l.length ≤ 1000000) {K : KV} (h : ∀ w' v', SlS w' v' l → Fz w w' → K (pkA ⟨9, tr, b, ip, 0, false, v', ij, ij⟩) w') : gi P F.ax [.iface T.h (.agg #[.int .u64 tr, .int .u64 b.n, .int .u64 b.jf, v])] w K := by
 rw [M.n.fcall]
 apply M.n.calls
 unfold M.n
 obtain ⟨a, c, hv, _⟩ := id hs
 rw [hv]
 simp [adi, abl, agp, adg, aek]
 have S0 := afc w
 have z0 : (w.alloc (.cells #[.int .i64 0, .int .u64 0, .int .u64 0, .int .u64 0, .int .u64 0, .int .u64 0, .int .i64 0, .bool false, .slice none 0 0, .slice none 0 0, .slice none 0 0] T.a)).heap.size = w.heap.size + 1 := ju _ _
 generalize w.alloc (.cells #[.int .i64 0, .int .u64 0, .int .u64 0, .int .u64 0, .int .u64 0, .int .u64 0, .int .i64 0, .bool false, .slice none 0 0, .slice none 0 0, .slice none 0 0] T.a) = w1 at *
 have S1 := ach S0 #[.int .u64 0, .int .u64 0, .int .u64 0, .slice none 0 0] T.h
 rw [z0] at S1
 generalize w.heap.size = pb at *
 generalize pb + 1 = ob at *
 refine ke (vs := [Value.int .u64 tr, .int .u64 b.n, .int .u64 b.jf, .slice a l.length c]) S1.blk rfl (by simp [kh]) fun w2 b2 f2 => ?_
 have S2 := S1.nb f2 b2
 have thC : ∀ {W : World} {R : List Asn}, St w W (ii ob [Value.int .u64 tr, .int .u64 b.n, .int .u64 b.jf, .slice a l.length c].toArray T.h :: R) → gr W ob 0 = some (.int .u64 tr) ∧ (∀ K, ldN P 2 ob 1 W K = K (.agg #[.int .u64 b.n, .int .u64 b.jf]) W) ∧ gr W ob 3 = some (.slice a l.length c) := fun {W R} S' => by
  have hh := S'.blk
  exact ⟨by rw [gt hh]; rfl, fun K => aeb (by rw [gt hh]; rfl) (by rw [gt hh]; rfl) K, by rw [gt hh]; rfl⟩
 have hpl : pb < w2.heap.size := (Array.getElem?_eq_some_iff.1 S2.swap.blk).1
 have fd : Fz w2 (dr w2 1) := (Fr.refl _ w2).dr 1
 have Sd := S2.jo fd
 obtain ⟨c0, c1, c2⟩ := thC S2
 obtain ⟨e0, e1, e2⟩ := thC Sd
 simp [c0, c1, c2, e0, e1, e2]
 rw [← hv]
 rw [M.j.fcall]
 refine aco ((hs.fr Sd.fr fun _ _ _ h => h)) hlen fun w3 v3 s3 n3 f3 => ?_
 obtain ⟨a3, c3, hv3, _⟩ := id s3
 have S3 := Sd.jo f3
 obtain ⟨g0, g1, g2⟩ := thC S3
 have hnn : ∀ b, v3.ownBlock = some b → b ≠ pb := fun b hb => by
  have := n3 b hb
  have := fd.size
  omega
 rw [hv3] at s3 hnn ⊢
 simp [g0, g1, g2]
 refine ke (vs := pkC ⟨9, tr, b, ip, 0, false, .slice a3 l.length c3, ij, ij⟩) S3.swap.blk rfl ti fun w4 b4 f4 => ?_
 have S4 := S3.swap.nb f4 b4
 have s4 : SlS w4 (.slice a3 l.length c3) l := s3.fr f4 fun b hb _ => hnn b hb
 rw [xl S4]
 have e : pkA ⟨9, tr, b, ip, 0, false, .slice a3 l.length c3, ij, ij⟩ = .agg #[.int .i64 9, .int .u64 tr, .int .u64 b.n, .int .u64 b.jf, .int .u64 0, .int .u64 0, .int .i64 0, .bool false, .slice a3 l.length c3, .slice none 0 0, .slice none 0 0] := rfl
 rw [e]
 simp
 refine ke (vs := pkC ⟨9, tr, b, ip, 0, false, .slice a3 l.length c3, ij, ij⟩) S4.blk rfl ti fun w5 b5 f5 => ?_
 have S5 := S4.nb f5 b5
 rw [zn S5]
 exact ⟨rfl, h w5 _ (s4.fr f5 fun b hb _ => hnn b hb) S5.fr⟩
theorem aoa {w : World} {tr : Int} {v : Value} {l : List Int} (hs : SlU w v l) (hlen : l.length ≤ 1000000) {K : KV} (h : ∀ w' v', SlU w' v' l → Fz w w' → K (pkA ⟨10, tr, ip, ip, 0, false, ij, ij, v'⟩) w') : gi P F.ax [.iface T.n (.agg #[.int .u64 tr, v])] w K := by
 rw [M.n.fcall]
 apply M.n.calls
 unfold M.n
 obtain ⟨a, c, hv, _⟩ := id hs
 rw [hv]
 simp [aac, yw, adb, aad, abc, wo]
 have S0 := afc w
 have z0 : (w.alloc (.cells #[.int .i64 0, .int .u64 0, .int .u64 0, .int .u64 0, .int .u64 0, .int .u64 0, .int .i64 0, .bool false, .slice none 0 0, .slice none 0 0, .slice none 0 0] T.a)).heap.size = w.heap.size + 1 := ju _ _
 generalize w.alloc (.cells #[.int .i64 0, .int .u64 0, .int .u64 0, .int .u64 0, .int .u64 0, .int .u64 0, .int .i64 0, .bool false, .slice none 0 0, .slice none 0 0, .slice none 0 0] T.a) = w1 at *
 have S1 := ach S0 #[.int .u64 0, .slice none 0 0] T.n
 rw [z0] at S1
 generalize w.heap.size = pb at *
 generalize pb + 1 = ob at *
 refine ke (vs := [Value.int .u64 tr, .slice a l.length c]) S1.blk rfl (by simp [kh]) fun w2 b2 f2 => ?_
 have S2 := S1.nb f2 b2
 have thC : ∀ {W : World} {R : List Asn}, St w W (ii ob [Value.int .u64 tr, .slice a l.length c].toArray T.n :: R) → gr W ob 0 = some (.int .u64 tr) ∧ gr W ob 1 = some (.slice a l.length c) := fun {W R} S' => by
  have hh := S'.blk
  exact ⟨by rw [gt hh]; rfl, by rw [gt hh]; rfl⟩
 have hpl : pb < w2.heap.size := (Array.getElem?_eq_some_iff.1 S2.swap.blk).1
 have fd : Fz w2 (dr w2 1) := (Fr.refl _ w2).dr 1
 have Sd := S2.jo fd
 obtain ⟨c0, c1⟩ := thC S2
 obtain ⟨e0, e1⟩ := thC Sd
 simp [c0, c1, e0, e1]
 rw [← hv]
 refine ahd ((hs.fr Sd.fr fun _ _ _ h => h)) hlen fun w3 v3 s3 n3 f3 => ?_
 obtain ⟨a3, c3, hv3, _⟩ := id s3
 have S3 := Sd.jo f3
 obtain ⟨g0, g1⟩ := thC S3
 have hnn : ∀ b, v3.ownBlock = some b → b ≠ pb := fun b hb => by
  have := n3 b hb
  have := fd.size
  omega
 rw [hv3] at s3 hnn ⊢
 simp [g0, g1]
 refine ke (vs := pkC ⟨10, tr, ip, ip, 0, false, ij, ij, .slice a3 l.length c3⟩) S3.swap.blk rfl ti fun w4 b4 f4 => ?_
 have S4 := S3.swap.nb f4 b4
 have s4 : SlU w4 (.slice a3 l.length c3) l := s3.fr f4 fun b hb _ => hnn b hb
 rw [xl S4]
 have e : pkA ⟨10, tr, ip, ip, 0, false, ij, ij, .slice a3 l.length c3⟩ = .agg #[.int .i64 10, .int .u64 tr, .int .u64 0, .int .u64 0, .int .u64 0, .int .u64 0, .int .i64 0, .bool false, .slice none 0 0, .slice none 0 0, .slice a3 l.length c3] := rfl
 rw [e]
 simp
 refine ke (vs := pkC ⟨10, tr, ip, ip, 0, false, ij, ij, .slice a3 l.length c3⟩) S4.blk rfl ti fun w5 b5 f5 => ?_
 have S5 := S4.nb f5 b5
 rw [zn S5]
 exact ⟨rfl, h w5 _ (s4.fr f5 fun b hb _ => hnn b hb) S5.fr⟩
def th (p : Pk) (ls : List Spn) (lm : List Mem) (lu : List Int) : Bool :=
 if p.ie = 1 ∨ p.ie = 2 then ahy p.tr ls else if p.ie = 3 then zg lm else if p.ie = 4 ∨ p.ie = 6 then arn p.tr p.b p.v else if p.ie = 5 ∨ p.ie = 7 then ahu p.tr p.b p.ok p.jk p.v (decide (p.ie = 7)) else if p.ie = 8 then aqe p.tr p.v else if p.ie = 9 then ajb p.tr p.b ls else if p.ie = 10 then akm p.tr lu else false
theorem ThR.fr {w w' : World} {p : Pk} {ls : List Spn} {lm : List Mem} {lu : List Int} {t : Value} (h : ThR w p ls lm lu t) (hf : Fz w w') : ThR w' p ls lm lu t := by
 cases h with
 | nq v hk hs => exact .nq v hk (hs.fr hf fun _ _ _ h => h)
 | ahc v hk hs => exact .ahc v hk (hs.fr hf fun _ _ _ h => h)
 | ask hk => exact .ask hk
 | zj hk => exact .zj hk
 | ur hk => exact .ur hk
 | xg v hk hs => exact .xg v hk (hs.fr hf fun _ _ _ h => h)
 | zy v hk hs => exact .zy v hk (hs.fr hf fun _ _ _ h => h)
 | none hk => exact .none hk
theorem bjk (n : Nat) (w : World) (K : KV) : ib P .eql T.ap (.tmp n) (.const .nilIface) .nilIface .nilIface w K = K (.bool true) w := kr
theorem ThR.eqn {w : World} {p : Pk} {ls : List Spn} {lm : List Mem} {lu : List Int} {t : Value} (h : ThR w p ls lm lu t) (hk : 1 ≤ p.ie ∧ p.ie ≤ 10) (rx ry : Operand) (w1 : World) (K : KV) : ib P .eql T.ap rx ry t .nilIface w1 K = K (.bool false) w1 := by
 cases h with
 | nq v hk hs => exact bdk _ _ _ _ _
 | ahc v hk hs => exact awh _ _ _ _ _
 | ask hk => exact bkf _ _ _ _ _
 | zj hk => exact bbn _ _ _ _ _
 | ur hk => exact bgp _ _ _ _ _
 | xg v hk hs => exact ays _ _ _ _ _
 | zy v hk hs => exact bdu _ _ _ _ _
 | none hn => exact absurd hk hn
theorem ThR.bna {w : World} {p : Pk} {ls : List Spn} {lm : List Mem} {lu : List Int} {t : Value} (h : ThR w p ls lm lu t) (hk : ¬ (1 ≤ p.ie ∧ p.ie ≤ 10)) : t = .nilIface := by
 cases h with
 | none hn => rfl
 | _ => omega
theorem bjq {w : World} {p : Pk} {ls : List Spn} {lm : List Mem} {lu : List Int} {t : Value} (ht : ThR w p ls lm lu t) (hk : 1 ≤ p.ie ∧ p.ie ≤ 10) (l1 : ls.length ≤ 1000000) (l2 : lm.length ≤ 1000000) (l3 : lu.length ≤ 1000000) {K : KV}
  (h : ∀ w', Fz w w' → K (.bool (th p ls lm lu)) w') : gi P F.bh [t] w K := by
 unfold th at h
 cases ht with
 | nq v q hs => simp only [if_pos q] at h; exact apw hs l1 h
 | ahc v q hs => simp only [q, show ¬ ((3 : Int) = 1 ∨ (3 : Int) = 2) by omega, if_false, if_true] at h; exact bdw hs l2 h
 | ask q => rw [if_neg (by omega), if_neg (by omega), if_pos q] at h; exact avp h
 | zj q => rw [if_neg (by omega), if_neg (by omega), if_neg (by omega), if_pos q] at h; exact aps h
 | ur q => rw [if_neg (by omega), if_neg (by omega), if_neg (by omega), if_neg (by omega), if_pos q] at h; exact aqo h
 | xg v q hs => rw [if_neg (by omega), if_neg (by omega), if_neg (by omega), if_neg (by omega), if_neg (by omega), if_pos q] at h; exact ant hs l1 h
 | zy v q hs => rw [if_neg (by omega), if_neg (by omega), if_neg (by omega), if_neg (by omega), if_neg (by omega), if_neg (by omega), if_pos q] at h; exact apm hs l3 h
 | none q => exact absurd hk q
structure zq (w : World) (p : Pk) (ls : List Spn) (lm : List Mem) (lu : List Int) : Prop where
 s : SlS w p.sv ls
 m : SlM w p.mv lm
 u : SlU w p.iv lu
structure vu (p : Pk) : Prop where
 tr : tx p.tr
 b : p.b.rng
 jk : p.jk.rng
theorem zq.fr {w w' : World} {p : Pk} {ls : List Spn} {lm : List Mem} {lu : List Int} (h : zq w p ls lm lu) (hf : Fz w w') : zq w' p ls lm lu :=
 ⟨h.s.fr hf fun _ _ _ h => h, h.m.fr hf fun _ _ _ h => h, h.u.fr hf fun _ _ _ h => h⟩
theorem zq.rd {w : World} {p : Pk} {ls : List Spn} {lm : List Mem} {lu : List Int} (h : zq w p ls lm lu) (h1 : ls.length ≤ 1000000) (h2 : lm.length ≤ 1000000) (h3 : lu.length ≤ 1000000) : pn w p ls lm lu := ⟨h.s, h.m, h.u, h1, h2, h3⟩
theorem wfP {x : Int} (h : (Lit.int .u64 x).wf = true) : 0 ≤ x ∧ x ≤ 18446744073709551615 := by
 simp [Lit.wf, IntKind.min, IntKind.max, IntKind.bits, IntKind.signed] at h
 omega
theorem zo {x : Int} (h : (Lit.int .u64 x).wf = true) : tx x := by
 have := wfP h
 exact ⟨this.1, by omega⟩
theorem ank {α : Type} {w : World} {sz : Nat} {enc : α → List Value} {Q : α → Prop} {v : Value} {l : List α} (h : xr w sz (fun w b o x => rdE enc w b o x ∧ Q x) v l) : Sl w sz enc v l ∧ ∀ x ∈ l, Q x := by
 refine ⟨xr.mono h fun b o x hx => hx.1, fun x hx => ?_⟩
 obtain ⟨i, hi, rfl⟩ := List.getElem_of_mem hx
 obtain ⟨a, cap, _, _, _, h3⟩ := h
 obtain ⟨b, o, _, _, hr⟩ := h3 i _ (List.getElem?_eq_getElem hi)
 exact hr.2
theorem bht {w : World} {n : Nat} {v : Value} (h : TV P w n T.i [v]) : ∃ l, SlU w v l ∧ ∀ x ∈ l, tx x := by
 have : ∃ l : List Int, xr w 1 (fun w b o x => rdE oe w b o x ∧ tx x) v l := by
  refine agb (sz := 1) (rd := fun w b o x => rdE oe w b o x ∧ tx x) (e := T.g) (by kernel_rfl) (by kernel_rfl) (by decide) (fun n b o cs ht hl hc => ?_) h
  obtain ⟨x, hx, hw⟩ := un (k := .u64) (by kernel_rfl) ht
  subst hx
  exact ⟨x, fun j u hj => hc j u hj, zo hw⟩
 obtain ⟨l, hl⟩ := this
 exact ⟨l, ank hl⟩
structure wg (s : Spn) : Prop where
 tr : tx s.iw
 id : tx s.id
 par : tx s.px
 st : tx s.jp
 ln : tx s.len
theorem bbg {w : World} {n : Nat} {v : Value} (h : TV P w n T.d [v]) : ∃ l, SlS w v l ∧ ∀ s ∈ l, wg s := by
 suffices hh : ∃ l : List Spn, xr w 8 (fun w b o x => rdE ir w b o x ∧ wg x) v l by
  obtain ⟨l, hl⟩ := hh
  exact ⟨l, ank hl⟩
 refine agb (sz := 8) (rd := fun w b o x => rdE ir w b o x ∧ wg x) Tryz.underlying42 (by kernel_rfl) (by decide) (fun n b o cs ht hl hc => ?_) h
 obtain ⟨_, hf⟩ := adq Tryz.underlying85 ht
 obtain ⟨m0, t0⟩ := hf 0 _ rfl
 obtain ⟨m1, t1⟩ := hf 1 _ rfl
 obtain ⟨m2, t2⟩ := hf 2 _ rfl
 obtain ⟨m3, t3⟩ := hf 3 _ rfl
 obtain ⟨m4, t4⟩ := hf 4 _ rfl
 obtain ⟨m5, t5⟩ := hf 5 _ rfl
 obtain ⟨m6, t6⟩ := hf 6 _ rfl
 obtain ⟨m7, t7⟩ := hf 7 _ rfl
 obtain ⟨x0, e0, g0⟩ := un Tryz.underlying35 t0
 obtain ⟨x1, e1, g1⟩ := un Tryz.underlying35 t1
 obtain ⟨x2, e2, g2⟩ := un Tryz.underlying35 t2
 obtain ⟨x3, e3, g3⟩ := un Tryz.underlying35 t3
 obtain ⟨x4, e4, g4⟩ := un Tryz.underlying35 t4
 obtain ⟨x5, e5, _⟩ := apg Tryz.underlying9 t5
 obtain ⟨x6, e6, _⟩ := apg Tryz.underlying9 t6
 obtain ⟨x7, e7⟩ := axt Tryz.underlying4 t7
 have c0 : Tryz.prog.cellsOf T.g = 1 := by kernel_rfl
 have c1 : Tryz.prog.cellsOf T.ae = 1 := by kernel_rfl
 have c2 : Tryz.prog.cellsOf T.aq = 1 := by kernel_rfl
 match cs, hl with
 | [u0, u1, u2, u3, u4, u5, u6, u7], _ =>
  simp [c0, c1, c2] at e0 e1 e2 e3 e4 e5 e6 e7
  subst e0 e1 e2 e3 e4 e5 e6 e7
  exact ⟨⟨x0, x1, x2, x3, x4, x5, x6, x7⟩, fun j u hj => hc j u hj, zo g0, zo g1, zo g2, zo g3, zo g4⟩
theorem bkq {w : World} {n : Nat} {c : Array Value} (ht : TV P w n T.q c.toList) : ∃ m, Value.agg c = rj m ∧ 0 ≤ m.id ∧ 0 ≤ m.inc := by
 obtain ⟨hl, hf⟩ := adq Tryz.underlying139 ht
 have hl3 : Tryz.prog.cellsOf T.q = 3 := by kernel_rfl
 rw [hl3] at hl
 obtain ⟨m0, t0⟩ := hf 0 _ rfl
 obtain ⟨m1, t1⟩ := hf 1 _ rfl
 obtain ⟨m2, t2⟩ := hf 2 _ rfl
 obtain ⟨x0, e0, y0⟩ := un (k := .u64) (by kernel_rfl) t0
 obtain ⟨x1, e1, y1⟩ := un (k := .u64) (by kernel_rfl) t1
 obtain ⟨x2, e2, _⟩ := un (k := .i64) (by kernel_rfl) t2
 have c0 : Tryz.prog.cellsOf T.g = 1 := by kernel_rfl
 have c1 : Tryz.prog.cellsOf T.b = 1 := by kernel_rfl
 refine ⟨⟨x0, x1, x2⟩, ?_, (wfP y0).1, (wfP y1).1⟩
 unfold rj
 congr 1
 apply Array.toList_inj.1
 match hcl : c.toList, hl with
 | [u0, u1, u2], _ =>
  rw [hcl] at e0 e1 e2
  simp [c0, c1] at e0 e1 e2
  subst e0 e1 e2
  rfl
theorem avr {w : World} {n : Nat} {v : Value} (h : TV P w n T.j [v]) : ∃ l, SlM w v l ∧ ∀ m ∈ l, 0 ≤ m.id ∧ 0 ≤ m.inc := by
 suffices hh : ∃ l : List Mem, xr w 3 (fun w b o x => rdE acq w b o x ∧ (0 ≤ x.id ∧ 0 ≤ x.inc)) v l by
  obtain ⟨l, hl⟩ := hh
  exact ⟨l, ank hl⟩
 refine agb (sz := 3) (rd := fun w b o x => rdE acq w b o x ∧ (0 ≤ x.id ∧ 0 ≤ x.inc)) et.j.ty (by kernel_rfl) (by decide) (fun n b o cs ht hl hc => ?_) h
 obtain ⟨m, hm, hr⟩ := bkq (c := cs.toArray) (by simpa using ht)
 unfold rj at hm
 injection hm with hm
 have : cs = acq m := by
  have := congrArg Array.toList hm
  simpa [acq] using this
 subst this
 exact ⟨m, fun j u hj => hc j u hj, hr⟩
structure LsR (ls : List Spn) (lm : List Mem) (lu : List Int) : Prop where
 s : ∀ x ∈ ls, wg x
 m : ∀ x ∈ lm, 0 ≤ x.id ∧ 0 ≤ x.inc
 u : ∀ x ∈ lu, tx x
theorem bcm {w : World} {n : Nat} {cs : List Value} (ht : TV P w n T.c cs) : ∃ b : Bal, cs = [.int .u64 b.n, .int .u64 b.jf] ∧ b.rng := by
 obtain ⟨hl, hf⟩ := adq Tryz.underlying40 ht
 have hl2 : Tryz.prog.cellsOf T.c = 2 := by kernel_rfl
 rw [hl2] at hl
 obtain ⟨m0, t0⟩ := hf 0 _ rfl
 obtain ⟨m1, t1⟩ := hf 1 _ rfl
 obtain ⟨x0, e0, h0⟩ := un (k := .u64) (by kernel_rfl) t0
 obtain ⟨x1, e1, h1⟩ := un (k := .u64) (by kernel_rfl) t1
 have c0 : Tryz.prog.cellsOf T.g = 1 := by kernel_rfl
 match cs, hl with
 | [u0, u1], _ =>
  simp [c0] at e0 e1
  subst e0 e1
  exact ⟨⟨x0, x1⟩, rfl, zo h0, zo h1⟩
theorem boc {w : World} {n : Nat} {cs : List Value} (ht : TV P w n T.a cs) : ∃ p ls lm lu, cs = pkC p ∧ zq w p ls lm lu ∧ vu p ∧ LsR ls lm lu := by
 obtain ⟨hl, hf⟩ := adq Tryz.underlying46 ht
 have hl11 : Tryz.prog.cellsOf T.a = 11 := by kernel_rfl
 rw [hl11] at hl
 obtain ⟨m0, t0⟩ : ∃ m, TV P w m T.b ((cs.drop 0).take (P.cellsOf T.b)) := hf 0 _ rfl
 obtain ⟨m1, t1⟩ : ∃ m, TV P w m T.g ((cs.drop 1).take (P.cellsOf T.g)) := hf 1 _ rfl
 obtain ⟨m2, t2⟩ : ∃ m, TV P w m T.c ((cs.drop 2).take (P.cellsOf T.c)) := hf 2 _ rfl
 obtain ⟨m3, t3⟩ : ∃ m, TV P w m T.c ((cs.drop 4).take (P.cellsOf T.c)) := hf 3 _ rfl
 obtain ⟨m4, t4⟩ : ∃ m, TV P w m T.p ((cs.drop 6).take (P.cellsOf T.p)) := hf 4 _ rfl
 obtain ⟨m5, t5⟩ : ∃ m, TV P w m T.aq ((cs.drop 7).take (P.cellsOf T.aq)) := hf 5 _ rfl
 obtain ⟨m6, t6⟩ : ∃ m, TV P w m T.d ((cs.drop 8).take (P.cellsOf T.d)) := hf 6 _ rfl
 obtain ⟨m7, t7⟩ : ∃ m, TV P w m T.j ((cs.drop 9).take (P.cellsOf T.j)) := hf 7 _ rfl
 obtain ⟨m8, t8⟩ : ∃ m, TV P w m T.i ((cs.drop 10).take (P.cellsOf T.i)) := hf 8 _ rfl
 have c0 : P.cellsOf T.b = 1 := by kernel_rfl
 have c1 : P.cellsOf T.g = 1 := by kernel_rfl
 have c2 : P.cellsOf T.c = 2 := by kernel_rfl
 have c3 : P.cellsOf T.p = 1 := by kernel_rfl
 have c4 : P.cellsOf T.aq = 1 := by kernel_rfl
 have c5 : P.cellsOf T.d = 1 := by kernel_rfl
 have c6 : P.cellsOf T.j = 1 := by kernel_rfl
 have c7 : P.cellsOf T.i = 1 := by kernel_rfl
 match cs, hl with
 | [u0, u1, u2, u3, u4, u5, u6, u7, u8, u9, u10], _ =>
  simp only [c0, c1, c2, c3, c4, c5, c6, c7, List.drop_zero, List.drop_succ_cons, List.take_succ_cons, List.take_zero] at t0 t1 t2 t3 t4 t5 t6 t7 t8
  obtain ⟨x0, e0, _⟩ := un (k := .i64) (by kernel_rfl) t0
  obtain ⟨x1, e1, g1⟩ := un (k := .u64) (by kernel_rfl) t1
  obtain ⟨b2, e2, g2⟩ := bcm t2
  obtain ⟨b3, e3, g3⟩ := bcm t3
  obtain ⟨x4, e4, _⟩ := un (k := .i64) (by kernel_rfl) t4
  obtain ⟨x5, e5⟩ := axt (by kernel_rfl) t5
  obtain ⟨ls, s6, f6⟩ := bbg t6
  obtain ⟨lm, s7, f7⟩ := avr t7
  obtain ⟨lu, s8, f8⟩ := bht t8
  simp only [List.cons.injEq, and_true] at e0 e1 e2 e3 e4 e5
  obtain ⟨rfl, rfl⟩ := e2
  obtain ⟨rfl, rfl⟩ := e3
  subst e0 e1 e4 e5
  exact ⟨⟨x0, x1, b2, b3, x4, x5, u8, u9, u10⟩, ls, lm, lu, rfl, ⟨s6, s7, s8⟩, ⟨zo g1, g2, g3⟩, f6, f7, f8⟩
open Go.Eng Go.Proofs.YtfnhoaemapheoaaGreat.Sint
abbrev PB := SV × List Int
section
variable {w0 w w' : World} {R : List Asn} {v : Value} {l : List PB} {ls : List (List Int)}
end
section
variable {s f : Int} {Q Q0 : List Prt} {q : Prt} {F : Nat} {D : Dk} {w : Prop} {fa lo : List Int} {L : Lg} {b l : List Int}
theorem aqu : ∀ ds : List (List Int), 8 * ds.length ≤ (cat ds).length
 | [] => by simp
 | d :: ds => by
  have := aqu ds
  have e : cat (d :: ds) = ji d ++ cat ds := by simp [cat]
  rw [e, List.length_append, ny]; simp; omega
theorem auw : ∀ Q0 : List Prt, 8 * (jm Q0).length ≤ ((Q0.map ng).map Fil.len).sum
 | [] => by simp [jm]
 | q :: Q0 => by
  have h1 := auw Q0
  have h2 := aqu q.iu
  have e : jm (q :: Q0) = q.iu ++ jm Q0 := by unfold jm; simp
  have e2 : (ng q).len = (nv q.first).length + (cat q.iu).length := by unfold ng Fil.len body; simp
  rw [e, List.map_cons, List.map_cons, List.sum_cons, List.length_append, e2]
  omega
theorem aye : ∀ Q0 : List Prt, ∀ q ∈ Q0, (body q).length ≤ ((Q0.map ng).map Fil.len).sum := fun Q0 q hq => by
 have : (ng q).len ≤ ((Q0.map ng).map Fil.len).sum := afu (List.mem_map_of_mem (List.mem_map_of_mem hq))
 have e2 : (ng q).len = (body q).length := by unfold ng Fil.len; simp
 omega
theorem aol (h : ri s f L F D) : (∀ q ∈ L.gy, (body q).length ≤ D.iz) ∧ 8 * (jm L.gy).length ≤ D.iz := by
 rcases h.vir.dsc with ⟨hq, _⟩ | ⟨Q0, q, fa, lo, m, hq, hf, _, hw, _⟩
 ·rw [hq]; exact ⟨fun q h => by simp at h, by simp [jm]⟩
 ·have hb : fa.length + lo.length = (body q).length := by rw [← hw trivial, List.length_append]
  have hc : (body q).length = (nv q.first).length + (cat q.iu).length := by unfold body; rw [List.length_append]
  have hcg := aqu q.iu
  have hu : D.iz = ((Q0.map ng).map Fil.len).sum + (body q).length := by
   unfold Dk.iz
   rw [hf, List.map_append, List.sum_append]
   simp [Fil.len]; omega
  refine ⟨fun x hx => ?_, ?_⟩
  ·rw [hq] at hx
   rcases List.mem_append.1 hx with hx | hx
   ·have := aye Q0 x hx; omega
   ·rw [List.mem_singleton.1 hx]; omega
  ·have := auw Q0
   rw [hq, nr, tp, List.length_append]
   omega
theorem aro : ∀ {Q : List Prt} {s f : Int}, Chn s f Q → ∀ q ∈ Q, ∀ d ∈ q.iu, d.length ≤ 8192
 | q :: r, s, f, h, x, hx, d, hd => by
  rcases List.mem_cons.1 hx with rfl | hx
  ·exact h.2.2.1 d hd
  ·exact aro h.2.2.2 x hx d hd
theorem bmm : ∀ {Q : List Prt}, ∀ q ∈ Q, q.iu.length ≤ (jm Q).length := fun {Q} q hq => by
 obtain ⟨a, c, rfl⟩ := List.append_of_mem hq
 unfold jm; simp; omega
end
section
variable {w0 w : World} {R : List Asn} {p hb : Nat} {L : Lg} {D : Dk} {s f : Int} {G : Nat}
theorem apj (S : St w0 w (il hb D :: R)) : D.jb ≤ 1048576 ∧ (D.iz : Int) ≤ D.jb := by
 obtain ⟨r, m, es, hk, _⟩ := zi S
 exact ⟨hk.jb, hk.iz⟩
theorem asq (S : St w0 w (il hb D :: R)) (h : ri s f L G D) : (jm L.gy).length ≤ 131072 := by
 have h1 := apj S
 have h2 := (aol h).2
 omega
theorem blx (S : St w0 w (il hb D :: R)) (h : ri s f L G D) : LgB L := by
 have h1 := apj S
 have h2 := aol h
 refine ⟨by have := h.vir.len; omega, awz h.vir.s0 h.vir.chn, fun q hq => ?_, fun q hq => ?_⟩
 ·have := bmm q hq; omega
 ·have := h.size q hq
  have := h2.1 q hq
  omega
theorem bei (S : St w0 w (mi p hb L :: il hb D :: R)) (h : ri s f L G D) {K : KV} (hK : ∀ w' v', St w0 w' (mn v' (jm L.gy) :: mi p hb L :: il hb D :: R) → K v' w') : gi P F.cu [jx p] w K := by
 have h1 := asq S.swap h
 exact bjz S (by have := h.vir.len; omega) (by unfold Lg.all; unfold jm at h1; omega) (fun q hq d hd => by have := aro h.vir.chn q hq d hd; omega) hK
end
def ss : Lg → Dk → List (List Int) → (Lg × Dk) × Int
 | L, D, [] => ((L, D), 0)
 | L, D, b :: r => if (L.append D b).2 = 0 then ss (L.append D b).1.1 (L.append D b).1.2 r else L.append D b
inductive Wr (s f : Int) (L : Lg) (F : Nat) (D : Dk) (iu : List (List Int)) : (Lg × Dk) × Int → Prop
 | ok (L' : Lg) (D' : Dk) : ri s f L' F D' → jm L'.gy = jm L.gy ++ iu → L'.ik = L.ik → D'.jb = D.jb → (D.jt = false → D'.jt = false) → Wr s f L F D iu ((L', D'), 0)
 | vk (i : Nat) (L' : Lg) (D' : Dk) : i < iu.length → ri s f L' F D' → jm L'.gy = jm L.gy ++ iu.take i → L'.ik = L.ik → D'.jb = D.jb → (D.jt = false → D'.jt = false) → Wr s f L F D iu ((L', D'), 9)
 | je (i j : Nat) (L' : Lg) (D0 D' : Dk) (Q : List Prt) : D.jt = true → ri s f L' F D0 → jm L'.gy = jm L.gy ++ iu.take j → L'.ik = L.ik → D'.je = true → Vir s f Q F D' False → jm Q = jm L.gy ++ iu.take i → D'.jb = D.jb → Wr s f L F D iu ((L', D'), 10)
theorem bmj {s f : Int} {F : Nat} : ∀ (iu : List (List Int)) {L : Lg} {D : Dk}, ri s f L F D → (∀ b ∈ iu, b.length ≤ 8192) → f + (jm L.gy).length + iu.length ≤ 1000000000000 → Wr s f L F D iu (ss L D iu)
 | [], L, D, h, _, _ => .ok L D h (by simp) rfl rfl id
 | b :: r, L, D, h, hl, hn => by
  have ha := big (b := b) h (by simp at hn; omega)
  rw [ss]
  have hb := hl b (by simp)
  generalize L.append D b = x at ha ⊢
  cases ha with
  | amh hx => omega
  | vk D' hx g e1 e2 =>
   rw [if_neg (by simp)]
   exact .vk 0 L D' (by simp) g (by simp) rfl e1 (fun h => by rw [e2]; exact h)
  | je D' Q e1 e2 e3 e4 e5 =>
   rw [if_neg (by simp)]
   exact .je 1 0 L D D' Q e1 h (by simp) rfl e2 e3 (by simpa using e4) e5
  | ok L' D' g e1 e2 e3 e4 e5 e6 e7 e8 =>
   rw [if_pos rfl]
   have hr := bmj r g (fun x hx => hl x (List.mem_cons_of_mem _ hx)) (by rw [e1]; simp at hn ⊢; omega)
   simp only
   generalize ss L' D' r = y at hr ⊢
   cases hr with
   | ok L2 D2 g2 a1 a2 a3 a4 => exact .ok L2 D2 g2 (by rw [a1, e1]; simp) (by rw [a2, e4]) (by rw [a3, e5]) (fun h => a4 (e6 h))
   | vk i L2 D2 hi g2 a1 a2 a3 a4 => exact .vk (i + 1) L2 D2 (by simp; omega) g2 (by rw [a1, e1]; simp) (by rw [a2, e4]) (by rw [a3, e5]) (fun h => a4 (e6 h))
   | je i j L2 D0 D2 Q b1 b2 b3 b4 b5 b6 b7 b8 =>
    have harm : D.jt = true := by
     cases ha : D.jt with
     | true => rfl
     | false => rw [e6 ha] at b1; exact absurd b1 (by decide)
    exact .je (i + 1) (j + 1) L2 D0 D2 Q harm b2 (by rw [b3, e1]; simp) (by rw [b4, e4]) b5 b6 (by rw [b7, e1]; simp) (by rw [b8, e5])
def su (a b : Int) : Int := if a < b then -1 else if b < a then 1 else 0
theorem aak {w : World} (a b : Int) {K : KV} (h : K (.int .i64 (su a b)) w) : gi P F.bn [.int .u64 a, .int .u64 b] w K := by
 have nan : ∀ (z : Int) {K : KV}, K (.bool false) w → gi P F.al [.int .u64 z] w K := fun z K hK => by
  rw [M.dh.fcall]
  apply M.dh.calls
  unfold M.dh
  simpa using hK
 rw [M.bp.fcall]
 apply M.bp.calls
 unfold M.bp
 refine nan a ?_
 refine nan b ?_
 simp
 unfold M.bp.j2
 unfold su at h
 by_cases h1 : a < b
 ·simp [h1] at h ⊢; exact h
 ·by_cases h2 : b < a
  ·simp [h1, h2] at h ⊢; exact h
  ·simp [h1, h2] at h ⊢; exact h
theorem bdp {w : World} {v : Value} {l : List Int} (hs : Sl w 1 yu v l) (hlen : l.length ≤ 1000) {K : KV} (h : K (.int .i64 (orK l)) w) : kg P F.et [v] w K := by
 apply M.di.calls
 unfold M.di
 simp only [gp]
 rw [hs.iy (by simp)]
 refine ⟨OrI w l, fun x _ => l.length - ms x 2, ⟨_, _, 0, rfl, rfl, Nat.zero_le _, fun j k _ h => by omega⟩, ?_⟩
 rintro x w1 ⟨a, b, i, rfl, rfl, hi, hz⟩
 have gv2 : gv [a, b, .int .i64 (i : Int)] 2 = .int .i64 (i : Int) := rfl
 simp only [gv2]
 by_cases hil : i < l.length
 ·obtain ⟨bb, o, cap, rfl, hb, _, hr⟩ := hs.at hil
  have e0 := hr 0 _ rfl
  simp only [Nat.mul_one, Nat.add_zero] at e0
  have hw : IntKind.i64.wrap ((i : Int) + 1) = ((i + 1 : Nat) : Int) := by rw [ia]; rfl
  simp [hil]
  unfold M.di.j2
  simp only [gp, gv2]
  by_cases hk : l[i] = 0
  ·simp [hil, e0, hk, hw]
   refine ⟨⟨_, _, i + 1, rfl, rfl, by omega, fun j k hj hlt => ?_⟩, by simp [ms, gv]; omega⟩
   by_cases hji : j = i
   ·subst hji
    rw [List.getElem?_eq_getElem hil] at hj
    cases hj; exact hk
   ·exact hz j k hj (by omega)
  ·simp [hil, e0, hk]
   have : orK l = l[i] := by
    unfold orK
    have : l.find? (fun k => !decide (k = 0)) = some l[i] := by
     rw [List.find?_eq_some_iff_getElem]
     refine ⟨by simpa using hk, i, hil, rfl, fun j hj => ?_⟩
     have := hz j _ (List.getElem?_eq_getElem (by omega)) hj
     simp [this]
    rw [this]; rfl
   rw [this] at h; exact h
 ·simp [hil]
  have : orK l = 0 := by
   unfold orK
   have : l.find? (fun k => !decide (k = 0)) = none := by
    rw [List.find?_eq_none]
    intro k hk
    obtain ⟨j, hj, rfl⟩ := List.mem_iff_getElem.1 hk
    have := hz j _ (List.getElem?_eq_getElem hj) (by omega)
    simp [this]
   rw [this]; rfl
  rw [this] at h; exact h
theorem or2 (a b : Int) : orK [a, b] = if a = 0 then b else a := by
 unfold orK
 by_cases ha : a = 0 <;> by_cases hb : b = 0 <;> simp [ha, hb]
theorem beo {a b : Bal} : decide ((orK [su a.n b.n, su a.jf b.jf]) < 0) = a.qk b := by
 rw [or2]
 unfold su Bal.qk
 apply decide_eq_decide.2
 repeat' split
 all_goals omega
theorem aov {w : World} {b : Nat} {x : Bal} {f : Nat × Nat} (h : w.heap[b]? = some (.cells #[.int .u64 x.n, .int .u64 x.jf] T.c f)) : gr w b 0 = some (.int .u64 x.n) ∧ gr w b 1 = some (.int .u64 x.jf) ∧ ∀ K, ldN P 2 b 0 w K = K (ku x) w :=
 ⟨by rw [gt h]; rfl, by rw [gt h]; rfl, fun K => aeb (by rw [gt h]; rfl) (by rw [gt h]; rfl) K⟩
theorem bol (x y : Bal) {w : World} {Q : Value → Value → World → Prop} (h : ∀ w1 b1 b2, St w w1 (ii b2 #[.int .u64 y.n, .int .u64 y.jf] T.c :: ii b1 #[.int .u64 x.n, .int .u64 x.jf] T.c :: []) → Q (jx b1) (jx b2) w1) :
  my P T.c (ku x) w fun v1 w1 => my P T.c (ku y) w1 fun v2 w2 => Q v1 v2 w2 := by
 rw [xj, xj]
 exact h _ _ _ (aet (aet (St.jp w) #[.int .u64 x.n, .int .u64 x.jf] T.c) #[.int .u64 y.n, .int .u64 y.jf] T.c)
theorem bea {w : World} (x y : Bal) {K : KV} (h : ∀ w', Fz w w' → K (.int .i64 (orK [su x.n y.n, su x.jf y.jf])) w') : gi P F.eu [ku x, ku y] w K := by
 rw [M.eh.fcall]
 apply M.eh.calls
 unfold M.eh
 refine bol x y fun w1 b1 b2 S1 => ?_
 have S2 := S1.jo ((Fr.refl _ w1).dr 1)
 obtain ⟨y0, y1, _⟩ := aov S2.blk
 obtain ⟨x0, x1, _⟩ := aov S2.swap.blk
 simp only [jx]
 rw [qi]
 simp only [vp] at x0 x1 y0 y1
 simp [x0, x1, y0, y1]
 refine aak _ _ ?_
 simp [x1, y1]
 refine aak _ _ ?_
 simp
 have S3 : St w ((dr w1 1).alloc (.cells #[.int .i64 (su x.n y.n), .int .i64 (su x.jf y.jf)] T.b)) _ := aet S2 #[.int .i64 (su x.n y.n), .int .i64 (su x.jf y.jf)] T.b
 have hsl : Sl ((dr w1 1).alloc (.cells #[.int .i64 (su x.n y.n), .int .i64 (su x.jf y.jf)] T.b)) 1 yu (.slice (some ⟨w1.heap.size, 0, none⟩) 2 2) [su x.n y.n, su x.jf y.jf] := by
  have hh := S3.blk
  rw [show (dr w1 1).heap.size = w1.heap.size from rfl] at hh
  refine ⟨some ⟨w1.heap.size, 0, none⟩, 2, rfl, by simp, by simp [maxLen], fun i z hz => ⟨w1.heap.size, 0, rfl, ph hh, fun j u hj => ?_⟩⟩
  rw [gt hh]
  match i, j with
  | 0, 0 => simp [yu] at hz hj ⊢; rw [hz]; exact hj
  | 1, 0 => simp [yu] at hz hj ⊢; rw [hz]; exact hj
  | i + 2, _ => simp at hz
  | _, j + 1 => simp [yu] at hj
 rw [M.di.fcall]
 exact bdp hsl (by simp) (h _ S3.fr)
section
variable {w0 w : World} {b : Nat} {t : TypeId} {R : List Asn}
theorem qt {x : Bal} (S : St w0 w (ii b #[.int .u64 x.n, .int .u64 x.jf] t :: R)) : gr w b 0 = some (.int .u64 x.n) ∧ gr w b 1 = some (.int .u64 x.jf) ∧ ∀ K, ldN P 2 b 0 w K = K (ku x) w :=
 ⟨by rw [S.cell]; rfl, by rw [S.cell]; rfl, fun K => S.ldA [.int .u64 x.n, .int .u64 x.jf] rfl rfl K⟩
theorem bnl : Value.agg #[.int .u64 0, .int .u64 0] = ku ip := rfl
end
def pk0 (k tr : Int) (x s : Bal) (v : Int) (ok : Bool) : Pk := ⟨k, tr, x, s, v, ok, .slice none 0 0, .slice none 0 0, .slice none 0 0⟩
theorem awo (k tr : Int) (x s : Bal) (v : Int) (ok : Bool) : ∀ u ∈ pkC (pk0 k tr x s v ok), kh u = true := fun u hu => by
 simp only [pkC, pk0, List.mem_cons, List.not_mem_nil, or_false] at hu
 rcases hu with rfl | rfl | rfl | rfl | rfl | rfl | rfl | rfl | rfl | rfl | rfl <;> rfl
def pkZ : Pk := pk0 0 0 ip ip 0 false
section
variable {w0 w : World} {b : Nat} {R : List Asn}
theorem afi {cs : Array Value} {q : Pk} (S : St w0 w (ii b cs T.a :: R)) (hs : cs.size = 11) (h1 : ∀ u ∈ pkC q, kh u = true) {K : KV} (h : ∀ w', St w0 w' (ii b (pkC q).toArray T.a :: R) → K undef w') : stN P b 0 (pkC q) w K :=
 S.put h1 (by simp [pkC, hs]) (by
  have hl : cs.toList.length = 11 := by simpa using hs
  have h2 : (pkC q).length = 11 := rfl
  rw [h2, List.take_zero, List.nil_append, List.drop_eq_nil_of_le (by omega), List.append_nil]) h
theorem abx (S : St w0 w R) : St w0 (w.alloc (.cells #[.int .i64 0, .int .u64 0, .int .u64 0, .int .u64 0, .int .u64 0, .int .u64 0, .int .i64 0, .bool false, .slice none 0 0, .slice none 0 0, .slice none 0 0] T.a)) (ii w.heap.size (pkC pkZ).toArray T.a :: R) := S.mkB (pkC pkZ).toArray T.a
theorem wj {q : Pk} (S : St w0 w (ii b (pkC q).toArray T.a :: R)) (K : KV) : ldN P 11 b 0 w K = K (pkA q) w := S.ldA (pkC q) rfl rfl K
theorem bnj {q : Pk} (S : St w0 w (ii b (pkC q).toArray T.a :: R)) (K : KV) : pw P T.a (.pointer (some ⟨b, 0, none⟩)) w K = K (pkA q) w := by rw [ail]; exact wj S K
theorem ave {cs : Array Value} {q : Pk} (S : St w0 w (ii b cs T.a :: R)) (hs : cs.size = 11) (h1 : ∀ u ∈ pkC q, kh u = true) {K : KV} (h : ∀ w', St w0 w' (ii b (pkC q).toArray T.a :: R) → K (pkA q) w') :
  stN P b 0 (pkC q) w fun _ w => pw P T.a (.pointer (some ⟨b, 0, none⟩)) w fun r0 w' => w' = w ∧ K r0 w :=
 afi S hs h1 fun w' S' => by rw [bnj S']; exact ⟨rfl, h w' S'⟩
end
def sk (l1 l2 : List Spn) : Bool := decide (l1.length = l2.length) && (List.zipWith uu l1 l2).all id
theorem aot {l1 l2 : List Spn} {i : Nat} (h1 : i < l1.length) (h2 : i < l2.length) (h : uu l1[i] l2[i] = false) : sk l1 l2 = false := by
 unfold sk
 have : (List.zipWith uu l1 l2).all id = false := by
  rw [List.all_eq_false]
  refine ⟨uu l1[i] l2[i], ?_, by simp [h]⟩
  rw [List.mem_iff_getElem]
  exact ⟨i, by simp; omega, by simp⟩
 rw [this, Bool.and_false]
theorem afr {l1 l2 : List Spn} (hl : l1.length = l2.length) (h : ∀ j (h1 : j < l1.length) (h2 : j < l2.length), uu l1[j] l2[j] = true) : sk l1 l2 = true := by
 unfold sk
 rw [decide_eq_true hl, Bool.true_and, List.all_eq_true]
 intro x hx
 obtain ⟨j, hj, rfl⟩ := List.getElem_of_mem hx
 simp only [List.length_zipWith] at hj
 rw [List.getElem_zipWith]
 exact h j (by omega) (by omega)
theorem avn (l : List Spn) : sk l l = true := afr rfl fun j _ _ => ami _
theorem avh {w : World} {v1 v2 : Value} {l1 l2 : List Spn} (h1 : SlS w v1 l1) (h2 : SlS w v2 l2) (hn : l1.length ≤ 1000000) {K : KV}
  (h : ∀ w', Fz w w' → K (.bool (sk l1 l2)) w') : gi P F.bp [v1, v2] w K := by
 rw [M.l.fcall]
 apply M.l.calls
 unfold M.l
 simp only [gp]
 rw [h1.iy (by simp), h2.iy (by simp)]
 by_cases hne : l1.length = l2.length
 case neg =>
  have hne' : ¬ (l1.length : Int) = (l2.length : Int) := by omega
  have hz : sk l1 l2 = false := by unfold sk; simp [hne]
  rw [hz] at h
  simp [hne']
  exact h w (Fr.refl _ _)
 simp [hne]
 unfold M.l.j0
 simp only [gp]
 refine ⟨bcg w l1 l2, fun x _ => l1.length - ms x 1, ⟨_, 0, rfl, Nat.zero_le _, fun j _ _ h => by omega, Fr.refl _ _⟩, ?_⟩
 rintro x w1 ⟨a, i, rfl, hin, hpre, hf1⟩
 have g1 : gv [a, .int .i64 (i : Int)] 1 = .int .i64 (i : Int) := rfl
 simp only [g1]
 have hr1 : SlS w1 v1 l1 := h1.fr hf1 fun _ _ _ h => h
 have hr2 : SlS w1 v2 l2 := h2.fr hf1 fun _ _ _ h => h
 rw [hr1.iy (by simp)]
 by_cases hlt : i < l1.length
 ·have hlt2 : i < l2.length := by omega
  obtain ⟨b1, o1, c1, rfl, _, _, k1⟩ := hr1.at hlt
  obtain ⟨b2, o2, c2, rfl, _, _, k2⟩ := hr2.at hlt2
  have hw : IntKind.i64.wrap ((i : Int) + 1) = ((i + 1 : Nat) : Int) := by rw [ia]; rfl
  have d1 : ∀ K, ldN P 8 b1 (o1 + i * 8) (dr w1 1) K = K (km l1[i]) (dr w1 1) := fun K => ldS (w := dr w1 1) k1 K
  have d2 : ∀ K, ldN P 8 b2 (o2 + i * 8) (dr w1 1) K = K (km l2[i]) (dr w1 1) := fun K => ldS (w := dr w1 1) k2 K
  simp [hlt]
  unfold M.l.j3
  simp only [gp, g1]
  cases hs : uu l1[i] l2[i] with
  | true =>
   simp [hlt, hlt2, d1, d2, abz, hs, hw]
   refine ⟨⟨_, i + 1, rfl, by omega, fun j a1 a2 hj => ?_, hf1.dr 1⟩, by simp [ms, gv]; omega⟩
   by_cases hji : j = i
   ·subst hji; exact hs
   ·exact hpre j a1 a2 (by omega)
  | false =>
   rw [aot hlt hlt2 hs] at h
   simp [hlt, hlt2, d1, d2, abz, hs]
   exact h _ (hf1.dr 1)
 ·simp [hlt]
  have := h _ hf1
  rw [afr hne fun j a1 a2 => hpre j a1 a2 (by omega)] at this
  exact this
def me (p q : Pk) : Bool := decide (p.ie = q.ie) && (decide (p.tr = q.tr) && (decide (p.b = q.b) && (decide (p.jk = q.jk) && (decide (p.v = q.v) && (p.ok == q.ok)))))
def rm (p q : Pk) (ls ls' : List Spn) (lm lm' : List Mem) (lu lu' : List Int) : Bool := decide (lm = lm') && (decide (lu = lu') && (sk ls ls' && me p q))
theorem zq.one {w : World} {p : Pk} {ls : List Spn} {lm : List Mem} {lu : List Int} (h : zq w p ls lm lu) : kh p.sv = true ∧ kh p.mv = true ∧ kh p.iv = true := by
 obtain ⟨a1, c1, h1, _⟩ := h.s
 obtain ⟨a2, c2, h2, _⟩ := h.m
 obtain ⟨a3, c3, h3, _⟩ := h.u
 rw [h1, h2, h3]
 exact ⟨rfl, rfl, rfl⟩
theorem pn.sl {w : World} {p : Pk} {ls : List Spn} {lm : List Mem} {lu : List Int} (h : pn w p ls lm lu) : zq w p ls lm lu := ⟨h.s, h.m, h.u⟩
theorem alc {α : Type} {l1 l2 : List α} (hl : l1.length = l2.length) (h : ∀ j (h1 : j < l1.length) (h2 : j < l2.length), l1[j] = l2[j]) : l1 = l2 := List.ext_getElem hl h
def SaM (W : World) (pb qb : Nat) (p q : Pk) (lm lm' : List Mem) : KL := fun x w1 => ∃ (u : Value) (i : Nat), x = [u, .int .i64 (i : Nat)] ∧ i ≤ lm.length ∧ (∀ j (h1 : j < lm.length) (h2 : j < lm'.length), j < i → lm[j] = lm'[j]) ∧ St W w1 (ii qb (pkC q).toArray T.a :: ii pb (pkC p).toArray T.a :: [])
def SaU (W : World) (pb qb : Nat) (p q : Pk) (lu lu' : List Int) : KL := fun x w1 => ∃ (u : Value) (i : Nat), x = [u, .int .i64 (i : Nat)] ∧ i ≤ lu.length ∧ (∀ j (h1 : j < lu.length) (h2 : j < lu'.length), j < i → lu[j] = lu'[j]) ∧ St W w1 (ii qb (pkC q).toArray T.a :: ii pb (pkC p).toArray T.a :: [])
theorem aww (rx ry : Operand) (x y : Mem) (w : World) (K : KV) : ib P .neq T.q rx ry (rj x) (rj y) w K = K (.bool !(decide (x = y))) w := bdn rx ry x y w K
theorem bdx {w : World} {p q : Pk} {ls ls' : List Spn} {lm lm' : List Mem} {lu lu' : List Int} (hp : pn w p ls lm lu) (hq : pn w q ls' lm' lu') {K : KV}
  (h : ∀ w', Fz w w' → K (.bool (rm p q ls ls' lm lm' lu lu')) w') : gi P F.dv [pkA p, pkA q] w K := by
 rw [M.m.fcall]
 apply M.m.calls
 unfold M.m
 refine St.tz (St.jp w) fun pb w1 S1 => ?_
 refine St.tz S1 fun qb w2 S2 => ?_
 have S2' : St w w2 (ii qb (pkC q).toArray T.a :: ii pb (pkC p).toArray T.a :: []) := S2
 have hp2 := hp.fr S2'.fr
 have hq2 := hq.fr S2'.fr
 obtain ⟨q0, q1, q2, q4, q6, q7, q8, q9, q10, _⟩ := jl S2'
 obtain ⟨p0, p1, p2, p4, p6, p7, p8, p9, p10, _⟩ := jl S2'.swap
 have lm1 : ∀ w' K, biT P .len #[T.j] T.b [false] [p.mv] w' K = K (.int .i64 lm.length) w' := fun w' K => hp.m.iy (by kernel_rfl) [false]
 have lm2 : ∀ w' K, biT P .len #[T.j] T.b [false] [q.mv] w' K = K (.int .i64 lm'.length) w' := fun w' K => hq.m.iy (by kernel_rfl) [false]
 have lu1 : ∀ w' K, biT P .len #[T.i] T.b [false] [p.iv] w' K = K (.int .i64 lu.length) w' := fun w' K => hp.u.iy (by kernel_rfl) [false]
 have lu2 : ∀ w' K, biT P .len #[T.i] T.b [false] [q.iv] w' K = K (.int .i64 lu'.length) w' := fun w' K => hq.u.iy (by kernel_rfl) [false]
 have no : ∀ w', Fz w w' → rm p q ls ls' lm lm' lu lu' = false → K (.bool false) w' := fun w' f e => by
  have := h w' f
  rwa [e] at this
 by_cases hm : lm.length = lm'.length
 case neg =>
  have hm' : ¬ (lm.length : Int) = (lm'.length : Int) := by omega
  simp [p9, q9, lm1, lm2, hm']
  refine no _ S2.fr ?_
  unfold rm
  rw [decide_eq_false fun he => hm (congrArg List.length he)]
  rfl
 by_cases hu : lu.length = lu'.length
 case neg =>
  have hu' : ¬ (lu.length : Int) = (lu'.length : Int) := by omega
  simp [p9, q9, lm1, lm2, hm, p10, q10, lu1, lu2, hu']
  refine no _ S2.fr ?_
  unfold rm
  rw [decide_eq_false (p := lu = lu') fun he => hu (congrArg List.length he)]
  simp
 simp [p9, q9, lm1, lm2, hm, p10, q10, lu1, lu2, hu, p8, q8]
 refine avh hp2.s hq2.s hp.ls fun w3 f3 => ?_
 have S3 := S2'.jo f3
 cases hs : sk ls ls' with
 | false =>
  simp
  refine no _ S3.fr ?_
  unfold rm
  simp [hs]
 | true =>
 simp
 unfold M.m.j0
 refine ⟨SaM w pb qb p q lm lm', fun x _ => lm.length - ms x 1, ⟨_, 0, rfl, Nat.zero_le _, fun j _ _ h => by omega, S3⟩, ?_⟩
 rintro x w4 ⟨u, i, rfl, hi, hpre, S4⟩
 unfold M.m.j2
 obtain ⟨q0, q1, q2, q4, q6, q7, q8, q9, q10, _⟩ := jl S4
 obtain ⟨p0, p1, p2, p4, p6, p7, p8, p9, p10, _⟩ := jl S4.swap
 by_cases hil : i < lm.length
 ·have hil' : (i : Int) < (lm.length : Int) := by omega
  have hil2 : i < lm'.length := by omega
  have hw : IntKind.i64.wrap ((i : Int) + 1) = ((i + 1 : Nat) : Int) := by have := hp.lm; rw [ia]; rfl
  simp [p9, lm1, hil]
  unfold M.m.j3
  obtain ⟨b1, o1, c1, e1, _, _, k1⟩ := (hp.fr S4.fr).m.at hil
  obtain ⟨b2, o2, c2, e2, _, _, k2⟩ := (hq.fr S4.fr).m.at hil2
  have i1 : ∀ w' K, iaT P T.j p.mv (.int .i64 (i : Nat)) w' K = K (.pointer (some ⟨b1, o1 + i * 3, none⟩)) w' := fun w' K => by rw [e1]; simp [hil]
  have i2 : ∀ w' K, iaT P T.j q.mv (.int .i64 (i : Nat)) w' K = K (.pointer (some ⟨b2, o2 + i * 3, none⟩)) w' := fun w' K => by rw [e2]; simp [hil2]
  have d1 : ∀ K, ldN P 3 b1 (o1 + i * 3) (dr w4 1) K = K (rj lm[i]) (dr w4 1) := fun K => ldM (w := dr w4 1) k1 K
  have d2 : ∀ K, ldN P 3 b2 (o2 + i * 3) (dr w4 1) K = K (rj lm'[i]) (dr w4 1) := fun K => ldM (w := dr w4 1) k2 K
  by_cases he : lm[i] = lm'[i]
  ·simp [p9, q9, i1, i2, d1, d2, aww, he, hw]
   refine ⟨⟨_, i + 1, rfl, by omega, fun j a1 a2 hj => ?_, S4.jo ((Fr.refl _ w4).dr 1)⟩, by simp [ms, gv]; omega⟩
   by_cases hji : j = i
   ·subst hji; exact he
   ·exact hpre j a1 a2 (by omega)
  ·simp [p9, q9, i1, i2, d1, d2, aww, he]
   refine no _ (S4.jo ((Fr.refl _ w4).dr 1)).fr ?_
   unfold rm
   rw [decide_eq_false (p := lm = lm') fun hee => he (by simp [hee])]
   rfl
 have hil' : ¬ (i : Int) < (lm.length : Int) := by omega
 have hme : lm = lm' := alc hm fun j a1 a2 => hpre j a1 a2 (by omega)
 simp [p9, lm1, hil]
 refine ⟨SaU w pb qb p q lu lu', fun x _ => lu.length - ms x 1, ⟨_, 0, rfl, Nat.zero_le _, fun j _ _ h => by omega, S4⟩, ?_⟩
 rintro x w5 ⟨u, i, rfl, hi, hpre2, S5⟩
 unfold M.m.j6
 obtain ⟨q0, q1, q2, q4, q6, q7, q8, q9, q10, _⟩ := jl S5
 obtain ⟨p0, p1, p2, p4, p6, p7, p8, p9, p10, _⟩ := jl S5.swap
 by_cases hil : i < lu.length
 ·have hil' : (i : Int) < (lu.length : Int) := by omega
  have hil2 : i < lu'.length := by omega
  have hw : IntKind.i64.wrap ((i : Int) + 1) = ((i + 1 : Nat) : Int) := by have := hp.lu; rw [ia]; rfl
  simp [p10, lu1, hil]
  unfold M.m.j7
  obtain ⟨b1, o1, c1, e1, _, k1⟩ := aev (hp.fr S5.fr).u hil
  obtain ⟨b2, o2, c2, e2, _, k2⟩ := aev (hq.fr S5.fr).u hil2
  have i1 : ∀ w' K, iaT P T.i p.iv (.int .i64 (i : Nat)) w' K = K (.pointer (some ⟨b1, o1 + i, none⟩)) w' := fun w' K => by rw [e1]; simp [hil]
  have i2 : ∀ w' K, iaT P T.i q.iv (.int .i64 (i : Nat)) w' K = K (.pointer (some ⟨b2, o2 + i, none⟩)) w' := fun w' K => by rw [e2]; simp [hil2]
  by_cases he : lu[i] = lu'[i]
  ·simp [p10, q10, i1, i2, k1, k2, he, hw]
   refine ⟨⟨_, i + 1, rfl, by omega, fun j a1 a2 hj => ?_, S5.jo ((Fr.refl _ w5).dr 1)⟩, by simp [ms, gv]; omega⟩
   by_cases hji : j = i
   ·subst hji; exact he
   ·exact hpre2 j a1 a2 (by omega)
  ·simp [p10, q10, i1, i2, k1, k2, he]
   refine no _ (S5.jo ((Fr.refl _ w5).dr 1)).fr ?_
   unfold rm
   rw [decide_eq_false (p := lu = lu') fun hee => he (by simp [hee])]
   simp
 have hil' : ¬ (i : Int) < (lu.length : Int) := by omega
 have hue : lu = lu' := alc hu fun j a1 a2 => hpre2 j a1 a2 (by omega)
 simp [p10, lu1, hil]
 unfold M.m.j5
 have fin := h w5 S5.fr
 unfold rm at fin
 rw [decide_eq_true hme, decide_eq_true hue, hs, Bool.true_and, Bool.true_and, Bool.true_and] at fin
 unfold me at fin
 have hbo : afs P T.aq = true := by kernel_rfl
 by_cases a0 : p.ie = q.ie
 case neg =>
  simp [a0] at fin
  simp [p0, q0, a0]
  exact fin
 by_cases a1 : p.tr = q.tr
 case neg =>
  simp [a1] at fin
  simp [p0, q0, a0, p1, q1, a1]
  exact fin
 by_cases a2 : p.b = q.b
 case neg =>
  simp [a2] at fin
  simp [p0, q0, a0, p1, q1, a1, p2, q2, vz, a2]
  exact fin
 by_cases a3 : p.jk = q.jk
 case neg =>
  simp [a3] at fin
  simp [p0, q0, a0, p1, q1, a1, p2, q2, vz, a2, p4, q4, a3]
  exact fin
 by_cases a4 : p.v = q.v
 case neg =>
  simp [a4] at fin
  simp [p0, q0, a0, p1, q1, a1, p2, q2, vz, a2, p4, q4, a3, p6, q6, a4]
  exact fin
 simp [a0, a1, a2, a3, a4] at fin
 simp [p0, q0, a0, p1, q1, a1, p2, q2, vz, a2, p4, q4, a3, p6, q6, a4, p7, q7, afo hbo]
 exact fin
def lg (p : Pk) : Pk := ⟨p.ie, if p.ie = 3 then 0 else p.tr, if p.ie = 4 ∨ p.ie = 5 ∨ p.ie = 6 ∨ p.ie = 7 ∨ p.ie = 9 then p.b else ip, if p.ie = 5 ∨ p.ie = 7 then p.jk else ip, if p.ie = 5 ∨ p.ie = 6 ∨ p.ie = 8 then p.v else 0, if p.ie = 5 ∨ p.ie = 7 then p.ok else false,
 if p.ie = 1 ∨ p.ie = 2 ∨ p.ie = 9 then p.sv else .slice none 0 0, if p.ie = 3 then p.mv else .slice none 0 0, if p.ie = 10 then p.iv else .slice none 0 0⟩
def pm (p : Pk) (l : List Spn) : List Spn := if p.ie = 1 ∨ p.ie = 2 ∨ p.ie = 9 then l else []
def pk (p : Pk) (l : List Mem) : List Mem := if p.ie = 3 then l else []
def pj (p : Pk) (l : List Int) : List Int := if p.ie = 10 then l else []
theorem axj {w : World} {p : Pk} {ls : List Spn} {lm : List Mem} {lu : List Int} (h : pn w p ls lm lu) : pn w (lg p) (pm p ls) (pk p lm) (pj p lu) := by
 refine ⟨?_, ?_, ?_, ?_, ?_, ?_⟩
 ·unfold lg pm; simp only; split
  ·exact h.s
  ·exact Sl.nil
 ·unfold lg pk; simp only; split
  ·exact h.m
  ·exact Sl.nil
 ·unfold lg pj; simp only; split
  ·exact h.u
  ·exact Sl.nil
 ·unfold pm; split
  ·exact h.ls
  ·simp
 ·unfold pk; split
  ·exact h.lm
  ·simp
 ·unfold pj; split
  ·exact h.lu
  ·simp
theorem acs (b : Nat) (q : Pk) (w : World) (K : KV) : stT P T.a (.pointer (some ⟨b, 0, none⟩)) (pkA q) w K = stN P b 0 (pkC q) w K := by simp [pkA, pkC]
theorem bkx {q : Pk} (h1 : kh q.sv = true) (h2 : kh q.mv = true) (h3 : kh q.iv = true) : ∀ u ∈ pkC q, kh u = true := fun u hu => by
 simp only [pkC, List.mem_cons, List.not_mem_nil, or_false] at hu
 rcases hu with rfl | rfl | rfl | rfl | rfl | rfl | rfl | rfl | rfl | rfl | rfl <;> first | rfl | assumption
theorem pn.cells {w : World} {p : Pk} {ls : List Spn} {lm : List Mem} {lu : List Int} (h : pn w p ls lm lu) : ∀ u ∈ pkC p, kh u = true := bkx h.sl.one.1 h.sl.one.2.1 h.sl.one.2.2
theorem bji {w : World} {p : Pk} {ls : List Spn} {lm : List Mem} {lu : List Int} (hp : pn w p ls lm lu) {K : KV} (h : ∀ w', Fz w w' → K (pkA (lg p)) w') : gi P F.dw [pkA p] w K := by
 rw [M.aa.fcall]
 apply M.aa.calls
 unfold M.aa
 refine St.tz (St.jp w) fun b1 w1 S1 => ?_
 have S1' : St w w1 (ii b1 (pkC p).toArray T.a :: []) := S1
 obtain ⟨c0, c1, c2, c4, c6, c7, c8, c9, c10, _⟩ := jl S1'
 simp
 have S2 := abx S1'
 generalize w1.heap.size = b2 at *
 generalize w1.alloc _ = w2 at *
 obtain ⟨c0, c1, c2, c4, c6, c7, c8, c9, c10, _⟩ := jl S2.swap
 simp [c0, c1]
 have S3 := abx S2
 generalize w2.heap.size = b3 at *
 generalize w2.alloc _ = w3 at *
 refine afi (q := pk0 p.ie p.tr ip ip 0 false) S3 rfl (awo _ _ _ _ _ _) fun w4 S4 => ?_
 obtain ⟨o1, o2, o3⟩ := hp.sl.one
 obtain ⟨⟨a1, k1, h1⟩, ⟨a2, k2, h2⟩, a3, k3, h3⟩ := hp.one
 have fin : ∀ w' q, lg p = q → St w w' (ii b3 (pkC q).toArray T.a :: ii b2 (pkC pkZ).toArray T.a :: ii b1 (pkC p).toArray T.a :: []) →
   ldN P 11 b3 0 w' fun t w => stT P T.a (.pointer (some ⟨b2, 0, none⟩)) t w fun _ w => pw P T.a (.pointer (some ⟨b2, 0, none⟩)) w fun v w' => w' = w ∧ K v w := fun w' q e S' => by
  rw [wj S', acs]
  refine ave S'.swap rfl ?_ fun w7 S7 => ?_
  ·rw [← e]
   exact (axj hp).cells
  ·have := h w7 S7.fr
   rwa [e] at this
 obtain ⟨c0, c1, c2, c4, c6, c7, c8, c9, c10, _⟩ := jl S4.up2
 simp only [ku] at c2 c4
 by_cases q1 : p.ie = 1
 ·have e : lg p = ⟨p.ie, p.tr, ip, ip, 0, false, (.slice a1 ls.length k1), ij, ij⟩ := by unfold lg; simp [q1, h1]
  rw [h1] at c8
  rw [h2] at c9
  rw [h3] at c10
  simp [c0, q1]
  unfold M.aa.j1
  simp [c2, c4, c6, c7, c8, c9, c10]
  refine S4.uy rfl (by simp [pkC]) fun w5 S5 => ?_
  have S5 : St w w5 (ii b3 (pkC ⟨p.ie, p.tr, ip, ip, 0, false, (.slice a1 ls.length k1), ij, ij⟩).toArray T.a :: _) := S5
  obtain ⟨d0, d1, d2, d4, d6, d7, d8, d9, d10, _⟩ := jl S5.up2
  simp only [ku] at d2 d4
  rw [h1] at d8
  rw [h2] at d9
  rw [h3] at d10
  exact fin _ _ e S5
 by_cases q2 : p.ie = 2
 ·have e : lg p = ⟨p.ie, p.tr, ip, ip, 0, false, (.slice a1 ls.length k1), ij, ij⟩ := by unfold lg; simp [q2, h1]
  rw [h1] at c8
  rw [h2] at c9
  rw [h3] at c10
  simp [c0, q2]
  unfold M.aa.j1
  simp [c2, c4, c6, c7, c8, c9, c10]
  refine S4.uy rfl (by simp [pkC]) fun w5 S5 => ?_
  have S5 : St w w5 (ii b3 (pkC ⟨p.ie, p.tr, ip, ip, 0, false, (.slice a1 ls.length k1), ij, ij⟩).toArray T.a :: _) := S5
  obtain ⟨d0, d1, d2, d4, d6, d7, d8, d9, d10, _⟩ := jl S5.up2
  simp only [ku] at d2 d4
  rw [h1] at d8
  rw [h2] at d9
  rw [h3] at d10
  exact fin _ _ e S5
 by_cases q3 : p.ie = 3
 ·have e : lg p = ⟨p.ie, 0, ip, ip, 0, false, ij, (.slice a2 lm.length k2), ij⟩ := by unfold lg; simp [q3, h2]
  rw [h1] at c8
  rw [h2] at c9
  rw [h3] at c10
  simp [c0, q3]
  unfold M.aa.j1
  simp [c2, c4, c6, c7, c8, c9, c10]
  refine S4.uy rfl (by simp [pkC]) fun w5 S5 => ?_
  have S5 : St w w5 (ii b3 (pkC ⟨p.ie, 0, ip, ip, 0, false, ij, ij, ij⟩).toArray T.a :: _) := S5
  obtain ⟨d0, d1, d2, d4, d6, d7, d8, d9, d10, _⟩ := jl S5.up2
  simp only [ku] at d2 d4
  rw [h1] at d8
  rw [h2] at d9
  rw [h3] at d10
  simp [d2, d4, d6, d7, d8, d9, d10]
  refine S5.uy rfl (by simp [pkC]) fun w6 S6 => ?_
  have S6 : St w w6 (ii b3 (pkC ⟨p.ie, 0, ip, ip, 0, false, ij, (.slice a2 lm.length k2), ij⟩).toArray T.a :: _) := S6
  obtain ⟨d0, d1, d2, d4, d6, d7, d8, d9, d10, _⟩ := jl S6.up2
  simp only [ku] at d2 d4
  rw [h1] at d8
  rw [h2] at d9
  rw [h3] at d10
  exact fin _ _ e S6
 by_cases q4 : p.ie = 4
 ·have e : lg p = ⟨p.ie, p.tr, p.b, ip, 0, false, ij, ij, ij⟩ := by unfold lg; simp [q4]
  rw [h1] at c8
  rw [h2] at c9
  rw [h3] at c10
  simp [c0, q4]
  unfold M.aa.j1
  simp [c2, c4, c6, c7, c8, c9, c10]
  refine St.put (cs' := (pkC ⟨p.ie, p.tr, p.b, ip, 0, false, ij, ij, ij⟩).toArray) (vs := [.int .u64 p.b.n, .int .u64 p.b.jf]) S4 (by simp) (by simp [pkC]) rfl fun w5 S5 => ?_
  obtain ⟨d0, d1, d2, d4, d6, d7, d8, d9, d10, _⟩ := jl S5.up2
  simp only [ku] at d2 d4
  rw [h1] at d8
  rw [h2] at d9
  rw [h3] at d10
  exact fin _ _ e S5
 by_cases q5 : p.ie = 5
 ·have e : lg p = ⟨p.ie, p.tr, p.b, p.jk, p.v, p.ok, ij, ij, ij⟩ := by unfold lg; simp [q5]
  have S4 := S4.jo ((Fr.refl _ w4).dr 1)
  obtain ⟨d0, d1, d2, d4, d6, d7, d8, d9, d10, _⟩ := jl S4.up2
  simp only [vp, ku] at d2 d4 d6 d7 d8
  rw [h1] at d8
  simp [c0, q5]
  unfold M.aa.j1
  simp [d2, d4, d6, d7, d8]
  refine St.put (cs' := (pkC ⟨p.ie, p.tr, p.b, ip, 0, false, ij, ij, ij⟩).toArray) (vs := [.int .u64 p.b.n, .int .u64 p.b.jf]) S4 (by simp) (by simp [pkC]) rfl fun w5 S5 => ?_
  obtain ⟨d0, d1, d2, d4, d6, d7, d8, d9, d10, _⟩ := jl S5.up2
  simp only [ku] at d2 d4
  rw [h1] at d8
  rw [h2] at d9
  rw [h3] at d10
  simp [d2, d4, d6, d7, d8, d9, d10]
  refine S5.uy rfl (by simp [pkC]) fun w6 S6 => ?_
  have S6 : St w w6 (ii b3 (pkC ⟨p.ie, p.tr, p.b, ip, 0, p.ok, ij, ij, ij⟩).toArray T.a :: _) := S6
  obtain ⟨d0, d1, d2, d4, d6, d7, d8, d9, d10, _⟩ := jl S6.up2
  simp only [ku] at d2 d4
  rw [h1] at d8
  rw [h2] at d9
  rw [h3] at d10
  simp [d2, d4, d6, d7, d8, d9, d10]
  refine St.put (cs' := (pkC ⟨p.ie, p.tr, p.b, p.jk, 0, p.ok, ij, ij, ij⟩).toArray) (vs := [.int .u64 p.jk.n, .int .u64 p.jk.jf]) S6 (by simp) (by simp [pkC]) rfl fun w7 S7 => ?_
  obtain ⟨d0, d1, d2, d4, d6, d7, d8, d9, d10, _⟩ := jl S7.up2
  simp only [ku] at d2 d4
  rw [h1] at d8
  rw [h2] at d9
  rw [h3] at d10
  simp [d2, d4, d6, d7, d8, d9, d10]
  refine S7.uy rfl (by simp [pkC]) fun w8 S8 => ?_
  have S8 : St w w8 (ii b3 (pkC ⟨p.ie, p.tr, p.b, p.jk, p.v, p.ok, ij, ij, ij⟩).toArray T.a :: _) := S8
  obtain ⟨d0, d1, d2, d4, d6, d7, d8, d9, d10, _⟩ := jl S8.up2
  simp only [ku] at d2 d4
  rw [h1] at d8
  rw [h2] at d9
  rw [h3] at d10
  exact fin _ _ e S8
 by_cases q6 : p.ie = 6
 ·have e : lg p = ⟨p.ie, p.tr, p.b, ip, p.v, false, ij, ij, ij⟩ := by unfold lg; simp [q6]
  have S4 := S4.jo ((Fr.refl _ w4).dr 1)
  obtain ⟨d0, d1, d2, d4, d6, d7, d8, d9, d10, _⟩ := jl S4.up2
  simp only [vp, ku] at d2 d4 d6 d7 d8
  rw [h1] at d8
  simp [c0, q6]
  unfold M.aa.j1
  simp [d2, d4, d6, d7, d8]
  refine St.put (cs' := (pkC ⟨p.ie, p.tr, p.b, ip, 0, false, ij, ij, ij⟩).toArray) (vs := [.int .u64 p.b.n, .int .u64 p.b.jf]) S4 (by simp) (by simp [pkC]) rfl fun w5 S5 => ?_
  obtain ⟨d0, d1, d2, d4, d6, d7, d8, d9, d10, _⟩ := jl S5.up2
  simp only [ku] at d2 d4
  rw [h1] at d8
  rw [h2] at d9
  rw [h3] at d10
  simp [d2, d4, d6, d7, d8, d9, d10]
  refine S5.uy rfl (by simp [pkC]) fun w6 S6 => ?_
  have S6 : St w w6 (ii b3 (pkC ⟨p.ie, p.tr, p.b, ip, p.v, false, ij, ij, ij⟩).toArray T.a :: _) := S6
  obtain ⟨d0, d1, d2, d4, d6, d7, d8, d9, d10, _⟩ := jl S6.up2
  simp only [ku] at d2 d4
  rw [h1] at d8
  rw [h2] at d9
  rw [h3] at d10
  exact fin _ _ e S6
 by_cases q7 : p.ie = 7
 ·have e : lg p = ⟨p.ie, p.tr, p.b, p.jk, 0, p.ok, ij, ij, ij⟩ := by unfold lg; simp [q7]
  have S4 := S4.jo ((Fr.refl _ w4).dr 1)
  obtain ⟨d0, d1, d2, d4, d6, d7, d8, d9, d10, _⟩ := jl S4.up2
  simp only [vp, ku] at d2 d4 d6 d7 d8
  rw [h1] at d8
  simp [c0, q7]
  unfold M.aa.j1
  simp [d2, d4, d6, d7, d8]
  refine St.put (cs' := (pkC ⟨p.ie, p.tr, p.b, ip, 0, false, ij, ij, ij⟩).toArray) (vs := [.int .u64 p.b.n, .int .u64 p.b.jf]) S4 (by simp) (by simp [pkC]) rfl fun w5 S5 => ?_
  obtain ⟨d0, d1, d2, d4, d6, d7, d8, d9, d10, _⟩ := jl S5.up2
  simp only [ku] at d2 d4
  rw [h1] at d8
  rw [h2] at d9
  rw [h3] at d10
  simp [d2, d4, d6, d7, d8, d9, d10]
  refine S5.uy rfl (by simp [pkC]) fun w6 S6 => ?_
  have S6 : St w w6 (ii b3 (pkC ⟨p.ie, p.tr, p.b, ip, 0, p.ok, ij, ij, ij⟩).toArray T.a :: _) := S6
  obtain ⟨d0, d1, d2, d4, d6, d7, d8, d9, d10, _⟩ := jl S6.up2
  simp only [ku] at d2 d4
  rw [h1] at d8
  rw [h2] at d9
  rw [h3] at d10
  simp [d2, d4, d6, d7, d8, d9, d10]
  refine St.put (cs' := (pkC ⟨p.ie, p.tr, p.b, p.jk, 0, p.ok, ij, ij, ij⟩).toArray) (vs := [.int .u64 p.jk.n, .int .u64 p.jk.jf]) S6 (by simp) (by simp [pkC]) rfl fun w7 S7 => ?_
  obtain ⟨d0, d1, d2, d4, d6, d7, d8, d9, d10, _⟩ := jl S7.up2
  simp only [ku] at d2 d4
  rw [h1] at d8
  rw [h2] at d9
  rw [h3] at d10
  exact fin _ _ e S7
 by_cases q8 : p.ie = 8
 ·have e : lg p = ⟨p.ie, p.tr, ip, ip, p.v, false, ij, ij, ij⟩ := by unfold lg; simp [q8]
  rw [h1] at c8
  rw [h2] at c9
  rw [h3] at c10
  simp [c0, q8]
  unfold M.aa.j1
  simp [c2, c4, c6, c7, c8, c9, c10]
  refine S4.uy rfl (by simp [pkC]) fun w5 S5 => ?_
  have S5 : St w w5 (ii b3 (pkC ⟨p.ie, p.tr, ip, ip, p.v, false, ij, ij, ij⟩).toArray T.a :: _) := S5
  obtain ⟨d0, d1, d2, d4, d6, d7, d8, d9, d10, _⟩ := jl S5.up2
  simp only [ku] at d2 d4
  rw [h1] at d8
  rw [h2] at d9
  rw [h3] at d10
  exact fin _ _ e S5
 by_cases q9 : p.ie = 9
 ·have e : lg p = ⟨p.ie, p.tr, p.b, ip, 0, false, (.slice a1 ls.length k1), ij, ij⟩ := by unfold lg; simp [q9, h1]
  have S4 := S4.jo ((Fr.refl _ w4).dr 1)
  obtain ⟨d0, d1, d2, d4, d6, d7, d8, d9, d10, _⟩ := jl S4.up2
  simp only [vp, ku] at d2 d4 d6 d7 d8
  rw [h1] at d8
  simp [c0, q9]
  unfold M.aa.j1
  simp [d2, d4, d6, d7, d8]
  refine St.put (cs' := (pkC ⟨p.ie, p.tr, p.b, ip, 0, false, ij, ij, ij⟩).toArray) (vs := [.int .u64 p.b.n, .int .u64 p.b.jf]) S4 (by simp) (by simp [pkC]) rfl fun w5 S5 => ?_
  obtain ⟨d0, d1, d2, d4, d6, d7, d8, d9, d10, _⟩ := jl S5.up2
  simp only [ku] at d2 d4
  rw [h1] at d8
  rw [h2] at d9
  rw [h3] at d10
  simp [d2, d4, d6, d7, d8, d9, d10]
  refine S5.uy rfl (by simp [pkC]) fun w6 S6 => ?_
  have S6 : St w w6 (ii b3 (pkC ⟨p.ie, p.tr, p.b, ip, 0, false, (.slice a1 ls.length k1), ij, ij⟩).toArray T.a :: _) := S6
  obtain ⟨d0, d1, d2, d4, d6, d7, d8, d9, d10, _⟩ := jl S6.up2
  simp only [ku] at d2 d4
  rw [h1] at d8
  rw [h2] at d9
  rw [h3] at d10
  exact fin _ _ e S6
 by_cases q10 : p.ie = 10
 ·have e : lg p = ⟨p.ie, p.tr, ip, ip, 0, false, ij, ij, (.slice a3 lu.length k3)⟩ := by unfold lg; simp [q10, h3]
  rw [h1] at c8
  rw [h2] at c9
  rw [h3] at c10
  simp [c0, q10]
  unfold M.aa.j1
  simp [c2, c4, c6, c7, c8, c9, c10]
  refine S4.uy rfl (by simp [pkC]) fun w5 S5 => ?_
  have S5 : St w w5 (ii b3 (pkC ⟨p.ie, p.tr, ip, ip, 0, false, ij, ij, (.slice a3 lu.length k3)⟩).toArray T.a :: _) := S5
  obtain ⟨d0, d1, d2, d4, d6, d7, d8, d9, d10, _⟩ := jl S5.up2
  simp only [ku] at d2 d4
  rw [h1] at d8
  rw [h2] at d9
  rw [h3] at d10
  exact fin _ _ e S5
 have e : lg p = ⟨p.ie, p.tr, ip, ip, 0, false, ij, ij, ij⟩ := by unfold lg; simp [q1, q2, q3, q4, q5, q6, q7, q8, q9, q10]
 simp [c0, q1, q2]
 unfold M.aa.j1
 simp [q3, q4, q5, q6, q7, q8, q9, q10]
 exact fin _ _ e S4
def boj (W : World) (l1 l2 : List Spn) : KL := fun x w1 => ∃ (u0 u1 : Value) (i : Nat), x = [u0, u1, .int .i64 (i : Nat)] ∧ i ≤ l1.length ∧ (∀ j (h1 : j < l1.length) (h2 : j < l2.length), j < i → uu l1[j] l2[j] = true) ∧ Fz W w1
def boz (W : World) (l1 l2 : List Int) : KL := fun x w1 => ∃ (u0 u1 : Value) (i : Nat), x = [u0, u1, .int .i64 (i : Nat)] ∧ i ≤ l1.length ∧ (∀ j (h1 : j < l1.length) (h2 : j < l2.length), j < i → l1[j] = l2[j]) ∧ Fz W w1
theorem bbl {w : World} {v1 v2 : Value} {l1 l2 : List Spn} (s1 : SlS w v1 l1) (s2 : SlS w v2 l2) (hlen : l1.length ≤ 1000000) {K : KV} (h : ∀ w', Fz w w' → K (.bool (sk l1 l2)) w') : gi P F.bj [v1, v2] w K := by
 rw [M.p.fcall]
 apply M.p.calls
 unfold M.p
 simp only [gp]
 rw [s1.iy (by kernel_rfl), s2.iy (by kernel_rfl)]
 by_cases hne : l1.length = l2.length
 ·simp [hne]
  unfold M.p.j0
  simp only [gp]
  rw [s1.iy (by kernel_rfl)]
  refine ⟨boj w l1 l2, fun x _ => l1.length - ms x 2, ⟨_, _, 0, rfl, Nat.zero_le _, fun j _ _ h => by omega, Fr.refl _ _⟩, ?_⟩
  rintro x w1 ⟨u0, u1, i, rfl, hi, hpre, f1⟩
  by_cases hil : i < l1.length
  ·have hili : (i : Int) < (l1.length : Int) := by omega
   obtain ⟨b1, o1, cap1, hv1, _, _, e1⟩ := (s1.fr f1 fun _ _ _ h => h : SlS w1 v1 l1).at hil
   obtain ⟨b2, o2, cap2, hv2, _, _, e2⟩ := (s2.fr f1 fun _ _ _ h => h : SlS w1 v2 l2).at (show i < l2.length by omega)
   have hl2i : i < l2.length := by omega
   have q1 : ∀ w' K, iaT P T.d v1 (.int .i64 (i : Nat)) w' K = K (.pointer (some ⟨b1, o1 + i * 8, none⟩)) w' := fun w' K => by rw [hv1]; simp [hil]
   have q2 : ∀ w' K, iaT P T.d v2 (.int .i64 (i : Nat)) w' K = K (.pointer (some ⟨b2, o2 + i * 8, none⟩)) w' := fun w' K => by rw [hv2]; simp [hl2i]
   have g1 : ∀ K, ldN P 8 b1 (o1 + i * 8) (dr w1 1) K = K (km l1[i]) (dr w1 1) := fun K => ldS (fun k v hk => by rw [vp]; exact e1 k v hk) K
   have g2 : ∀ K, ldN P 8 b2 (o2 + i * 8) (dr w1 1) K = K (km l2[i]) (dr w1 1) := fun K => ldS (fun k v hk => by rw [vp]; exact e2 k v hk) K
   have hw : IntKind.i64.wrap ((i : Int) + 1) = ((i + 1 : Nat) : Int) := by rw [ia]; omega
   simp [hili]
   unfold M.p.j3
   simp [q1, q2, g1, g2, abz]
   cases hs : uu l1[i] l2[i] with
   | true =>
    simp
    rw [hw]
    refine ⟨⟨_, _, i + 1, rfl, hil, fun j a1 a2 hj => ?_, f1.dr 1⟩, by simp [ms, gv]; omega⟩
    by_cases hji : j = i
    ·subst hji; exact hs
    ·exact hpre j a1 a2 (by omega)
   | false =>
    simp
    have := h _ (f1.dr 1)
    rw [aot hil hl2i hs] at this
    exact this
  ·have hili : ¬ (i : Int) < (l1.length : Int) := by omega
   simp [hili]
   have := h w1 f1
   rw [afr hne fun j a1 a2 => hpre j a1 a2 (by omega)] at this
   exact this
 ·have hni : ¬ (l1.length : Int) = (l2.length : Int) := by omega
  simp [hni]
  have := h w (Fr.refl _ _)
  have hz : sk l1 l2 = false := by unfold sk; simp [hne]
  rw [hz] at this
  exact this
theorem bcf {w : World} {v1 v2 : Value} {l1 l2 : List Int} (s1 : SlU w v1 l1) (s2 : SlU w v2 l2) (hlen : l1.length ≤ 1000000) {K : KV} (h : ∀ w', Fz w w' → K (.bool (decide (l1 = l2))) w') : gi P F.br [v1, v2] w K := by
 rw [M.w.fcall]
 apply M.w.calls
 unfold M.w
 simp only [gp]
 rw [s1.iy (by kernel_rfl), s2.iy (by kernel_rfl)]
 by_cases hne : l1.length = l2.length
 ·simp [hne]
  unfold M.w.j0
  simp only [gp]
  rw [s1.iy (by kernel_rfl)]
  refine ⟨boz w l1 l2, fun x _ => l1.length - ms x 2, ⟨_, _, 0, rfl, Nat.zero_le _, fun j _ _ h => by omega, Fr.refl _ _⟩, ?_⟩
  rintro x w1 ⟨u0, u1, i, rfl, hi, hpre, f1⟩
  by_cases hil : i < l1.length
  ·have hili : (i : Int) < (l1.length : Int) := by omega
   have hl2i : i < l2.length := by omega
   obtain ⟨b1, o1, cap1, hv1, _, e1⟩ := aev (s1.fr f1 fun _ _ _ h => h : SlU w1 v1 l1) hil
   obtain ⟨b2, o2, cap2, hv2, _, e2⟩ := aev (s2.fr f1 fun _ _ _ h => h : SlU w1 v2 l2) hl2i
   have q1 : ∀ w' K, iaT P T.i v1 (.int .i64 (i : Nat)) w' K = K (.pointer (some ⟨b1, o1 + i, none⟩)) w' := fun w' K => by rw [hv1]; simp [hil]
   have q2 : ∀ w' K, iaT P T.i v2 (.int .i64 (i : Nat)) w' K = K (.pointer (some ⟨b2, o2 + i, none⟩)) w' := fun w' K => by rw [hv2]; simp [hl2i]
   have hw : IntKind.i64.wrap ((i : Int) + 1) = ((i + 1 : Nat) : Int) := by rw [ia]; omega
   simp [hili]
   unfold M.w.j3
   simp [q1, q2, e1, e2]
   by_cases hs : l1[i] = l2[i]
   ·simp [hs]
    rw [hw]
    refine ⟨⟨_, _, i + 1, rfl, hil, fun j a1 a2 hj => ?_, f1.dr 1⟩, by simp [ms, gv]; omega⟩
    by_cases hji : j = i
    ·subst hji; exact hs
    ·exact hpre j a1 a2 (by omega)
   ·simp [hs]
    have := h _ (f1.dr 1)
    rw [decide_eq_false fun he => hs (by simp [he])] at this
    exact this
  ·have hili : ¬ (i : Int) < (l1.length : Int) := by omega
   simp [hili]
   have := h w1 f1
   rw [decide_eq_true (alc hne fun j a1 a2 => hpre j a1 a2 (by omega))] at this
   exact this
 ·have hni : ¬ (l1.length : Int) = (l2.length : Int) := by omega
  simp [hni]
  have := h w (Fr.refl _ _)
  rw [decide_eq_false fun he => hne (congrArg List.length he)] at this
  exact this
theorem bfx {w : World} {p q : Pk} {ls ls' : List Spn} {lm lm' : List Mem} {lu lu' : List Int} (hp : pn w p ls lm lu) (hq : pn w q ls' lm' lu') {K : KV}
  (h : ∀ w', Fz w w' → K (.bool (rm p q ls ls' lm lm' lu lu')) w') : gi P F.es [pkA p, pkA q] w K := by
 rw [M.ea.fcall]
 apply M.ea.calls
 unfold M.ea
 rw [aue hp, aue (hq.fr ((Fr.refl _ w).alloc _))]
 have S1 : St w (w.alloc (.cells (pkC p).toArray T.a)) (ii w.heap.size (pkC p).toArray T.a :: []) := (St.jp w).add ((Fr.refl _ w).alloc _) (B := fun x => x = w.heap.size) ⟨by rw [iq, if_pos rfl], rfl⟩ fun x hx => by subst hx; rw [ju]; omega
 generalize w.alloc (.cells (pkC p).toArray T.a) = w1 at *
 have S2 : St w (w1.alloc (.cells (pkC q).toArray T.a)) (ii w1.heap.size (pkC q).toArray T.a :: _) := S1.add ((Fr.refl _ w1).alloc _) (B := fun x => x = w1.heap.size) ⟨by rw [iq, if_pos rfl], rfl⟩ fun x hx => by subst hx; rw [ju]; omega
 generalize w1.alloc (.cells (pkC q).toArray T.a) = w2 at *
 generalize w.heap.size = pb at *
 generalize w1.heap.size = qb at *
 obtain ⟨q0, q1, q2, q4, q6, q7, q8, q9, q10, _⟩ := jl S2
 obtain ⟨p0, p1, p2, p4, p6, p7, p8, p9, p10, _⟩ := jl S2.swap
 have hbo : afs P T.aq = true := by kernel_rfl
 have no : ∀ bb : Bool, bb = false → (me p q = false) → K (.bool bb) w2 := fun bb hb hl => by
  subst hb
  have := h w2 S2.fr
  unfold rm at this
  rw [hl, Bool.and_false, Bool.and_false, Bool.and_false] at this
  exact this
 by_cases a0 : p.ie = q.ie
 case neg =>
  simp [p0, q0, a0]
  exact no false rfl (by simp [me, a0])
 by_cases a1 : p.tr = q.tr
 case neg =>
  simp [p0, q0, a0, p1, q1, a1]
  exact no false rfl (by simp [me, a1])
 by_cases a2 : p.b = q.b
 case neg =>
  simp [p0, q0, a0, p1, q1, a1, p2, q2, vz, a2]
  exact no false rfl (by simp [me, a2])
 by_cases a3 : p.jk = q.jk
 case neg =>
  simp [p0, q0, a0, p1, q1, a1, p2, q2, vz, a2, p4, q4, a3]
  exact no false rfl (by simp [me, a3])
 by_cases a4 : p.v = q.v
 case neg =>
  simp [p0, q0, a0, p1, q1, a1, p2, q2, vz, a2, p4, q4, a3, p6, q6, a4]
  exact no false rfl (by simp [me, a4])
 by_cases a5 : p.ok = q.ok
 case neg =>
  have a5' : (p.ok == q.ok) = false := by simpa using a5
  simp [p0, q0, a0, p1, q1, a1, p2, q2, vz, a2, p4, q4, a3, p6, q6, a4, p7, q7, afo hbo, a5']
  exact no false rfl (by simp [me, a5])
 obtain ⟨⟨sa, sc, es⟩, ⟨ma, mc, em⟩, ua, uc, eu⟩ := hp.one
 obtain ⟨⟨sa', sc', es'⟩, ⟨ma', mc', em'⟩, ua', uc', eu'⟩ := hq.one
 simp [p0, q0, a0, p1, q1, a1, p2, q2, vz, a2, p4, q4, a3, p6, q6, a4, p7, q7, afo hbo, a5, p8, q8]
 have hp2 := hp.fr S2.fr
 have hq2 := hq.fr S2.fr
 have fb : me p q = true := by simp [me, a0, a1, a2, a3, a4, a5]
 have fin := h
 unfold rm at fin
 rw [fb] at fin
 refine bbl hp2.s hq2.s hp.ls fun w3 f3 => ?_
 have S3 := S2.jo f3
 obtain ⟨_, _, _, _, _, _, _, q9, _, _⟩ := jl S3
 obtain ⟨_, _, _, _, _, _, _, p9, _, _⟩ := jl S3.swap
 have hp3 := hp.fr S3.fr
 have hq3 := hq.fr S3.fr
 cases hb1 : sk ls ls' with
 | false =>
  simp
  have := fin w3 S3.fr
  rw [hb1] at this
  simpa using this
 | true =>
 rw [hb1] at fin
 simp [p9, q9]
 refine bcw hp3.m hq3.m hp.lm fun w4 f4 => ?_
 have S4 := S3.jo f4
 obtain ⟨_, _, _, _, _, _, _, _, q10, _⟩ := jl S4
 obtain ⟨_, _, _, _, _, _, _, _, p10, _⟩ := jl S4.swap
 have hp4 := hp.fr S4.fr
 have hq4 := hq.fr S4.fr
 by_cases hm : lm = lm'
 case neg =>
  simp [hm]
  have := fin w4 S4.fr
  simpa [hm] using this
 simp [hm, p10, q10]
 refine bcf hp4.u hq4.u hp.lu fun w5 f5 => ?_
 have := fin w5 (S4.jo f5).fr
 simpa [hm] using this
def byt (s : ByteArray) (k : Nat) : Nat := (s.get! k).toNat
theorem bdz (s : ByteArray) {i : Nat} (h : i < s.size) {k : IntKind} (w : World) (K : KV) : ixT P T.ae (.string s) (.int k (i : Int)) w K = K (.int .u8 (byt s i)) w := by
 have hu : P.underlying T.ae = some .string := we amw
 have hg : s[i]? = some (s.get! i) := by
  rw [getElem?_pos s i h]
  have e : s.get! i = s[i]'h := by
   simp [ByteArray.get!, getElem!_pos, h]
   rfl
  rw [e]
 simp [ixT, jn, Instr.index, asIntOf, Sem.run_bind, jh hu, Result.andThen, Sem.run_pure, hg, byt]
theorem blm {s d : TypeId} {ks k2 : IntKind} (hs : P.underlying s = some (.int ks)) (hd : P.underlying d = some (.int k2)) (k : IntKind) (x : Int) (w : World) (K : KV) : cvT P s d (.int k x) w K = K (.int k2 (k2.wrap x)) w := by
 simp [cvT, jn, convert, Sem.run_bind, jh hs, jh hd, Result.andThen, Conv.intToInt, Sem.run_pure]
def kq (t : ByteArray) (r : Nat) : Nat → Nat
 | 0 => r
 | k + 1 => kq t r k * 64 + byt t (k + 1) - 128
def ui (t : ByteArray) (k : Nat) : Bool := decide (128 ≤ byt t k) && decide (byt t k ≤ 191)
def nn (b0 : Nat) : Nat × Nat × Nat := if 194 ≤ b0 ∧ b0 ≤ 223 then (2, 128, b0 - 192) else if 224 ≤ b0 ∧ b0 ≤ 239 then (3, 2048, b0 - 224) else if 240 ≤ b0 ∧ b0 ≤ 244 then (4, 65536, b0 - 240) else (0, 0, 0)
def tu (t : ByteArray) : Nat → Bool
 | 0 => true
 | k + 1 => tu t k && ui t (k + 1)
def rr (t : ByteArray) : Nat × Nat :=
 if t.size = 0 then (0, 0) else if byt t 0 < 128 then (byt t 0, 1) else
 if (nn (byt t 0)).1 = 0 ∨ t.size < (nn (byt t 0)).1 then (0, 0) else
 if tu t ((nn (byt t 0)).1 - 1) = false then (0, 0) else
 if kq t (nn (byt t 0)).2.2 ((nn (byt t 0)).1 - 1) < (nn (byt t 0)).2.1 ∨ 1114111 < kq t (nn (byt t 0)).2.2 ((nn (byt t 0)).1 - 1) ∨ (55296 ≤ kq t (nn (byt t 0)).2.2 ((nn (byt t 0)).1 - 1) ∧ kq t (nn (byt t 0)).2.2 ((nn (byt t 0)).1 - 1) ≤ 57343) then (0, 0) else (kq t (nn (byt t 0)).2.2 ((nn (byt t 0)).1 - 1), (nn (byt t 0)).1)
theorem aho (t : ByteArray) (k : Nat) : byt t k < 256 := UInt8.toNat_lt _
theorem atr (t : ByteArray) {r : Nat} (hr : r ≤ 31) : ∀ k, tu t k = true → kq t r k + 1 ≤ 32 * 64 ^ k
 | 0, _ => by simp [kq]; omega
 | k + 1, h => by
  simp only [tu, Bool.and_eq_true, ui, decide_eq_true_eq] at h
  have := atr t hr k h.1
  simp only [kq, Nat.pow_succ]
  omega
theorem aix (x : Int) (w : World) (K : KV) : cvT P T.am T.au (.int .u8 x) w K = K (.int .i32 (IntKind.i32.wrap x)) w := blm (ks := .u8) (by kernel_rfl) (by kernel_rfl) .u8 x w K
theorem wz {x : Int} (h0 : -2147483648 ≤ x) (h1 : x < 2147483648) : IntKind.i32.wrap x = x := by
 show (if (true && decide (x % 4294967296 ≥ 2147483648)) = true then x % 4294967296 - 4294967296 else x % 4294967296) = x
 by_cases h : x % 4294967296 ≥ 2147483648
 ·simp [h]; omega
 ·simp [h]; omega
theorem ajv {t : ByteArray} {k : Nat} (h : ui t (k + 1) = false) : ∀ {n : Nat}, k + 1 < n → tu t (n - 1) = false
 | 0, hn => by omega
 | n + 1, hn => by
  rw [Nat.add_sub_cancel]
  by_cases hk : k + 1 = n
  ·subst hk; simp [tu, h]
  ·have := ajv h (n := n) (by omega)
   cases n with
   | zero => omega
   | succ n => rw [Nat.add_sub_cancel] at this; simp [tu, this]
def bnf (w : World) (t : ByteArray) (r n : Nat) : KL := fun x w1 => ∃ (a b : Value) (k : Nat), x = [a, b, .int .i32 (kq t r k : Nat), .int .i64 ((k + 1 : Nat) : Int)] ∧ w1 = w ∧ k + 1 ≤ n ∧ tu t k = true
theorem bdy {w : World} {t : ByteArray} {n least r : Nat} (hn : 2 ≤ n) (hn4 : n ≤ 4) (hr : r ≤ 31) (hl : least ≤ 65536) (hsz : n ≤ t.size) {x3 x2 : List Value} (e1 : gv x2 1 = .int .i64 (n : Nat)) (e2 : gv x2 2 = .int .i32 (least : Nat)) (e3 : gv x2 3 = .int .i32 (r : Nat)) {K : KV}
  (h : K (.tuple #[.int .i32 ((if tu t (n - 1) = false then 0 else if kq t r (n - 1) < least ∨ 1114111 < kq t r (n - 1) ∨ (55296 ≤ kq t r (n - 1) ∧ kq t r (n - 1) ≤ 57343) then 0 else kq t r (n - 1) : Nat) : Int), .int .i64 ((if tu t (n - 1) = false then 0 else if kq t r (n - 1) < least ∨ 1114111 < kq t r (n - 1) ∨ (55296 ≤ kq t r (n - 1) ∧ kq t r (n - 1) ≤ 57343) then 0 else n : Nat) : Int)]) w) :
  M.g.j3 x3 x2 (.string t) w K := by
 unfold M.g.j3
 simp only [gp, e3]
 refine ⟨bnf w t r n, fun x _ => n - ms x 3, ⟨_, _, 0, rfl, rfl, by omega, rfl⟩, ?_⟩
 rintro x w1 ⟨a, b, k, rfl, rfl, hk, hc⟩
 have g2 : gv [a, b, .int .i32 (kq t r k : Nat), .int .i64 ((k + 1 : Nat) : Int)] 2 = .int .i32 (kq t r k : Nat) := rfl
 have g3 : gv [a, b, .int .i32 (kq t r k : Nat), .int .i64 ((k + 1 : Nat) : Int)] 3 = .int .i64 ((k + 1 : Nat) : Int) := rfl
 simp only [e1, g3]
 have hb := atr t hr k hc
 have hp : (64 : Nat) ^ k ≤ 64 ^ 3 := Nat.pow_le_pow_right (by omega) (by omega)
 by_cases hlt : k + 1 < n
 ·have hlt' : ((k + 1 : Nat) : Int) < n := by omega
  have hix : ∀ K, ixT P T.ae (.string t) (.int .i64 ((k + 1 : Nat) : Int)) w1 K = K (.int .u8 (byt t (k + 1))) w1 := fun K => bdz t (by omega) w1 K
  simp only [lh, hlt', decide_true, Eng.cond_true]
  unfold M.g.j6
  have hix' := hix
  push_cast at hix'
  have hbl := aho t (k + 1)
  have hw : IntKind.i64.wrap (((k + 1 : Nat) : Int) + 1) = ((k + 1 + 1 : Nat) : Int) := by rw [ia]; rfl
  simp only [gp, g2, g3, hix]
  by_cases h1 : byt t (k + 1) < 128
  ·have h1' : (byt t (k + 1) : Int) < 128 := by omega
   have hcf : tu t (n - 1) = false := ajv (by simp [ui]; omega) hlt
   simp [h1']
   rw [hcf] at h
   simpa using h
  ·have h1' : ¬ (byt t (k + 1) : Int) < 128 := by omega
   by_cases h2 : 191 < byt t (k + 1)
   ·have h2' : (191 : Int) < byt t (k + 1) := by omega
    have hcf : tu t (n - 1) = false := ajv (by simp [ui]; omega) hlt
    simp [h1', hix', h2']
    rw [hcf] at h
    simpa using h
   ·have h2' : ¬ (191 : Int) < byt t (k + 1) := by omega
    simp [h1', hix', h2']
    unfold M.g.j8
    have hm1 : IntKind.i32.wrap ((kq t r k : Int) * 64) = (kq t r k : Int) * 64 := wz (by omega) (by omega)
    have hm2 : IntKind.i32.wrap (byt t (k + 1) : Int) = byt t (k + 1) := wz (by omega) (by omega)
    have hm3 : IntKind.i32.wrap ((kq t r k : Int) * 64 + byt t (k + 1)) = (kq t r k : Int) * 64 + byt t (k + 1) := wz (by omega) (by omega)
    have hm4 : IntKind.i32.wrap ((kq t r k : Int) * 64 + byt t (k + 1) - 128) = ((kq t r (k + 1) : Nat) : Int) := by
     rw [wz (by omega) (by omega)]
     simp only [kq]; omega
    push_cast at g2 g3 hw
    simp only [g2, g3, hix', aix, vh, kz, lk, hm1, hm2, hm3, hm4, hw]
    refine ⟨⟨_, _, k + 1, rfl, rfl, by omega, by simp [tu, hc, ui]; omega⟩, ?_⟩
    simp [ms, gv]; omega
 ·have hke : n - 1 = k := by omega
  have hlt' : ¬ ((k + 1 : Nat) : Int) < n := by omega
  rw [hke, hc] at h
  simp only [lh, hlt', decide_false, Eng.cond_false]
  unfold M.g.j4
  have q3 : ∀ p q s u : Value, gv [p, q, s, u] 3 = u := fun _ _ _ _ => rfl
  simp only [gp, q3, g2, e1, e2]
  generalize kq t r k = v at *
  simp only [Bool.true_eq_false, if_false] at h
  by_cases a1 : v < least
  ·have a1' : (v : Int) < least := by omega
   simp [a1, a1'] at h ⊢
   exact h
  by_cases a2 : 1114111 < v
  ·have a1' : ¬ (v : Int) < least := by omega
   have a2' : (1114111 : Int) < v := by omega
   simp [a1, a1', a2, a2'] at h ⊢
   exact h
  by_cases a3 : 55296 ≤ v
  ·by_cases a4 : v ≤ 57343
   ·have a1' : ¬ (v : Int) < least := by omega
    have a2' : ¬ (1114111 : Int) < v := by omega
    have a3' : (55296 : Int) ≤ v := by omega
    have a4' : (v : Int) ≤ 57343 := by omega
    simp [a1, a1', a2, a2', a3, a3', a4, a4'] at h ⊢
    exact h
   ·have a1' : ¬ (v : Int) < least := by omega
    have a2' : ¬ (1114111 : Int) < v := by omega
    have a3' : (55296 : Int) ≤ v := by omega
    have a4' : ¬ (v : Int) ≤ 57343 := by omega
    simp [a1, a1', a2, a2', a3, a3', a4, a4'] at h ⊢
    exact h
  ·have a1' : ¬ (v : Int) < least := by omega
   have a2' : ¬ (1114111 : Int) < v := by omega
   have a3' : ¬ (55296 : Int) ≤ v := by omega
   simp [a1, a1', a2, a2', a3, a3'] at h ⊢
   exact h
theorem bks {w : World} (t : ByteArray) {K : KV} (h : K (.tuple #[.int .i32 ((rr t).1 : Nat), .int .i64 ((rr t).2 : Nat)]) w) : kg P F.ea [.string t] w K := by
 apply M.g.calls
 unfold M.g
 simp only [gp]
 unfold rr at h
 by_cases h0 : t.size = 0
 ·simp [h0] at h ⊢
  exact h
 have hsz : 0 < t.size := by omega
 have hix : ∀ K, ixT P T.ae (.string t) (.int .i64 0) w K = K (.int .u8 (byt t 0)) w := fun K => bdz t hsz w K
 have hbl := aho t 0
 have hw0 : IntKind.i32.wrap (byt t 0 : Int) = byt t 0 := wz (by omega) (by omega)
 simp [h0] at h ⊢
 unfold M.g.j0
 simp only [gp, hix]
 by_cases h1 : byt t 0 < 128
 ·have h1' : (byt t 0 : Int) < 128 := by omega
  simp [h1, h1', aix, hw0] at h ⊢
  exact h
 have h1' : ¬ (byt t 0 : Int) < 128 := by omega
 simp [h1, h1'] at h ⊢
 unfold M.g.j1
 simp only [gp]
 have fin : ∀ (n least r : Nat) (x2 : List Value), nn (byt t 0) = (n, least, r) → n ≠ 0 → 2 ≤ n → n ≤ 4 → r ≤ 31 → least ≤ 65536 → gv x2 1 = .int .i64 (n : Nat) → gv x2 2 = .int .i32 (least : Nat) → gv x2 3 = .int .i32 (r : Nat) → M.g.j2 x2 (.string t) [.int .i32 0, .int .i64 0] w K := by
  intro n least r x2 hc hn0 hn hn4 hr hl e1 e2 e3
  rw [hc] at h
  unfold M.g.j2
  have hn0' : ¬ (n : Int) = 0 := by omega
  by_cases hs : t.size < n
  ·have hs' : (t.size : Int) < n := by omega
   simp [e1, hn0, hn0', hs, hs'] at h ⊢
   exact h
  ·have hs' : ¬ (t.size : Int) < n := by omega
   simp only [gp]
   simp [e1, hn0, hn0', hs, hs'] at h ⊢
   refine bdy hn hn4 hr hl (by omega) e1 e2 e3 ?_
   by_cases hcs : tu t (n - 1) = false
   ·simp [hcs] at h ⊢; exact h
   ·by_cases hv : kq t r (n - 1) < least ∨ 1114111 < kq t r (n - 1) ∨ (55296 ≤ kq t r (n - 1) ∧ kq t r (n - 1) ≤ 57343)
    ·simp [hcs, hv] at h ⊢; exact h
    ·simp [hcs, hv] at h ⊢; exact h
 generalize hb0 : byt t 0 = b0 at *
 have hsub : ∀ (y : Int), 0 ≤ y → y < 300 → (b0 : Int) - y = (((b0 : Int) - y)) := fun _ _ _ => rfl
 by_cases c1 : 194 ≤ b0 ∧ b0 ≤ 223
 ·have p1 : (194 : Int) ≤ b0 := by omega
  have p2 : (b0 : Int) ≤ 223 := by omega
  have hw1 : IntKind.i32.wrap ((b0 : Int) - 192) = ((b0 - 192 : Nat) : Int) := by rw [wz (by omega) (by omega)]; omega
  simp [p1, p2, aix, hw0, hw1]
  refine fin 2 128 (b0 - 192) _ (by simp [nn, c1]) (by decide) (by decide) (by decide) (by omega) (by decide) rfl rfl rfl
 have hz : ∀ x2, gv x2 1 = .int .i64 0 → nn b0 = (0, 0, 0) → M.g.j2 x2 (.string t) [.int .i32 0, .int .i64 0] w K := by
  intro x2 e1 hc
  rw [hc] at h
  unfold M.g.j2
  simp only [gp]
  simp [e1] at h ⊢
  exact h
 by_cases d1 : 224 ≤ b0
 ·have p1 : (194 : Int) ≤ b0 := by omega
  have p2 : ¬ (b0 : Int) ≤ 223 := by omega
  have p3 : (224 : Int) ≤ b0 := by omega
  by_cases d2 : b0 ≤ 239
  ·have p4 : (b0 : Int) ≤ 239 := by omega
   have hw1 : IntKind.i32.wrap ((b0 : Int) - 224) = ((b0 - 224 : Nat) : Int) := by rw [wz (by omega) (by omega)]; omega
   simp [p1, p2, p3, p4, aix, hw0, hw1]
   exact fin 3 2048 (b0 - 224) _ (by simp [nn, c1, d1, d2]) (by decide) (by decide) (by decide) (by omega) (by decide) rfl rfl rfl
  ·have p4 : ¬ (b0 : Int) ≤ 239 := by omega
   have p5 : (240 : Int) ≤ b0 := by omega
   by_cases d3 : b0 ≤ 244
   ·have p6 : (b0 : Int) ≤ 244 := by omega
    have hw1 : IntKind.i32.wrap ((b0 : Int) - 240) = ((b0 - 240 : Nat) : Int) := by rw [wz (by omega) (by omega)]; omega
    simp [p1, p2, p3, p4, p5, p6, aix, hw0, hw1]
    exact fin 4 65536 (b0 - 240) _ (by unfold nn; rw [if_neg c1, if_neg (by omega), if_pos (by omega)]) (by decide) (by decide) (by decide) (by omega) (by decide) rfl rfl rfl
   ·have p6 : ¬ (b0 : Int) ≤ 244 := by omega
    simp [p1, p2, p3, p4, p5, p6, aix, hw0]
    exact hz _ rfl (by unfold nn; rw [if_neg c1, if_neg (by omega), if_neg (by omega)])
 ·have p1 : ¬ (194 : Int) ≤ b0 := by omega
  have p3 : ¬ (224 : Int) ≤ b0 := by omega
  have p5 : ¬ (240 : Int) ≤ b0 := by omega
  simp [p1, p3, p5]
  exact hz _ rfl (by unfold nn; rw [if_neg c1, if_neg (by omega), if_neg (by omega)])
end Go.Proofs.YtfnhoaemapheoaaGreat
