/-
  Packets: equal ballots, equal rows, alike. No condition.
-/
import Derived.Test.YtfnhoaemapheoaaGreatZWl1
import Derived.Test.YtfnhoaemapheoaaGreatZSpn0
import Derived.Test.YtfnhoaemapheoaaGreatZSgD
import Derived.Test.YtfnhoaemapheoaaGreatZEngSl
import Derived.Test.YtfnhoaemapheoaaGreatZMs0
import Derived.Test.YtfnhoaemapheoaaGreatM
import Derived.Test.YtfnhoaemapheoaaGreatFacts
set_option maxRecDepth 100000
namespace Go.Proofs.YtfnhoaemapheoaaGreat
open Go.Eng
def kj (b : Bal) : Value := .agg #[.int .u64 b.n, .int .u64 b.iy]
theorem amp (x y : Bal) (w : World) : (Op.equalIn 10000 T.d (kj x) (kj y)).run P w = .ok (x.n == y.n && (x.iy == y.iy)) w := by
 have hS : P.underlying T.d = some (.struct (P.fieldsOf T.d)) := by kernel_rfl
 have hp : P.stoodInHeld T.d = false := by kernel_rfl
 unfold kj
 rw [show (10000 : Nat) = 9999 + 1 from rfl, run_equalIn_agg w 9999 T.d _ _ hS hp]
 simp only [Program.fieldsOf, show P.underlying T.d = _ from Tryz.underlying40]
 have u22 : P.underlying T.g = some (.int .u64) := by kernel_rfl
 have a22 : adc P T.g = false := by kernel_rfl
 refine eqF (by decide) a22 rfl rfl (run_equalIn_int w 9998 T.g _ _ _ _ u22) ?_
 have := eqF (fs := []) (d := 9999) (xs := #[.int .u64 x.n, .int .u64 x.iy]) (ys := #[.int .u64 y.n, .int .u64 y.iy]) (f := { name := "Node", type := T.g, offset := 1, embedded := false, tag := "", pkgPath := "", byteOffset := 8 }) (w := w) (c := true) (by decide) a22 rfl rfl (run_equalIn_int w 9998 T.g _ _ _ _ u22) rfl
 simpa using this
theorem bgi (x y : Bal) : (x.n == y.n && (x.iy == y.iy)) = decide (x = y) := by
 obtain ⟨a, b⟩ := x
 obtain ⟨a', b'⟩ := y
 simp only [Bal.mk.injEq]
 by_cases h1 : a = a' <;> by_cases h2 : b = b' <;> simp [h1, h2]
theorem vd (rx ry : Operand) (x y : Bal) (w : World) (K : KV) : ga P .eql T.d rx ry (kj x) (kj y) w K = K (.bool (decide (x = y))) w := by
 have hm : P.eqGuardType P.depth T.d = false := by kernel_rfl
 have hg := run_eqGuard_agg (P := P) w .eql T.d rx ry #[.int .u64 x.n, .int .u64 x.iy] #[.int .u64 y.n, .int .u64 y.iy] hm
 have he := amp x y w
 rw [bgi] at he
 unfold ga je
 unfold kj at he ⊢
 rw [Sem.run_bind, hg]
 simp only [Result.andThen]
 rw [run_eql_struct, he]
 rfl
theorem apb (rx ry : Operand) (x y : Bal) (w : World) (K : KV) : ga P .neq T.d rx ry (kj x) (kj y) w K = K (.bool !(decide (x = y))) w := by
 have hm : P.eqGuardType P.depth T.d = false := by kernel_rfl
 have hg := run_eqGuard_agg (P := P) w .neq T.d rx ry #[.int .u64 x.n, .int .u64 x.iy] #[.int .u64 y.n, .int .u64 y.iy] hm
 have he := amp x y w
 rw [bgi] at he
 unfold ga je
 unfold kj at he ⊢
 rw [Sem.run_bind, hg]
 simp only [Result.andThen]
 rw [run_neq_struct, he]
 rfl
set_option maxRecDepth 100000
structure pw (w : World) (p : Pk) (ls : List Spn) (lm : List Mem) (lu : List Int) : Prop where
 s : SlS w p.sv ls
 m : SlM w p.mv lm
 u : SlU w p.iv lu
 ls : ls.length ≤ 1000000
 lm : lm.length ≤ 1000000
 lu : lu.length ≤ 1000000
theorem pw.fr {w w' : World} {p : Pk} {ls : List Spn} {lm : List Mem} {lu : List Int} (h : pw w p ls lm lu) (hf : Fr (fun _ => False) w w') : pw w' p ls lm lu :=
 ⟨h.s.fr hf fun _ _ _ h => h, h.m.fr hf fun _ _ _ h => h, h.u.fr hf fun _ _ _ h => h, h.ls, h.lm, h.lu⟩
theorem pw.one {w : World} {p : Pk} {ls : List Spn} {lm : List Mem} {lu : List Int} (h : pw w p ls lm lu) : (∃ a c, p.sv = .slice a ls.length c) ∧ (∃ a c, p.mv = .slice a lm.length c) ∧ ∃ a c, p.iv = .slice a lu.length c := by
 obtain ⟨a1, c1, h1, _⟩ := h.s
 obtain ⟨a2, c2, h2, _⟩ := h.m
 obtain ⟨a3, c3, h3, _⟩ := h.u
 exact ⟨⟨a1, c1, h1⟩, ⟨a2, c2, h2⟩, a3, c3, h3⟩
theorem aql {w : World} {p : Pk} {ls : List Spn} {lm : List Mem} {lu : List Int} (h : pw w p ls lm lu) (K : KV) : lx P T.a (pkA p) w K = K (.pointer (some ⟨w.heap.size, 0, none⟩)) (w.alloc (.cells (pkC p).toArray T.a)) := by
 rw [xc]; rfl
theorem jb {W w : World} {pb : Nat} {p : Pk} {R : List Asn} (S : St W w (gp pb (pkC p).toArray T.a :: R)) : gi w pb 0 = some (.int .i64 p.gr) ∧ gi w pb 1 = some (.int .u64 p.tr) ∧ (∀ K, ldN P 2 pb 2 w K = K (kj p.b) w) ∧ (∀ K, ldN P 2 pb 4 w K = K (kj p.jd) w) ∧ gi w pb 6 = some (.int .i64 p.v) ∧ gi w pb 7 = some (.bool p.ok) ∧ gi w pb 8 = some p.sv ∧ gi w pb 9 = some p.mv ∧ gi w pb 10 = some p.iv ∧ ∀ K, ldN P 11 pb 0 w K = K (pkA p) w := by
 have hh := S.blk
 have hc := fun j u hj => zt hh j u hj
 exact ⟨hc 0 _ rfl, hc 1 _ rfl, fun K => acs (hc 2 _ rfl) (hc 3 _ rfl) K, fun K => acs (hc 4 _ rfl) (hc 5 _ rfl) K, hc 6 _ rfl, hc 7 _ rfl, hc 8 _ rfl, hc 9 _ rfl, hc 10 _ rfl, fun K => rh (pkC p) 11 rfl (fun k u hk => by rw [Nat.zero_add]; exact hc k u hk) K⟩
end Go.Proofs.YtfnhoaemapheoaaGreat
set_option maxRecDepth 100000
namespace Go.Proofs.YtfnhoaemapheoaaGreat.Suint64
open Go.Eng Go.Sort
abbrev Rw (w : World) (g : Nat) (e : TypeId) (cap : Nat) (d : Array Int) : Prop := @SG.Rw seU w g e cap d
abbrev Rf (w w' : World) (g : Nat) (e : TypeId) (cap : Nat) (d : Array Int) : Prop := @SG.Rf seU w w' g e cap d
theorem apz {w w' : World} {g : Nat} {e : TypeId} {cap : Nat} {d : Array Int} (h : Rf w w' g e cap d) : Rw w' g e cap d := @SG.Rf.row seU _ _ _ _ _ _ h
theorem awm {w w' : World} {g : Nat} {e : TypeId} {cap : Nat} {d : Array Int} (h : Rf w w' g e cap d) : Fr (fun b => b = g) w w' := @SG.Rf.fr seU _ _ _ _ _ _ h
abbrev aix (x : Int) : Value := .int .u64 x
abbrev sj (x : Int) : List Value := [.int .u64 x]
abbrev OwN (w : World) (base : Nat) (v : Value) (l : List Int) : Prop := Ow w base T.g 1 sj v l
theorem Ow.rw {w : World} {base g n cap : Nat} {l : List Int} (h : OwN w base (.slice (some ⟨g, 0, none⟩) n cap) l) : n = l.length ∧ base ≤ g ∧ cap ≤ maxLen ∧ Rw w g T.g cap l.toArray := by
 rcases h.2 with ⟨h0, _⟩ | ⟨g', cap', cur, hv, hb, hc, h1, h2, h3, h4⟩
 ·cases h0
 ·injection hv with q1 q2 q3
  injection q1 with q1
  injection q1 with q1
  subst q1 q2 q3
  refine ⟨rfl, hb, h2, cur, hc, by simpa using h3, by simpa using h1, fun j hj => ?_⟩
  show cur[j]? = some (.int .u64 l.toArray[j]!)
  have hj' : j < l.length := by simpa using hj
  have h5 : (cur.toList.take (l.length * 1))[j]? = (l.flatMap sj)[j]? := by rw [h4]
  rw [List.getElem?_take_of_lt (by omega)] at h5
  have h6 : (l.flatMap sj)[j]? = some (.int .u64 l[j]) := by
   have := yw (enc := sj) (sz := 1) (fun _ => rfl) l j l[j] 0 (.int .u64 l[j]) (List.getElem?_eq_getElem hj') rfl
   simpa using this
  rw [h6] at h5
  simpa [hj'] using h5
theorem zn : ∀ l : List Int, l.flatMap sj = l.map aix
 | [] => rfl
 | x :: l => by rw [List.flatMap_cons, zn l]; rfl
theorem axa {w : World} {base g cap : Nat} {l : List Int} (hb : base ≤ g) (hm : cap ≤ maxLen) (h : Rw w g T.g cap l.toArray) : OwN w base (.slice (some ⟨g, 0, none⟩) l.length cap) l := by
 obtain ⟨cur, h1, h2, h3, h4'⟩ := h
 have h4 : ∀ j, j < l.toArray.size → cur[j]? = some (.int .u64 l.toArray[j]!) := h4'
 refine ⟨by rw [zn]; simp, .inr ⟨g, cap, cur, rfl, hb, h1, by simpa using h3, hm, by simpa using h2, ?_⟩⟩
 rw [zn]
 apply List.ext_getElem?
 intro j
 by_cases hj : j < l.length
 ·rw [List.getElem?_take_of_lt (by omega)]
  have := h4 j (by simpa using hj)
  simp [hj] at this ⊢
  exact this
 ·rw [List.getElem?_take_eq_none (by omega), List.getElem?_eq_none (by simp; omega)]
theorem zm {w : World} {K : KV} (h : K (.tuple #[]) w) : jr P F.d [.slice none 0 0] w K := @SG.zm seU w K h
theorem abk {w : World} {g cap n : Nat} {e : TypeId} {d : Array Int} (H : Rw w g e cap d) (hn : d.size = n) (h6 : n < 60000) {K : KV}
  (h : ∀ w', Rf w w' g e cap (d.toList.mergeSort fun x y => decide (x ≤ y)).toArray → K (.tuple #[]) w') : jr P F.d [.slice (some ⟨g, 0, none⟩) n cap] w K := @SG.abk seU w g cap n e d H hn h6 K h
def oy (l : List Int) : List Int := l.mergeSort fun x y => decide (x ≤ y)
theorem nn (l : List Int) : (oy l).Perm l := List.mergeSort_perm ..
theorem yk {l l' : List Int} (h : l.Perm l') : oy l = oy l' := by
 unfold oy
 have hs : ∀ l : List Int, (l.mergeSort fun x y => decide (x ≤ y)).Pairwise fun a b => decide (a ≤ b) = true := fun l => List.pairwise_mergeSort (fun a b c h1 h2 => by simp at *; omega) (fun a b => by simp; omega) l
 exact List.Perm.eq_of_pairwise (fun a b _ _ h1 h2 => by simp at h1 h2; omega) (hs l) (hs l') (((List.mergeSort_perm ..).trans h).trans (List.mergeSort_perm ..).symm)
end Go.Proofs.YtfnhoaemapheoaaGreat.Suint64
set_option maxRecDepth 100000
namespace Go.Proofs.YtfnhoaemapheoaaGreat.KeyV
open Go.Eng Go.Sort Go.Proofs.YtfnhoaemapheoaaGreat.Suint64
end Go.Proofs.YtfnhoaemapheoaaGreat.KeyV
set_option maxRecDepth 100000
namespace Go.Proofs.YtfnhoaemapheoaaGreat.CM
open Go.Eng
end Go.Proofs.YtfnhoaemapheoaaGreat.CM
set_option maxRecDepth 100000
namespace Go.Proofs.YtfnhoaemapheoaaGreat
open Go.Eng
set_option maxRecDepth 100000
section
variable {w0 w : World} {R : List Asn} {r : Nat} {A L : List Mem} {tv : Value}
theorem tt {m : MP} (S : St w0 w (ji r .u64 m :: R)) : pk w r .u64 m ∧ (ke m).Nodup := by
 obtain ⟨B, h1, _⟩ := S.open
 exact h1.1
theorem asu {m : MP} (S : St w0 w (ji r .u64 m :: R)) {o : Obj} {k : Int} {v : Value} (h : pk (World.setObj w r o) r .u64 (sd m k v)) : St w0 (World.setObj w r o) (ji r .u64 (sd m k v) :: R) := by
 obtain ⟨B, ⟨k1, k2⟩, hB, cl⟩ := S.open
 refine cl (World.setObj w r o) [ji r .u64 (sd m k v)] ((Fr.refl B w).setObj (.inl k2) o) (Rs.one (B := B) ⟨⟨h, ?_⟩, k2⟩ fun b hb => .inl hb)
 rw [ajr]
 split
 ·exact k1.2
 ·rename_i hx
  rw [List.nodup_append]
  exact ⟨k1.2, by simp, fun a ha b hb' hab => by
   simp at hb'
   exact hx (by rw [← hb', ← hab]; exact ha)⟩
end
set_option maxRecDepth 100000
open Go.Eng
section
variable {w0 w : World} {R : List Asn} {r : Nat} {A L : List Mem} {tv : Value}
end
set_option maxRecDepth 100000
open Go.Eng
def qr (l : List Mem) (i : Nat) : Int := match i with
 | 0 => 0
 | i + 1 => (l[i]?.map Mem.id).getD 0
def MbI (W : World) (l : List Mem) : KL := fun x w1 => ∃ (u : Value) (i : Nat), x = [u, .int .i64 (i : Nat)] ∧ i ≤ l.length ∧ (ro 0 l && !(l.any pt)) = (ro (qr l i) (l.drop i) && !((l.drop i).any pt)) ∧ Fr (fun _ => False) W w1
theorem aod {w : World} {v : Value} {l : List Mem} (hs : SlM w v l) (hlen : l.length ≤ 1000000) (hid : ∀ m ∈ l, 0 ≤ m.id) {K : KV} (h : ∀ w', Fr (fun _ => False) w w' → K (.bool (yv l)) w') : gb P F.cs [v] w K := by
 rw [M.aq.fcall]
 apply M.aq.calls
 unfold M.aq
 rw [gg]
 refine ⟨MbI w l, fun x _ => l.length - ms x 1, ⟨_, 0, rfl, Nat.zero_le _, rfl, Fr.refl _ _⟩, ?_⟩
 rintro x w1 ⟨u, i, rfl, hi, hr, f1⟩
 have q0 : gv [u, .int .i64 (i : Nat)] 0 = u := rfl
 have q1 : gv [u, .int .i64 (i : Nat)] 1 = .int .i64 (i : Nat) := rfl
 have hs1 := hs.fr f1 fun _ _ _ h => h
 simp only [gg, q1]
 rw [hs1.im (by kernel_rfl)]
 have hmr : yv l = ((ro 0 l && !(l.any pt)) && (decide (0 < l.length) && decide (l.length ≤ 16))) := by
  unfold yv
  cases ro 0 l <;> cases l.any pt <;> simp
 by_cases hil : i < l.length
 ·have hil' : (i : Int) < l.length := by omega
  simp [hil']
  unfold M.aq.j2
  obtain ⟨b, o, cap, hv, hb, _, hc⟩ := hs1.at hil
  have hld : ∀ K, ldN P 3 b (o + i * 3) w1 K = K (qm l[i]) w1 := fun K => ldM hc K
  have hwi : IntKind.i64.wrap ((i : Int) + 1) = ((i + 1 : Nat) : Int) := by rw [gm (by omega) (by omega)]; rfl
  have hdrop : l.drop i = l[i] :: l.drop (i + 1) := List.drop_eq_getElem_cons hil
  have hlast : qr l (i + 1) = l[i].id := by unfold qr; simp [List.getElem?_eq_getElem hil]
  have hm0 := hid _ (List.getElem_mem hil)
  -- the one ahead
  have hprev : 0 < i → ∃ p, l[i - 1]? = some p ∧ qr l i = p.id ∧ ∀ j u, (ach p)[j]? = some u → gi w1 b (o + (i - 1) * 3 + j) = some u := fun h0 => by
   have hp : i - 1 < l.length := by omega
   obtain ⟨b', o', cap', hv', _, _, hc'⟩ := hs1.at hp
   have hvv := hv.symm.trans hv'
   injection hvv with ha1 _ _
   injection ha1 with ha1
   injection ha1 with ha4 ha5
   subst ha4 ha5
   refine ⟨l[i - 1], List.getElem?_eq_getElem hp, ?_, hc'⟩
   obtain ⟨k, rfl⟩ : ∃ k, i = k + 1 := ⟨i - 1, by omega⟩
   have hp' : k < l.length := by omega
   show (l[k]?.map Mem.id).getD 0 = _
   rw [List.getElem?_eq_getElem hp']; rfl
  rw [hdrop] at hr
  have hcons : (ro (qr l i) (l[i] :: l.drop (i + 1)) && !((l[i] :: l.drop (i + 1)).any pt)) = ((decide (qr l i < l[i].id) && !(pt l[i])) && (ro (qr l (i + 1)) (l.drop (i + 1)) && !((l.drop (i + 1)).any pt))) := by
   rw [List.any_cons, hlast]
   show ((decide (qr l i < l[i].id) && ro l[i].id (l.drop (i + 1))) && _) = _
   cases decide (qr l i < l[i].id) <;> cases ro l[i].id (l.drop (i + 1)) <;> cases pt l[i] <;> simp
  rw [hcons] at hr
  generalize hm : l[i] = m at *
  subst hv
  simp [q0, q1, hil, hld]
  rw [show qm m = .agg #[.int .u64 m.id, .int .u64 m.inc, .int .i64 m.st] from rfl]
  simp
  have hba : (w1.alloc (.cells #[.int .u64 0, .int .u64 0, .int .i64 0] T.p)).heap[w1.heap.size]? = some (.cells #[.int .u64 0, .int .u64 0, .int .i64 0] T.p (0, 0)) := by rw [ie, if_pos rfl]
  refine jm (vs := [.int .u64 m.id, .int .u64 m.inc, .int .i64 m.st]) hba rfl (by simp) fun w2 b2 f2 => ?_
  have f2' : Fr (fun _ => False) w1 w2 := ((Fr.refl _ w1).alloc _).me f2 fun y hy he => by subst he; omega
  have c0 : gi w2 w1.heap.size 0 = some (.int .u64 m.id) := by rw [gj b2]; rfl
  have c1 : gi w2 w1.heap.size 1 = some (.int .u64 m.inc) := by rw [gj b2]; rfl
  have c2 : gi w2 w1.heap.size 2 = some (.int .i64 m.st) := by rw [gj b2]; rfl
  have fin : Fr (fun _ => False) w (Eng.dr w2 1) := (f1.trans f2').dr 1
  have no : (decide (qr l i < m.id) && !(pt m)) = false → K (.bool false) (Eng.dr w2 1) := fun hx => by
   rw [hx, Bool.false_and] at hr
   have := h (Eng.dr w2 1) fin
   rw [hmr, hr] at this
   simpa using this
  have yes : (decide (qr l i < m.id) && !(pt m)) = true → MbI w l [u, .int .i64 ((i + 1 : Nat) : Int)] (Eng.dr w2 1) ∧ l.length - ms [u, .int .i64 ((i + 1 : Nat) : Int)] 1 < l.length - ms [u, .int .i64 (i : Nat)] 1 := fun hx => by
   rw [hx, Bool.true_and] at hr
   exact ⟨⟨_, i + 1, rfl, by omega, hr, fin⟩, by simp [ms, gv]; omega⟩
  by_cases e0 : m.id = 0
  ·have hb0 : (decide (qr l i < m.id) && !(pt m)) = false := by
    have : ¬ qr l i < m.id := by
     have : 0 ≤ qr l i := by
      by_cases h0 : 0 < i
      ·obtain ⟨p, hp, hpl, _⟩ := hprev h0
       rw [hpl]; exact hid p (List.mem_of_getElem? hp)
      ·have : i = 0 := by omega
       subst this; exact Int.le_refl _
     omega
    rw [decide_eq_false this, Bool.false_and]
   simp [c0, e0]
   exact no hb0
  by_cases e1 : m.inc = 0
  ·have hb0 : (decide (qr l i < m.id) && !(pt m)) = false := by
    unfold pt; simp [e1]
   simp [c0, c1, e0, e1]
   exact no hb0
  by_cases e2 : m.st < 0
  ·have hb0 : (decide (qr l i < m.id) && !(pt m)) = false := by
    unfold pt; simp [e2]
   simp [c0, c1, c2, e0, e1, e2]
   exact no hb0
  by_cases e3 : 2 < m.st
  ·have hb0 : (decide (qr l i < m.id) && !(pt m)) = false := by
    unfold pt; simp [e3]
   simp [c0, c1, c2, e0, e1, e2, e3]
   exact no hb0
  have hodd : pt m = false := by unfold pt; simp [e1, e2, e3]
  by_cases e4 : 0 < i
  ·obtain ⟨p, hp, hpl, hpc⟩ := hprev e4
   have cp := hpc 0 _ rfl
   simp only [Nat.add_zero] at cp
   have cp2 : gi w2 b (o + (i - 1) * 3) = some (.int .u64 p.id) := by rw [xg (f2'.jy b hb fun h => h)]; exact cp
   have e4' : (0 : Int) < i := by omega
   have hsub : IntKind.i64.wrap ((i : Int) - 1) = ((i - 1 : Nat) : Int) := by rw [gm (by omega) (by omega)]; omega
   have hi1 : i - 1 < l.length := by omega
   have hi1' : ((i - 1 : Nat) : Int) < l.length := by omega
   by_cases e5 : m.id ≤ p.id
   ·have hb0 : (decide (qr l i < m.id) && !(pt m)) = false := by
     rw [hpl, decide_eq_false (by omega), Bool.false_and]
    simp [c0, c1, c2, e0, e1, e2, e3, e4, hsub, hi1, cp2, e5]
    exact no hb0
   ·have hb0 : (decide (qr l i < m.id) && !(pt m)) = true := by
     rw [hpl, decide_eq_true (by omega), hodd]; rfl
    simp [c0, c1, c2, e0, e1, e2, e3, e4, hsub, hi1, cp2, e5, hwi]
    exact yes hb0
  ·have hi0 : i = 0 := by omega
   have hb0 : (decide (qr l i < m.id) && !(pt m)) = true := by
    have : qr l i < m.id := by rw [hi0]; show 0 < m.id; omega
    rw [decide_eq_true this, hodd]; rfl
   simp [c0, c1, c2, e0, e1, e2, e3, e4, hwi]
   exact yes hb0
 ·have hil' : ¬ (i : Int) < l.length := by omega
  simp [hil']
  unfold M.aq.j0
  rw [List.drop_of_length_le (by omega)] at hr
  have hr' : (ro 0 l && !(l.any pt)) = true := by rw [hr]; rfl
  rw [hmr, hr', Bool.true_and] at h
  rw [hs1.im (by kernel_rfl)]
  have hx : decide ((l.length : Int) ≤ 16) = decide (l.length ≤ 16) := by
   by_cases h16 : l.length ≤ 16
   ·rw [decide_eq_true h16, decide_eq_true (by omega)]
   ·rw [decide_eq_false h16, decide_eq_false (by omega)]
  by_cases h0 : 0 < l.length
  ·have h0' : (1 : Int) ≤ l.length := by omega
   simp [h0']
   rw [hs1.im (by kernel_rfl)]
   simp
   rw [hx]
   have := h w1 f1
   simpa [h0] using this
  ·have h0' : ¬ (1 : Int) ≤ l.length := by omega
   simp [h0']
   have := h w1 f1
   simpa [h0] using this
structure Nd where
 id : Int
 bvl : Int
 bwm : Int
 now : Int
 due : Int
 left : Bool
 v : List Mem
 h : MP
section
variable {n : Nd} {frm now pick : Int} {l : List Mem}
end
set_option maxRecDepth 100000
open Go.Eng
section
variable {w0 w : World} {R : List Asn}
end
set_option maxRecDepth 100000
open Go.Eng
section
variable {w0 w : World} {R : List Asn} {p r : Nat} {v : Value} {n : Nd}
end
set_option maxRecDepth 100000
open Go.Eng
section
variable {w0 w : World} {R : List Asn}
end
set_option maxRecDepth 100000
open Go.Eng
section
variable {w0 w : World} {R : List Asn} {p r : Nat} {v : Value} {n : Nd}
end
set_option maxRecDepth 100000
open Go.Eng
def rn (tr : Int) : List Int → List Spn → Bool
 | _, [] => true
 | met, s :: r => (decide (ku s = 0) && (decide (s.il = tr) && !(decide (s.id ∈ met)))) && rn tr (met ++ [s.id]) r
def qk (tr : Int) (l : List Spn) : Bool := rn tr [] l && (decide (0 < l.length) && decide (l.length ≤ 16))
theorem agq {tr : Int} {met : List Int} {s : Spn} {r : List Spn} (h : ¬ (ku s = 0 ∧ s.il = tr ∧ s.id ∉ met)) : rn tr met (s :: r) = false := by
 rw [rn]
 by_cases h1 : ku s = 0 <;> by_cases h2 : s.il = tr <;> by_cases h3 : s.id ∈ met <;> simp_all
theorem zp {tr : Int} {met : List Int} {s : Spn} {r : List Spn} (h1 : ku s = 0) (h2 : s.il = tr) (h3 : s.id ∉ met) : rn tr met (s :: r) = rn tr (met ++ [s.id]) r := by
 rw [rn]; simp [h1, h2, h3]
def MsI (W : World) (mb : Nat) (tr : Int) (l : List Spn) : KL := fun x w1 => ∃ (u0 u1 : Value) (i : Nat) (m : MP), x = [u0, u1, .int .i64 (i : Nat)] ∧ i ≤ l.length ∧ St W w1 (ji mb .u64 m :: []) ∧ (∀ k, lb m k = if k ∈ (l.take i).map Spn.id then some (.bool true) else none) ∧ rn tr [] l = rn tr ((l.take i).map Spn.id) (l.drop i)
theorem anq {w : World} {v : Value} {l : List Spn} {tr : Int} (hs : SlS w v l) (hlen : l.length ≤ 1000000) {K : KV} (h : ∀ w', Fr (fun _ => False) w w' → K (.bool (qk tr l)) w') : gb P F.dw [.int .u64 tr, v] w K := by
 rw [M.bp.fcall]
 apply M.bp.calls
 unfold M.bp
 rw [ajg]
 have hlv : ∀ w' K, biT P .len #[T.c] T.b [false] [v] w' K = K (.int .i64 l.length) w' := fun w' K => hs.im (by kernel_rfl) [false]
 have S0 : St w (w.alloc (.map #[] 0)) (ji w.heap.size .u64 [] :: []) := (St.jh w).add ((Fr.refl _ w).alloc _) (B := fun x => x = w.heap.size) ⟨⟨agb w .u64, by simp [ke]⟩, rfl⟩ fun x hx => by subst hx; rw [jl]; omega
 generalize w.alloc (.map #[] 0) = w1 at *
 generalize w.heap.size = mb at *
 simp [hlv]
 refine ⟨MsI w mb tr l, fun x _ => l.length - ms x 2, ⟨_, _, 0, [], rfl, Nat.zero_le _, S0, fun k => by simp [lb], rfl⟩, ?_⟩
 rintro x w2 ⟨u0, u1, i, m, rfl, hi, S2, hm, hg⟩
 by_cases hil : i < l.length
 ·have hili : (i : Int) < (l.length : Int) := by omega
  simp [hil]
  unfold M.bp.j2
  have hs2 : SlS w2 v l := hs.fr S2.fr fun _ _ _ h => h
  obtain ⟨b, o, cap, hv, _, _, hc⟩ := hs2.at hil
  have hia : ∀ w' K, iaT P T.c v (.int .i64 (i : Nat)) w' K = K (.pointer (some ⟨b, o + i * 8, none⟩)) w' := fun w' K => by rw [hv]; simp [hil]
  have hld : ∀ K, ldN P 8 b (o + i * 8) w2 K = K (jx l[i]) w2 := fun K => ldS (fun k u hk => hc k u hk) K
  have hdrop : l.drop i = l[i] :: l.drop (i + 1) := List.drop_eq_getElem_cons hil
  rw [hdrop] at hg
  have htk : (l.take (i + 1)).map Spn.id = (l.take i).map Spn.id ++ [l[i].id] := by rw [List.take_succ_eq_append_getElem hil, List.map_append]; rfl
  generalize l[i] = s at *
  simp [hia, hld]
  unfold jx
  simp
  have S3 : St w (w2.alloc (.cells #[.int .u64 0, .int .u64 0, .int .u64 0, .int .u64 0, .int .u64 0, .string ⟨#[]⟩, .string ⟨#[]⟩, .bool false] T.e)) (gp w2.heap.size #[.int .u64 0, .int .u64 0, .int .u64 0, .int .u64 0, .int .u64 0, .string ⟨#[]⟩, .string ⟨#[]⟩, .bool false] T.e :: ji mb .u64 m :: []) := S2.add ((Fr.refl _ w2).alloc _) (B := fun x => x = w2.heap.size) ⟨by rw [ie, if_pos rfl], rfl⟩ fun x hx => by subst hx; rw [jl]; omega
  generalize w2.heap.size = sb at *
  refine jm (vs := gy s) S3.blk rfl (nq s) fun w4 b4 f4 => ?_
  have S4 : St w w4 (gp sb (gy s).toArray T.e :: ji mb .u64 m :: []) := S3.ly f4 b4
  have spC : ∀ {W : World}, St w W (gp sb (gy s).toArray T.e :: ji mb .u64 m :: []) → gi W sb 0 = some (.int .u64 s.il) ∧ gi W sb 1 = some (.int .u64 s.id) ∧ ∀ K, ldN P 8 sb 0 W K = K (jx s) W := fun {W} S' => by
   have hh : ast W sb s := S'.blk
   exact ⟨ww hh 0 _ rfl, ww hh 1 _ rfl, fun K => ldS (fun k v hk => by rw [Nat.zero_add]; exact ww hh k v hk) K⟩
  obtain ⟨_, _, sl⟩ := spC S4
  simp [sl]
  rw [M.co.fcall]
  refine aiw s fun w5 f5 => ?_
  have S5 := S4.jg f5
  obtain ⟨s0, s1, _⟩ := spC S5
  have bad : ¬ (ku s = 0 ∧ s.il = tr ∧ s.id ∉ (l.take i).map Spn.id) → K (.bool false) w5 := fun hb => by
   have := h w5 S5.fr
   unfold qk at this
   rw [hg, agq hb] at this
   simpa using this
  have hmap := (tt S5.swap).1
  have hw : IntKind.i64.wrap ((i : Int) + 1) = ((i + 1 : Nat) : Int) := by rw [gm (by omega) (by omega)]; omega
  by_cases h1 : ku s = 0
  case neg =>
   simp [h1]
   exact bad fun hh => h1 hh.1
  by_cases h2 : s.il = tr
  case neg =>
   simp [h1, s0, h2]
   exact bad fun hh => h2 hh.2.1
  have hmk := hm s.id
  by_cases h3 : s.id ∈ (l.take i).map Spn.id
  ·rw [if_pos h3] at hmk
   simp [h1, s0, h2, s1, aay mt.aq hmap, hmk]
   exact bad fun hh => hh.2.2 h3
  ·rw [if_neg h3] at hmk
   simp [h1, s0, h2, s1, aay mt.aq hmap, hmk]
   refine aos mt.aq hmap s.id _ _ fun ob hob => ?_
   have S6 := asu S5.swap hob
   rw [hw]
   refine ⟨⟨_, _, i + 1, _, rfl, hil, (S6.swap).drop, fun k => ?_, ?_⟩, by simp [ms, gv]; omega⟩
   ·rw [agc, hm k, htk]
    by_cases hk : s.id = k
    ·subst hk; simp
    ·have hk' : ¬ k = s.id := fun e => hk e.symm
     simp [hk, hk']
   ·rw [hg, zp h1 h2 h3, htk]
 ·have hili : ¬ (i : Int) < (l.length : Int) := by omega
  simp [hil]
  unfold M.bp.j0
  rw [List.drop_of_length_le (by omega)] at hg
  have fin := h w2 S2.fr
  unfold qk at fin
  rw [hg, rn] at fin
  by_cases h1 : 0 < l.length
  ·have h1i : (0 : Int) < (l.length : Int) := by omega
   by_cases h2 : l.length ≤ 16
   ·have h2i : (l.length : Int) ≤ 16 := by omega
    simp [hlv, h1]
    try rw [hlv]
    simp [h2i]
    simpa [h1, h2] using fin
   ·have h2i : ¬ (l.length : Int) ≤ 16 := by omega
    simp [hlv, h1]
    try rw [hlv]
    simp [h2i]
    simpa [h1, h2] using fin
  ·have h1i : ¬ (0 : Int) < (l.length : Int) := by omega
   simp [hlv, h1i]
   simpa [h1] using fin
theorem agu {w : World} {v : Value} {l : List Int} (hs : SlU w v l) (hlen : l.length ≤ 1000000) {K : KV} (h : ∀ w' v', SlU w' v' l → (∀ x, v'.ownBlock = some x → w.heap.size ≤ x) → Fr (fun _ => False) w w' → K v' w') : gb P F.bf [v] w K := by
 rw [M.bh.fcall]
 apply M.bh.calls
 unfold M.bh
 simp only [gg]
 have hs' := hs
 obtain ⟨a, cap, rfl, _⟩ := hs'
 cases a with
 | none =>
  simp
  have hz : l = [] := by
   obtain ⟨a', cap', hv, _, _, h3⟩ := hs
   cases l with
   | nil => rfl
   | cons x l =>
    obtain ⟨b, o, ha, _⟩ := h3 0 x rfl
    injection hv with h1 _ _
    rw [← h1] at ha; cases ha
  subst hz
  exact h w _ Sl.nil (fun x hx => by simp [Value.ownBlock] at hx) (Fr.refl _ _)
 | some a =>
  simp
  have f0 : Fr (fun _ => False) w (w.alloc (.cells #[] T.g)) := (Fr.refl _ w).alloc _
  refine vv et.k ws aoy (base := w.heap.size) (Ow.empty (by rw [ie, if_pos rfl]) (Nat.le_refl _)) (hs.fr f0 fun _ _ _ h => h) (by simp; omega) (by decide) (by simp) _ fun v3 w3 o3 f3 g3 => ?_
  rw [List.nil_append] at o3
  exact h w3 v3 (o3.sl ws) (fun x hx => (o3.lt hx).1) (f0.me f3 fun b hb hv => by simp [Value.ownBlock] at hv; omega)
inductive ThR (w : World) (p : Pk) (ls : List Spn) (lm : List Mem) (lu : List Int) : Value → Prop
 | nk (v : Value) : (p.gr = 1 ∨ p.gr = 2) → SlS w v ls → ThR w p ls lm lu (.iface T.q (.agg #[.int .u64 p.tr, .bool (decide (p.gr = 2)), v]))
 | agf (v : Value) : p.gr = 3 → SlM w v lm → ThR w p ls lm lu (.iface T.s (.agg #[v]))
 | ask : (p.gr = 4 ∨ p.gr = 6) → ThR w p ls lm lu (amg p.tr p.b p.v)
 | yz : (p.gr = 5 ∨ p.gr = 7) → ThR w p ls lm lu (.iface T.l (.agg #[.int .u64 p.tr, .int .u64 p.b.n, .int .u64 p.b.iy, .bool p.ok, .int .u64 p.jd.n, .int .u64 p.jd.iy, .int .i64 p.v, .bool (decide (p.gr = 7))]))
 | ut : p.gr = 8 → ThR w p ls lm lu (.iface T.y (.agg #[.int .u64 p.tr, .int .i64 p.v]))
 | vz (v : Value) : p.gr = 9 → SlS w v ls → ThR w p ls lm lu (.iface T.h (.agg #[.int .u64 p.tr, .int .u64 p.b.n, .int .u64 p.b.iy, v]))
 | ym (v : Value) : p.gr = 10 → SlU w v lu → ThR w p ls lm lu (.iface T.m (.agg #[.int .u64 p.tr, v]))
 | none : ¬ (1 ≤ p.gr ∧ p.gr ≤ 10) → ThR w p ls lm lu .nilIface
def aio (w : World) (t : Value) : Prop := ∀ a b c v, t = .iface T.h (.agg #[a, b, c, v]) → ∀ g, v.ownBlock = some g → w.heap.size ≤ g
theorem aio.mono {w w' : World} {t : Value} (h : aio w' t) (hs : w.heap.size ≤ w'.heap.size) : aio w t := fun a b c v he g hg => Nat.le_trans hs (h a b c v he g hg)
theorem abp {w : World} {e : TypeId} {x : Value} (h : e ≠ T.h) : aio w (.iface e x) := fun a b c v he => by
 injection he with h1 _
 exact absurd h1 h
theorem anr {w : World} {p : Pk} {ls : List Spn} {lm : List Mem} {lu : List Int} (hp : pw w p ls lm lu) {K : KV} (h : ∀ w' t, ThR w' p ls lm lu t → aio w t → Fr (fun _ => False) w w' → K t w') : gb P F.cv [pkA p] w K := by
 by_cases ha : p.gr = 4 ∨ p.gr = 6
 ·exact aty ha fun w' f => h w' _ (.ask ha) (abp (by decide)) f
 rw [M.s.fcall]
 apply M.s.calls
 unfold M.s
 rw [aql hp]
 have S1 : St w (w.alloc (.cells (pkC p).toArray T.a)) (gp w.heap.size (pkC p).toArray T.a :: []) := (St.jh w).add ((Fr.refl _ w).alloc _) (B := fun x => x = w.heap.size) ⟨by rw [ie, if_pos rfl], rfl⟩ fun x hx => by subst hx; rw [jl]; omega
 generalize w.alloc (.cells (pkC p).toArray T.a) = w1 at *
 generalize w.heap.size = pb at *
 have f1 := S1.fr
 have hp1 := hp.fr f1
 have fd : Fr (fun _ => False) w1 (dr w1 1) := (Fr.refl _ w1).dr 1
 have hpd := hp1.fr fd
 have Sd := S1.jg fd
 obtain ⟨_, _, e2, _⟩ := jb Sd
 obtain ⟨c0, c1, c2, c4, c6, c7, c8, c9, c10, _⟩ := jb S1
 obtain ⟨⟨a1, k1, h1⟩, ⟨a2, k2, h2⟩, a3, k3, h3⟩ := hp.one
 have n4 : ¬ p.gr = 4 := fun h => ha (.inl h)
 have n6 : ¬ p.gr = 6 := fun h => ha (.inr h)
 by_cases q1 : p.gr = 1 ∨ p.gr = 2
 ·have fin : ∀ d : Bool, d = decide (p.gr = 2) → ∀ w2 v2, SlS w2 v2 ls → Fr (fun _ => False) (dr w1 1) w2 → K (.iface T.q (.agg #[.int .u64 p.tr, .bool d, v2])) w2 := fun d hd w2 v2 s2 f2 => by
   subst hd
   exact h w2 _ (.nk v2 q1 s2) (abp (by decide)) (f1.trans (fd.trans f2))
  have c8' := c8
  rw [h1] at c8'
  rcases q1 with q | q
  ·simp [c0, q]
   unfold M.s.j1
   simp [c1, c0, q, c8']
   rw [← h1, M.i.fcall]
   refine abq hpd.s hpd.ls fun w2 v2 s2 _ f2 => ?_
   obtain ⟨a, c, hv, _⟩ := id s2
   have fin' := fin false (by simp [q]) w2 v2 s2 f2
   have S2 := Sd.jg f2
   obtain ⟨d0, d1, _⟩ := jb S2
   rw [hv] at fin' ⊢
   simp [d0, d1, q]
   exact fin'
  ·simp [c0, q]
   unfold M.s.j1
   simp [c1, c0, q, c8']
   rw [← h1, M.i.fcall]
   refine abq hpd.s hpd.ls fun w2 v2 s2 _ f2 => ?_
   obtain ⟨a, c, hv, _⟩ := id s2
   have fin' := fin true (by simp [q]) w2 v2 s2 f2
   have S2 := Sd.jg f2
   obtain ⟨d0, d1, _⟩ := jb S2
   rw [hv] at fin' ⊢
   simp [d0, d1, q]
   exact fin'
 have n1 : ¬ p.gr = 1 := fun h => q1 (.inl h)
 have n2 : ¬ p.gr = 2 := fun h => q1 (.inr h)
 simp [c0, n1, n2]
 unfold M.s.j1
 by_cases q3 : p.gr = 3
 ·have c9' := c9
  rw [h2] at c9'
  simp [q3, c9']
  rw [← h2]
  refine ani hp1.m hp1.lm fun w2 v2 s2 _ f2 => ?_
  obtain ⟨a, c, hv, _⟩ := id s2
  have fin := h w2 _ (.agf v2 q3 s2) (abp (by decide)) (f1.trans f2)
  rw [hv] at fin ⊢
  simp
  exact fin
 simp [q3, n4, n6]
 unfold M.s.j2
 by_cases q5 : p.gr = 5 ∨ p.gr = 7
 ·have fin := h w1 _ (.yz (ls := ls) (lm := lm) (lu := lu) q5) (abp (by decide)) f1
  unfold kj at c2 c4
  rcases q5 with q | q
  ·simp [q]
   unfold M.s.j3
   simp [c0, c1, c2, c4, c6, c7, q]
   simp [q] at fin
   exact fin
  ·simp [q]
   unfold M.s.j3
   simp [c0, c1, c2, c4, c6, c7, q]
   simp [q] at fin
   exact fin
 have n5 : ¬ p.gr = 5 := fun h => q5 (.inl h)
 have n7 : ¬ p.gr = 7 := fun h => q5 (.inr h)
 simp [n5, n7]
 unfold M.s.j3
 by_cases q8 : p.gr = 8
 ·simp [q8, c1, c6]
  exact h w1 _ (.ut q8) (abp (by decide)) f1
 by_cases q9 : p.gr = 9
 ·have c8' := c8
  rw [h1] at c8'
  unfold kj at c2 e2
  simp [q9, c1, c2, e2, c8']
  rw [← h1, M.i.fcall]
  refine abq hpd.s hpd.ls fun w2 v2 s2 n2 f2 => ?_
  obtain ⟨a, c, hv, _⟩ := id s2
  have hown : aio w (.iface T.h (.agg #[.int .u64 p.tr, .int .u64 p.b.n, .int .u64 p.b.iy, v2])) := fun a b c v he g hg => by
   injection he with _ h2
   injection h2 with h2
   have h3 := congrArg (fun x : Array Value => x[3]?) h2
   simp at h3
   rw [← h3] at hg
   have := (n2 g hg).1
   have := (f1.trans fd).size
   omega
  have fin := h w2 _ (.vz v2 q9 s2) hown (f1.trans (fd.trans f2))
  have S2 := Sd.jg f2
  obtain ⟨_, d1, d2, _⟩ := jb S2
  unfold kj at d2
  rw [hv] at fin ⊢
  simp [d1, d2]
  exact fin
 by_cases q10 : p.gr = 10
 ·have c10' := c10
  rw [h3] at c10'
  simp [q10, c1, c10']
  rw [← h3]
  refine agu hpd.u hpd.lu fun w2 v2 s2 _ f2 => ?_
  obtain ⟨a, c, hv, _⟩ := id s2
  have fin := h w2 _ (.ym v2 q10 s2) (abp (by decide)) (f1.trans (fd.trans f2))
  have S2 := Sd.jg f2
  obtain ⟨_, d1, _⟩ := jb S2
  rw [hv] at fin ⊢
  simp [d1]
  exact fin
 simp [q8, q9, q10]
 exact h w1 _ (.none (by omega)) (fun a b c v e => by cases e) f1
def afm (tr : Int) (l : List Spn) : Bool := decide (0 < tr) && qk tr l
theorem anx {w : World} {tr : Int} {d : Bool} {v : Value} {l : List Spn} (hs : SlS w v l) (hlen : l.length ≤ 1000000) {K : KV} (h : ∀ w', Fr (fun _ => False) w w' → K (.bool (afm tr l)) w') : gb P F.be [.iface T.q (.agg #[.int .u64 tr, .bool d, v])] w K := by
 rw [M.p.fcall]
 apply M.p.calls
 unfold M.p
 obtain ⟨a, c, hv, _⟩ := id hs
 rw [hv]
 simp
 have S0 : St w (w.alloc (.cells #[.int .u64 0, .int .u64 0] T.d)) (gp w.heap.size #[.int .u64 0, .int .u64 0] T.d :: []) := (St.jh w).add ((Fr.refl _ w).alloc _) (B := fun x => x = w.heap.size) ⟨by rw [ie, if_pos rfl], rfl⟩ fun x hx => by subst hx; rw [jl]; omega
 refine jm (vs := [.int .u64 0, .int .u64 0]) S0.blk rfl (by simp [jz]) fun w2 b2 f2 => ?_
 have S2 := S0.ly f2 b2
 have S3 : St w (w2.alloc (.cells #[.int .u64 0, .bool false, .slice none 0 0] T.q)) (gp w2.heap.size #[.int .u64 0, .bool false, .slice none 0 0] T.q :: _) := S2.add ((Fr.refl _ w2).alloc _) (B := fun x => x = w2.heap.size) ⟨by rw [ie, if_pos rfl], rfl⟩ fun x hx => by subst hx; rw [jl]; omega
 refine jm (vs := [.int .u64 tr, .bool d, .slice a l.length c]) S3.blk rfl (by simp [jz]) fun w4 b4 f4 => ?_
 have S4 := S3.ly f4 b4
 generalize w2.heap.size = ob at *
 have c0 : gi w4 ob 0 = some (.int .u64 tr) := by rw [gj b4]; rfl
 have c2 : gi w4 ob 2 = some (.slice a l.length c) := by rw [gj b4]; rfl
 unfold afm at h
 by_cases h1 : 0 < tr
 ·simp [c0, c2, h1]
  rw [← hv]
  refine anq (hs.fr S4.fr fun _ _ _ h => h) hlen fun w5 f5 => ?_
  have fin := h w5 (S4.fr.trans f5)
  simpa [h1] using fin
 ·have fin := h w4 S4.fr
  simp [c0, h1]
  simpa [h1] using fin
def ahq (tr : Int) (b : Bal) (l : List Spn) : Bool := decide (0 < tr) && decide (0 < b.n) && qk tr l
theorem alr {w : World} {tr : Int} {b : Bal} {v : Value} {l : List Spn} (hs : SlS w v l) (hlen : l.length ≤ 1000000) {K : KV} (h : ∀ w', Fr (fun _ => False) w w' → K (.bool (ahq tr b l)) w') : gb P F.be [.iface T.h (.agg #[.int .u64 tr, .int .u64 b.n, .int .u64 b.iy, v])] w K := by
 rw [M.p.fcall]
 apply M.p.calls
 unfold M.p
 obtain ⟨a, c, hv, _⟩ := id hs
 rw [hv]
 simp [acm, aau, afh, acq, adt]
 have S0 : St w (w.alloc (.cells #[.int .u64 0, .int .u64 0] T.d)) (gp w.heap.size #[.int .u64 0, .int .u64 0] T.d :: []) := (St.jh w).add ((Fr.refl _ w).alloc _) (B := fun x => x = w.heap.size) ⟨by rw [ie, if_pos rfl], rfl⟩ fun x hx => by subst hx; rw [jl]; omega
 refine jm (vs := [.int .u64 0, .int .u64 0]) S0.blk rfl (by simp [jz]) fun w2 b2 f2 => ?_
 have S2 := S0.ly f2 b2
 have S3 : St w (w2.alloc (.cells #[.int .u64 0, .int .u64 0, .int .u64 0, .slice none 0 0] T.h)) (gp w2.heap.size #[.int .u64 0, .int .u64 0, .int .u64 0, .slice none 0 0] T.h :: _) := S2.add ((Fr.refl _ w2).alloc _) (B := fun x => x = w2.heap.size) ⟨by rw [ie, if_pos rfl], rfl⟩ fun x hx => by subst hx; rw [jl]; omega
 refine jm (vs := [.int .u64 tr, .int .u64 b.n, .int .u64 b.iy, .slice a l.length c]) S3.blk rfl (by simp [jz]) fun w4 b4 f4 => ?_
 have S4 := S3.ly f4 b4
 generalize w2.heap.size = ob at *
 have c0 : gi w4 ob 0 = some (.int .u64 tr) := by rw [gj b4]; rfl
 have c1 : gi w4 ob 1 = some (.int .u64 b.n) := by rw [gj b4]; rfl
 have c3 : gi w4 ob 3 = some (.slice a l.length c) := by rw [gj b4]; rfl
 unfold ahq at h
 by_cases h1 : 0 < tr
 ·by_cases h2 : 0 < b.n
  ·simp [c0, c1, c3, h1, h2]
   rw [← hv]
   refine anq (hs.fr S4.fr fun _ _ _ h => h) hlen fun w5 f5 => ?_
   have fin := h w5 (S4.fr.trans f5)
   simpa [h1, h2] using fin
  ·have fin := h w4 S4.fr
   simp [c0, c1, h1, h2]
   simpa [h1, h2] using fin
 ·have fin := h w4 S4.fr
  simp [c0, h1]
  simpa [h1] using fin
def aoj (tr v : Int) : Bool := decide (0 < tr) && qj v
theorem asr {w : World} {tr v : Int} {K : KV} (h : ∀ w', Fr (fun _ => False) w w' → K (.bool (aoj tr v)) w') : gb P F.be [.iface T.y (.agg #[.int .u64 tr, .int .i64 v])] w K := by
 rw [M.p.fcall]
 apply M.p.calls
 unfold M.p
 simp [afg, acp, aif, afc]
 have S0 : St w (w.alloc (.cells #[.int .u64 0, .int .u64 0] T.d)) (gp w.heap.size #[.int .u64 0, .int .u64 0] T.d :: []) := (St.jh w).add ((Fr.refl _ w).alloc _) (B := fun x => x = w.heap.size) ⟨by rw [ie, if_pos rfl], rfl⟩ fun x hx => by subst hx; rw [jl]; omega
 refine jm (vs := [.int .u64 0, .int .u64 0]) S0.blk rfl (by simp [jz]) fun w2 b2 f2 => ?_
 have S2 := S0.ly f2 b2
 have S3 : St w (w2.alloc (.cells #[.int .u64 0, .int .i64 0] T.y)) (gp w2.heap.size #[.int .u64 0, .int .i64 0] T.y :: _) := S2.add ((Fr.refl _ w2).alloc _) (B := fun x => x = w2.heap.size) ⟨by rw [ie, if_pos rfl], rfl⟩ fun x hx => by subst hx; rw [jl]; omega
 refine jm (vs := [.int .u64 tr, .int .i64 v]) S3.blk rfl (by simp [jz]) fun w4 b4 f4 => ?_
 have S4 := S3.ly f4 b4
 generalize w2.heap.size = ob at *
 have c0 : gi w4 ob 0 = some (.int .u64 tr) := by rw [gj b4]; rfl
 have c1 : gi w4 ob 1 = some (.int .i64 v) := by rw [gj b4]; rfl
 have fin := h w4 S4.fr
 unfold aoj at fin
 by_cases h1 : 0 < tr
 ·simp [c0, c1, h1]
  refine air ?_
  simpa [h1] using fin
 ·simp [c0, h1]
  simpa [h1] using fin
def qv : Int → List Int → Bool
 | _, [] => true
 | ky, m :: l => decide (ky < m) && qv m l
def RuI (W : World) (l : List Int) : KL := fun x w1 => ∃ (u0 u1 : Value) (ky : Int) (i : Nat), x = [u0, u1, .int .u64 ky, .int .i64 (i : Nat)] ∧ i ≤ l.length ∧ qv 0 l = qv ky (l.drop i) ∧ Fr (fun _ => False) W w1
theorem avu {w : World} (m : Int) {K : KV} (h : K (.int .u64 m) w) : mh P (.func (.func F.db) #[] #[]) [.int .u64 m] w K := by
 rw [M.df.rcall]
 apply M.df.calls
 unfold M.df
 exact h
theorem bfv {w : World} {v : Value} {l : List Int} (hs : SlU w v l) (hlen : l.length ≤ 1000000) {K : KV} (h : ∀ w', Fr (fun _ => False) w w' → K (.bool (qv 0 l && (decide (0 < l.length) && decide (l.length ≤ 16)))) w') :
  gb P F.cu [v, .int .i64 16, .func (.func F.db) #[] #[]] w K := by
 rw [M.ar.fcall]
 apply M.ar.calls
 unfold M.ar
 simp only [gg]
 rw [hs.im (by kernel_rfl)]
 refine ⟨RuI w l, fun x _ => l.length - ms x 3, ⟨_, _, 0, 0, rfl, Nat.zero_le _, rfl, Fr.refl _ _⟩, ?_⟩
 rintro x w1 ⟨u0, u1, ky, i, rfl, hi, hr, f1⟩
 have q2 : gv [u0, u1, .int .u64 ky, .int .i64 (i : Nat)] 2 = .int .u64 ky := rfl
 have q3 : gv [u0, u1, .int .u64 ky, .int .i64 (i : Nat)] 3 = .int .i64 (i : Nat) := rfl
 have hs1 := hs.fr f1 fun _ _ _ h => h
 simp only [q3]
 by_cases hil : i < l.length
 ·have hil' : (i : Int) < l.length := by omega
  simp [hil']
  unfold M.ar.j2
  obtain ⟨b, o, cap, hv, hb, _, hc⟩ := hs1.at hil
  have hld := hc 0 _ rfl
  have hwi : IntKind.i64.wrap ((i : Int) + 1) = ((i + 1 : Nat) : Int) := by rw [gm (by omega) (by omega)]; rfl
  have hdrop : l.drop i = l[i] :: l.drop (i + 1) := List.drop_eq_getElem_cons hil
  rw [hdrop] at hr
  generalize l[i] = m at *
  subst hv
  have hld' : gi w1 b (o + i) = some (.int .u64 m) := by simpa using hld
  simp [q2, q3, hil, hld']
  refine avu m ?_
  simp
  by_cases hle : m ≤ ky
  ·have hlt : ¬ ky < m := by omega
   simp [hle]
   have hf : qv 0 l = false := by rw [hr]; unfold qv; simp [hlt]
   rw [hf] at h
   exact h w1 f1
  ·have hlt : ky < m := by omega
   simp [hle]
   refine avu m ?_
   simp [hwi]
   refine ⟨⟨_, _, m, i + 1, rfl, by omega, ?_, f1⟩, by simp [ms, gv]; omega⟩
   rw [hr]
   show (decide (ky < m) && qv m (l.drop (i + 1))) = _
   simp [hlt]
 ·have hil' : ¬ (i : Int) < l.length := by omega
  have hr1 : qv 0 l = true := by rw [hr, List.drop_of_length_le (by omega)]; rfl
  simp [hil']
  unfold M.ar.j0
  rw [hs1.im (by kernel_rfl)]
  rw [hr1] at h
  by_cases h0 : 0 < l.length
  ·have h0' : (0 : Int) < l.length := by omega
   have hx : decide ((l.length : Int) ≤ 16) = decide (l.length ≤ 16) := by
    by_cases h16 : l.length ≤ 16
    ·rw [decide_eq_true h16, decide_eq_true (by omega)]
    ·rw [decide_eq_false h16, decide_eq_false (by omega)]
   simp [h0]
   rw [hs1.im (by kernel_rfl)]
   simp
   rw [hx]
   have := h w1 f1
   simpa [h0] using this
  ·simp [h0]
   have := h w1 f1
   simpa [h0] using this
def ajh (tr : Int) (l : List Int) : Bool := decide (0 < tr) && (qv 0 l && (decide (0 < l.length) && decide (l.length ≤ 16)))
theorem anv {w : World} {tr : Int} {v : Value} {l : List Int} (hs : SlU w v l) (hlen : l.length ≤ 1000000) {K : KV} (h : ∀ w', Fr (fun _ => False) w w' → K (.bool (ajh tr l)) w') : gb P F.be [.iface T.m (.agg #[.int .u64 tr, v])] w K := by
 rw [M.p.fcall]
 apply M.p.calls
 unfold M.p
 obtain ⟨a, c, hv, _⟩ := id hs
 rw [hv]
 simp [zj, yc, ace, zi, aas, vr]
 have S0 : St w (w.alloc (.cells #[.int .u64 0, .int .u64 0] T.d)) (gp w.heap.size #[.int .u64 0, .int .u64 0] T.d :: []) := (St.jh w).add ((Fr.refl _ w).alloc _) (B := fun x => x = w.heap.size) ⟨by rw [ie, if_pos rfl], rfl⟩ fun x hx => by subst hx; rw [jl]; omega
 refine jm (vs := [.int .u64 0, .int .u64 0]) S0.blk rfl (by simp [jz]) fun w2 b2 f2 => ?_
 have S2 := S0.ly f2 b2
 have S3 : St w (w2.alloc (.cells #[.int .u64 0, .slice none 0 0] T.m)) (gp w2.heap.size #[.int .u64 0, .slice none 0 0] T.m :: _) := S2.add ((Fr.refl _ w2).alloc _) (B := fun x => x = w2.heap.size) ⟨by rw [ie, if_pos rfl], rfl⟩ fun x hx => by subst hx; rw [jl]; omega
 refine jm (vs := [.int .u64 tr, .slice a l.length c]) S3.blk rfl (by simp [jz]) fun w4 b4 f4 => ?_
 have S4 := S3.ly f4 b4
 generalize w2.heap.size = ob at *
 have c0 : gi w4 ob 0 = some (.int .u64 tr) := by rw [gj b4]; rfl
 have c1 : gi w4 ob 1 = some (.slice a l.length c) := by rw [gj b4]; rfl
 unfold ajh at h
 by_cases h1 : 0 < tr
 ·simp [c0, c1, h1]
  rw [← hv]
  refine bfv (hs.fr S4.fr fun _ _ _ h => h) hlen fun w5 f5 => ?_
  have fin := h w5 (S4.fr.trans f5)
  simpa [h1] using fin
 ·have fin := h w4 S4.fr
  simp [c0, h1]
  simpa [h1] using fin
def ago (tr : Int) (b : Bal) (ok : Bool) (jd : Bal) (v : Int) (iu : Bool) : Bool :=
 if tr = 0 ∨ b.n = 0 then false else if ok = false then decide (v = 0) && !(decide (jd = ic)) else if iu = true then decide (v = 0) && decide (jd = ic) else (qj v && !(decide (jd = ic))) || (decide (v = 0) && decide (jd = ic))
theorem anz {w : World} {tr v : Int} {b jd : Bal} {ok iu : Bool} {K : KV} (h : ∀ w', Fr (fun _ => False) w w' → K (.bool (ago tr b ok jd v iu)) w') : gb P F.be [.iface T.l (.agg #[.int .u64 tr, .int .u64 b.n, .int .u64 b.iy, .bool ok, .int .u64 jd.n, .int .u64 jd.iy, .int .i64 v, .bool iu])] w K := by
 rw [M.p.fcall]
 apply M.p.calls
 unfold M.p
 simp [adh, abz, afu]
 have S0 : St w (w.alloc (.cells #[.int .u64 0, .int .u64 0] T.d)) (gp w.heap.size #[.int .u64 0, .int .u64 0] T.d :: []) := (St.jh w).add ((Fr.refl _ w).alloc _) (B := fun x => x = w.heap.size) ⟨by rw [ie, if_pos rfl], rfl⟩ fun x hx => by subst hx; rw [jl]; omega
 refine jm (vs := [.int .u64 0, .int .u64 0]) S0.blk rfl (by simp [jz]) fun w2 b2 f2 => ?_
 have S2 := S0.ly f2 b2
 have S3 : St w (w2.alloc (.cells #[.int .u64 0, .int .u64 0, .int .u64 0, .bool false, .int .u64 0, .int .u64 0, .int .i64 0, .bool false] T.l)) (gp w2.heap.size #[.int .u64 0, .int .u64 0, .int .u64 0, .bool false, .int .u64 0, .int .u64 0, .int .i64 0, .bool false] T.l :: _) := S2.add ((Fr.refl _ w2).alloc _) (B := fun x => x = w2.heap.size) ⟨by rw [ie, if_pos rfl], rfl⟩ fun x hx => by subst hx; rw [jl]; omega
 refine jm (vs := [.int .u64 tr, .int .u64 b.n, .int .u64 b.iy, .bool ok, .int .u64 jd.n, .int .u64 jd.iy, .int .i64 v, .bool iu]) S3.blk rfl (by simp [jz]) fun w4 b4 f4 => ?_
 have S4 := S3.ly f4 b4
 have fin := h w4 S4.fr
 have z0 : ∀ K, ldN P 2 w.heap.size 0 w4 K = K (kj ic) w4 := fun K => by
  have hh := S4.swap.blk
  exact acs (by rw [gj hh]; rfl) (by rw [gj hh]; rfl) K
 generalize w2.heap.size = ob at *
 generalize w.heap.size = zb at *
 have c0 : gi w4 ob 0 = some (.int .u64 tr) := by rw [gj b4]; rfl
 have c1 : gi w4 ob 1 = some (.int .u64 b.n) := by rw [gj b4]; rfl
 have c3 : gi w4 ob 3 = some (.bool ok) := by rw [gj b4]; rfl
 have c4 : ∀ K, ldN P 2 ob 4 w4 K = K (kj jd) w4 := fun K => acs (by rw [gj b4]; rfl) (by rw [gj b4]; rfl) K
 have c6 : gi w4 ob 6 = some (.int .i64 v) := by rw [gj b4]; rfl
 have c7 : gi w4 ob 7 = some (.bool iu) := by rw [gj b4]; rfl
 unfold ago at fin
 by_cases h1 : tr = 0
 ·simp [c0, h1]
  simpa [h1] using fin
 by_cases h2 : b.n = 0
 ·simp [c0, c1, h1, h2]
  simpa [h2] using fin
 cases ok with
 | false =>
  by_cases h3 : v = 0
  ·simp [c0, c1, c3, c6, c4, z0, h1, h2, h3, apb]
   simpa [h1, h2, h3] using fin
  ·simp [c0, c1, c3, c6, h1, h2, h3]
   simpa [h1, h2, h3] using fin
 | true =>
 cases iu with
 | true =>
  by_cases h3 : v = 0
  ·simp [c0, c1, c3, c6, c7, c4, z0, h1, h2, h3, vd]
   simpa [h1, h2, h3] using fin
  ·simp [c0, c1, c3, c6, c7, h1, h2, h3]
   simpa [h1, h2, h3] using fin
 | false =>
 simp [c0, c1, c3, c7, h1, h2]
 unfold M.p.j1
 simp [c6]
 refine air ?_
 by_cases h4 : qj v = true
 ·have hv0 : ¬ v = 0 := fun hh => by subst hh; exact absurd h4 (by decide)
  by_cases h5 : jd = ic
  ·simp [h4, c4, z0, apb, h5, c6, hv0]
   simpa [h1, h2, h4, h5, hv0] using fin
  ·simp [h4, c4, z0, apb, h5]
   simpa [h1, h2, h4, h5] using fin
 ·by_cases h3 : v = 0
  ·subst h3
   have ht : qj 0 = false := by decide
   simp [ht, c6, c4, z0, vd]
   simpa [h1, h2, ht] using fin
  ·simp [h4, c6, h3]
   simpa [h1, h2, h4, h3] using fin
abbrev ia : Value := .slice none 0 0
theorem wu {w W : World} {pb : Nat} {R : List Asn} {q : Pk} (S : St w W (gp pb (pkC q).toArray T.a :: R)) (K : KV) : ldN P 11 pb 0 W K = K (pkA q) W := (jb S).2.2.2.2.2.2.2.2.2 K
theorem zg {w W : World} {pb : Nat} {R : List Asn} {q : Pk} (S : St w W (gp pb (pkC q).toArray T.a :: R)) (K : KV) : qg P T.a (.pointer (some ⟨pb, 0, none⟩)) W K = K (pkA q) W := by rw [ahg]; exact wu S K
theorem sr {k tr v : Int} {b s : Bal} {ok : Bool} {a1 a2 a3 : Option Addr} {l1 l2 l3 c1 c2 c3 : Nat} : ∀ u ∈ pkC ⟨k, tr, b, s, v, ok, .slice a1 l1 c1, .slice a2 l2 c2, .slice a3 l3 c3⟩, jz u = true := fun u hu => by
 simp only [pkC, List.mem_cons, List.not_mem_nil, or_false] at hu
 rcases hu with rfl | rfl | rfl | rfl | rfl | rfl | rfl | rfl | rfl | rfl | rfl <;> rfl
theorem adn (w : World) : St w (w.alloc (.cells #[.int .i64 0, .int .u64 0, .int .u64 0, .int .u64 0, .int .u64 0, .int .u64 0, .int .i64 0, .bool false, .slice none 0 0, .slice none 0 0, .slice none 0 0] T.a)) (gp w.heap.size #[.int .i64 0, .int .u64 0, .int .u64 0, .int .u64 0, .int .u64 0, .int .u64 0, .int .i64 0, .bool false, .slice none 0 0, .slice none 0 0, .slice none 0 0] T.a :: []) := (St.jh w).add ((Fr.refl _ w).alloc _) (B := fun x => x = w.heap.size) ⟨by rw [ie, if_pos rfl], rfl⟩ fun x hx => by subst hx; rw [jl]; omega
theorem abl {w0 w : World} {R : List Asn} (S : St w0 w R) (cs : Array Value) (t : TypeId) : St w0 (w.alloc (.cells cs t)) (gp w.heap.size cs t :: R) := S.add ((Fr.refl _ w).alloc _) (B := fun x => x = w.heap.size) ⟨by rw [ie, if_pos rfl], rfl⟩ fun x hx => by subst hx; rw [jl]; omega
theorem aof {w : World} {tr v : Int} {K : KV} (h : ∀ w', Fr (fun _ => False) w w' → K (pkA ⟨8, tr, ic, ic, v, false, ia, ia, ia⟩) w') : gb P F.au [.iface T.y (.agg #[.int .u64 tr, .int .i64 v])] w K := by
 rw [M.l.fcall]
 apply M.l.calls
 unfold M.l
 simp [afg, acp, aif, afc]
 have S0 := adn w
 have z0 : (w.alloc (.cells #[.int .i64 0, .int .u64 0, .int .u64 0, .int .u64 0, .int .u64 0, .int .u64 0, .int .i64 0, .bool false, .slice none 0 0, .slice none 0 0, .slice none 0 0] T.a)).heap.size = w.heap.size + 1 := jl _ _
 generalize w.alloc (.cells #[.int .i64 0, .int .u64 0, .int .u64 0, .int .u64 0, .int .u64 0, .int .u64 0, .int .i64 0, .bool false, .slice none 0 0, .slice none 0 0, .slice none 0 0] T.a) = w1 at *
 have S1 := abl S0 #[.int .u64 0, .int .i64 0] T.y
 rw [z0] at S1
 generalize w.heap.size = pb at *
 generalize pb + 1 = ob at *
 refine jm (vs := [.int .u64 tr, .int .i64 v]) S1.blk rfl (by simp [jz]) fun w2 b2 f2 => ?_
 have S2 := S1.ly f2 b2
 have c0 : gi w2 ob 0 = some (.int .u64 tr) := by rw [gj b2]; rfl
 have c1 : gi w2 ob 1 = some (.int .i64 v) := by rw [gj b2]; rfl
 simp [c0, c1]
 refine jm (vs := pkC ⟨8, tr, ic, ic, v, false, ia, ia, ia⟩) S2.swap.blk rfl sr fun w3 b3 f3 => ?_
 have S3 := S2.swap.ly f3 b3
 rw [wu S3]
 have e : pkA ⟨8, tr, ic, ic, v, false, ia, ia, ia⟩ = .agg #[.int .i64 8, .int .u64 tr, .int .u64 0, .int .u64 0, .int .u64 0, .int .u64 0, .int .i64 v, .bool false, .slice none 0 0, .slice none 0 0, .slice none 0 0] := rfl
 rw [e]
 simp
 refine jm (vs := pkC ⟨8, tr, ic, ic, v, false, ia, ia, ia⟩) S3.blk rfl sr fun w5 b5 f5 => ?_
 have S5 := S3.ly f5 b5
 rw [zg S5]
 exact ⟨rfl, h w5 S5.fr⟩
theorem alp {w : World} {tr v : Int} {b jd : Bal} {ok iu : Bool} {K : KV} (h : ∀ w', Fr (fun _ => False) w w' → K (pkA ⟨if iu = true then 7 else 5, tr, b, jd, v, ok, ia, ia, ia⟩) w') : gb P F.au [.iface T.l (.agg #[.int .u64 tr, .int .u64 b.n, .int .u64 b.iy, .bool ok, .int .u64 jd.n, .int .u64 jd.iy, .int .i64 v, .bool iu])] w K := by
 rw [M.l.fcall]
 apply M.l.calls
 unfold M.l
 simp [adh, abz, afu]
 have S0 := adn w
 have z0 : (w.alloc (.cells #[.int .i64 0, .int .u64 0, .int .u64 0, .int .u64 0, .int .u64 0, .int .u64 0, .int .i64 0, .bool false, .slice none 0 0, .slice none 0 0, .slice none 0 0] T.a)).heap.size = w.heap.size + 1 := jl _ _
 generalize w.alloc (.cells #[.int .i64 0, .int .u64 0, .int .u64 0, .int .u64 0, .int .u64 0, .int .u64 0, .int .i64 0, .bool false, .slice none 0 0, .slice none 0 0, .slice none 0 0] T.a) = w1 at *
 have S1 := abl S0 #[.int .u64 0, .int .u64 0, .int .u64 0, .bool false, .int .u64 0, .int .u64 0, .int .i64 0, .bool false] T.l
 rw [z0] at S1
 generalize w.heap.size = pb at *
 generalize pb + 1 = ob at *
 refine jm (vs := [.int .u64 tr, .int .u64 b.n, .int .u64 b.iy, .bool ok, .int .u64 jd.n, .int .u64 jd.iy, .int .i64 v, .bool iu]) S1.blk rfl (by simp [jz]) fun w2 b2 f2 => ?_
 have S2 := S1.ly f2 b2
 have reC : ∀ {W : World} {R : List Asn}, St w W (gp ob [.int .u64 tr, .int .u64 b.n, .int .u64 b.iy, .bool ok, .int .u64 jd.n, .int .u64 jd.iy, .int .i64 v, .bool iu].toArray T.l :: R) → gi W ob 0 = some (.int .u64 tr) ∧ (∀ K, ldN P 2 ob 1 W K = K (.agg #[.int .u64 b.n, .int .u64 b.iy]) W) ∧ gi W ob 3 = some (.bool ok) ∧ (∀ K, ldN P 2 ob 4 W K = K (.agg #[.int .u64 jd.n, .int .u64 jd.iy]) W) ∧ gi W ob 6 = some (.int .i64 v) ∧ gi W ob 7 = some (.bool iu) := fun {W R} S' => by
  have hh := S'.blk
  exact ⟨by rw [gj hh]; rfl, fun K => acs (by rw [gj hh]; rfl) (by rw [gj hh]; rfl) K, by rw [gj hh]; rfl, fun K => acs (by rw [gj hh]; rfl) (by rw [gj hh]; rfl) K, by rw [gj hh]; rfl, by rw [gj hh]; rfl⟩
 obtain ⟨c0, c1, c3, c4, c6, _⟩ := reC S2
 simp [c0, c1, c3, c4, c6]
 refine jm (vs := pkC ⟨5, tr, b, jd, v, ok, ia, ia, ia⟩) S2.swap.blk rfl sr fun w3 b3 f3 => ?_
 have S3 := S2.swap.ly f3 b3
 obtain ⟨_, _, _, _, _, d7⟩ := reC S3.swap
 cases iu with
 | false =>
  simp [d7]
  rw [wu S3]
  have e : pkA ⟨5, tr, b, jd, v, ok, ia, ia, ia⟩ = .agg #[.int .i64 5, .int .u64 tr, .int .u64 b.n, .int .u64 b.iy, .int .u64 jd.n, .int .u64 jd.iy, .int .i64 v, .bool ok, .slice none 0 0, .slice none 0 0, .slice none 0 0] := rfl
  rw [e]
  simp
  refine jm (vs := pkC ⟨5, tr, b, jd, v, ok, ia, ia, ia⟩) S3.blk rfl sr fun w5 b5 f5 => ?_
  have S5 := S3.ly f5 b5
  rw [zg S5]
  exact ⟨rfl, h w5 S5.fr⟩
 | true =>
  have e0 := zt S3.blk 0 _ rfl
  have ez := nf S3.blk
  simp [d7, e0, ez]
  have S4 : St w (w3.setCell ⟨pb, 0, none⟩ (.int .i64 7)) (gp pb (pkC ⟨7, tr, b, jd, v, ok, ia, ia, ia⟩).toArray T.a :: _) := S3.ly ((Fr.refl (fun x => x = pb) w3).setCell (.inl rfl) _ _) ((mq S3.blk).trans rfl)
  rw [wu S4]
  have e : pkA ⟨7, tr, b, jd, v, ok, ia, ia, ia⟩ = .agg #[.int .i64 7, .int .u64 tr, .int .u64 b.n, .int .u64 b.iy, .int .u64 jd.n, .int .u64 jd.iy, .int .i64 v, .bool ok, .slice none 0 0, .slice none 0 0, .slice none 0 0] := rfl
  rw [e]
  simp
  refine jm (vs := pkC ⟨7, tr, b, jd, v, ok, ia, ia, ia⟩) S4.blk rfl sr fun w5 b5 f5 => ?_
  have S5 := S4.ly f5 b5
  rw [zg S5]
  exact ⟨rfl, h w5 S5.fr⟩
theorem ama {w : World} {tr : Int} {d : Bool} {v : Value} {l : List Spn} (hs : SlS w v l) (hlen : l.length ≤ 1000000) {K : KV} (h : ∀ w' v', SlS w' v' l → Fr (fun _ => False) w w' → K (pkA ⟨if d = true then 2 else 1, tr, ic, ic, 0, false, v', ia, ia⟩) w') : gb P F.au [.iface T.q (.agg #[.int .u64 tr, .bool d, v])] w K := by
 rw [M.l.fcall]
 apply M.l.calls
 unfold M.l
 obtain ⟨a, c, hv, _⟩ := id hs
 rw [hv]
 simp
 have S0 := adn w
 have z0 : (w.alloc (.cells #[.int .i64 0, .int .u64 0, .int .u64 0, .int .u64 0, .int .u64 0, .int .u64 0, .int .i64 0, .bool false, .slice none 0 0, .slice none 0 0, .slice none 0 0] T.a)).heap.size = w.heap.size + 1 := jl _ _
 generalize w.alloc (.cells #[.int .i64 0, .int .u64 0, .int .u64 0, .int .u64 0, .int .u64 0, .int .u64 0, .int .i64 0, .bool false, .slice none 0 0, .slice none 0 0, .slice none 0 0] T.a) = w1 at *
 have S1 := abl S0 #[.int .u64 0, .bool false, .slice none 0 0] T.q
 rw [z0] at S1
 generalize w.heap.size = pb at *
 generalize pb + 1 = ob at *
 refine jm (vs := [Value.int .u64 tr, .bool d, .slice a l.length c]) S1.blk rfl (by simp [jz]) fun w2 b2 f2 => ?_
 have S2 := S1.ly f2 b2
 have thC : ∀ {W : World} {R : List Asn}, St w W (gp ob [Value.int .u64 tr, .bool d, .slice a l.length c].toArray T.q :: R) → gi W ob 0 = some (.int .u64 tr) ∧ gi W ob 1 = some (.bool d) ∧ gi W ob 2 = some (.slice a l.length c) := fun {W R} S' => by
  have hh := S'.blk
  exact ⟨by rw [gj hh]; rfl, by rw [gj hh]; rfl, by rw [gj hh]; rfl⟩
 have hpl : pb < w2.heap.size := (Array.getElem?_eq_some_iff.1 S2.swap.blk).1
 have fd : Fr (fun _ => False) w2 (dr w2 1) := (Fr.refl _ w2).dr 1
 have Sd := S2.jg fd
 obtain ⟨c0, c1, c2⟩ := thC S2
 obtain ⟨e0, e1, e2⟩ := thC Sd
 simp [c0, c2, e0, e2]
 rw [← hv]
 rw [M.i.fcall]
 refine abq ((hs.fr Sd.fr fun _ _ _ h => h)) hlen fun w3 v3 s3 n3 f3 => ?_
 obtain ⟨a3, c3, hv3, _⟩ := id s3
 have S3 := Sd.jg f3
 obtain ⟨g0, g1, g2⟩ := thC S3
 have hnn : ∀ b, v3.ownBlock = some b → b ≠ pb := fun b hb => by
  have := n3 b hb
  have := fd.size
  omega
 rw [hv3] at s3 hnn ⊢
 simp [g0, g2]
 refine jm (vs := pkC ⟨1, tr, ic, ic, 0, false, .slice a3 l.length c3, ia, ia⟩) S3.swap.blk rfl sr fun w4 b4 f4 => ?_
 have S4 := S3.swap.ly f4 b4
 have s4 : SlS w4 (.slice a3 l.length c3) l := s3.fr f4 fun b hb _ => hnn b hb
 obtain ⟨i0, i1, i2⟩ := thC S4.swap
 cases d with
 | false =>
  simp [i0, i2, i1]
  rw [wu S4]
  have e : pkA ⟨1, tr, ic, ic, 0, false, .slice a3 l.length c3, ia, ia⟩ = .agg #[.int .i64 1, .int .u64 tr, .int .u64 0, .int .u64 0, .int .u64 0, .int .u64 0, .int .i64 0, .bool false, .slice a3 l.length c3, .slice none 0 0, .slice none 0 0] := rfl
  rw [e]
  simp
  refine jm (vs := pkC ⟨1, tr, ic, ic, 0, false, .slice a3 l.length c3, ia, ia⟩) S4.blk rfl sr fun w5 b5 f5 => ?_
  have S5 := S4.ly f5 b5
  rw [zg S5]
  exact ⟨rfl, h w5 _ (s4.fr f5 fun b hb _ => hnn b hb) S5.fr⟩
 | true =>
  have e0 := zt S4.blk 0 _ rfl
  have ez := nf S4.blk
  simp [i0, i2, i1, e0, ez]
  have f6 : Fr (fun x => x = pb) w4 (w4.setCell ⟨pb, 0, none⟩ (.int .i64 2)) := (Fr.refl (fun x => x = pb) w4).setCell (.inl rfl) _ _
  have S6 : St w (w4.setCell ⟨pb, 0, none⟩ (.int .i64 2)) (gp pb (pkC ⟨2, tr, ic, ic, 0, false, .slice a3 l.length c3, ia, ia⟩).toArray T.a :: _) := S4.ly f6 ((mq S4.blk).trans rfl)
  have s6 : SlS (w4.setCell ⟨pb, 0, none⟩ (.int .i64 2)) (.slice a3 l.length c3) l := s4.fr f6 fun b hb _ => hnn b hb
  rw [wu S6]
  have e : pkA ⟨2, tr, ic, ic, 0, false, .slice a3 l.length c3, ia, ia⟩ = .agg #[.int .i64 2, .int .u64 tr, .int .u64 0, .int .u64 0, .int .u64 0, .int .u64 0, .int .i64 0, .bool false, .slice a3 l.length c3, .slice none 0 0, .slice none 0 0] := rfl
  rw [e]
  simp
  refine jm (vs := pkC ⟨2, tr, ic, ic, 0, false, .slice a3 l.length c3, ia, ia⟩) S6.blk rfl sr fun w5 b5 f5 => ?_
  have S5 := S6.ly f5 b5
  rw [zg S5]
  exact ⟨rfl, h w5 _ (s6.fr f5 fun b hb _ => hnn b hb) S5.fr⟩
theorem aju {w : World} {tr : Int} {b : Bal} {v : Value} {l : List Spn} (hs : SlS w v l) (hlen : l.length ≤ 1000000) {K : KV} (h : ∀ w' v', SlS w' v' l → Fr (fun _ => False) w w' → K (pkA ⟨9, tr, b, ic, 0, false, v', ia, ia⟩) w') : gb P F.au [.iface T.h (.agg #[.int .u64 tr, .int .u64 b.n, .int .u64 b.iy, v])] w K := by
 rw [M.l.fcall]
 apply M.l.calls
 unfold M.l
 obtain ⟨a, c, hv, _⟩ := id hs
 rw [hv]
 simp [acm, aau, afh, acq, adt]
 have S0 := adn w
 have z0 : (w.alloc (.cells #[.int .i64 0, .int .u64 0, .int .u64 0, .int .u64 0, .int .u64 0, .int .u64 0, .int .i64 0, .bool false, .slice none 0 0, .slice none 0 0, .slice none 0 0] T.a)).heap.size = w.heap.size + 1 := jl _ _
 generalize w.alloc (.cells #[.int .i64 0, .int .u64 0, .int .u64 0, .int .u64 0, .int .u64 0, .int .u64 0, .int .i64 0, .bool false, .slice none 0 0, .slice none 0 0, .slice none 0 0] T.a) = w1 at *
 have S1 := abl S0 #[.int .u64 0, .int .u64 0, .int .u64 0, .slice none 0 0] T.h
 rw [z0] at S1
 generalize w.heap.size = pb at *
 generalize pb + 1 = ob at *
 refine jm (vs := [Value.int .u64 tr, .int .u64 b.n, .int .u64 b.iy, .slice a l.length c]) S1.blk rfl (by simp [jz]) fun w2 b2 f2 => ?_
 have S2 := S1.ly f2 b2
 have thC : ∀ {W : World} {R : List Asn}, St w W (gp ob [Value.int .u64 tr, .int .u64 b.n, .int .u64 b.iy, .slice a l.length c].toArray T.h :: R) → gi W ob 0 = some (.int .u64 tr) ∧ (∀ K, ldN P 2 ob 1 W K = K (.agg #[.int .u64 b.n, .int .u64 b.iy]) W) ∧ gi W ob 3 = some (.slice a l.length c) := fun {W R} S' => by
  have hh := S'.blk
  exact ⟨by rw [gj hh]; rfl, fun K => acs (by rw [gj hh]; rfl) (by rw [gj hh]; rfl) K, by rw [gj hh]; rfl⟩
 have hpl : pb < w2.heap.size := (Array.getElem?_eq_some_iff.1 S2.swap.blk).1
 have fd : Fr (fun _ => False) w2 (dr w2 1) := (Fr.refl _ w2).dr 1
 have Sd := S2.jg fd
 obtain ⟨c0, c1, c2⟩ := thC S2
 obtain ⟨e0, e1, e2⟩ := thC Sd
 simp [c0, c1, c2, e0, e1, e2]
 rw [← hv]
 rw [M.i.fcall]
 refine abq ((hs.fr Sd.fr fun _ _ _ h => h)) hlen fun w3 v3 s3 n3 f3 => ?_
 obtain ⟨a3, c3, hv3, _⟩ := id s3
 have S3 := Sd.jg f3
 obtain ⟨g0, g1, g2⟩ := thC S3
 have hnn : ∀ b, v3.ownBlock = some b → b ≠ pb := fun b hb => by
  have := n3 b hb
  have := fd.size
  omega
 rw [hv3] at s3 hnn ⊢
 simp [g0, g1, g2]
 refine jm (vs := pkC ⟨9, tr, b, ic, 0, false, .slice a3 l.length c3, ia, ia⟩) S3.swap.blk rfl sr fun w4 b4 f4 => ?_
 have S4 := S3.swap.ly f4 b4
 have s4 : SlS w4 (.slice a3 l.length c3) l := s3.fr f4 fun b hb _ => hnn b hb
 rw [wu S4]
 have e : pkA ⟨9, tr, b, ic, 0, false, .slice a3 l.length c3, ia, ia⟩ = .agg #[.int .i64 9, .int .u64 tr, .int .u64 b.n, .int .u64 b.iy, .int .u64 0, .int .u64 0, .int .i64 0, .bool false, .slice a3 l.length c3, .slice none 0 0, .slice none 0 0] := rfl
 rw [e]
 simp
 refine jm (vs := pkC ⟨9, tr, b, ic, 0, false, .slice a3 l.length c3, ia, ia⟩) S4.blk rfl sr fun w5 b5 f5 => ?_
 have S5 := S4.ly f5 b5
 rw [zg S5]
 exact ⟨rfl, h w5 _ (s4.fr f5 fun b hb _ => hnn b hb) S5.fr⟩
theorem amd {w : World} {tr : Int} {v : Value} {l : List Int} (hs : SlU w v l) (hlen : l.length ≤ 1000000) {K : KV} (h : ∀ w' v', SlU w' v' l → Fr (fun _ => False) w w' → K (pkA ⟨10, tr, ic, ic, 0, false, ia, ia, v'⟩) w') : gb P F.au [.iface T.m (.agg #[.int .u64 tr, v])] w K := by
 rw [M.l.fcall]
 apply M.l.calls
 unfold M.l
 obtain ⟨a, c, hv, _⟩ := id hs
 rw [hv]
 simp [zj, yc, ace, zi, aas, vr]
 have S0 := adn w
 have z0 : (w.alloc (.cells #[.int .i64 0, .int .u64 0, .int .u64 0, .int .u64 0, .int .u64 0, .int .u64 0, .int .i64 0, .bool false, .slice none 0 0, .slice none 0 0, .slice none 0 0] T.a)).heap.size = w.heap.size + 1 := jl _ _
 generalize w.alloc (.cells #[.int .i64 0, .int .u64 0, .int .u64 0, .int .u64 0, .int .u64 0, .int .u64 0, .int .i64 0, .bool false, .slice none 0 0, .slice none 0 0, .slice none 0 0] T.a) = w1 at *
 have S1 := abl S0 #[.int .u64 0, .slice none 0 0] T.m
 rw [z0] at S1
 generalize w.heap.size = pb at *
 generalize pb + 1 = ob at *
 refine jm (vs := [Value.int .u64 tr, .slice a l.length c]) S1.blk rfl (by simp [jz]) fun w2 b2 f2 => ?_
 have S2 := S1.ly f2 b2
 have thC : ∀ {W : World} {R : List Asn}, St w W (gp ob [Value.int .u64 tr, .slice a l.length c].toArray T.m :: R) → gi W ob 0 = some (.int .u64 tr) ∧ gi W ob 1 = some (.slice a l.length c) := fun {W R} S' => by
  have hh := S'.blk
  exact ⟨by rw [gj hh]; rfl, by rw [gj hh]; rfl⟩
 have hpl : pb < w2.heap.size := (Array.getElem?_eq_some_iff.1 S2.swap.blk).1
 have fd : Fr (fun _ => False) w2 (dr w2 1) := (Fr.refl _ w2).dr 1
 have Sd := S2.jg fd
 obtain ⟨c0, c1⟩ := thC S2
 obtain ⟨e0, e1⟩ := thC Sd
 simp [c0, c1, e0, e1]
 rw [← hv]
 refine agu ((hs.fr Sd.fr fun _ _ _ h => h)) hlen fun w3 v3 s3 n3 f3 => ?_
 obtain ⟨a3, c3, hv3, _⟩ := id s3
 have S3 := Sd.jg f3
 obtain ⟨g0, g1⟩ := thC S3
 have hnn : ∀ b, v3.ownBlock = some b → b ≠ pb := fun b hb => by
  have := n3 b hb
  have := fd.size
  omega
 rw [hv3] at s3 hnn ⊢
 simp [g0, g1]
 refine jm (vs := pkC ⟨10, tr, ic, ic, 0, false, ia, ia, .slice a3 l.length c3⟩) S3.swap.blk rfl sr fun w4 b4 f4 => ?_
 have S4 := S3.swap.ly f4 b4
 have s4 : SlU w4 (.slice a3 l.length c3) l := s3.fr f4 fun b hb _ => hnn b hb
 rw [wu S4]
 have e : pkA ⟨10, tr, ic, ic, 0, false, ia, ia, .slice a3 l.length c3⟩ = .agg #[.int .i64 10, .int .u64 tr, .int .u64 0, .int .u64 0, .int .u64 0, .int .u64 0, .int .i64 0, .bool false, .slice none 0 0, .slice none 0 0, .slice a3 l.length c3] := rfl
 rw [e]
 simp
 refine jm (vs := pkC ⟨10, tr, ic, ic, 0, false, ia, ia, .slice a3 l.length c3⟩) S4.blk rfl sr fun w5 b5 f5 => ?_
 have S5 := S4.ly f5 b5
 rw [zg S5]
 exact ⟨rfl, h w5 _ (s4.fr f5 fun b hb _ => hnn b hb) S5.fr⟩
def sq (p : Pk) (ls : List Spn) (lm : List Mem) (lu : List Int) : Bool :=
 if p.gr = 1 ∨ p.gr = 2 then afm p.tr ls else if p.gr = 3 then yv lm else if p.gr = 4 ∨ p.gr = 6 then art p.tr p.b p.v else if p.gr = 5 ∨ p.gr = 7 then ago p.tr p.b p.ok p.jd p.v (decide (p.gr = 7)) else if p.gr = 8 then aoj p.tr p.v else if p.gr = 9 then ahq p.tr p.b ls else if p.gr = 10 then ajh p.tr lu else false
theorem ThR.fr {w w' : World} {p : Pk} {ls : List Spn} {lm : List Mem} {lu : List Int} {t : Value} (h : ThR w p ls lm lu t) (hf : Fr (fun _ => False) w w') : ThR w' p ls lm lu t := by
 cases h with
 | nk v hk hs => exact .nk v hk (hs.fr hf fun _ _ _ h => h)
 | agf v hk hs => exact .agf v hk (hs.fr hf fun _ _ _ h => h)
 | ask hk => exact .ask hk
 | yz hk => exact .yz hk
 | ut hk => exact .ut hk
 | vz v hk hs => exact .vz v hk (hs.fr hf fun _ _ _ h => h)
 | ym v hk hs => exact .ym v hk (hs.fr hf fun _ _ _ h => h)
 | none hk => exact .none hk
theorem bhb (n : Nat) (w : World) (K : KV) : ga P .eql T.an (.tmp n) (.const .nilIface) .nilIface .nilIface w K = K (.bool true) w := .trans (by kernel_rfl) rfl
theorem ThR.eqn {w : World} {p : Pk} {ls : List Spn} {lm : List Mem} {lu : List Int} {t : Value} (h : ThR w p ls lm lu t) (hk : 1 ≤ p.gr ∧ p.gr ≤ 10) (rx ry : Operand) (w1 : World) (K : KV) : ga P .eql T.an rx ry t .nilIface w1 K = K (.bool false) w1 := by
 cases h with
 | nk v hk hs => exact bav _ _ _ _ _
 | agf v hk hs => exact atq _ _ _ _ _
 | ask hk => exact bix _ _ _ _ _
 | yz hk => exact baz _ _ _ _ _
 | ut hk => exact bfp _ _ _ _ _
 | vz v hk hs => exact axu _ _ _ _ _
 | ym v hk hs => exact bah _ _ _ _ _
 | none hn => exact absurd hk hn
theorem ThR.blu {w : World} {p : Pk} {ls : List Spn} {lm : List Mem} {lu : List Int} {t : Value} (h : ThR w p ls lm lu t) (hk : ¬ (1 ≤ p.gr ∧ p.gr ≤ 10)) : t = .nilIface := by
 cases h with
 | none hn => rfl
 | _ => omega
theorem bim {w : World} {p : Pk} {ls : List Spn} {lm : List Mem} {lu : List Int} {t : Value} (ht : ThR w p ls lm lu t) (hk : 1 ≤ p.gr ∧ p.gr ≤ 10) (l1 : ls.length ≤ 1000000) (l2 : lm.length ≤ 1000000) (l3 : lu.length ≤ 1000000) {K : KV}
  (h : ∀ w', Fr (fun _ => False) w w' → K (.bool (sq p ls lm lu)) w') : gb P F.be [t] w K := by
 unfold sq at h
 cases ht with
 | nk v q hs => simp only [if_pos q] at h; exact anx hs l1 h
 | agf v q hs => simp only [q, show ¬ ((3 : Int) = 1 ∨ (3 : Int) = 2) by omega, if_false, if_true] at h; exact azq hs l2 h
 | ask q => rw [if_neg (by omega), if_neg (by omega), if_pos q] at h; exact aud h
 | yz q => rw [if_neg (by omega), if_neg (by omega), if_neg (by omega), if_pos q] at h; exact anz h
 | ut q => rw [if_neg (by omega), if_neg (by omega), if_neg (by omega), if_neg (by omega), if_pos q] at h; exact asr h
 | vz v q hs => rw [if_neg (by omega), if_neg (by omega), if_neg (by omega), if_neg (by omega), if_neg (by omega), if_pos q] at h; exact alr hs l1 h
 | ym v q hs => rw [if_neg (by omega), if_neg (by omega), if_neg (by omega), if_neg (by omega), if_neg (by omega), if_neg (by omega), if_pos q] at h; exact anv hs l3 h
 | none q => exact absurd hk q
structure zo (w : World) (p : Pk) (ls : List Spn) (lm : List Mem) (lu : List Int) : Prop where
 s : SlS w p.sv ls
 m : SlM w p.mv lm
 u : SlU w p.iv lu
structure xn (p : Pk) : Prop where
 tr : sy p.tr
 b : p.b.rng
 jd : p.jd.rng
theorem zo.fr {w w' : World} {p : Pk} {ls : List Spn} {lm : List Mem} {lu : List Int} (h : zo w p ls lm lu) (hf : Fr (fun _ => False) w w') : zo w' p ls lm lu :=
 ⟨h.s.fr hf fun _ _ _ h => h, h.m.fr hf fun _ _ _ h => h, h.u.fr hf fun _ _ _ h => h⟩
theorem zo.rd {w : World} {p : Pk} {ls : List Spn} {lm : List Mem} {lu : List Int} (h : zo w p ls lm lu) (h1 : ls.length ≤ 1000000) (h2 : lm.length ≤ 1000000) (h3 : lu.length ≤ 1000000) : pw w p ls lm lu := ⟨h.s, h.m, h.u, h1, h2, h3⟩
theorem wfP {x : Int} (h : (Lit.int .u64 x).wf = true) : 0 ≤ x ∧ x ≤ 18446744073709551615 := by
 simp [Lit.wf, IntKind.min, IntKind.max, IntKind.bits, IntKind.signed] at h
 omega
theorem yu {x : Int} (h : (Lit.int .u64 x).wf = true) : sy x := by
 have := wfP h
 exact ⟨this.1, by omega⟩
theorem alm {α : Type} {w : World} {sz : Nat} {enc : α → List Value} {Q : α → Prop} {v : Value} {l : List α} (h : aar w sz (fun w b o x => rdE enc w b o x ∧ Q x) v l) : Sl w sz enc v l ∧ ∀ x ∈ l, Q x := by
 refine ⟨aar.mono h fun b o x hx => hx.1, fun x hx => ?_⟩
 obtain ⟨i, hi, rfl⟩ := List.getElem_of_mem hx
 obtain ⟨a, cap, _, _, _, h3⟩ := h
 obtain ⟨b, o, _, _, hr⟩ := h3 i _ (List.getElem?_eq_getElem hi)
 exact hr.2
theorem bee {w : World} {n : Nat} {v : Value} (h : TV P w n T.k [v]) : ∃ l, SlU w v l ∧ ∀ x ∈ l, sy x := by
 have : ∃ l : List Int, aar w 1 (fun w b o x => rdE mw w b o x ∧ sy x) v l := by
  refine aiu (sz := 1) (rd := fun w b o x => rdE mw w b o x ∧ sy x) (e := T.g) (by kernel_rfl) (by kernel_rfl) (by decide) (fun n b o cs ht hl hc => ?_) h
  obtain ⟨x, hx, hw⟩ := tg (k := .u64) (by kernel_rfl) ht
  subst hx
  exact ⟨x, fun j u hj => hc j u hj, yu hw⟩
 obtain ⟨l, hl⟩ := this
 exact ⟨l, alm hl⟩
structure vk (s : Spn) : Prop where
 tr : sy s.il
 id : sy s.id
 par : sy s.ph
 st : sy s.jh
 ln : sy s.len
theorem bas {w : World} {n : Nat} {v : Value} (h : TV P w n T.c [v]) : ∃ l, SlS w v l ∧ ∀ s ∈ l, vk s := by
 suffices hh : ∃ l : List Spn, aar w 8 (fun w b o x => rdE gy w b o x ∧ vk x) v l by
  obtain ⟨l, hl⟩ := hh
  exact ⟨l, alm hl⟩
 refine aiu (sz := 8) (rd := fun w b o x => rdE gy w b o x ∧ vk x) Tryz.underlying42 (by kernel_rfl) (by decide) (fun n b o cs ht hl hc => ?_) h
 obtain ⟨_, hf⟩ := aco Tryz.underlying85 ht
 obtain ⟨m0, t0⟩ := hf 0 _ rfl
 obtain ⟨m1, t1⟩ := hf 1 _ rfl
 obtain ⟨m2, t2⟩ := hf 2 _ rfl
 obtain ⟨m3, t3⟩ := hf 3 _ rfl
 obtain ⟨m4, t4⟩ := hf 4 _ rfl
 obtain ⟨m5, t5⟩ := hf 5 _ rfl
 obtain ⟨m6, t6⟩ := hf 6 _ rfl
 obtain ⟨m7, t7⟩ := hf 7 _ rfl
 obtain ⟨x0, e0, g0⟩ := tg Tryz.underlying35 t0
 obtain ⟨x1, e1, g1⟩ := tg Tryz.underlying35 t1
 obtain ⟨x2, e2, g2⟩ := tg Tryz.underlying35 t2
 obtain ⟨x3, e3, g3⟩ := tg Tryz.underlying35 t3
 obtain ⟨x4, e4, g4⟩ := tg Tryz.underlying35 t4
 obtain ⟨x5, e5, _⟩ := amt Tryz.underlying9 t5
 obtain ⟨x6, e6, _⟩ := amt Tryz.underlying9 t6
 obtain ⟨x7, e7⟩ := avo Tryz.underlying4 t7
 have c0 : Tryz.prog.cellsOf T.g = 1 := by kernel_rfl
 have c1 : Tryz.prog.cellsOf T.ad = 1 := by kernel_rfl
 have c2 : Tryz.prog.cellsOf T.ao = 1 := by kernel_rfl
 match cs, hl with
 | [u0, u1, u2, u3, u4, u5, u6, u7], _ =>
  simp [c0, c1, c2] at e0 e1 e2 e3 e4 e5 e6 e7
  subst e0 e1 e2 e3 e4 e5 e6 e7
  exact ⟨⟨x0, x1, x2, x3, x4, x5, x6, x7⟩, fun j u hj => hc j u hj, yu g0, yu g1, yu g2, yu g3, yu g4⟩
theorem bit {w : World} {n : Nat} {c : Array Value} (ht : TV P w n T.p c.toList) : ∃ m, Value.agg c = qm m ∧ 0 ≤ m.id ∧ 0 ≤ m.inc := by
 obtain ⟨hl, hf⟩ := aco Tryz.underlying139 ht
 have hl3 : Tryz.prog.cellsOf T.p = 3 := by kernel_rfl
 rw [hl3] at hl
 obtain ⟨m0, t0⟩ := hf 0 _ rfl
 obtain ⟨m1, t1⟩ := hf 1 _ rfl
 obtain ⟨m2, t2⟩ := hf 2 _ rfl
 obtain ⟨x0, e0, y0⟩ := tg (k := .u64) (by kernel_rfl) t0
 obtain ⟨x1, e1, y1⟩ := tg (k := .u64) (by kernel_rfl) t1
 obtain ⟨x2, e2, _⟩ := tg (k := .i64) (by kernel_rfl) t2
 have c0 : Tryz.prog.cellsOf T.g = 1 := by kernel_rfl
 have c1 : Tryz.prog.cellsOf T.b = 1 := by kernel_rfl
 refine ⟨⟨x0, x1, x2⟩, ?_, (wfP y0).1, (wfP y1).1⟩
 unfold qm
 congr 1
 apply Array.toList_inj.1
 match hcl : c.toList, hl with
 | [u0, u1, u2], _ =>
  rw [hcl] at e0 e1 e2
  simp [c0, c1] at e0 e1 e2
  subst e0 e1 e2
  rfl
theorem atj {w : World} {n : Nat} {v : Value} (h : TV P w n T.i [v]) : ∃ l, SlM w v l ∧ ∀ m ∈ l, 0 ≤ m.id ∧ 0 ≤ m.inc := by
 suffices hh : ∃ l : List Mem, aar w 3 (fun w b o x => rdE ach w b o x ∧ (0 ≤ x.id ∧ 0 ≤ x.inc)) v l by
  obtain ⟨l, hl⟩ := hh
  exact ⟨l, alm hl⟩
 refine aiu (sz := 3) (rd := fun w b o x => rdE ach w b o x ∧ (0 ≤ x.id ∧ 0 ≤ x.inc)) et.i.ty (by kernel_rfl) (by decide) (fun n b o cs ht hl hc => ?_) h
 obtain ⟨m, hm, hr⟩ := bit (c := cs.toArray) (by simpa using ht)
 unfold qm at hm
 injection hm with hm
 have : cs = ach m := by
  have := congrArg Array.toList hm
  simpa [ach] using this
 subst this
 exact ⟨m, fun j u hj => hc j u hj, hr⟩
structure LsR (ls : List Spn) (lm : List Mem) (lu : List Int) : Prop where
 s : ∀ x ∈ ls, vk x
 m : ∀ x ∈ lm, 0 ≤ x.id ∧ 0 ≤ x.inc
 u : ∀ x ∈ lu, sy x
theorem bac {w : World} {n : Nat} {cs : List Value} (ht : TV P w n T.d cs) : ∃ b : Bal, cs = [.int .u64 b.n, .int .u64 b.iy] ∧ b.rng := by
 obtain ⟨hl, hf⟩ := aco Tryz.underlying40 ht
 have hl2 : Tryz.prog.cellsOf T.d = 2 := by kernel_rfl
 rw [hl2] at hl
 obtain ⟨m0, t0⟩ := hf 0 _ rfl
 obtain ⟨m1, t1⟩ := hf 1 _ rfl
 obtain ⟨x0, e0, h0⟩ := tg (k := .u64) (by kernel_rfl) t0
 obtain ⟨x1, e1, h1⟩ := tg (k := .u64) (by kernel_rfl) t1
 have c0 : Tryz.prog.cellsOf T.g = 1 := by kernel_rfl
 match cs, hl with
 | [u0, u1], _ =>
  simp [c0] at e0 e1
  subst e0 e1
  exact ⟨⟨x0, x1⟩, rfl, yu h0, yu h1⟩
theorem blb {w : World} {n : Nat} {cs : List Value} (ht : TV P w n T.a cs) : ∃ p ls lm lu, cs = pkC p ∧ zo w p ls lm lu ∧ xn p ∧ LsR ls lm lu := by
 obtain ⟨hl, hf⟩ := aco Tryz.underlying46 ht
 have hl11 : Tryz.prog.cellsOf T.a = 11 := by kernel_rfl
 rw [hl11] at hl
 obtain ⟨m0, t0⟩ : ∃ m, TV P w m T.b ((cs.drop 0).take (P.cellsOf T.b)) := hf 0 _ rfl
 obtain ⟨m1, t1⟩ : ∃ m, TV P w m T.g ((cs.drop 1).take (P.cellsOf T.g)) := hf 1 _ rfl
 obtain ⟨m2, t2⟩ : ∃ m, TV P w m T.d ((cs.drop 2).take (P.cellsOf T.d)) := hf 2 _ rfl
 obtain ⟨m3, t3⟩ : ∃ m, TV P w m T.d ((cs.drop 4).take (P.cellsOf T.d)) := hf 3 _ rfl
 obtain ⟨m4, t4⟩ : ∃ m, TV P w m T.o ((cs.drop 6).take (P.cellsOf T.o)) := hf 4 _ rfl
 obtain ⟨m5, t5⟩ : ∃ m, TV P w m T.ao ((cs.drop 7).take (P.cellsOf T.ao)) := hf 5 _ rfl
 obtain ⟨m6, t6⟩ : ∃ m, TV P w m T.c ((cs.drop 8).take (P.cellsOf T.c)) := hf 6 _ rfl
 obtain ⟨m7, t7⟩ : ∃ m, TV P w m T.i ((cs.drop 9).take (P.cellsOf T.i)) := hf 7 _ rfl
 obtain ⟨m8, t8⟩ : ∃ m, TV P w m T.k ((cs.drop 10).take (P.cellsOf T.k)) := hf 8 _ rfl
 have c0 : P.cellsOf T.b = 1 := by kernel_rfl
 have c1 : P.cellsOf T.g = 1 := by kernel_rfl
 have c2 : P.cellsOf T.d = 2 := by kernel_rfl
 have c3 : P.cellsOf T.o = 1 := by kernel_rfl
 have c4 : P.cellsOf T.ao = 1 := by kernel_rfl
 have c5 : P.cellsOf T.c = 1 := by kernel_rfl
 have c6 : P.cellsOf T.i = 1 := by kernel_rfl
 have c7 : P.cellsOf T.k = 1 := by kernel_rfl
 match cs, hl with
 | [u0, u1, u2, u3, u4, u5, u6, u7, u8, u9, u10], _ =>
  simp only [c0, c1, c2, c3, c4, c5, c6, c7, List.drop_zero, List.drop_succ_cons, List.take_succ_cons, List.take_zero] at t0 t1 t2 t3 t4 t5 t6 t7 t8
  obtain ⟨x0, e0, _⟩ := tg (k := .i64) (by kernel_rfl) t0
  obtain ⟨x1, e1, g1⟩ := tg (k := .u64) (by kernel_rfl) t1
  obtain ⟨b2, e2, g2⟩ := bac t2
  obtain ⟨b3, e3, g3⟩ := bac t3
  obtain ⟨x4, e4, _⟩ := tg (k := .i64) (by kernel_rfl) t4
  obtain ⟨x5, e5⟩ := avo (by kernel_rfl) t5
  obtain ⟨ls, s6, f6⟩ := bas t6
  obtain ⟨lm, s7, f7⟩ := atj t7
  obtain ⟨lu, s8, f8⟩ := bee t8
  simp only [List.cons.injEq, and_true] at e0 e1 e2 e3 e4 e5
  obtain ⟨rfl, rfl⟩ := e2
  obtain ⟨rfl, rfl⟩ := e3
  subst e0 e1 e4 e5
  exact ⟨⟨x0, x1, b2, b3, x4, x5, u8, u9, u10⟩, ls, lm, lu, rfl, ⟨s6, s7, s8⟩, ⟨yu g1, g2, g3⟩, f6, f7, f8⟩
open Go.Eng Go.Proofs.YtfnhoaemapheoaaGreat.Sint
abbrev PB := SV × List Int
section
variable {w0 w w' : World} {R : List Asn} {v : Value} {l : List PB} {ls : List (List Int)}
end
set_option maxRecDepth 100000
open Go.Eng Go.Proofs.YtfnhoaemapheoaaGreat.Sint
section
variable {s f : Int} {Q Q0 : List Prt} {q : Prt} {F : Nat} {D : Dk} {w : Prop} {fa lo : List Int} {L : Lg} {b l : List Int}
theorem apf : ∀ ds : List (List Int), 8 * ds.length ≤ (cat ds).length
 | [] => by simp
 | d :: ds => by
  have := apf ds
  have e : cat (d :: ds) = ja d ++ cat ds := by simp [cat]
  rw [e, List.length_append, nh]; simp; omega
theorem apa : ∀ Q0 : List Prt, 8 * (jf Q0).length ≤ ((Q0.map mf).map Fil.len).sum
 | [] => by simp [jf]
 | q :: Q0 => by
  have h1 := apa Q0
  have h2 := apf q.ii
  have e : jf (q :: Q0) = q.ii ++ jf Q0 := by unfold jf; simp
  have e2 : (mf q).len = (nj q.first).length + (cat q.ii).length := by unfold mf Fil.len body; simp
  rw [e, List.map_cons, List.map_cons, List.sum_cons, List.length_append, e2]
  omega
theorem axb : ∀ Q0 : List Prt, ∀ q ∈ Q0, (body q).length ≤ ((Q0.map mf).map Fil.len).sum := fun Q0 q hq => by
 have : (mf q).len ≤ ((Q0.map mf).map Fil.len).sum := aef (List.mem_map_of_mem (List.mem_map_of_mem hq))
 have e2 : (mf q).len = (body q).length := by unfold mf Fil.len; simp
 omega
theorem ank (h : qq s f L F D) : (∀ q ∈ L.gk, (body q).length ≤ D.ij) ∧ 8 * (jf L.gk).length ≤ D.ij := by
 rcases h.vir.dsc with ⟨hq, _⟩ | ⟨Q0, q, fa, lo, m, hq, hf, _, hw, _⟩
 ·rw [hq]; exact ⟨fun q h => by simp at h, by simp [jf]⟩
 ·have hb : fa.length + lo.length = (body q).length := by rw [← hw trivial, List.length_append]
  have hc : (body q).length = (nj q.first).length + (cat q.ii).length := by unfold body; rw [List.length_append]
  have hcg := apf q.ii
  have hu : D.ij = ((Q0.map mf).map Fil.len).sum + (body q).length := by
   unfold Dk.ij
   rw [hf, List.map_append, List.sum_append]
   simp [Fil.len]; omega
  refine ⟨fun x hx => ?_, ?_⟩
  ·rw [hq] at hx
   rcases List.mem_append.1 hx with hx | hx
   ·have := axb Q0 x hx; omega
   ·rw [List.mem_singleton.1 hx]; omega
  ·have := apa Q0
   rw [hq, nb, sp, List.length_append]
   omega
theorem aqk : ∀ {Q : List Prt} {s f : Int}, Chn s f Q → ∀ q ∈ Q, ∀ d ∈ q.ii, d.length ≤ 8192
 | q :: r, s, f, h, x, hx, d, hd => by
  rcases List.mem_cons.1 hx with rfl | hx
  ·exact h.2.2.1 d hd
  ·exact aqk h.2.2.2 x hx d hd
theorem bjw : ∀ {Q : List Prt}, ∀ q ∈ Q, q.ii.length ≤ (jf Q).length := fun {Q} q hq => by
 obtain ⟨a, c, rfl⟩ := List.append_of_mem hq
 unfold jf; simp; omega
end
section
variable {w0 w : World} {R : List Asn} {p hb : Nat} {L : Lg} {D : Dk} {s f : Int} {G : Nat}
theorem anl (S : St w0 w (ig hb D :: R)) : D.ip ≤ 1048576 ∧ (D.ij : Int) ≤ D.ip := by
 obtain ⟨r, m, es, hk, _⟩ := yp S
 exact ⟨hk.ip, hk.ij⟩
theorem app (S : St w0 w (ig hb D :: R)) (h : qq s f L G D) : (jf L.gk).length ≤ 131072 := by
 have h1 := anl S
 have h2 := (ank h).2
 omega
theorem bke (S : St w0 w (ig hb D :: R)) (h : qq s f L G D) : LgB L := by
 have h1 := anl S
 have h2 := ank h
 refine ⟨by have := h.vir.len; omega, aul h.vir.s0 h.vir.chn, fun q hq => ?_, fun q hq => ?_⟩
 ·have := bjw q hq; omega
 ·have := h.size q hq
  have := h2.1 q hq
  omega
theorem bdg (S : St w0 w (lj p hb L :: ig hb D :: R)) (h : qq s f L G D) {K : KV} (hK : ∀ w' v', St w0 w' (lq v' (jf L.gk) :: lj p hb L :: ig hb D :: R) → K v' w') : gb P F.cp [jv p] w K := by
 have h1 := app S.swap h
 exact bii S (by have := h.vir.len; omega) (by unfold Lg.all; unfold jf at h1; omega) (fun q hq d hd => by have := aqk h.vir.chn q hq d hd; omega) hK
end
set_option maxRecDepth 100000
open Go.Eng Go.Proofs.YtfnhoaemapheoaaGreat.Sint
def rq : Lg → Dk → List (List Int) → (Lg × Dk) × Int
 | L, D, [] => ((L, D), 0)
 | L, D, b :: r => if (L.append D b).2 = 0 then rq (L.append D b).1.1 (L.append D b).1.2 r else L.append D b
inductive Wr (s f : Int) (L : Lg) (F : Nat) (D : Dk) (ii : List (List Int)) : (Lg × Dk) × Int → Prop
 | ok (L' : Lg) (D' : Dk) : qq s f L' F D' → jf L'.gk = jf L.gk ++ ii → L'.ib = L.ib → D'.ip = D.ip → (D.jk = false → D'.jk = false) → Wr s f L F D ii ((L', D'), 0)
 | ul (i : Nat) (L' : Lg) (D' : Dk) : i < ii.length → qq s f L' F D' → jf L'.gk = jf L.gk ++ ii.take i → L'.ib = L.ib → D'.ip = D.ip → (D.jk = false → D'.jk = false) → Wr s f L F D ii ((L', D'), 9)
 | iu (i j : Nat) (L' : Lg) (D0 D' : Dk) (Q : List Prt) : D.jk = true → qq s f L' F D0 → jf L'.gk = jf L.gk ++ ii.take j → L'.ib = L.ib → D'.iu = true → Vir s f Q F D' False → jf Q = jf L.gk ++ ii.take i → D'.ip = D.ip → Wr s f L F D ii ((L', D'), 10)
theorem bjc {s f : Int} {F : Nat} : ∀ (ii : List (List Int)) {L : Lg} {D : Dk}, qq s f L F D → (∀ b ∈ ii, b.length ≤ 8192) → f + (jf L.gk).length + ii.length ≤ 1000000000000 → Wr s f L F D ii (rq L D ii)
 | [], L, D, h, _, _ => .ok L D h (by simp) rfl rfl id
 | b :: r, L, D, h, hl, hn => by
  have ha := bdz (b := b) h (by simp at hn; omega)
  rw [rq]
  have hb := hl b (by simp)
  generalize L.append D b = x at ha ⊢
  cases ha with
  | aki hx => omega
  | ul D' hx g e1 e2 =>
   rw [if_neg (by simp)]
   exact .ul 0 L D' (by simp) g (by simp) rfl e1 (fun h => by rw [e2]; exact h)
  | iu D' Q e1 e2 e3 e4 e5 =>
   rw [if_neg (by simp)]
   exact .iu 1 0 L D D' Q e1 h (by simp) rfl e2 e3 (by simpa using e4) e5
  | ok L' D' g e1 e2 e3 e4 e5 e6 e7 e8 =>
   rw [if_pos rfl]
   have hr := bjc r g (fun x hx => hl x (List.mem_cons_of_mem _ hx)) (by rw [e1]; simp at hn ⊢; omega)
   simp only
   generalize rq L' D' r = y at hr ⊢
   cases hr with
   | ok L2 D2 g2 a1 a2 a3 a4 => exact .ok L2 D2 g2 (by rw [a1, e1]; simp) (by rw [a2, e4]) (by rw [a3, e5]) (fun h => a4 (e6 h))
   | ul i L2 D2 hi g2 a1 a2 a3 a4 => exact .ul (i + 1) L2 D2 (by simp; omega) g2 (by rw [a1, e1]; simp) (by rw [a2, e4]) (by rw [a3, e5]) (fun h => a4 (e6 h))
   | iu i j L2 D0 D2 Q b1 b2 b3 b4 b5 b6 b7 b8 =>
    have harm : D.jk = true := by
     cases ha : D.jk with
     | true => rfl
     | false => rw [e6 ha] at b1; exact absurd b1 (by decide)
    exact .iu (i + 1) (j + 1) L2 D0 D2 Q harm b2 (by rw [b3, e1]; simp) (by rw [b4, e4]) b5 b6 (by rw [b7, e1]; simp) (by rw [b8, e5])
open Go.Eng
def ru (a b : Int) : Int := if a < b then -1 else if b < a then 1 else 0
theorem zq {w : World} (a b : Int) {K : KV} (h : K (.int .i64 (ru a b)) w) : gb P F.bj [.int .u64 a, .int .u64 b] w K := by
 have nan : ∀ (z : Int) {K : KV}, K (.bool false) w → gb P F.ai [.int .u64 z] w K := fun z K hK => by
  rw [M.cy.fcall]
  apply M.cy.calls
  unfold M.cy
  simpa using hK
 rw [M.bj.fcall]
 apply M.bj.calls
 unfold M.bj
 refine nan a ?_
 refine nan b ?_
 simp
 unfold M.bj.j2
 unfold ru at h
 by_cases h1 : a < b
 ·simp [h1] at h ⊢; exact h
 ·by_cases h2 : b < a
  ·simp [h1, h2] at h ⊢; exact h
  ·simp [h1, h2] at h ⊢; exact h
theorem bbu {w : World} {v : Value} {l : List Int} (hs : Sl w 1 xw v l) (hlen : l.length ≤ 1000) {K : KV} (h : K (.int .i64 (orK l)) w) : jr P F.ei [v] w K := by
 apply M.cz.calls
 unfold M.cz
 simp only [gg]
 rw [hs.im (by simp)]
 refine ⟨OrI w l, fun x _ => l.length - ms x 2, ⟨_, _, 0, rfl, rfl, Nat.zero_le _, fun j k _ h => by omega⟩, ?_⟩
 rintro x w1 ⟨a, b, i, rfl, rfl, hi, hz⟩
 have gv2 : gv [a, b, .int .i64 (i : Int)] 2 = .int .i64 (i : Int) := rfl
 simp only [gv2]
 by_cases hil : i < l.length
 ·obtain ⟨bb, o, cap, rfl, hb, _, hr⟩ := hs.at hil
  have e0 := hr 0 _ rfl
  simp only [Nat.mul_one, Nat.add_zero] at e0
  have hw : IntKind.i64.wrap ((i : Int) + 1) = ((i + 1 : Nat) : Int) := by rw [gm (by omega) (by omega)]; rfl
  simp [hil]
  unfold M.cz.j2
  simp only [gg, gv2]
  by_cases hk : l[i] = 0
  ·simp [hil, e0, hk, hw]
   refine ⟨⟨_, _, i + 1, rfl, rfl, by omega, fun j k hj hlt => ?_⟩, by simp [ms, gv]; omega⟩
   by_cases hji : j = i
   ·subst hji
    rw [List.getElem?_eq_getElem hil] at hj
    cases hj; exact hk
   ·exact hz j k hj (by omega)
  ·simp [hil, e0, hk]
   have : orK l = l[i] := by
    unfold orK
    have : l.find? (fun k => !decide (k = 0)) = some l[i] := by
     rw [List.find?_eq_some_iff_getElem]
     refine ⟨by simpa using hk, i, hil, rfl, fun j hj => ?_⟩
     have := hz j _ (List.getElem?_eq_getElem (by omega)) hj
     simp [this]
    rw [this]; rfl
   rw [this] at h; exact h
 ·simp [hil]
  have : orK l = 0 := by
   unfold orK
   have : l.find? (fun k => !decide (k = 0)) = none := by
    rw [List.find?_eq_none]
    intro k hk
    obtain ⟨j, hj, rfl⟩ := List.mem_iff_getElem.1 hk
    have := hz j _ (List.getElem?_eq_getElem hj) (by omega)
    simp [this]
   rw [this]; rfl
  rw [this] at h; exact h
theorem or2 (a b : Int) : orK [a, b] = if a = 0 then b else a := by
 unfold orK
 by_cases ha : a = 0 <;> by_cases hb : b = 0 <;> simp [ha, hb]
theorem ber {a b : Bal} : decide ((orK [ru a.n b.n, ru a.iy b.iy]) < 0) = a.yr b := by
 rw [or2]
 unfold ru Bal.yr
 apply decide_eq_decide.2
 repeat' split
 all_goals omega
theorem amx {w : World} {b : Nat} {x : Bal} {f : Nat × Nat} (h : w.heap[b]? = some (.cells #[.int .u64 x.n, .int .u64 x.iy] T.d f)) : gi w b 0 = some (.int .u64 x.n) ∧ gi w b 1 = some (.int .u64 x.iy) ∧ ∀ K, ldN P 2 b 0 w K = K (kj x) w :=
 ⟨by rw [gj h]; rfl, by rw [gj h]; rfl, fun K => acs (by rw [gj h]; rfl) (by rw [gj h]; rfl) K⟩
theorem bmw (x y : Bal) {w : World} {Q : Value → Value → World → Prop} (h : ∀ w1 b1 b2, St w w1 (gp b2 #[.int .u64 y.n, .int .u64 y.iy] T.d :: gp b1 #[.int .u64 x.n, .int .u64 x.iy] T.d :: []) → Q (jv b1) (jv b2) w1) :
  lx P T.d (kj x) w fun v1 w1 => lx P T.d (kj y) w1 fun v2 w2 => Q v1 v2 w2 := by
 rw [xc, xc]
 exact h _ _ _ (adk (adk (St.jh w) #[.int .u64 x.n, .int .u64 x.iy] T.d) #[.int .u64 y.n, .int .u64 y.iy] T.d)
theorem bbg {w : World} (x y : Bal) {K : KV} (h : ∀ w', Fr (fun _ => False) w w' → K (.int .i64 (orK [ru x.n y.n, ru x.iy y.iy])) w') : gb P F.ej [kj x, kj y] w K := by
 rw [M.dy.fcall]
 apply M.dy.calls
 unfold M.dy
 refine bmw x y fun w1 b1 b2 S1 => ?_
 have S2 := S1.jg ((Fr.refl _ w1).dr 1)
 obtain ⟨y0, y1, _⟩ := amx S2.blk
 obtain ⟨x0, x1, _⟩ := amx S2.swap.blk
 simp only [jv]
 rw [so]
 simp only [un] at x0 x1 y0 y1
 simp [x0, x1, y0, y1]
 refine zq _ _ ?_
 simp [x1, y1]
 refine zq _ _ ?_
 simp
 have S3 : St w ((dr w1 1).alloc (.cells #[.int .i64 (ru x.n y.n), .int .i64 (ru x.iy y.iy)] T.b)) _ := adk S2 #[.int .i64 (ru x.n y.n), .int .i64 (ru x.iy y.iy)] T.b
 have hsl : Sl ((dr w1 1).alloc (.cells #[.int .i64 (ru x.n y.n), .int .i64 (ru x.iy y.iy)] T.b)) 1 xw (.slice (some ⟨w1.heap.size, 0, none⟩) 2 2) [ru x.n y.n, ru x.iy y.iy] := by
  have hh := S3.blk
  rw [show (dr w1 1).heap.size = w1.heap.size from rfl] at hh
  refine ⟨some ⟨w1.heap.size, 0, none⟩, 2, rfl, by simp, by simp [maxLen], fun i z hz => ⟨w1.heap.size, 0, rfl, oh hh, fun j u hj => ?_⟩⟩
  rw [gj hh]
  match i, j with
  | 0, 0 => simp [xw] at hz hj ⊢; rw [hz]; exact hj
  | 1, 0 => simp [xw] at hz hj ⊢; rw [hz]; exact hj
  | i + 2, _ => simp at hz
  | _, j + 1 => simp [xw] at hj
 rw [M.cz.fcall]
 exact bbu hsl (by simp) (h _ S3.fr)
section
variable {w0 w : World} {b : Nat} {t : TypeId} {R : List Asn}
theorem qn {x : Bal} (S : St w0 w (gp b #[.int .u64 x.n, .int .u64 x.iy] t :: R)) : gi w b 0 = some (.int .u64 x.n) ∧ gi w b 1 = some (.int .u64 x.iy) ∧ ∀ K, ldN P 2 b 0 w K = K (kj x) w :=
 ⟨by rw [S.cell]; rfl, by rw [S.cell]; rfl, fun K => S.ldA [.int .u64 x.n, .int .u64 x.iy] rfl rfl K⟩
theorem bll : Value.agg #[.int .u64 0, .int .u64 0] = kj ic := rfl
end
set_option maxRecDepth 100000
open Go.Eng
def pk0 (k tr : Int) (x s : Bal) (v : Int) (ok : Bool) : Pk := ⟨k, tr, x, s, v, ok, .slice none 0 0, .slice none 0 0, .slice none 0 0⟩
theorem avk (k tr : Int) (x s : Bal) (v : Int) (ok : Bool) : ∀ u ∈ pkC (pk0 k tr x s v ok), jz u = true := fun u hu => by
 simp only [pkC, pk0, List.mem_cons, List.not_mem_nil, or_false] at hu
 rcases hu with rfl | rfl | rfl | rfl | rfl | rfl | rfl | rfl | rfl | rfl | rfl <;> rfl
def pkZ : Pk := pk0 0 0 ic ic 0 false
section
variable {w0 w : World} {b : Nat} {R : List Asn}
theorem acj {cs : Array Value} {q : Pk} (S : St w0 w (gp b cs T.a :: R)) (hs : cs.size = 11) (h1 : ∀ u ∈ pkC q, jz u = true) {K : KV} (h : ∀ w', St w0 w' (gp b (pkC q).toArray T.a :: R) → K undef w') : stN P b 0 (pkC q) w K :=
 S.put h1 (by simp [pkC, hs]) (by
  have hl : cs.toList.length = 11 := by simpa using hs
  have h2 : (pkC q).length = 11 := rfl
  rw [h2, List.take_zero, List.nil_append, List.drop_eq_nil_of_le (by omega), List.append_nil]) h
theorem zv (S : St w0 w R) : St w0 (w.alloc (.cells #[.int .i64 0, .int .u64 0, .int .u64 0, .int .u64 0, .int .u64 0, .int .u64 0, .int .i64 0, .bool false, .slice none 0 0, .slice none 0 0, .slice none 0 0] T.a)) (gp w.heap.size (pkC pkZ).toArray T.a :: R) := S.mkB (pkC pkZ).toArray T.a
theorem qc {q : Pk} (S : St w0 w (gp b (pkC q).toArray T.a :: R)) (K : KV) : ldN P 11 b 0 w K = K (pkA q) w := S.ldA (pkC q) rfl rfl K
theorem blv {q : Pk} (S : St w0 w (gp b (pkC q).toArray T.a :: R)) (K : KV) : qg P T.a (.pointer (some ⟨b, 0, none⟩)) w K = K (pkA q) w := by rw [ahg]; exact qc S K
theorem aqx {cs : Array Value} {q : Pk} (S : St w0 w (gp b cs T.a :: R)) (hs : cs.size = 11) (h1 : ∀ u ∈ pkC q, jz u = true) {K : KV} (h : ∀ w', St w0 w' (gp b (pkC q).toArray T.a :: R) → K (pkA q) w') :
  stN P b 0 (pkC q) w fun _ w => qg P T.a (.pointer (some ⟨b, 0, none⟩)) w fun r0 w' => w' = w ∧ K r0 w :=
 acj S hs h1 fun w' S' => by rw [blv S']; exact ⟨rfl, h w' S'⟩
end
set_option maxRecDepth 100000
open Go.Eng
def qw (l1 l2 : List Spn) : Bool := decide (l1.length = l2.length) && (List.zipWith ub l1 l2).all id
theorem anj {l1 l2 : List Spn} {i : Nat} (h1 : i < l1.length) (h2 : i < l2.length) (h : ub l1[i] l2[i] = false) : qw l1 l2 = false := by
 unfold qw
 have : (List.zipWith ub l1 l2).all id = false := by
  rw [List.all_eq_false]
  refine ⟨ub l1[i] l2[i], ?_, by simp [h]⟩
  rw [List.mem_iff_getElem]
  exact ⟨i, by simp; omega, by simp⟩
 rw [this, Bool.and_false]
theorem aey {l1 l2 : List Spn} (hl : l1.length = l2.length) (h : ∀ j (h1 : j < l1.length) (h2 : j < l2.length), ub l1[j] l2[j] = true) : qw l1 l2 = true := by
 unfold qw
 rw [decide_eq_true hl, Bool.true_and, List.all_eq_true]
 intro x hx
 obtain ⟨j, hj, rfl⟩ := List.getElem_of_mem hx
 simp only [List.length_zipWith] at hj
 rw [List.getElem_zipWith]
 exact h j (by omega) (by omega)
theorem atm (l : List Spn) : qw l l = true := aey rfl fun j _ _ => aeb _
theorem atw {w : World} {v1 v2 : Value} {l1 l2 : List Spn} (h1 : SlS w v1 l1) (h2 : SlS w v2 l2) (hn : l1.length ≤ 1000000) {K : KV}
  (h : ∀ w', Fr (fun _ => False) w w' → K (.bool (qw l1 l2)) w') : gb P F.bu [v1, v2] w K := by
 rw [M.z.fcall]
 apply M.z.calls
 unfold M.z
 simp only [gg]
 rw [h1.im (by simp), h2.im (by simp)]
 by_cases hne : l1.length = l2.length
 case neg =>
  have hne' : ¬ (l1.length : Int) = (l2.length : Int) := by omega
  have hz : qw l1 l2 = false := by unfold qw; simp [hne]
  rw [hz] at h
  simp [hne']
  exact h w (Fr.refl _ _)
 simp [hne]
 unfold M.z.j0
 simp only [gg]
 refine ⟨azb w l1 l2, fun x _ => l1.length - ms x 1, ⟨_, 0, rfl, Nat.zero_le _, fun j _ _ h => by omega, Fr.refl _ _⟩, ?_⟩
 rintro x w1 ⟨a, i, rfl, hin, hpre, hf1⟩
 have g1 : gv [a, .int .i64 (i : Int)] 1 = .int .i64 (i : Int) := rfl
 simp only [g1]
 have hr1 : SlS w1 v1 l1 := h1.fr hf1 fun _ _ _ h => h
 have hr2 : SlS w1 v2 l2 := h2.fr hf1 fun _ _ _ h => h
 rw [hr1.im (by simp)]
 by_cases hlt : i < l1.length
 ·have hlt2 : i < l2.length := by omega
  obtain ⟨b1, o1, c1, rfl, _, _, k1⟩ := hr1.at hlt
  obtain ⟨b2, o2, c2, rfl, _, _, k2⟩ := hr2.at hlt2
  have hw : IntKind.i64.wrap ((i : Int) + 1) = ((i + 1 : Nat) : Int) := by rw [gm (by omega) (by omega)]; rfl
  have d1 : ∀ K, ldN P 8 b1 (o1 + i * 8) (dr w1 1) K = K (jx l1[i]) (dr w1 1) := fun K => ldS (w := dr w1 1) k1 K
  have d2 : ∀ K, ldN P 8 b2 (o2 + i * 8) (dr w1 1) K = K (jx l2[i]) (dr w1 1) := fun K => ldS (w := dr w1 1) k2 K
  simp [hlt]
  unfold M.z.j3
  simp only [gg, g1]
  cases hs : ub l1[i] l2[i] with
  | true =>
   simp [hlt, hlt2, d1, d2, ahx, hs, hw]
   refine ⟨⟨_, i + 1, rfl, by omega, fun j a1 a2 hj => ?_, hf1.dr 1⟩, by simp [ms, gv]; omega⟩
   by_cases hji : j = i
   ·subst hji; exact hs
   ·exact hpre j a1 a2 (by omega)
  | false =>
   rw [anj hlt hlt2 hs] at h
   simp [hlt, hlt2, d1, d2, ahx, hs]
   exact h _ (hf1.dr 1)
 ·simp [hlt]
  have := h _ hf1
  rw [aey hne fun j a1 a2 => hpre j a1 a2 (by omega)] at this
  exact this
def lc (p q : Pk) : Bool := decide (p.gr = q.gr) && (decide (p.tr = q.tr) && (decide (p.b = q.b) && (decide (p.jd = q.jd) && (decide (p.v = q.v) && (p.ok == q.ok)))))
def px (p q : Pk) (ls ls' : List Spn) (lm lm' : List Mem) (lu lu' : List Int) : Bool := decide (lm = lm') && (decide (lu = lu') && (qw ls ls' && lc p q))
theorem zo.one {w : World} {p : Pk} {ls : List Spn} {lm : List Mem} {lu : List Int} (h : zo w p ls lm lu) : jz p.sv = true ∧ jz p.mv = true ∧ jz p.iv = true := by
 obtain ⟨a1, c1, h1, _⟩ := h.s
 obtain ⟨a2, c2, h2, _⟩ := h.m
 obtain ⟨a3, c3, h3, _⟩ := h.u
 rw [h1, h2, h3]
 exact ⟨rfl, rfl, rfl⟩
theorem pw.sl {w : World} {p : Pk} {ls : List Spn} {lm : List Mem} {lu : List Int} (h : pw w p ls lm lu) : zo w p ls lm lu := ⟨h.s, h.m, h.u⟩
theorem ass {α : Type} {l1 l2 : List α} (hl : l1.length = l2.length) (h : ∀ j (h1 : j < l1.length) (h2 : j < l2.length), l1[j] = l2[j]) : l1 = l2 := List.ext_getElem hl h
def SaM (W : World) (pb qb : Nat) (p q : Pk) (lm lm' : List Mem) : KL := fun x w1 => ∃ (u : Value) (i : Nat), x = [u, .int .i64 (i : Nat)] ∧ i ≤ lm.length ∧ (∀ j (h1 : j < lm.length) (h2 : j < lm'.length), j < i → lm[j] = lm'[j]) ∧ St W w1 (gp qb (pkC q).toArray T.a :: gp pb (pkC p).toArray T.a :: [])
def SaU (W : World) (pb qb : Nat) (p q : Pk) (lu lu' : List Int) : KL := fun x w1 => ∃ (u : Value) (i : Nat), x = [u, .int .i64 (i : Nat)] ∧ i ≤ lu.length ∧ (∀ j (h1 : j < lu.length) (h2 : j < lu'.length), j < i → lu[j] = lu'[j]) ∧ St W w1 (gp qb (pkC q).toArray T.a :: gp pb (pkC p).toArray T.a :: [])
theorem auu (rx ry : Operand) (x y : Mem) (w : World) (K : KV) : ga P .neq T.p rx ry (qm x) (qm y) w K = K (.bool !(decide (x = y))) w := bbj rx ry x y w K
theorem ams {w : World} {p q : Pk} {ls ls' : List Spn} {lm lm' : List Mem} {lu lu' : List Int} (hp : pw w p ls lm lu) (hq : pw w q ls' lm' lu') {K : KV}
  (h : ∀ w', Fr (fun _ => False) w w' → K (.bool (px p q ls ls' lm lm' lu lu')) w') : gb P F.co [pkA p, pkA q] w K := by
 rw [M.k.fcall]
 apply M.k.calls
 unfold M.k
 refine St.sx (St.jh w) fun pb w1 S1 => ?_
 refine St.sx S1 fun qb w2 S2 => ?_
 have S2' : St w w2 (gp qb (pkC q).toArray T.a :: gp pb (pkC p).toArray T.a :: []) := S2
 have hp2 := hp.fr S2'.fr
 have hq2 := hq.fr S2'.fr
 obtain ⟨q0, q1, q2, q4, q6, q7, q8, q9, q10, _⟩ := jb S2'
 obtain ⟨p0, p1, p2, p4, p6, p7, p8, p9, p10, _⟩ := jb S2'.swap
 have lm1 : ∀ w' K, biT P .len #[T.i] T.b [false] [p.mv] w' K = K (.int .i64 lm.length) w' := fun w' K => hp.m.im (by kernel_rfl) [false]
 have lm2 : ∀ w' K, biT P .len #[T.i] T.b [false] [q.mv] w' K = K (.int .i64 lm'.length) w' := fun w' K => hq.m.im (by kernel_rfl) [false]
 have lu1 : ∀ w' K, biT P .len #[T.k] T.b [false] [p.iv] w' K = K (.int .i64 lu.length) w' := fun w' K => hp.u.im (by kernel_rfl) [false]
 have lu2 : ∀ w' K, biT P .len #[T.k] T.b [false] [q.iv] w' K = K (.int .i64 lu'.length) w' := fun w' K => hq.u.im (by kernel_rfl) [false]
 have no : ∀ w', Fr (fun _ => False) w w' → px p q ls ls' lm lm' lu lu' = false → K (.bool false) w' := fun w' f e => by
  have := h w' f
  rwa [e] at this
 by_cases hm : lm.length = lm'.length
 case neg =>
  have hm' : ¬ (lm.length : Int) = (lm'.length : Int) := by omega
  simp [p9, q9, lm1, lm2, hm']
  refine no _ S2.fr ?_
  unfold px
  rw [decide_eq_false fun he => hm (congrArg List.length he)]
  rfl
 by_cases hu : lu.length = lu'.length
 case neg =>
  have hu' : ¬ (lu.length : Int) = (lu'.length : Int) := by omega
  simp [p9, q9, lm1, lm2, hm, p10, q10, lu1, lu2, hu']
  refine no _ S2.fr ?_
  unfold px
  rw [decide_eq_false (p := lu = lu') fun he => hu (congrArg List.length he)]
  simp
 simp [p9, q9, lm1, lm2, hm, p10, q10, lu1, lu2, hu, p8, q8]
 refine atw hp2.s hq2.s hp.ls fun w3 f3 => ?_
 have S3 := S2'.jg f3
 cases hs : qw ls ls' with
 | false =>
  simp
  refine no _ S3.fr ?_
  unfold px
  simp [hs]
 | true =>
 simp
 unfold M.k.j0
 refine ⟨SaM w pb qb p q lm lm', fun x _ => lm.length - ms x 1, ⟨_, 0, rfl, Nat.zero_le _, fun j _ _ h => by omega, S3⟩, ?_⟩
 rintro x w4 ⟨u, i, rfl, hi, hpre, S4⟩
 unfold M.k.j2
 obtain ⟨q0, q1, q2, q4, q6, q7, q8, q9, q10, _⟩ := jb S4
 obtain ⟨p0, p1, p2, p4, p6, p7, p8, p9, p10, _⟩ := jb S4.swap
 by_cases hil : i < lm.length
 ·have hil' : (i : Int) < (lm.length : Int) := by omega
  have hil2 : i < lm'.length := by omega
  have hw : IntKind.i64.wrap ((i : Int) + 1) = ((i + 1 : Nat) : Int) := by have := hp.lm; rw [gm (by omega) (by omega)]; rfl
  simp [p9, lm1, hil]
  unfold M.k.j3
  obtain ⟨b1, o1, c1, e1, _, _, k1⟩ := (hp.fr S4.fr).m.at hil
  obtain ⟨b2, o2, c2, e2, _, _, k2⟩ := (hq.fr S4.fr).m.at hil2
  have i1 : ∀ w' K, iaT P T.i p.mv (.int .i64 (i : Nat)) w' K = K (.pointer (some ⟨b1, o1 + i * 3, none⟩)) w' := fun w' K => by rw [e1]; simp [hil]
  have i2 : ∀ w' K, iaT P T.i q.mv (.int .i64 (i : Nat)) w' K = K (.pointer (some ⟨b2, o2 + i * 3, none⟩)) w' := fun w' K => by rw [e2]; simp [hil2]
  have d1 : ∀ K, ldN P 3 b1 (o1 + i * 3) (dr w4 1) K = K (qm lm[i]) (dr w4 1) := fun K => ldM (w := dr w4 1) k1 K
  have d2 : ∀ K, ldN P 3 b2 (o2 + i * 3) (dr w4 1) K = K (qm lm'[i]) (dr w4 1) := fun K => ldM (w := dr w4 1) k2 K
  by_cases he : lm[i] = lm'[i]
  ·simp [p9, q9, i1, i2, d1, d2, auu, he, hw]
   refine ⟨⟨_, i + 1, rfl, by omega, fun j a1 a2 hj => ?_, S4.jg ((Fr.refl _ w4).dr 1)⟩, by simp [ms, gv]; omega⟩
   by_cases hji : j = i
   ·subst hji; exact he
   ·exact hpre j a1 a2 (by omega)
  ·simp [p9, q9, i1, i2, d1, d2, auu, he]
   refine no _ (S4.jg ((Fr.refl _ w4).dr 1)).fr ?_
   unfold px
   rw [decide_eq_false (p := lm = lm') fun hee => he (by simp [hee])]
   rfl
 have hil' : ¬ (i : Int) < (lm.length : Int) := by omega
 have hme : lm = lm' := ass hm fun j a1 a2 => hpre j a1 a2 (by omega)
 simp [p9, lm1, hil]
 refine ⟨SaU w pb qb p q lu lu', fun x _ => lu.length - ms x 1, ⟨_, 0, rfl, Nat.zero_le _, fun j _ _ h => by omega, S4⟩, ?_⟩
 rintro x w5 ⟨u, i, rfl, hi, hpre2, S5⟩
 unfold M.k.j6
 obtain ⟨q0, q1, q2, q4, q6, q7, q8, q9, q10, _⟩ := jb S5
 obtain ⟨p0, p1, p2, p4, p6, p7, p8, p9, p10, _⟩ := jb S5.swap
 by_cases hil : i < lu.length
 ·have hil' : (i : Int) < (lu.length : Int) := by omega
  have hil2 : i < lu'.length := by omega
  have hw : IntKind.i64.wrap ((i : Int) + 1) = ((i + 1 : Nat) : Int) := by have := hp.lu; rw [gm (by omega) (by omega)]; rfl
  simp [p10, lu1, hil]
  unfold M.k.j7
  obtain ⟨b1, o1, c1, e1, _, k1⟩ := adi (hp.fr S5.fr).u hil
  obtain ⟨b2, o2, c2, e2, _, k2⟩ := adi (hq.fr S5.fr).u hil2
  have i1 : ∀ w' K, iaT P T.k p.iv (.int .i64 (i : Nat)) w' K = K (.pointer (some ⟨b1, o1 + i, none⟩)) w' := fun w' K => by rw [e1]; simp [hil]
  have i2 : ∀ w' K, iaT P T.k q.iv (.int .i64 (i : Nat)) w' K = K (.pointer (some ⟨b2, o2 + i, none⟩)) w' := fun w' K => by rw [e2]; simp [hil2]
  by_cases he : lu[i] = lu'[i]
  ·simp [p10, q10, i1, i2, k1, k2, he, hw]
   refine ⟨⟨_, i + 1, rfl, by omega, fun j a1 a2 hj => ?_, S5.jg ((Fr.refl _ w5).dr 1)⟩, by simp [ms, gv]; omega⟩
   by_cases hji : j = i
   ·subst hji; exact he
   ·exact hpre2 j a1 a2 (by omega)
  ·simp [p10, q10, i1, i2, k1, k2, he]
   refine no _ (S5.jg ((Fr.refl _ w5).dr 1)).fr ?_
   unfold px
   rw [decide_eq_false (p := lu = lu') fun hee => he (by simp [hee])]
   simp
 have hil' : ¬ (i : Int) < (lu.length : Int) := by omega
 have hue : lu = lu' := ass hu fun j a1 a2 => hpre2 j a1 a2 (by omega)
 simp [p10, lu1, hil]
 unfold M.k.j5
 have fin := h w5 S5.fr
 unfold px at fin
 rw [decide_eq_true hme, decide_eq_true hue, hs, Bool.true_and, Bool.true_and, Bool.true_and] at fin
 unfold lc at fin
 have hbo : aes P T.ao = true := by kernel_rfl
 by_cases a0 : p.gr = q.gr
 case neg =>
  simp [a0] at fin
  simp [p0, q0, a0]
  exact fin
 by_cases a1 : p.tr = q.tr
 case neg =>
  simp [a1] at fin
  simp [p0, q0, a0, p1, q1, a1]
  exact fin
 by_cases a2 : p.b = q.b
 case neg =>
  simp [a2] at fin
  simp [p0, q0, a0, p1, q1, a1, p2, q2, vd, a2]
  exact fin
 by_cases a3 : p.jd = q.jd
 case neg =>
  simp [a3] at fin
  simp [p0, q0, a0, p1, q1, a1, p2, q2, vd, a2, p4, q4, a3]
  exact fin
 by_cases a4 : p.v = q.v
 case neg =>
  simp [a4] at fin
  simp [p0, q0, a0, p1, q1, a1, p2, q2, vd, a2, p4, q4, a3, p6, q6, a4]
  exact fin
 simp [a0, a1, a2, a3, a4] at fin
 simp [p0, q0, a0, p1, q1, a1, p2, q2, vd, a2, p4, q4, a3, p6, q6, a4, p7, q7, aeh hbo]
 exact fin
def kr (p : Pk) : Pk := ⟨p.gr, if p.gr = 3 then 0 else p.tr, if p.gr = 4 ∨ p.gr = 5 ∨ p.gr = 6 ∨ p.gr = 7 ∨ p.gr = 9 then p.b else ic, if p.gr = 5 ∨ p.gr = 7 then p.jd else ic, if p.gr = 5 ∨ p.gr = 6 ∨ p.gr = 8 then p.v else 0, if p.gr = 5 ∨ p.gr = 7 then p.ok else false,
 if p.gr = 1 ∨ p.gr = 2 ∨ p.gr = 9 then p.sv else .slice none 0 0, if p.gr = 3 then p.mv else .slice none 0 0, if p.gr = 10 then p.iv else .slice none 0 0⟩
def oc (p : Pk) (l : List Spn) : List Spn := if p.gr = 1 ∨ p.gr = 2 ∨ p.gr = 9 then l else []
def og (p : Pk) (l : List Mem) : List Mem := if p.gr = 3 then l else []
def om (p : Pk) (l : List Int) : List Int := if p.gr = 10 then l else []
theorem avd {w : World} {p : Pk} {ls : List Spn} {lm : List Mem} {lu : List Int} (h : pw w p ls lm lu) : pw w (kr p) (oc p ls) (og p lm) (om p lu) := by
 refine ⟨?_, ?_, ?_, ?_, ?_, ?_⟩
 ·unfold kr oc; simp only; split
  ·exact h.s
  ·exact Sl.nil
 ·unfold kr og; simp only; split
  ·exact h.m
  ·exact Sl.nil
 ·unfold kr om; simp only; split
  ·exact h.u
  ·exact Sl.nil
 ·unfold oc; split
  ·exact h.ls
  ·simp
 ·unfold og; split
  ·exact h.lm
  ·simp
 ·unfold om; split
  ·exact h.lu
  ·simp
theorem aah (b : Nat) (q : Pk) (w : World) (K : KV) : stT P T.a (.pointer (some ⟨b, 0, none⟩)) (pkA q) w K = stN P b 0 (pkC q) w K := by simp [pkA, pkC]
theorem bij {q : Pk} (h1 : jz q.sv = true) (h2 : jz q.mv = true) (h3 : jz q.iv = true) : ∀ u ∈ pkC q, jz u = true := fun u hu => by
 simp only [pkC, List.mem_cons, List.not_mem_nil, or_false] at hu
 rcases hu with rfl | rfl | rfl | rfl | rfl | rfl | rfl | rfl | rfl | rfl | rfl <;> first | rfl | assumption
theorem pw.cells {w : World} {p : Pk} {ls : List Spn} {lm : List Mem} {lu : List Int} (h : pw w p ls lm lu) : ∀ u ∈ pkC p, jz u = true := bij h.sl.one.1 h.sl.one.2.1 h.sl.one.2.2
theorem bha {w : World} {p : Pk} {ls : List Spn} {lm : List Mem} {lu : List Int} (hp : pw w p ls lm lu) {K : KV} (h : ∀ w', Fr (fun _ => False) w w' → K (pkA (kr p)) w') : gb P F.dm [pkA p] w K := by
 rw [M.x.fcall]
 apply M.x.calls
 unfold M.x
 refine St.sx (St.jh w) fun b1 w1 S1 => ?_
 have S1' : St w w1 (gp b1 (pkC p).toArray T.a :: []) := S1
 obtain ⟨c0, c1, c2, c4, c6, c7, c8, c9, c10, _⟩ := jb S1'
 simp
 have S2 := zv S1'
 generalize w1.heap.size = b2 at *
 generalize w1.alloc _ = w2 at *
 obtain ⟨c0, c1, c2, c4, c6, c7, c8, c9, c10, _⟩ := jb S2.swap
 simp [c0, c1]
 have S3 := zv S2
 generalize w2.heap.size = b3 at *
 generalize w2.alloc _ = w3 at *
 refine acj (q := pk0 p.gr p.tr ic ic 0 false) S3 rfl (avk _ _ _ _ _ _) fun w4 S4 => ?_
 obtain ⟨o1, o2, o3⟩ := hp.sl.one
 obtain ⟨⟨a1, k1, h1⟩, ⟨a2, k2, h2⟩, a3, k3, h3⟩ := hp.one
 have fin : ∀ w' q, kr p = q → St w w' (gp b3 (pkC q).toArray T.a :: gp b2 (pkC pkZ).toArray T.a :: gp b1 (pkC p).toArray T.a :: []) →
   ldN P 11 b3 0 w' fun t w => stT P T.a (.pointer (some ⟨b2, 0, none⟩)) t w fun _ w => qg P T.a (.pointer (some ⟨b2, 0, none⟩)) w fun v w' => w' = w ∧ K v w := fun w' q e S' => by
  rw [qc S', aah]
  refine aqx S'.swap rfl ?_ fun w7 S7 => ?_
  ·rw [← e]
   exact (avd hp).cells
  ·have := h w7 S7.fr
   rwa [e] at this
 obtain ⟨c0, c1, c2, c4, c6, c7, c8, c9, c10, _⟩ := jb S4.up2
 simp only [kj] at c2 c4
 by_cases q1 : p.gr = 1
 ·have e : kr p = ⟨p.gr, p.tr, ic, ic, 0, false, (.slice a1 ls.length k1), ia, ia⟩ := by unfold kr; simp [q1, h1]
  rw [h1] at c8
  rw [h2] at c9
  rw [h3] at c10
  simp [c0, q1]
  unfold M.x.j1
  simp [c2, c4, c6, c7, c8, c9, c10]
  refine S4.ui rfl (by simp [pkC]) fun w5 S5 => ?_
  have S5 : St w w5 (gp b3 (pkC ⟨p.gr, p.tr, ic, ic, 0, false, (.slice a1 ls.length k1), ia, ia⟩).toArray T.a :: _) := S5
  obtain ⟨d0, d1, d2, d4, d6, d7, d8, d9, d10, _⟩ := jb S5.up2
  simp only [kj] at d2 d4
  rw [h1] at d8
  rw [h2] at d9
  rw [h3] at d10
  exact fin _ _ e S5
 by_cases q2 : p.gr = 2
 ·have e : kr p = ⟨p.gr, p.tr, ic, ic, 0, false, (.slice a1 ls.length k1), ia, ia⟩ := by unfold kr; simp [q2, h1]
  rw [h1] at c8
  rw [h2] at c9
  rw [h3] at c10
  simp [c0, q2]
  unfold M.x.j1
  simp [c2, c4, c6, c7, c8, c9, c10]
  refine S4.ui rfl (by simp [pkC]) fun w5 S5 => ?_
  have S5 : St w w5 (gp b3 (pkC ⟨p.gr, p.tr, ic, ic, 0, false, (.slice a1 ls.length k1), ia, ia⟩).toArray T.a :: _) := S5
  obtain ⟨d0, d1, d2, d4, d6, d7, d8, d9, d10, _⟩ := jb S5.up2
  simp only [kj] at d2 d4
  rw [h1] at d8
  rw [h2] at d9
  rw [h3] at d10
  exact fin _ _ e S5
 by_cases q3 : p.gr = 3
 ·have e : kr p = ⟨p.gr, 0, ic, ic, 0, false, ia, (.slice a2 lm.length k2), ia⟩ := by unfold kr; simp [q3, h2]
  rw [h1] at c8
  rw [h2] at c9
  rw [h3] at c10
  simp [c0, q3]
  unfold M.x.j1
  simp [c2, c4, c6, c7, c8, c9, c10]
  refine S4.ui rfl (by simp [pkC]) fun w5 S5 => ?_
  have S5 : St w w5 (gp b3 (pkC ⟨p.gr, 0, ic, ic, 0, false, ia, ia, ia⟩).toArray T.a :: _) := S5
  obtain ⟨d0, d1, d2, d4, d6, d7, d8, d9, d10, _⟩ := jb S5.up2
  simp only [kj] at d2 d4
  rw [h1] at d8
  rw [h2] at d9
  rw [h3] at d10
  simp [d2, d4, d6, d7, d8, d9, d10]
  refine S5.ui rfl (by simp [pkC]) fun w6 S6 => ?_
  have S6 : St w w6 (gp b3 (pkC ⟨p.gr, 0, ic, ic, 0, false, ia, (.slice a2 lm.length k2), ia⟩).toArray T.a :: _) := S6
  obtain ⟨d0, d1, d2, d4, d6, d7, d8, d9, d10, _⟩ := jb S6.up2
  simp only [kj] at d2 d4
  rw [h1] at d8
  rw [h2] at d9
  rw [h3] at d10
  exact fin _ _ e S6
 by_cases q4 : p.gr = 4
 ·have e : kr p = ⟨p.gr, p.tr, p.b, ic, 0, false, ia, ia, ia⟩ := by unfold kr; simp [q4]
  rw [h1] at c8
  rw [h2] at c9
  rw [h3] at c10
  simp [c0, q4]
  unfold M.x.j1
  simp [c2, c4, c6, c7, c8, c9, c10]
  refine St.put (cs' := (pkC ⟨p.gr, p.tr, p.b, ic, 0, false, ia, ia, ia⟩).toArray) (vs := [.int .u64 p.b.n, .int .u64 p.b.iy]) S4 (by simp) (by simp [pkC]) rfl fun w5 S5 => ?_
  obtain ⟨d0, d1, d2, d4, d6, d7, d8, d9, d10, _⟩ := jb S5.up2
  simp only [kj] at d2 d4
  rw [h1] at d8
  rw [h2] at d9
  rw [h3] at d10
  exact fin _ _ e S5
 by_cases q5 : p.gr = 5
 ·have e : kr p = ⟨p.gr, p.tr, p.b, p.jd, p.v, p.ok, ia, ia, ia⟩ := by unfold kr; simp [q5]
  have S4 := S4.jg ((Fr.refl _ w4).dr 1)
  obtain ⟨d0, d1, d2, d4, d6, d7, d8, d9, d10, _⟩ := jb S4.up2
  simp only [un, kj] at d2 d4 d6 d7 d8
  rw [h1] at d8
  simp [c0, q5]
  unfold M.x.j1
  simp [d2, d4, d6, d7, d8]
  refine St.put (cs' := (pkC ⟨p.gr, p.tr, p.b, ic, 0, false, ia, ia, ia⟩).toArray) (vs := [.int .u64 p.b.n, .int .u64 p.b.iy]) S4 (by simp) (by simp [pkC]) rfl fun w5 S5 => ?_
  obtain ⟨d0, d1, d2, d4, d6, d7, d8, d9, d10, _⟩ := jb S5.up2
  simp only [kj] at d2 d4
  rw [h1] at d8
  rw [h2] at d9
  rw [h3] at d10
  simp [d2, d4, d6, d7, d8, d9, d10]
  refine S5.ui rfl (by simp [pkC]) fun w6 S6 => ?_
  have S6 : St w w6 (gp b3 (pkC ⟨p.gr, p.tr, p.b, ic, 0, p.ok, ia, ia, ia⟩).toArray T.a :: _) := S6
  obtain ⟨d0, d1, d2, d4, d6, d7, d8, d9, d10, _⟩ := jb S6.up2
  simp only [kj] at d2 d4
  rw [h1] at d8
  rw [h2] at d9
  rw [h3] at d10
  simp [d2, d4, d6, d7, d8, d9, d10]
  refine St.put (cs' := (pkC ⟨p.gr, p.tr, p.b, p.jd, 0, p.ok, ia, ia, ia⟩).toArray) (vs := [.int .u64 p.jd.n, .int .u64 p.jd.iy]) S6 (by simp) (by simp [pkC]) rfl fun w7 S7 => ?_
  obtain ⟨d0, d1, d2, d4, d6, d7, d8, d9, d10, _⟩ := jb S7.up2
  simp only [kj] at d2 d4
  rw [h1] at d8
  rw [h2] at d9
  rw [h3] at d10
  simp [d2, d4, d6, d7, d8, d9, d10]
  refine S7.ui rfl (by simp [pkC]) fun w8 S8 => ?_
  have S8 : St w w8 (gp b3 (pkC ⟨p.gr, p.tr, p.b, p.jd, p.v, p.ok, ia, ia, ia⟩).toArray T.a :: _) := S8
  obtain ⟨d0, d1, d2, d4, d6, d7, d8, d9, d10, _⟩ := jb S8.up2
  simp only [kj] at d2 d4
  rw [h1] at d8
  rw [h2] at d9
  rw [h3] at d10
  exact fin _ _ e S8
 by_cases q6 : p.gr = 6
 ·have e : kr p = ⟨p.gr, p.tr, p.b, ic, p.v, false, ia, ia, ia⟩ := by unfold kr; simp [q6]
  have S4 := S4.jg ((Fr.refl _ w4).dr 1)
  obtain ⟨d0, d1, d2, d4, d6, d7, d8, d9, d10, _⟩ := jb S4.up2
  simp only [un, kj] at d2 d4 d6 d7 d8
  rw [h1] at d8
  simp [c0, q6]
  unfold M.x.j1
  simp [d2, d4, d6, d7, d8]
  refine St.put (cs' := (pkC ⟨p.gr, p.tr, p.b, ic, 0, false, ia, ia, ia⟩).toArray) (vs := [.int .u64 p.b.n, .int .u64 p.b.iy]) S4 (by simp) (by simp [pkC]) rfl fun w5 S5 => ?_
  obtain ⟨d0, d1, d2, d4, d6, d7, d8, d9, d10, _⟩ := jb S5.up2
  simp only [kj] at d2 d4
  rw [h1] at d8
  rw [h2] at d9
  rw [h3] at d10
  simp [d2, d4, d6, d7, d8, d9, d10]
  refine S5.ui rfl (by simp [pkC]) fun w6 S6 => ?_
  have S6 : St w w6 (gp b3 (pkC ⟨p.gr, p.tr, p.b, ic, p.v, false, ia, ia, ia⟩).toArray T.a :: _) := S6
  obtain ⟨d0, d1, d2, d4, d6, d7, d8, d9, d10, _⟩ := jb S6.up2
  simp only [kj] at d2 d4
  rw [h1] at d8
  rw [h2] at d9
  rw [h3] at d10
  exact fin _ _ e S6
 by_cases q7 : p.gr = 7
 ·have e : kr p = ⟨p.gr, p.tr, p.b, p.jd, 0, p.ok, ia, ia, ia⟩ := by unfold kr; simp [q7]
  have S4 := S4.jg ((Fr.refl _ w4).dr 1)
  obtain ⟨d0, d1, d2, d4, d6, d7, d8, d9, d10, _⟩ := jb S4.up2
  simp only [un, kj] at d2 d4 d6 d7 d8
  rw [h1] at d8
  simp [c0, q7]
  unfold M.x.j1
  simp [d2, d4, d6, d7, d8]
  refine St.put (cs' := (pkC ⟨p.gr, p.tr, p.b, ic, 0, false, ia, ia, ia⟩).toArray) (vs := [.int .u64 p.b.n, .int .u64 p.b.iy]) S4 (by simp) (by simp [pkC]) rfl fun w5 S5 => ?_
  obtain ⟨d0, d1, d2, d4, d6, d7, d8, d9, d10, _⟩ := jb S5.up2
  simp only [kj] at d2 d4
  rw [h1] at d8
  rw [h2] at d9
  rw [h3] at d10
  simp [d2, d4, d6, d7, d8, d9, d10]
  refine S5.ui rfl (by simp [pkC]) fun w6 S6 => ?_
  have S6 : St w w6 (gp b3 (pkC ⟨p.gr, p.tr, p.b, ic, 0, p.ok, ia, ia, ia⟩).toArray T.a :: _) := S6
  obtain ⟨d0, d1, d2, d4, d6, d7, d8, d9, d10, _⟩ := jb S6.up2
  simp only [kj] at d2 d4
  rw [h1] at d8
  rw [h2] at d9
  rw [h3] at d10
  simp [d2, d4, d6, d7, d8, d9, d10]
  refine St.put (cs' := (pkC ⟨p.gr, p.tr, p.b, p.jd, 0, p.ok, ia, ia, ia⟩).toArray) (vs := [.int .u64 p.jd.n, .int .u64 p.jd.iy]) S6 (by simp) (by simp [pkC]) rfl fun w7 S7 => ?_
  obtain ⟨d0, d1, d2, d4, d6, d7, d8, d9, d10, _⟩ := jb S7.up2
  simp only [kj] at d2 d4
  rw [h1] at d8
  rw [h2] at d9
  rw [h3] at d10
  exact fin _ _ e S7
 by_cases q8 : p.gr = 8
 ·have e : kr p = ⟨p.gr, p.tr, ic, ic, p.v, false, ia, ia, ia⟩ := by unfold kr; simp [q8]
  rw [h1] at c8
  rw [h2] at c9
  rw [h3] at c10
  simp [c0, q8]
  unfold M.x.j1
  simp [c2, c4, c6, c7, c8, c9, c10]
  refine S4.ui rfl (by simp [pkC]) fun w5 S5 => ?_
  have S5 : St w w5 (gp b3 (pkC ⟨p.gr, p.tr, ic, ic, p.v, false, ia, ia, ia⟩).toArray T.a :: _) := S5
  obtain ⟨d0, d1, d2, d4, d6, d7, d8, d9, d10, _⟩ := jb S5.up2
  simp only [kj] at d2 d4
  rw [h1] at d8
  rw [h2] at d9
  rw [h3] at d10
  exact fin _ _ e S5
 by_cases q9 : p.gr = 9
 ·have e : kr p = ⟨p.gr, p.tr, p.b, ic, 0, false, (.slice a1 ls.length k1), ia, ia⟩ := by unfold kr; simp [q9, h1]
  have S4 := S4.jg ((Fr.refl _ w4).dr 1)
  obtain ⟨d0, d1, d2, d4, d6, d7, d8, d9, d10, _⟩ := jb S4.up2
  simp only [un, kj] at d2 d4 d6 d7 d8
  rw [h1] at d8
  simp [c0, q9]
  unfold M.x.j1
  simp [d2, d4, d6, d7, d8]
  refine St.put (cs' := (pkC ⟨p.gr, p.tr, p.b, ic, 0, false, ia, ia, ia⟩).toArray) (vs := [.int .u64 p.b.n, .int .u64 p.b.iy]) S4 (by simp) (by simp [pkC]) rfl fun w5 S5 => ?_
  obtain ⟨d0, d1, d2, d4, d6, d7, d8, d9, d10, _⟩ := jb S5.up2
  simp only [kj] at d2 d4
  rw [h1] at d8
  rw [h2] at d9
  rw [h3] at d10
  simp [d2, d4, d6, d7, d8, d9, d10]
  refine S5.ui rfl (by simp [pkC]) fun w6 S6 => ?_
  have S6 : St w w6 (gp b3 (pkC ⟨p.gr, p.tr, p.b, ic, 0, false, (.slice a1 ls.length k1), ia, ia⟩).toArray T.a :: _) := S6
  obtain ⟨d0, d1, d2, d4, d6, d7, d8, d9, d10, _⟩ := jb S6.up2
  simp only [kj] at d2 d4
  rw [h1] at d8
  rw [h2] at d9
  rw [h3] at d10
  exact fin _ _ e S6
 by_cases q10 : p.gr = 10
 ·have e : kr p = ⟨p.gr, p.tr, ic, ic, 0, false, ia, ia, (.slice a3 lu.length k3)⟩ := by unfold kr; simp [q10, h3]
  rw [h1] at c8
  rw [h2] at c9
  rw [h3] at c10
  simp [c0, q10]
  unfold M.x.j1
  simp [c2, c4, c6, c7, c8, c9, c10]
  refine S4.ui rfl (by simp [pkC]) fun w5 S5 => ?_
  have S5 : St w w5 (gp b3 (pkC ⟨p.gr, p.tr, ic, ic, 0, false, ia, ia, (.slice a3 lu.length k3)⟩).toArray T.a :: _) := S5
  obtain ⟨d0, d1, d2, d4, d6, d7, d8, d9, d10, _⟩ := jb S5.up2
  simp only [kj] at d2 d4
  rw [h1] at d8
  rw [h2] at d9
  rw [h3] at d10
  exact fin _ _ e S5
 have e : kr p = ⟨p.gr, p.tr, ic, ic, 0, false, ia, ia, ia⟩ := by unfold kr; simp [q1, q2, q3, q4, q5, q6, q7, q8, q9, q10]
 simp [c0, q1, q2]
 unfold M.x.j1
 simp [q3, q4, q5, q6, q7, q8, q9, q10]
 exact fin _ _ e S4
def bme (W : World) (l1 l2 : List Spn) : KL := fun x w1 => ∃ (u0 u1 : Value) (i : Nat), x = [u0, u1, .int .i64 (i : Nat)] ∧ i ≤ l1.length ∧ (∀ j (h1 : j < l1.length) (h2 : j < l2.length), j < i → ub l1[j] l2[j] = true) ∧ Fr (fun _ => False) W w1
def bmy (W : World) (l1 l2 : List Int) : KL := fun x w1 => ∃ (u0 u1 : Value) (i : Nat), x = [u0, u1, .int .i64 (i : Nat)] ∧ i ≤ l1.length ∧ (∀ j (h1 : j < l1.length) (h2 : j < l2.length), j < i → l1[j] = l2[j]) ∧ Fr (fun _ => False) W w1
theorem bbs {w : World} {v1 v2 : Value} {l1 l2 : List Spn} (s1 : SlS w v1 l1) (s2 : SlS w v2 l2) (hlen : l1.length ≤ 1000000) {K : KV} (h : ∀ w', Fr (fun _ => False) w w' → K (.bool (qw l1 l2)) w') : gb P F.bg [v1, v2] w K := by
 rw [M.n.fcall]
 apply M.n.calls
 unfold M.n
 simp only [gg]
 rw [s1.im (by kernel_rfl), s2.im (by kernel_rfl)]
 by_cases hne : l1.length = l2.length
 ·simp [hne]
  unfold M.n.j0
  simp only [gg]
  rw [s1.im (by kernel_rfl)]
  refine ⟨bme w l1 l2, fun x _ => l1.length - ms x 2, ⟨_, _, 0, rfl, Nat.zero_le _, fun j _ _ h => by omega, Fr.refl _ _⟩, ?_⟩
  rintro x w1 ⟨u0, u1, i, rfl, hi, hpre, f1⟩
  by_cases hil : i < l1.length
  ·have hili : (i : Int) < (l1.length : Int) := by omega
   obtain ⟨b1, o1, cap1, hv1, _, _, e1⟩ := (s1.fr f1 fun _ _ _ h => h : SlS w1 v1 l1).at hil
   obtain ⟨b2, o2, cap2, hv2, _, _, e2⟩ := (s2.fr f1 fun _ _ _ h => h : SlS w1 v2 l2).at (show i < l2.length by omega)
   have hl2i : i < l2.length := by omega
   have q1 : ∀ w' K, iaT P T.c v1 (.int .i64 (i : Nat)) w' K = K (.pointer (some ⟨b1, o1 + i * 8, none⟩)) w' := fun w' K => by rw [hv1]; simp [hil]
   have q2 : ∀ w' K, iaT P T.c v2 (.int .i64 (i : Nat)) w' K = K (.pointer (some ⟨b2, o2 + i * 8, none⟩)) w' := fun w' K => by rw [hv2]; simp [hl2i]
   have g1 : ∀ K, ldN P 8 b1 (o1 + i * 8) (dr w1 1) K = K (jx l1[i]) (dr w1 1) := fun K => ldS (fun k v hk => by rw [un]; exact e1 k v hk) K
   have g2 : ∀ K, ldN P 8 b2 (o2 + i * 8) (dr w1 1) K = K (jx l2[i]) (dr w1 1) := fun K => ldS (fun k v hk => by rw [un]; exact e2 k v hk) K
   have hw : IntKind.i64.wrap ((i : Int) + 1) = ((i + 1 : Nat) : Int) := by rw [gm (by omega) (by omega)]; omega
   simp [hili]
   unfold M.n.j3
   simp [q1, q2, g1, g2, ahx]
   cases hs : ub l1[i] l2[i] with
   | true =>
    simp
    rw [hw]
    refine ⟨⟨_, _, i + 1, rfl, hil, fun j a1 a2 hj => ?_, f1.dr 1⟩, by simp [ms, gv]; omega⟩
    by_cases hji : j = i
    ·subst hji; exact hs
    ·exact hpre j a1 a2 (by omega)
   | false =>
    simp
    have := h _ (f1.dr 1)
    rw [anj hil hl2i hs] at this
    exact this
  ·have hili : ¬ (i : Int) < (l1.length : Int) := by omega
   simp [hili]
   have := h w1 f1
   rw [aey hne fun j a1 a2 => hpre j a1 a2 (by omega)] at this
   exact this
 ·have hni : ¬ (l1.length : Int) = (l2.length : Int) := by omega
  simp [hni]
  have := h w (Fr.refl _ _)
  have hz : qw l1 l2 = false := by unfold qw; simp [hne]
  rw [hz] at this
  exact this
theorem bbc {w : World} {v1 v2 : Value} {l1 l2 : List Int} (s1 : SlU w v1 l1) (s2 : SlU w v2 l2) (hlen : l1.length ≤ 1000000) {K : KV} (h : ∀ w', Fr (fun _ => False) w w' → K (.bool (decide (l1 = l2))) w') : gb P F.bl [v1, v2] w K := by
 rw [M.t.fcall]
 apply M.t.calls
 unfold M.t
 simp only [gg]
 rw [s1.im (by kernel_rfl), s2.im (by kernel_rfl)]
 by_cases hne : l1.length = l2.length
 ·simp [hne]
  unfold M.t.j0
  simp only [gg]
  rw [s1.im (by kernel_rfl)]
  refine ⟨bmy w l1 l2, fun x _ => l1.length - ms x 2, ⟨_, _, 0, rfl, Nat.zero_le _, fun j _ _ h => by omega, Fr.refl _ _⟩, ?_⟩
  rintro x w1 ⟨u0, u1, i, rfl, hi, hpre, f1⟩
  by_cases hil : i < l1.length
  ·have hili : (i : Int) < (l1.length : Int) := by omega
   have hl2i : i < l2.length := by omega
   obtain ⟨b1, o1, cap1, hv1, _, e1⟩ := adi (s1.fr f1 fun _ _ _ h => h : SlU w1 v1 l1) hil
   obtain ⟨b2, o2, cap2, hv2, _, e2⟩ := adi (s2.fr f1 fun _ _ _ h => h : SlU w1 v2 l2) hl2i
   have q1 : ∀ w' K, iaT P T.k v1 (.int .i64 (i : Nat)) w' K = K (.pointer (some ⟨b1, o1 + i, none⟩)) w' := fun w' K => by rw [hv1]; simp [hil]
   have q2 : ∀ w' K, iaT P T.k v2 (.int .i64 (i : Nat)) w' K = K (.pointer (some ⟨b2, o2 + i, none⟩)) w' := fun w' K => by rw [hv2]; simp [hl2i]
   have hw : IntKind.i64.wrap ((i : Int) + 1) = ((i + 1 : Nat) : Int) := by rw [gm (by omega) (by omega)]; omega
   simp [hili]
   unfold M.t.j3
   simp [q1, q2, e1, e2]
   by_cases hs : l1[i] = l2[i]
   ·simp [hs]
    rw [hw]
    refine ⟨⟨_, _, i + 1, rfl, hil, fun j a1 a2 hj => ?_, f1.dr 1⟩, by simp [ms, gv]; omega⟩
    by_cases hji : j = i
    ·subst hji; exact hs
    ·exact hpre j a1 a2 (by omega)
   ·simp [hs]
    have := h _ (f1.dr 1)
    rw [decide_eq_false fun he => hs (by simp [he])] at this
    exact this
  ·have hili : ¬ (i : Int) < (l1.length : Int) := by omega
   simp [hili]
   have := h w1 f1
   rw [decide_eq_true (ass hne fun j a1 a2 => hpre j a1 a2 (by omega))] at this
   exact this
 ·have hni : ¬ (l1.length : Int) = (l2.length : Int) := by omega
  simp [hni]
  have := h w (Fr.refl _ _)
  rw [decide_eq_false fun he => hne (congrArg List.length he)] at this
  exact this
theorem bff {w : World} {p q : Pk} {ls ls' : List Spn} {lm lm' : List Mem} {lu lu' : List Int} (hp : pw w p ls lm lu) (hq : pw w q ls' lm' lu') {K : KV}
  (h : ∀ w', Fr (fun _ => False) w w' → K (.bool (px p q ls ls' lm lm' lu lu')) w') : gb P F.eh [pkA p, pkA q] w K := by
 rw [M.dr.fcall]
 apply M.dr.calls
 unfold M.dr
 rw [aql hp, aql (hq.fr ((Fr.refl _ w).alloc _))]
 have S1 : St w (w.alloc (.cells (pkC p).toArray T.a)) (gp w.heap.size (pkC p).toArray T.a :: []) := (St.jh w).add ((Fr.refl _ w).alloc _) (B := fun x => x = w.heap.size) ⟨by rw [ie, if_pos rfl], rfl⟩ fun x hx => by subst hx; rw [jl]; omega
 generalize w.alloc (.cells (pkC p).toArray T.a) = w1 at *
 have S2 : St w (w1.alloc (.cells (pkC q).toArray T.a)) (gp w1.heap.size (pkC q).toArray T.a :: _) := S1.add ((Fr.refl _ w1).alloc _) (B := fun x => x = w1.heap.size) ⟨by rw [ie, if_pos rfl], rfl⟩ fun x hx => by subst hx; rw [jl]; omega
 generalize w1.alloc (.cells (pkC q).toArray T.a) = w2 at *
 generalize w.heap.size = pb at *
 generalize w1.heap.size = qb at *
 obtain ⟨q0, q1, q2, q4, q6, q7, q8, q9, q10, _⟩ := jb S2
 obtain ⟨p0, p1, p2, p4, p6, p7, p8, p9, p10, _⟩ := jb S2.swap
 have hbo : aes P T.ao = true := by kernel_rfl
 have no : ∀ bb : Bool, bb = false → (lc p q = false) → K (.bool bb) w2 := fun bb hb hl => by
  subst hb
  have := h w2 S2.fr
  unfold px at this
  rw [hl, Bool.and_false, Bool.and_false, Bool.and_false] at this
  exact this
 by_cases a0 : p.gr = q.gr
 case neg =>
  simp [p0, q0, a0]
  exact no false rfl (by simp [lc, a0])
 by_cases a1 : p.tr = q.tr
 case neg =>
  simp [p0, q0, a0, p1, q1, a1]
  exact no false rfl (by simp [lc, a1])
 by_cases a2 : p.b = q.b
 case neg =>
  simp [p0, q0, a0, p1, q1, a1, p2, q2, vd, a2]
  exact no false rfl (by simp [lc, a2])
 by_cases a3 : p.jd = q.jd
 case neg =>
  simp [p0, q0, a0, p1, q1, a1, p2, q2, vd, a2, p4, q4, a3]
  exact no false rfl (by simp [lc, a3])
 by_cases a4 : p.v = q.v
 case neg =>
  simp [p0, q0, a0, p1, q1, a1, p2, q2, vd, a2, p4, q4, a3, p6, q6, a4]
  exact no false rfl (by simp [lc, a4])
 by_cases a5 : p.ok = q.ok
 case neg =>
  have a5' : (p.ok == q.ok) = false := by simpa using a5
  simp [p0, q0, a0, p1, q1, a1, p2, q2, vd, a2, p4, q4, a3, p6, q6, a4, p7, q7, aeh hbo, a5']
  exact no false rfl (by simp [lc, a5])
 obtain ⟨⟨sa, sc, es⟩, ⟨ma, mc, em⟩, ua, uc, eu⟩ := hp.one
 obtain ⟨⟨sa', sc', es'⟩, ⟨ma', mc', em'⟩, ua', uc', eu'⟩ := hq.one
 simp [p0, q0, a0, p1, q1, a1, p2, q2, vd, a2, p4, q4, a3, p6, q6, a4, p7, q7, aeh hbo, a5, p8, q8]
 have hp2 := hp.fr S2.fr
 have hq2 := hq.fr S2.fr
 have fb : lc p q = true := by simp [lc, a0, a1, a2, a3, a4, a5]
 have fin := h
 unfold px at fin
 rw [fb] at fin
 refine bbs hp2.s hq2.s hp.ls fun w3 f3 => ?_
 have S3 := S2.jg f3
 obtain ⟨_, _, _, _, _, _, _, q9, _, _⟩ := jb S3
 obtain ⟨_, _, _, _, _, _, _, p9, _, _⟩ := jb S3.swap
 have hp3 := hp.fr S3.fr
 have hq3 := hq.fr S3.fr
 cases hb1 : qw ls ls' with
 | false =>
  simp
  have := fin w3 S3.fr
  rw [hb1] at this
  simpa using this
 | true =>
 rw [hb1] at fin
 simp [p9, q9]
 refine bag hp3.m hq3.m hp.lm fun w4 f4 => ?_
 have S4 := S3.jg f4
 obtain ⟨_, _, _, _, _, _, _, _, q10, _⟩ := jb S4
 obtain ⟨_, _, _, _, _, _, _, _, p10, _⟩ := jb S4.swap
 have hp4 := hp.fr S4.fr
 have hq4 := hq.fr S4.fr
 by_cases hm : lm = lm'
 case neg =>
  simp [hm]
  have := fin w4 S4.fr
  simpa [hm] using this
 simp [hm, p10, q10]
 refine bbc hp4.u hq4.u hp.lu fun w5 f5 => ?_
 have := fin w5 (S4.jg f5).fr
 simpa [hm] using this
def byt (s : ByteArray) (k : Nat) : Nat := (s.get! k).toNat
theorem bai (s : ByteArray) {i : Nat} (h : i < s.size) {k : IntKind} (w : World) (K : KV) : ixT P T.ad (.string s) (.int k (i : Int)) w K = K (.int .u8 (byt s i)) w := by
 have hu : P.underlying T.ad = some .string := vg ale
 have hg : s[i]? = some (s.get! i) := by
  rw [getElem?_pos s i h]
  have e : s.get! i = s[i]'h := by
   simp [ByteArray.get!, getElem!_pos, h]
   rfl
  rw [e]
 simp [ixT, je, Instr.index, asIntOf, Sem.run_bind, iz hu, Result.andThen, Sem.run_pure, hg, byt]
theorem biz {s d : TypeId} {ks k2 : IntKind} (hs : P.underlying s = some (.int ks)) (hd : P.underlying d = some (.int k2)) (k : IntKind) (x : Int) (w : World) (K : KV) : cvT P s d (.int k x) w K = K (.int k2 (k2.wrap x)) w := by
 simp [cvT, je, convert, Sem.run_bind, iz hs, iz hd, Result.andThen, Conv.intToInt, Sem.run_pure]
def ka (t : ByteArray) (r : Nat) : Nat → Nat
 | 0 => r
 | k + 1 => ka t r k * 64 + byt t (k + 1) - 128
def tj (t : ByteArray) (k : Nat) : Bool := decide (128 ≤ byt t k) && decide (byt t k ≤ 191)
def na (b0 : Nat) : Nat × Nat × Nat := if 194 ≤ b0 ∧ b0 ≤ 223 then (2, 128, b0 - 192) else if 224 ≤ b0 ∧ b0 ≤ 239 then (3, 2048, b0 - 224) else if 240 ≤ b0 ∧ b0 ≤ 244 then (4, 65536, b0 - 240) else (0, 0, 0)
def sw (t : ByteArray) : Nat → Bool
 | 0 => true
 | k + 1 => sw t k && tj t (k + 1)
def rr (t : ByteArray) : Nat × Nat :=
 if t.size = 0 then (0, 0) else if byt t 0 < 128 then (byt t 0, 1) else
 if (na (byt t 0)).1 = 0 ∨ t.size < (na (byt t 0)).1 then (0, 0) else
 if sw t ((na (byt t 0)).1 - 1) = false then (0, 0) else
 if ka t (na (byt t 0)).2.2 ((na (byt t 0)).1 - 1) < (na (byt t 0)).2.1 ∨ 1114111 < ka t (na (byt t 0)).2.2 ((na (byt t 0)).1 - 1) ∨ (55296 ≤ ka t (na (byt t 0)).2.2 ((na (byt t 0)).1 - 1) ∧ ka t (na (byt t 0)).2.2 ((na (byt t 0)).1 - 1) ≤ 57343) then (0, 0) else (ka t (na (byt t 0)).2.2 ((na (byt t 0)).1 - 1), (na (byt t 0)).1)
theorem ahc (t : ByteArray) (k : Nat) : byt t k < 256 := UInt8.toNat_lt _
theorem atd (t : ByteArray) {r : Nat} (hr : r ≤ 31) : ∀ k, sw t k = true → ka t r k + 1 ≤ 32 * 64 ^ k
 | 0, _ => by simp [ka]; omega
 | k + 1, h => by
  simp only [sw, Bool.and_eq_true, tj, decide_eq_true_eq] at h
  have := atd t hr k h.1
  simp only [ka, Nat.pow_succ]
  omega
theorem ahs (x : Int) (w : World) (K : KV) : cvT P T.ak T.ap (.int .u8 x) w K = K (.int .i32 (IntKind.i32.wrap x)) w := biz (ks := .u8) (by kernel_rfl) (by kernel_rfl) .u8 x w K
theorem wt {x : Int} (h0 : -2147483648 ≤ x) (h1 : x < 2147483648) : IntKind.i32.wrap x = x := by
 show (if (true && decide (x % 4294967296 ≥ 2147483648)) = true then x % 4294967296 - 4294967296 else x % 4294967296) = x
 by_cases h : x % 4294967296 ≥ 2147483648
 ·simp [h]; omega
 ·simp [h]; omega
theorem aiz {t : ByteArray} {k : Nat} (h : tj t (k + 1) = false) : ∀ {n : Nat}, k + 1 < n → sw t (n - 1) = false
 | 0, hn => by omega
 | n + 1, hn => by
  rw [Nat.add_sub_cancel]
  by_cases hk : k + 1 = n
  ·subst hk; simp [sw, h]
  ·have := aiz h (n := n) (by omega)
   cases n with
   | zero => omega
   | succ n => rw [Nat.add_sub_cancel] at this; simp [sw, this]
def bku (w : World) (t : ByteArray) (r n : Nat) : KL := fun x w1 => ∃ (a b : Value) (k : Nat), x = [a, b, .int .i32 (ka t r k : Nat), .int .i64 ((k + 1 : Nat) : Int)] ∧ w1 = w ∧ k + 1 ≤ n ∧ sw t k = true
theorem azd {w : World} {t : ByteArray} {n least r : Nat} (hn : 2 ≤ n) (hn4 : n ≤ 4) (hr : r ≤ 31) (hl : least ≤ 65536) (hsz : n ≤ t.size) {x3 x2 : List Value} (e1 : gv x2 1 = .int .i64 (n : Nat)) (e2 : gv x2 2 = .int .i32 (least : Nat)) (e3 : gv x2 3 = .int .i32 (r : Nat)) {K : KV}
  (h : K (.tuple #[.int .i32 ((if sw t (n - 1) = false then 0 else if ka t r (n - 1) < least ∨ 1114111 < ka t r (n - 1) ∨ (55296 ≤ ka t r (n - 1) ∧ ka t r (n - 1) ≤ 57343) then 0 else ka t r (n - 1) : Nat) : Int), .int .i64 ((if sw t (n - 1) = false then 0 else if ka t r (n - 1) < least ∨ 1114111 < ka t r (n - 1) ∨ (55296 ≤ ka t r (n - 1) ∧ ka t r (n - 1) ≤ 57343) then 0 else n : Nat) : Int)]) w) :
  M.g.j3 x3 x2 (.string t) w K := by
 unfold M.g.j3
 simp only [gg, e3]
 refine ⟨bku w t r n, fun x _ => n - ms x 3, ⟨_, _, 0, rfl, rfl, by omega, rfl⟩, ?_⟩
 rintro x w1 ⟨a, b, k, rfl, rfl, hk, hc⟩
 have g2 : gv [a, b, .int .i32 (ka t r k : Nat), .int .i64 ((k + 1 : Nat) : Int)] 2 = .int .i32 (ka t r k : Nat) := rfl
 have g3 : gv [a, b, .int .i32 (ka t r k : Nat), .int .i64 ((k + 1 : Nat) : Int)] 3 = .int .i64 ((k + 1 : Nat) : Int) := rfl
 simp only [e1, g3]
 have hb := atd t hr k hc
 have hp : (64 : Nat) ^ k ≤ 64 ^ 3 := Nat.pow_le_pow_right (by omega) (by omega)
 by_cases hlt : k + 1 < n
 ·have hlt' : ((k + 1 : Nat) : Int) < n := by omega
  have hix : ∀ K, ixT P T.ad (.string t) (.int .i64 ((k + 1 : Nat) : Int)) w1 K = K (.int .u8 (byt t (k + 1))) w1 := fun K => bai t (by omega) w1 K
  simp only [km, hlt', decide_true, Eng.cond_true]
  unfold M.g.j6
  have hix' := hix
  push_cast at hix'
  have hbl := ahc t (k + 1)
  have hw : IntKind.i64.wrap (((k + 1 : Nat) : Int) + 1) = ((k + 1 + 1 : Nat) : Int) := by rw [gm (by omega) (by omega)]; rfl
  simp only [gg, g2, g3, hix]
  by_cases h1 : byt t (k + 1) < 128
  ·have h1' : (byt t (k + 1) : Int) < 128 := by omega
   have hcf : sw t (n - 1) = false := aiz (by simp [tj]; omega) hlt
   simp [h1']
   rw [hcf] at h
   simpa using h
  ·have h1' : ¬ (byt t (k + 1) : Int) < 128 := by omega
   by_cases h2 : 191 < byt t (k + 1)
   ·have h2' : (191 : Int) < byt t (k + 1) := by omega
    have hcf : sw t (n - 1) = false := aiz (by simp [tj]; omega) hlt
    simp [h1', hix', h2']
    rw [hcf] at h
    simpa using h
   ·have h2' : ¬ (191 : Int) < byt t (k + 1) := by omega
    simp [h1', hix', h2']
    unfold M.g.j8
    have hm1 : IntKind.i32.wrap ((ka t r k : Int) * 64) = (ka t r k : Int) * 64 := wt (by omega) (by omega)
    have hm2 : IntKind.i32.wrap (byt t (k + 1) : Int) = byt t (k + 1) := wt (by omega) (by omega)
    have hm3 : IntKind.i32.wrap ((ka t r k : Int) * 64 + byt t (k + 1)) = (ka t r k : Int) * 64 + byt t (k + 1) := wt (by omega) (by omega)
    have hm4 : IntKind.i32.wrap ((ka t r k : Int) * 64 + byt t (k + 1) - 128) = ((ka t r (k + 1) : Nat) : Int) := by
     rw [wt (by omega) (by omega)]
     simp only [ka]; omega
    push_cast at g2 g3 hw
    simp only [g2, g3, hix', ahs, uk, kh, kt, hm1, hm2, hm3, hm4, hw]
    refine ⟨⟨_, _, k + 1, rfl, rfl, by omega, by simp [sw, hc, tj]; omega⟩, ?_⟩
    simp [ms, gv]; omega
 ·have hke : n - 1 = k := by omega
  have hlt' : ¬ ((k + 1 : Nat) : Int) < n := by omega
  rw [hke, hc] at h
  simp only [km, hlt', decide_false, Eng.cond_false]
  unfold M.g.j4
  have q3 : ∀ p q s u : Value, gv [p, q, s, u] 3 = u := fun _ _ _ _ => rfl
  simp only [gg, q3, g2, e1, e2]
  generalize ka t r k = v at *
  simp only [Bool.true_eq_false, if_false] at h
  by_cases a1 : v < least
  ·have a1' : (v : Int) < least := by omega
   simp [a1, a1'] at h ⊢
   exact h
  by_cases a2 : 1114111 < v
  ·have a1' : ¬ (v : Int) < least := by omega
   have a2' : (1114111 : Int) < v := by omega
   simp [a1, a1', a2, a2'] at h ⊢
   exact h
  by_cases a3 : 55296 ≤ v
  ·by_cases a4 : v ≤ 57343
   ·have a1' : ¬ (v : Int) < least := by omega
    have a2' : ¬ (1114111 : Int) < v := by omega
    have a3' : (55296 : Int) ≤ v := by omega
    have a4' : (v : Int) ≤ 57343 := by omega
    simp [a1, a1', a2, a2', a3, a3', a4, a4'] at h ⊢
    exact h
   ·have a1' : ¬ (v : Int) < least := by omega
    have a2' : ¬ (1114111 : Int) < v := by omega
    have a3' : (55296 : Int) ≤ v := by omega
    have a4' : ¬ (v : Int) ≤ 57343 := by omega
    simp [a1, a1', a2, a2', a3, a3', a4, a4'] at h ⊢
    exact h
  ·have a1' : ¬ (v : Int) < least := by omega
   have a2' : ¬ (1114111 : Int) < v := by omega
   have a3' : ¬ (55296 : Int) ≤ v := by omega
   simp [a1, a1', a2, a2', a3, a3'] at h ⊢
   exact h
theorem bhe {w : World} (t : ByteArray) {K : KV} (h : K (.tuple #[.int .i32 ((rr t).1 : Nat), .int .i64 ((rr t).2 : Nat)]) w) : jr P F.dr [.string t] w K := by
 apply M.g.calls
 unfold M.g
 simp only [gg]
 unfold rr at h
 by_cases h0 : t.size = 0
 ·simp [h0] at h ⊢
  exact h
 have hsz : 0 < t.size := by omega
 have hix : ∀ K, ixT P T.ad (.string t) (.int .i64 0) w K = K (.int .u8 (byt t 0)) w := fun K => bai t hsz w K
 have hbl := ahc t 0
 have hw0 : IntKind.i32.wrap (byt t 0 : Int) = byt t 0 := wt (by omega) (by omega)
 simp [h0] at h ⊢
 unfold M.g.j0
 simp only [gg, hix]
 by_cases h1 : byt t 0 < 128
 ·have h1' : (byt t 0 : Int) < 128 := by omega
  simp [h1, h1', ahs, hw0] at h ⊢
  exact h
 have h1' : ¬ (byt t 0 : Int) < 128 := by omega
 simp [h1, h1'] at h ⊢
 unfold M.g.j1
 simp only [gg]
 have fin : ∀ (n least r : Nat) (x2 : List Value), na (byt t 0) = (n, least, r) → n ≠ 0 → 2 ≤ n → n ≤ 4 → r ≤ 31 → least ≤ 65536 → gv x2 1 = .int .i64 (n : Nat) → gv x2 2 = .int .i32 (least : Nat) → gv x2 3 = .int .i32 (r : Nat) → M.g.j2 x2 (.string t) [.int .i32 0, .int .i64 0] w K := by
  intro n least r x2 hc hn0 hn hn4 hr hl e1 e2 e3
  rw [hc] at h
  unfold M.g.j2
  have hn0' : ¬ (n : Int) = 0 := by omega
  by_cases hs : t.size < n
  ·have hs' : (t.size : Int) < n := by omega
   simp [e1, hn0, hn0', hs, hs'] at h ⊢
   exact h
  ·have hs' : ¬ (t.size : Int) < n := by omega
   simp only [gg]
   simp [e1, hn0, hn0', hs, hs'] at h ⊢
   refine azd hn hn4 hr hl (by omega) e1 e2 e3 ?_
   by_cases hcs : sw t (n - 1) = false
   ·simp [hcs] at h ⊢; exact h
   ·by_cases hv : ka t r (n - 1) < least ∨ 1114111 < ka t r (n - 1) ∨ (55296 ≤ ka t r (n - 1) ∧ ka t r (n - 1) ≤ 57343)
    ·simp [hcs, hv] at h ⊢; exact h
    ·simp [hcs, hv] at h ⊢; exact h
 generalize hb0 : byt t 0 = b0 at *
 have hsub : ∀ (y : Int), 0 ≤ y → y < 300 → (b0 : Int) - y = (((b0 : Int) - y)) := fun _ _ _ => rfl
 by_cases c1 : 194 ≤ b0 ∧ b0 ≤ 223
 ·have p1 : (194 : Int) ≤ b0 := by omega
  have p2 : (b0 : Int) ≤ 223 := by omega
  have hw1 : IntKind.i32.wrap ((b0 : Int) - 192) = ((b0 - 192 : Nat) : Int) := by rw [wt (by omega) (by omega)]; omega
  simp [p1, p2, ahs, hw0, hw1]
  refine fin 2 128 (b0 - 192) _ (by simp [na, c1]) (by decide) (by decide) (by decide) (by omega) (by decide) rfl rfl rfl
 have hz : ∀ x2, gv x2 1 = .int .i64 0 → na b0 = (0, 0, 0) → M.g.j2 x2 (.string t) [.int .i32 0, .int .i64 0] w K := by
  intro x2 e1 hc
  rw [hc] at h
  unfold M.g.j2
  simp only [gg]
  simp [e1] at h ⊢
  exact h
 by_cases d1 : 224 ≤ b0
 ·have p1 : (194 : Int) ≤ b0 := by omega
  have p2 : ¬ (b0 : Int) ≤ 223 := by omega
  have p3 : (224 : Int) ≤ b0 := by omega
  by_cases d2 : b0 ≤ 239
  ·have p4 : (b0 : Int) ≤ 239 := by omega
   have hw1 : IntKind.i32.wrap ((b0 : Int) - 224) = ((b0 - 224 : Nat) : Int) := by rw [wt (by omega) (by omega)]; omega
   simp [p1, p2, p3, p4, ahs, hw0, hw1]
   exact fin 3 2048 (b0 - 224) _ (by simp [na, c1, d1, d2]) (by decide) (by decide) (by decide) (by omega) (by decide) rfl rfl rfl
  ·have p4 : ¬ (b0 : Int) ≤ 239 := by omega
   have p5 : (240 : Int) ≤ b0 := by omega
   by_cases d3 : b0 ≤ 244
   ·have p6 : (b0 : Int) ≤ 244 := by omega
    have hw1 : IntKind.i32.wrap ((b0 : Int) - 240) = ((b0 - 240 : Nat) : Int) := by rw [wt (by omega) (by omega)]; omega
    simp [p1, p2, p3, p4, p5, p6, ahs, hw0, hw1]
    exact fin 4 65536 (b0 - 240) _ (by unfold na; rw [if_neg c1, if_neg (by omega), if_pos (by omega)]) (by decide) (by decide) (by decide) (by omega) (by decide) rfl rfl rfl
   ·have p6 : ¬ (b0 : Int) ≤ 244 := by omega
    simp [p1, p2, p3, p4, p5, p6, ahs, hw0]
    exact hz _ rfl (by unfold na; rw [if_neg c1, if_neg (by omega), if_neg (by omega)])
 ·have p1 : ¬ (194 : Int) ≤ b0 := by omega
  have p3 : ¬ (224 : Int) ≤ b0 := by omega
  have p5 : ¬ (240 : Int) ≤ b0 := by omega
  simp [p1, p3, p5]
  exact hz _ rfl (by unfold na; rw [if_neg c1, if_neg (by omega), if_neg (by omega)])
end Go.Proofs.YtfnhoaemapheoaaGreat
