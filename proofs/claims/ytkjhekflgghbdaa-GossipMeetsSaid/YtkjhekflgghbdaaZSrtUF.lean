/-
  Sorting a row of whole numbers (uint64): the recursion, and slices.Sort. No condition.
  slices.Sorted (uint64) against whatever iterator. No condition.
  slices.Sorted(maps.Keys(m)) at the map type map_uint64_api_Member. No condition.
  slices.Concat at api_Member. No condition.
  view.Newer; what Merge has, told by a list. No condition.
  view.Merge. No condition.
  view.Merge, whole. No condition.
  Views: the example that the statements hold up. No condition.
  Members: which is newer; plain. No condition.
  Views merged: in any order, of themselves, from below. No condition.
  Views merged: what comes out is a view; of three. No condition.
  The document's Merge, told by an insertion: what comes out is the program's. No condition.
  The document's answers on members: Members, Right, Newer, Same. No condition.
  The document's Find. No condition.
  A gossiping node, plain: what each call makes of it. No condition.
  A member that is heard within each wait, and one that is silent; plain. No condition.
-/
import Derived.Test.YtkjhekflgghbdaaZSpn0
import Derived.Test.YtkjhekflgghbdaaZEngSimp
import Derived.Test.YtkjhekflgghbdaaEnc
import Derived.Test.YtkjhekflgghbdaaM
import Derived.Test.YtkjhekflgghbdaaFacts
set_option maxRecDepth 100000
namespace Go.Proofs.Ytkjhekflgghbdaa.Suint64
open Go.Eng Go.Sort

section
theorem f5 (a0 a1 a2 a3 a4 a5 a6 a7 a8 a9 a10 a11 a12 a13 : Value) : gv [a0, a1, a2, a3, a4, a5, a6, a7, a8, a9, a10, a11, a12, a13] 5 = a5 := rfl
theorem f1' (a0 a1 a2 a3 a4 a5 a6 a7 a8 a9 a10 a11 a12 a13 : Value) : gv [a0, a1, a2, a3, a4, a5, a6, a7, a8, a9, a10, a11, a12, a13] 1 = a1 := rfl
theorem f8 (a0 a1 a2 a3 a4 a5 a6 a7 a8 a9 a10 a11 a12 a13 : Value) : gv [a0, a1, a2, a3, a4, a5, a6, a7, a8, a9, a10, a11, a12, a13] 8 = a8 := rfl
theorem f12 (a0 a1 a2 a3 a4 a5 a6 a7 a8 a9 a10 a11 a12 a13 : Value) : gv [a0, a1, a2, a3, a4, a5, a6, a7, a8, a9, a10, a11, a12, a13] 12 = a12 := rfl
theorem f13 (a0 a1 a2 a3 a4 a5 a6 a7 a8 a9 a10 a11 a12 a13 : Value) : gv [a0, a1, a2, a3, a4, a5, a6, a7, a8, a9, a10, a11, a12, a13] 13 = a13 := rfl
end

/-- The loop: what is left to sort is [a, b). -/
structure PdSt (w w1 : World) (g : Nat) (e : TypeId) (cap n a0 b0 : Nat) (d0 : Array Int) (a b limit : Nat) (wb wp : Bool) (d : Array Int) : Prop where
  rf : Rf w w1 g e cap d
  sz : d.size = n
  ab : a ≤ b
  bb : b - a ≤ b0 - a0
  bn : b ≤ n
  be : Below ltInt a b d
  fin : ∀ R, PermIn a b d R → SortedIn ltInt a b R → PermIn a0 b0 d0 R ∧ SortedIn ltInt a0 b0 R
def PdI (w : World) (g : Nat) (e : TypeId) (cap n a0 b0 : Nat) (d0 : Array Int) : KL := fun x w1 => ∃ (u0 u2 u3 u4 u6 u7 u9 u10 u11 : Value) (a b limit : Nat) (wb wp : Bool) (d : Array Int),
  x = [u0, .int .i64 (limit : Nat), u2, u3, u4, .int .i64 (a : Nat), u6, u7, .bool wp, u9, u10, u11, .bool wb, .int .i64 (b : Nat)] ∧ limit < 1000 ∧ PdSt w w1 g e cap n a0 b0 d0 a b limit wb wp d

def IH (m : Nat) : Prop := ∀ {w : World} {g cap n : Nat} {e : TypeId} {d : Array Int} (_ : Rw w g e cap d) (_ : d.size = n) (_ : n < 60000) {a b limit : Nat} (_ : b - a ≤ m) (_ : a ≤ b) (_ : b ≤ n) (_ : limit < 1000) (_ : Below ltInt a b d) {K : KV}
    (_ : ∀ w' d', PermIn a b d d' → SortedIn ltInt a b d' → Rf w w' g e cap d' → K (.tuple #[]) w'), callT P F.slices_pdqsortOrdered_uint64 [.slice (some ⟨g, 0, none⟩) n cap, .int .i64 a, .int .i64 b, .int .i64 limit] w K
section
variable {m : Nat} {w : World} {g cap n : Nat} {e : TypeId} {d d5 : Array Int} {a0 b0 a b pv hint4 lim2 : Nat} {wb wp : Bool} {x0 : List Value} {K : KV}
theorem pd_part (ih : IH m) (h6 : n < 60000) (hm : b0 - a0 ≤ m + 1) (hbb : b - a ≤ b0 - a0) (hbn : b ≤ n) (hab : a ≤ b) (hpv1 : a ≤ pv) (hpv2 : pv < b) (hlim2 : lim2 < 1000) {w5 : World} (H5 : Rf w w5 g e cap d5) (hn5 : d5.size = n) (B5 : Below ltInt a b d5)
    (hfin5 : ∀ R, PermIn a b d5 R → SortedIn ltInt a b R → PermIn a0 b0 d R ∧ SortedIn ltInt a0 b0 R) (e5 : gv x0 5 = .int .i64 (a : Nat)) (e8 : gv x0 8 = .bool wp) (e12 : gv x0 12 = .bool wb) (e13 : gv x0 13 = .int .i64 (b : Nat)) (m5 : ms x0 5 = a) (m13 : ms x0 13 = b) (v0 : Value) :
    M.slices_pdqsortOrdered_uint64.j6 (.slice (some ⟨g, 0, none⟩) n cap) [v0, .int .i64 (a : Nat)] x0 [.int .i64 (pv : Nat), .int .i64 (hint4 : Nat)] (.int .i64 ((b - a : Nat) : Int)) [.int .i64 (lim2 : Nat)] (fun x' w' => PdI w g e cap n a0 b0 d x' w' ∧ ms x' 13 - ms x' 5 < ms x0 13 - ms x0 5) w5 K := by
  unfold M.slices_pdqsortOrdered_uint64.j6
  simp only [g20, g21, e13]
  rw [M.slices_partitionOrdered_uint64.fcall]
  refine partition_ok H5.row hn5 (by omega) hbn hpv1 hpv2 fun w7 H7 => ?_
  have H7' := H5.trans H7
  obtain ⟨r1, r2, r3, rBa, rBr, rL, rR⟩ := round_part swo_ltInt (partition_holds ltInt) hpv1 hpv2 (by omega) B5 (show partition ltInt d5 a b pv = ((partition ltInt d5 a b pv).1, (partition ltInt d5 a b pv).2.1, (partition ltInt d5 a b pv).2.2) from rfl)
  generalize (partition ltInt d5 a b pv).1 = mid at *
  generalize (partition ltInt d5 a b pv).2.1 = ap at *
  generalize (partition ltInt d5 a b pv).2.2 = d7 at *
  have hn7 : d7.size = n := by omega
  have wl : IntKind.i64.wrap ((mid : Int) - a) = ((mid - a : Nat) : Int) := wrapS (by omega) (by omega)
  have wr : IntKind.i64.wrap ((b : Int) - mid) = ((b - mid : Nat) : Int) := wrapS (by omega) (by omega)
  have wm : IntKind.i64.wrap ((mid : Int) + 1) = ((mid + 1 : Nat) : Int) := wrap1 (by omega)
  have bq : ∀ (x : Int) (t : TypeId) (rx ry : Operand) (w : World) (K : KV), binT P .quo t rx ry (.int .i64 x) (.int .i64 8) w K = K (.int .i64 (IntKind.i64.wrap (x.tdiv 8))) w := fun x t rx ry w K => bin_quo (by decide)
  simp only [ex_2_0, ex_2_1, g0, bin_sub, wl, wr, bq, bin_lss, bin_geq]
  by_cases hlt : mid - a < b - mid
  · have hlt' : ((mid - a : Nat) : Int) < ((b - mid : Nat) : Int) := by omega
    simp only [hlt', decide_true, Eng.cond_true]
    rw [M.slices_pdqsortOrdered_uint64.fcall]
    refine ih H7.row hn7 h6 (by omega) r1 (by omega) hlim2 rBa fun w8 d8 P8 S8 H8 => ?_
    obtain ⟨hBL, hfinL⟩ := rL d8 P8 S8
    simp only [bin_add, wm]
    refine ⟨⟨_, _, _, _, _, _, _, _, _, mid + 1, b, lim2, _, ap, d8, rfl, hlim2, ⟨H7'.trans H8, by rw [P8.1]; exact hn7, by omega, by omega, hbn, hBL, fun R h1 h2 => ?_⟩⟩, ?_⟩
    · obtain ⟨k1, k2⟩ := hfinL R h1 h2
      exact hfin5 R k1 k2
    · have : ∀ y0 y1 y2 y3 y4 y6 y7 y8 y9 y10 y11 y12 : Value, ms [y0, y1, y2, y3, y4, .int .i64 ((mid + 1 : Nat) : Int), y6, y7, y8, y9, y10, y11, y12, .int .i64 (b : Nat)] 13 = b ∧ ms [y0, y1, y2, y3, y4, .int .i64 ((mid + 1 : Nat) : Int), y6, y7, y8, y9, y10, y11, y12, .int .i64 (b : Nat)] 5 = mid + 1 := fun _ _ _ _ _ _ _ _ _ _ _ _ => ⟨rfl, rfl⟩
      rw [(this _ _ _ _ _ _ _ _ _ _ _ _).1, (this _ _ _ _ _ _ _ _ _ _ _ _).2, m5, m13]; omega
  · have hlt' : ¬ ((mid - a : Nat) : Int) < ((b - mid : Nat) : Int) := by omega
    simp only [hlt', decide_false, Eng.cond_false, bin_add, wm]
    rw [M.slices_pdqsortOrdered_uint64.fcall]
    refine ih H7.row hn7 h6 (by omega) (by omega) hbn hlim2 rBr fun w8 d8 P8 S8 H8 => ?_
    obtain ⟨hBL, hfinL⟩ := rR d8 P8 S8
    refine ⟨⟨_, _, _, _, _, _, _, _, _, a, mid, lim2, _, ap, d8, rfl, hlim2, ⟨H7'.trans H8, by rw [P8.1]; exact hn7, by omega, by omega, by omega, hBL, fun R h1 h2 => ?_⟩⟩, ?_⟩
    · obtain ⟨k1, k2⟩ := hfinL R h1 h2
      exact hfin5 R k1 k2
    · have : ∀ y0 y1 y2 y3 y4 y6 y7 y8 y9 y10 y11 y12 : Value, ms [y0, y1, y2, y3, y4, .int .i64 (a : Nat), y6, y7, y8, y9, y10, y11, y12, .int .i64 (mid : Nat)] 13 = mid ∧ ms [y0, y1, y2, y3, y4, .int .i64 (a : Nat), y6, y7, y8, y9, y10, y11, y12, .int .i64 (mid : Nat)] 5 = a := fun _ _ _ _ _ _ _ _ _ _ _ _ => ⟨rfl, rfl⟩
      rw [(this _ _ _ _ _ _ _ _ _ _ _ _).1, (this _ _ _ _ _ _ _ _ _ _ _ _).2, m5, m13]; omega
theorem pd_eq (ih : IH m) (h6 : n < 60000) (hm : b0 - a0 ≤ m + 1) (hbb : b - a ≤ b0 - a0) (hbn : b ≤ n) (hab : a ≤ b) (hpv1 : a ≤ pv) (hpv2 : pv < b) (hlim2 : lim2 < 1000) {w5 : World} (H5 : Rf w w5 g e cap d5) (hn5 : d5.size = n) (B5 : Below ltInt a b d5)
    (hfin5 : ∀ R, PermIn a b d5 R → SortedIn ltInt a b R → PermIn a0 b0 d R ∧ SortedIn ltInt a0 b0 R) (e5 : gv x0 5 = .int .i64 (a : Nat)) (e8 : gv x0 8 = .bool wp) (e12 : gv x0 12 = .bool wb) (e13 : gv x0 13 = .int .i64 (b : Nat)) (m5 : ms x0 5 = a) (m13 : ms x0 13 = b) :
    M.slices_pdqsortOrdered_uint64.j5 x0 (.slice (some ⟨g, 0, none⟩) n cap) [.int .i64 (pv : Nat), .int .i64 (hint4 : Nat)] (fun x' w' => PdI w g e cap n a0 b0 d x' w' ∧ ms x' 13 - ms x' 5 < ms x0 13 - ms x0 5) (.int .i64 ((b - a : Nat) : Int)) [.int .i64 (lim2 : Nat)] w5 K := by
  unfold M.slices_pdqsortOrdered_uint64.j5
  simp only [joinT_eq, drawT_eq, quietT_eq, e5, e13, g20, true_and, and_true, bin_gtr, isB_bool]
  by_cases ha0 : 0 < a
  · have ha0' : (0 : Int) < (a : Int) := by omega
    have hwa : IntKind.i64.wrap ((a : Int) - 1) = ((a - 1 : Nat) : Int) := by rw [wrap_id (by omega) (by omega)]; omega
    have a1 := H5.row.at (show a - 1 < d5.size by omega)
    have a2 := H5.row.at (show pv < d5.size by omega)
    have b1 : ((a - 1 : Nat) : Int) < n := by omega
    have b2 : (pv : Int) < n := by omega
    simp [ha0, ha0', hwa, a1, a2, b1, b2]
    refine less_ok _ _ ?_
    cases hl : ltInt d5[a - 1]! d5[pv]! with
    | true =>
      simp
      exact pd_part ih h6 hm hbb hbn hab hpv1 hpv2 hlim2 (H5.dr 1) hn5 B5 hfin5 e5 e8 e12 e13 m5 m13 _
    | false =>
      simp
      rw [M.slices_partitionEqualOrdered_uint64.fcall]
      refine partitionEqual_ok (H5.dr 1).row hn5 (by omega) hbn hpv1 hpv2 fun w7 H7 => ?_
      have H7' := (H5.dr 1).trans H7
      obtain ⟨r1, r2, r3, rB, rF⟩ := round_eq swo_ltInt (partitionEqual_holds ltInt) ha0 hpv1 hpv2 (by omega) B5 hl (show partitionEqual ltInt d5 a b pv = ((partitionEqual ltInt d5 a b pv).1, (partitionEqual ltInt d5 a b pv).2) from rfl)
      generalize (partitionEqual ltInt d5 a b pv).1 = mid at *
      generalize (partitionEqual ltInt d5 a b pv).2 = d7 at *
      have hn7 : d7.size = n := by omega
      refine ⟨⟨_, _, _, _, _, _, _, _, _, mid, b, lim2, wb, wp, d7, by rw [e8, e12], hlim2, ⟨H7', hn7, r2, by omega, hbn, rB, fun R h1 h2 => ?_⟩⟩, ?_⟩
      · obtain ⟨k1, k2⟩ := rF R h1 h2
        exact hfin5 R k1 k2
      · have : ∀ y0 y1 y2 y3 y4 y6 y7 y8 y9 y10 y11 y12 : Value, ms [y0, y1, y2, y3, y4, .int .i64 (mid : Nat), y6, y7, y8, y9, y10, y11, y12, .int .i64 (b : Nat)] 13 = b ∧ ms [y0, y1, y2, y3, y4, .int .i64 (mid : Nat), y6, y7, y8, y9, y10, y11, y12, .int .i64 (b : Nat)] 5 = mid := fun _ _ _ _ _ _ _ _ _ _ _ _ => ⟨rfl, rfl⟩
        rw [(this _ _ _ _ _ _ _ _ _ _ _ _).1, (this _ _ _ _ _ _ _ _ _ _ _ _).2, m5, m13]; omega
  · have ha0' : ¬ (0 : Int) < (a : Int) := by omega
    simp [ha0, ha0']
    exact pd_part ih h6 hm hbb hbn hab hpv1 hpv2 hlim2 (H5.dr 1) hn5 B5 hfin5 e5 e8 e12 e13 m5 m13 _
theorem pd_four {d1 : Array Int} (ih : IH m) (h6 : n < 60000) (hm : b0 - a0 ≤ m + 1) (hbb : b - a ≤ b0 - a0) (hbn : b ≤ n) (hab : a ≤ b) (hlim2 : lim2 < 1000) (h12 : ¬ b - a ≤ 12) (hn1 : d1.size = n) (hB1 : Below ltInt a b d1)
    (hfin : ∀ R, PermIn a b d1 R → SortedIn ltInt a b R → PermIn a0 b0 d R ∧ SortedIn ltInt a0 b0 R) (h : ∀ w' d', PermIn a0 b0 d d' → SortedIn ltInt a0 b0 d' → Rf w w' g e cap d' → K (.tuple #[]) w')
    (e5 : gv x0 5 = .int .i64 (a : Nat)) (e8 : gv x0 8 = .bool wp) (e12 : gv x0 12 = .bool wb) (e13 : gv x0 13 = .int .i64 (b : Nat)) (m5 : ms x0 5 = a) (m13 : ms x0 13 = b) {w4 : World} {d4 : Array Int} (H4 : Rf w w4 g e cap d4) (P4 : PermIn a b d1 d4) (hpv1 : a ≤ pv) (hpv2 : pv < b) :
    M.slices_pdqsortOrdered_uint64.j4 x0 [.int .i64 (pv : Nat), .int .i64 (hint4 : Nat)] (.slice (some ⟨g, 0, none⟩) n cap) (fun x' w' => PdI w g e cap n a0 b0 d x' w' ∧ ms x' 13 - ms x' 5 < ms x0 13 - ms x0 5) (.int .i64 ((b - a : Nat) : Int)) [.int .i64 (lim2 : Nat)] w4 K := by
  have hn4 : d4.size = n := by rw [P4.1]; exact hn1
  have B4 := hB1.perm (by omega) P4
  have st5 : ∀ (w5 : World) (d5 : Array Int), Rf w w5 g e cap d5 → PermIn a b d1 d5 →
      M.slices_pdqsortOrdered_uint64.j5 x0 (.slice (some ⟨g, 0, none⟩) n cap) [.int .i64 (pv : Nat), .int .i64 (hint4 : Nat)] (fun x' w' => PdI w g e cap n a0 b0 d x' w' ∧ ms x' 13 - ms x' 5 < ms x0 13 - ms x0 5) (.int .i64 ((b - a : Nat) : Int)) [.int .i64 (lim2 : Nat)] w5 K := fun w5 d5 H5 P5 =>
    pd_eq ih h6 hm hbb hbn hab hpv1 hpv2 hlim2 H5 (by rw [P5.1]; exact hn1) (hB1.perm (by omega) P5) (fun R h1 h2 => hfin R (permIn_trans _ _ _ a b P5 h1) h2) e5 e8 e12 e13 m5 m13
  unfold M.slices_pdqsortOrdered_uint64.j4
  simp only [joinT_eq, e5, e8, e12, e13, isB_bool, g21]
  cases wb with
  | false => simp; exact st5 w4 d4 H4 P4
  | true =>
    cases wp with
    | false => simp; exact st5 w4 d4 H4 P4
    | true =>
      by_cases hh1 : hint4 = 1
      · have hd : decide ((hint4 : Int) = 1) = true := by rw [decide_eq_true_eq]; omega
        simp only [isB_bool, pick_eq, guard_true, beq_self_eq_true, _root_.cond_true, bin_eql, hd, Eng.cond_true]
        rw [M.slices_partialInsertionSortOrdered_uint64.fcall]
        refine partialIns_ok H4.row hn4 (by omega) hbn (by omega) fun w5 H5 => ?_
        have hpi := partialInsertionSort_holds swo_ltInt d4 a b (by omega) (by omega) B4
        cases hr : (partialInsertionSort ltInt d4 a b).2 with
        | true =>
          simp
          obtain ⟨p1, p2⟩ := hfin _ (permIn_trans _ _ _ a b P4 hpi.1) (hpi.2 hr)
          exact h w5 _ p1 p2 (H4.trans H5)
        | false =>
          simp
          exact st5 w5 _ (H4.trans H5) (permIn_trans _ _ _ a b P4 hpi.1)
      · have hd : decide ((hint4 : Int) = 1) = false := by rw [decide_eq_false_iff_not]; omega
        simp only [isB_bool, pick_eq, guard_true, beq_self_eq_true, _root_.cond_true, bin_eql, hd, Eng.cond_false]
        exact st5 w4 d4 H4 P4
theorem pd_three {d1 : Array Int} (ih : IH m) (h6 : n < 60000) (hm : b0 - a0 ≤ m + 1) (hbb : b - a ≤ b0 - a0) (hbn : b ≤ n) (hab : a ≤ b) (hlim2 : lim2 < 1000) (h12 : ¬ b - a ≤ 12) (hn1 : d1.size = n) (hB1 : Below ltInt a b d1)
    (hfin : ∀ R, PermIn a b d1 R → SortedIn ltInt a b R → PermIn a0 b0 d R ∧ SortedIn ltInt a0 b0 R) (h : ∀ w' d', PermIn a0 b0 d d' → SortedIn ltInt a0 b0 d' → Rf w w' g e cap d' → K (.tuple #[]) w')
    (e5 : gv x0 5 = .int .i64 (a : Nat)) (e8 : gv x0 8 = .bool wp) (e12 : gv x0 12 = .bool wb) (e13 : gv x0 13 = .int .i64 (b : Nat)) (m5 : ms x0 5 = a) (m13 : ms x0 13 = b) {w2 : World} {d2 : Array Int} (H2 : Rf w w2 g e cap d2) (P2 : PermIn a b d1 d2) :
    M.slices_pdqsortOrdered_uint64.j3 (.slice (some ⟨g, 0, none⟩) n cap) x0 (fun x' w' => PdI w g e cap n a0 b0 d x' w' ∧ ms x' 13 - ms x' 5 < ms x0 13 - ms x0 5) (.int .i64 ((b - a : Nat) : Int)) [.int .i64 (lim2 : Nat)] w2 K := by
  have hn2 : d2.size = n := by rw [P2.1]; exact hn1
  have B2 := hB1.perm (by omega) P2
  unfold M.slices_pdqsortOrdered_uint64.j3
  simp only [e5, e13, joinT_eq]
  rw [M.slices_choosePivotOrdered_uint64.fcall]
  refine pivot_ok H2.row hn2 (by omega) hbn (by omega) fun w3 p hint hp1 hp2 hh H3 => ?_
  have H3' := H2.trans H3
  simp only [ex_2_0, ex_2_1, bin_eql]
  by_cases hh2 : hint = 2
  · have hh2' : (hint : Int) = 2 := by omega
    simp only [hh2', decide_true, Eng.cond_true]
    rw [M.slices_reverseRangeOrdered_uint64.fcall]
    refine reverse_ok H3.row hn2 (by omega) hbn (by omega) fun w4 H4 => ?_
    have hrev := reverseRange_holds d2 a b hab (by omega)
    have w1' : IntKind.i64.wrap ((b : Int) - 1) = ((b - 1 : Nat) : Int) := by rw [wrap_id (by omega) (by omega)]; omega
    have w2' : IntKind.i64.wrap ((p : Int) - a) = ((p - a : Nat) : Int) := wrapS (by omega) (by omega)
    have w3' : IntKind.i64.wrap (((b - 1 : Nat) : Int) - ((p - a : Nat) : Int)) = ((b - 1 - (p - a) : Nat) : Int) := wrapS (by omega) (by omega)
    simp only [bin_sub, w1', w2', w3']
    exact pd_four (hint4 := 1) ih h6 hm hbb hbn hab hlim2 h12 hn1 hB1 hfin h e5 e8 e12 e13 m5 m13 (H3'.trans H4) (permIn_trans _ _ _ a b P2 hrev) (by omega) (by omega)
  · have hh2' : ¬ (hint : Int) = 2 := by omega
    simp only [hh2', decide_false, Eng.cond_false]
    exact pd_four ih h6 hm hbb hbn hab hlim2 h12 hn1 hB1 hfin h e5 e8 e12 e13 m5 m13 H3' P2 hp1 hp2
end

theorem pdq_ok : ∀ (m : Nat), IH m := by
  intro m
  induction m with
  | zero =>
    intro w g cap n e d H hn h6 a b limit hm hab hb hlim hB K h
    -- nothing to sort
    have hba : b = a := by omega
    subst hba
    apply M.slices_pdqsortOrdered_uint64.calls
    unfold M.slices_pdqsortOrdered_uint64
    refine ⟨fun x w1 => x = [undef, .int .i64 (limit : Nat), undef, undef, undef, .int .i64 (b : Nat), undef, undef, .bool true, undef, undef, undef, .bool true, .int .i64 (b : Nat)] ∧ w1 = w, fun _ _ => 0, ⟨rfl, rfl⟩, ?_⟩
    rintro x w1 ⟨rfl, rfl⟩
    unfold M.slices_pdqsortOrdered_uint64.j0
    have hw0 : IntKind.i64.wrap ((b : Int) - b) = 0 := by rw [wrap_id (by omega) (by omega)]; omega
    simp only [f13, f5, bin_sub, hw0, joinT_eq, bin_leq]
    rw [M.slices_insertionSortOrdered_uint64.fcall]
    simp
    refine insertion_ok H hn (by omega) hb hb fun w2 H2 => ?_
    have hi := insertionSort_holds swo_ltInt d b b (Nat.le_refl _) (by omega)
    exact h w2 _ hi.1 hi.2 H2
  | succ m ih =>
    intro w g cap n e d H hn h6 a0 b0 limit0 hm hab0 hb0 hlim0 hB K h
    apply M.slices_pdqsortOrdered_uint64.calls
    unfold M.slices_pdqsortOrdered_uint64
    refine ⟨PdI w g e cap n a0 b0 d, fun x _ => ms x 13 - ms x 5, ⟨_, _, _, _, _, _, _, _, _, a0, b0, limit0, true, true, d, rfl, hlim0, ⟨H.self, hn, hab0, Nat.le_refl _, hb0, hB, fun R h1 h2 => ⟨h1, h2⟩⟩⟩, ?_⟩
    rintro x w1 ⟨u0, u2, u3, u4, u6, u7, u9, u10, u11, a, b, limit, wb, wp, d1, rfl, hlim, ⟨H1, hn1, hab, hbb, hbn, hB1, hfin⟩⟩
    generalize hx0 : [u0, .int .i64 (limit : Nat), u2, u3, u4, .int .i64 (a : Nat), u6, u7, .bool wp, u9, u10, u11, .bool wb, .int .i64 (b : Nat)] = x0
    have e1 : gv x0 1 = .int .i64 (limit : Nat) := by rw [← hx0]; rfl
    have e5 : gv x0 5 = .int .i64 (a : Nat) := by rw [← hx0]; rfl
    have e8 : gv x0 8 = .bool wp := by rw [← hx0]; rfl
    have e12 : gv x0 12 = .bool wb := by rw [← hx0]; rfl
    have e13 : gv x0 13 = .int .i64 (b : Nat) := by rw [← hx0]; rfl
    have m5 : ms x0 5 = a := by simp [ms, e5]
    have m13 : ms x0 13 = b := by simp [ms, e13]
    clear hx0
    have hw0 : IntKind.i64.wrap ((b : Int) - a) = ((b - a : Nat) : Int) := wrapS (by omega) (by omega)
    unfold M.slices_pdqsortOrdered_uint64.j0
    simp only [e13, e5, bin_sub, hw0, joinT_eq, bin_leq]
    by_cases h12 : b - a ≤ 12
    · have h12' : ((b - a : Nat) : Int) ≤ 12 := by omega
      simp only [h12', decide_true, Eng.cond_true]
      rw [M.slices_insertionSortOrdered_uint64.fcall]
      refine insertion_ok H1.row hn1 (by omega) hbn (by omega) fun w2 H2 => ?_
      have hi := insertionSort_holds swo_ltInt d1 a b hab (by omega)
      obtain ⟨p1, p2⟩ := hfin _ hi.1 hi.2
      exact h w2 _ p1 p2 (H1.trans H2)
    have h12' : ¬ ((b - a : Nat) : Int) ≤ 12 := by omega
    simp only [h12', decide_false, Eng.cond_false]
    unfold M.slices_pdqsortOrdered_uint64.j1
    simp only [e1, e5, e13, joinT_eq, bin_eql]
    by_cases hl0 : limit = 0
    · have hl0' : (limit : Int) = 0 := by omega
      simp only [hl0', decide_true, Eng.cond_true]
      rw [M.slices_heapSortOrdered_uint64.fcall]
      refine heapSort_ok H1.row hn1 (by omega) hbn (by omega) fun w2 H2 => ?_
      have hi := heapSort_holds swo_ltInt d1 a b hab (by omega)
      obtain ⟨p1, p2⟩ := hfin _ hi.1 hi.2
      exact h w2 _ p1 p2 (H1.trans H2)
    have hl0' : ¬ (limit : Int) = 0 := by omega
    simp only [hl0', decide_false, Eng.cond_false]
    unfold M.slices_pdqsortOrdered_uint64.j2
    simp only [e12, e1, e5, e13, joinT_eq, not_eq]
    cases wb with
    | true =>
      simp
      exact pd_three ih h6 hm hbb hbn hab hlim h12 hn1 hB1 hfin h e5 e8 e12 e13 m5 m13 H1 (permIn_refl d1 a b)
    | false =>
      simp
      rw [M.slices_breakPatternsOrdered_uint64.fcall]
      refine break_ok H1.row hn1 h6 hbn (by omega) fun w2 d2 P2 H2 => ?_
      have wl : IntKind.i64.wrap ((limit : Int) - 1) = ((limit - 1 : Nat) : Int) := by rw [wrap_id (by omega) (by omega)]; omega
      simp only [wl]
      exact pd_three ih h6 hm hbb hbn hab (by omega) h12 hn1 hB1 hfin h e5 e8 e12 e13 m5 m13 (H1.trans H2) P2

/-- slices.Sort: the list that is sorted. -/
theorem sort_ok {w : World} {g cap n : Nat} {e : TypeId} {d : Array Int} (H : Rw w g e cap d) (hn : d.size = n) (h6 : n < 60000) {K : KV}
    (h : ∀ w', Rf w w' g e cap (d.toList.mergeSort fun x y => decide (x ≤ y)).toArray → K (.tuple #[]) w') : callT P F.slices_Sort_uint64_uint64 [.slice (some ⟨g, 0, none⟩) n cap] w K := by
  apply M.slices_Sort_uint64_uint64.calls
  unfold M.slices_Sort_uint64_uint64
  have i64B : intB P T.int .i64 = true := by kernel_rfl
  have uB : intB P T.uint .u64 = true := by kernel_rfl
  simp
  rw [cv_ints i64B uB, wrapU (by omega), M.math_bits_Len.fcall]
  refine len_ok' (by omega) ?_
  rw [M.slices_pdqsortOrdered_uint64.fcall]
  have hlen : bitsLen n ≤ 16 := (bitsLen_le_iff n 16).2 (by omega)
  refine pdq_ok n (a := 0) H hn h6 (by omega) (Nat.zero_le _) (Nat.le_refl _) (by omega) (.inl rfl) fun w' d' h1 h2 H' => ?_
  have hs : d'.toList = d.toList.mergeSort (fun x y => decide (x ≤ y)) := by
    have := sorted_unique_holds swo_ltInt (fun x y h1 h2 => by simp [ltInt] at h1 h2; omega) d d' (by rw [hn]; exact h1) (by rw [hn]; exact h2)
    rw [this]
    congr 1
    funext x y
    simp only [ltInt]
    by_cases hxy : x ≤ y
    · simp [hxy]
    · have : y < x := by omega
      simp [hxy, this]
  refine h w' ?_
  rw [← hs]
  exact H'
end Go.Proofs.Ytkjhekflgghbdaa.Suint64
set_option maxRecDepth 100000
namespace Go.Proofs.Ytkjhekflgghbdaa.Suint64
open Go.Eng Go.Sort

abbrev enc1 (x : Int) : Value := .int .u64 x
abbrev encL (x : Int) : List Value := [.int .u64 x]
abbrev OwN (w : World) (base : Nat) (v : Value) (l : List Int) : Prop := Ow w base T.uint64 1 encL v l
theorem apTy : ApTy P T.sl_uint64 T.uint64 enc1 8 where
  et := et.sl_uint64
  by5 := by decide
  ld := fun b i w K => by refine Eq.trans ?_ rfl; kernel_rfl
  st := fun b i a n c w K => by refine Eq.trans ?_ rfl; kernel_rfl
  bs := fun x w K => by refine Eq.trans ?_ rfl; kernel_rfl
  one := fun _ => rfl
  ne := by decide
theorem collect_ok {g : FuncId} {gn : Func} (hg : P.funcs[g]? = some gn) (hgn : (gn.name == "runtime.NumGoroutine") = false) (hgb : gn.body.isNone = false) {cap : List Value} {w : World} {Out : List Int → Prop} (hs : SeqT P g cap enc1 Out 60000 w) {K : KV}
    (h : ∀ w' v xs, Out xs → OwN w' w.heap.size v xs → Fr (fun _ => False) w w' → K v w') : callT P F.slices_Collect_uint64 [.func (.func g) #[] cap.toArray] w K := by
  apply M.slices_Collect_uint64.calls
  unfold M.slices_Collect_uint64
  have hf : ∀ (args : List Value) (w : World) (K : KV), fcallT P F.slices_AppendSeq_uint64_uint64 args w K = callT P F.slices_AppendSeq_uint64_uint64 args w K := fun args w K => fcallT_eq FN.slices_AppendSeq_uint64_uint64.at (by kernel_rfl) (by kernel_rfl) args w K
  rw [hf]
  exact appendSeq_ok (tQ := T.iter_Seq_uint64_) apTy FN.slices_AppendSeq_uint64_uint64.at (by kernel_rfl) (by kernel_rfl) (by kernel_rfl) hg hgn hgb hs h

theorem Ow.rw {w : World} {base g n cap : Nat} {l : List Int} (h : OwN w base (.slice (some ⟨g, 0, none⟩) n cap) l) : n = l.length ∧ base ≤ g ∧ cap ≤ maxLen ∧ Rw w g T.uint64 cap l.toArray := by
  rcases h.2 with ⟨h0, _⟩ | ⟨g', cap', cur, hv, hb, hc, h1, h2, h3, h4⟩
  · cases h0
  · injection hv with q1 q2 q3
    injection q1 with q1
    injection q1 with q1
    subst q1 q2 q3
    refine ⟨rfl, hb, h2, cur, hc, by simpa using h3, by simpa using h1, fun j hj => ?_⟩
    have hj' : j < l.length := by simpa using hj
    have h5 : (cur.toList.take (l.length * 1))[j]? = (l.flatMap encL)[j]? := by rw [h4]
    rw [List.getElem?_take_of_lt (by omega)] at h5
    have h6 : (l.flatMap encL)[j]? = some (.int .u64 l[j]) := by
      have := flatMap_at (enc := encL) (sz := 1) (fun _ => rfl) l j l[j] 0 (.int .u64 l[j]) (List.getElem?_eq_getElem hj') rfl
      simpa using this
    rw [h6] at h5
    simpa [hj'] using h5
theorem flat_eq : ∀ l : List Int, l.flatMap encL = l.map enc1
  | [] => rfl
  | x :: l => by rw [List.flatMap_cons, flat_eq l]; rfl
theorem rw_ow {w : World} {base g cap : Nat} {l : List Int} (hb : base ≤ g) (hm : cap ≤ maxLen) (h : Rw w g T.uint64 cap l.toArray) : OwN w base (.slice (some ⟨g, 0, none⟩) l.length cap) l := by
  obtain ⟨cur, h1, h2, h3, h4⟩ := h
  refine ⟨by rw [flat_eq]; simp, .inr ⟨g, cap, cur, rfl, hb, h1, by simpa using h3, hm, by simpa using h2, ?_⟩⟩
  rw [flat_eq]
  apply List.ext_getElem?
  intro j
  by_cases hj : j < l.length
  · rw [List.getElem?_take_of_lt (by omega)]
    have := h4 j (by simpa using hj)
    simp [hj] at this ⊢
    exact this
  · rw [List.getElem?_take_eq_none (by omega), List.getElem?_eq_none (by simp; omega)]

theorem sort_nil {w : World} {K : KV} (h : K (.tuple #[]) w) : callT P F.slices_Sort_uint64_uint64 [.slice none 0 0] w K := by
  apply M.slices_Sort_uint64_uint64.calls
  unfold M.slices_Sort_uint64_uint64
  have i64B : intB P T.int .i64 = true := by kernel_rfl
  have uB : intB P T.uint .u64 = true := by kernel_rfl
  simp
  rw [cv_ints i64B uB, show IntKind.u64.wrap 0 = ((0 : Nat) : Int) from by decide, M.math_bits_Len.fcall]
  refine len_ok' (by omega) ?_
  rw [M.slices_pdqsortOrdered_uint64.fcall]
  apply M.slices_pdqsortOrdered_uint64.calls
  unfold M.slices_pdqsortOrdered_uint64
  refine ⟨fun x w1 => gv x 5 = .int .i64 0 ∧ gv x 13 = .int .i64 0 ∧ w1 = w, fun _ _ => 0, ⟨rfl, rfl, rfl⟩, ?_⟩
  rintro x w1 ⟨e5, e13, rfl⟩
  unfold M.slices_pdqsortOrdered_uint64.j0
  have w0 : IntKind.i64.wrap 0 = 0 := by decide
  simp [e5, e13, w0]
  rw [M.slices_insertionSortOrdered_uint64.fcall]
  apply M.slices_insertionSortOrdered_uint64.calls
  unfold M.slices_insertionSortOrdered_uint64
  have w1' : IntKind.i64.wrap 1 = 1 := by decide
  simp [w1']
  refine ⟨fun x w2 => gv x 1 = .int .i64 1 ∧ w2 = w1, fun _ _ => 0, ⟨rfl, rfl⟩, ?_⟩
  rintro x w2 ⟨e1, rfl⟩
  unfold M.slices_insertionSortOrdered_uint64.j0
  simp [e1]
  exact h

def srtd (l : List Int) : List Int := l.mergeSort fun x y => decide (x ≤ y)
theorem srtd_perm (l : List Int) : (srtd l).Perm l := List.mergeSort_perm ..
theorem srtd_of_perm {l l' : List Int} (h : l.Perm l') : srtd l = srtd l' := by
  unfold srtd
  have hs : ∀ l : List Int, (l.mergeSort fun x y => decide (x ≤ y)).Pairwise fun a b => decide (a ≤ b) = true := fun l => List.pairwise_mergeSort (fun a b c h1 h2 => by simp at *; omega) (fun a b => by simp; omega) l
  exact List.Perm.eq_of_pairwise (fun a b _ _ h1 h2 => by simp at h1 h2; omega) (hs l) (hs l') (((List.mergeSort_perm ..).trans h).trans (List.mergeSort_perm ..).symm)

/-- slices.Sorted of an iterator that gives a permutation of a list. -/
theorem sorted_ok {g : FuncId} {gn : Func} (hg : P.funcs[g]? = some gn) (hgn : (gn.name == "runtime.NumGoroutine") = false) (hgb : gn.body.isNone = false) {cap : List Value} {w : World} {ks : List Int} (hk : ks.length < 60000) (hs : SeqT P g cap enc1 (fun xs => xs.Perm ks) 60000 w) {K : KV}
    (h : ∀ w' v, OwN w' w.heap.size v (srtd ks) → Fr (fun _ => False) w w' → K v w') : callT P F.slices_Sorted_uint64 [.func (.func g) #[] cap.toArray] w K := by
  apply M.slices_Sorted_uint64.calls
  unfold M.slices_Sorted_uint64
  rw [M.slices_Collect_uint64.fcall]
  refine collect_ok hg hgn hgb hs fun w1 v xs hx o1 f1 => ?_
  rw [M.slices_Sort_uint64_uint64.fcall]
  have hlen := hx.length_eq
  rcases o1.2 with ⟨rfl, h0⟩ | ⟨g1, cap1, cur, rfl, hb1, _⟩
  · refine sort_nil ?_
    have hx0 : xs = [] := List.length_eq_zero_iff.1 h0
    have hk0 : ks = [] := List.length_eq_zero_iff.1 (by rw [← hlen, hx0]; rfl)
    refine h w1 _ ?_ f1
    subst hk0
    rw [show srtd [] = [] from by simp [srtd]]
    exact Ow.none
  · obtain ⟨_, hbg, hcm, hrw⟩ := Ow.rw o1
    refine sort_ok hrw (by simp) (by omega) fun w2 H2 => ?_
    have hp : srtd xs = srtd ks := srtd_of_perm hx
    have hl : (srtd xs).length = xs.length := (srtd_perm xs).length_eq
    refine h w2 _ ?_ (f1.trans' H2.fr fun b hb he => by omega)
    rw [← hp]
    have := rw_ow (base := w.heap.size) (l := srtd xs) hbg hcm H2.row
    rw [hl] at this
    exact this
end Go.Proofs.Ytkjhekflgghbdaa.Suint64
set_option maxRecDepth 100000
namespace Go.Proofs.Ytkjhekflgghbdaa.KeyV
open Go.Eng Go.Sort Go.Proofs.Ytkjhekflgghbdaa.Suint64

/-- Between two rounds: these keys have come. -/
def KI (w W : World) (U : Nat → Prop) (r : Nat) (m : MP) (J : List Int → Asn) : KL := fun x w1 => ∃ (done : List Int) (U1 : Nat → Prop), x.length = 1 ∧ ItAt w1 W.heap.size r .u64 m done ∧ (J done.reverse).ok w1 U1 ∧ (∀ b, U1 b → w.heap.size ≤ b ∧ b < w1.heap.size ∧ b ≠ W.heap.size) ∧ Fr (fun b => w.heap.size ≤ b) W w1
theorem it_facts {w : World} {it r : Nat} {k : IntKind} {m : MP} {done : List Int} (h : ItAt w it r k m done) : done.Nodup ∧ ∀ x ∈ done, x ∈ mkeys m := by
  obtain ⟨es, clk, since, c0, seen, _, _, _, _, _, _, _, _, _, h1, h2⟩ := h
  exact ⟨h1, h2⟩
theorem keys_seq {w : World} {r Bm : Nat} {m : MP} {e : TypeId} (hm : MapAt w r .u64 m) (hn : (mkeys m).Nodup) (hB : w.heap[Bm]? = some (.cells #[.map (some r)] e (0, 0))) (hl : m.length < 60000) :
    SeqT P F.maps_Keys_map_uint64_api_Member_uint64_api_Member_1 [.pointer (some ⟨Bm, 0, none⟩)] enc1 (fun xs => xs.Perm (mkeys m)) 60000 w := by
  intro l J W U K hf hJ hU hround hend
  apply M.maps_Keys_map_uint64_api_Member_uint64_api_Member_1.calls
  unfold M.maps_Keys_map_uint64_api_Member_uint64_api_Member_1
  have hBm : W.heap[Bm]? = some (.cells #[.map (some r)] e (0, 0)) := hf.heap hB fun h => h
  have c0 := cellOf_of hBm 0
  simp only [List.size_toArray, List.getElem?_toArray, List.getElem?_cons_zero] at c0
  have hm' : MapAt W r .u64 m := hm.of_heap (hf.keep r hm.lt fun h => h)
  have hrw := hm.lt
  simp [c0]
  refine rg_map mt.map_uint64_api_Member hm' fun w1 hi f1 => ?_
  have hWs := hf.size
  have hWlt := (hi.lt).1
  refine ⟨KI w W U r m J, fun _ w1 => itLeft w1 W.heap.size m.length, ⟨[], U, rfl, hi, (J []).keep hJ f1 fun _ _ h => h, fun b hb => ?_, f1.mono fun _ _ h => h.elim⟩, ?_⟩
  · have := hU b hb
    have := f1.size
    exact ⟨by omega, by omega, by omega⟩
  rintro x w2 ⟨done, U1, hx1, hi2, hJ2, hU2, f2⟩
  unfold M.maps_Keys_map_uint64_api_Member_uint64_api_Member_1.j0
  refine nx_map hi2 hn T._ (fun hall => ?_) fun y v w3 hy hyd hc3 f3 hlt => ?_
  · have e0 : ∀ w K, exT P (.tuple #[.bool false]) 0 w K = K (.bool false) w := fun _ _ => rfl
    simp [e0]
    obtain ⟨h1, h2⟩ := it_facts hi2
    refine hend _ w2 done.reverse U1 ?_ hJ2 f2
    refine (List.reverse_perm done).trans ?_
    refine (List.perm_ext_iff_of_nodup h1 hn).2 fun z => ⟨h2 z, fun hz => ?_⟩
    obtain ⟨p, hp, rfl⟩ := List.mem_map.1 hz
    exact hall p hp
  · simp
    rw [en_map hc3]
    simp
    have hnit : ∀ b, U1 b → ¬ b = W.heap.size := fun b hb => (hU2 b hb).2.2
    have hJ3 := (J done.reverse).keep hJ2 f3 hnit
    have hlen : done.length < m.length := by
      obtain ⟨h1, h2⟩ := it_facts hi2
      have := len_le_of_sub (l := y :: done) (l' := mkeys m) (List.nodup_cons.2 ⟨hyd, h1⟩) fun z hz => by
        rcases List.mem_cons.1 hz with rfl | hz
        · exact List.mem_map_of_mem hy
        · exact h2 z hz
      simp only [mkeys, List.length_map, List.length_cons] at this
      omega
    have hs3 := f3.size
    refine hround done.reverse y w3 U1 _ hJ3 (fun b hb => ⟨(hU2 b hb).1, by have := (hU2 b hb).2.1; omega⟩) (by simp; omega) fun w4 U4 hJ4 hU4 f4 => ?_
    simp
    have hit : ¬ U1 W.heap.size := fun h => hnit _ h rfl
    have hr1 : ¬ U1 r := fun h => by have := (hU2 r h).1; omega
    have hi3 : ItAt w3 W.heap.size r .u64 m (y :: done) := hc3.1
    have hi4 := hi3.keep (f4.keep _ hi3.lt.1 hit) (f4.keep _ hi3.lt.2 hr1)
    refine ⟨⟨y :: done, U4, rfl, hi4, by simpa using hJ4, fun b hb => ?_, ?_⟩, ?_⟩
    · rcases hU4 b hb with h | h
      · have := hU2 b h
        have := f4.size
        exact ⟨by omega, by omega, by omega⟩
      · have := hi3.lt.1
        have := f2.size
        exact ⟨by omega, by omega, by omega⟩
    · refine (f2.trans' f3 fun b hb he => by omega).trans' f4 fun b hb he => (hU2 b he).1
    · have : itLeft w4 W.heap.size m.length = itLeft w3 W.heap.size m.length := by
        unfold itLeft
        rw [f4.keep _ hi3.lt.1 hit]
      rw [this]; exact hlt

/-- slices.Sorted(maps.Keys(m)). -/
theorem keys_ok {w : World} {r : Nat} {m : MP} (hm : MapAt w r .u64 m) (hn : (mkeys m).Nodup) (hl : m.length < 60000) {K : KV}
    (h : ∀ w' v, OwN w' w.heap.size v (srtd (mkeys m)) → Fr (fun _ => False) w w' → K v w') :
    fcallT P F.maps_Keys_map_uint64_api_Member_uint64_api_Member [.map (some r)] w fun t w => fcallT P F.slices_Sorted_uint64 [t] w K := by
  rw [M.maps_Keys_map_uint64_api_Member_uint64_api_Member.fcall]
  apply M.maps_Keys_map_uint64_api_Member_uint64_api_Member.calls
  unfold M.maps_Keys_map_uint64_api_Member_uint64_api_Member
  rw [box_eq, mkf_eq]
  show fcallT P F.slices_Sorted_uint64 _ _ K
  rw [M.slices_Sorted_uint64.fcall]
  have f1 : Fr (fun _ => False) w (w.alloc (.cells #[.map (some r)] T.map_uint64_api_Member)) := (Fr.refl _ w).alloc _
  have hB : (w.alloc (.cells #[.map (some r)] T.map_uint64_api_Member)).heap[w.heap.size]? = some (.cells #[.map (some r)] T.map_uint64_api_Member (0, 0)) := by rw [alloc_heap, if_pos rfl]
  have hsz : w.heap.size ≤ (w.alloc (.cells #[.map (some r)] T.map_uint64_api_Member)).heap.size := by simp
  refine sorted_ok (ks := mkeys m) FN.maps_Keys_map_uint64_api_Member_uint64_api_Member_1.at (by kernel_rfl) (by kernel_rfl) (by simpa [mkeys] using hl) (keys_seq (hm.of_heap (f1.keep r hm.lt fun h => h)) hn hB hl) fun w2 v o2 f2 => ?_
  exact h w2 v (o2.mono hsz) (f1.trans f2)
end Go.Proofs.Ytkjhekflgghbdaa.KeyV
set_option maxRecDepth 100000
namespace Go.Proofs.Ytkjhekflgghbdaa.CM
open Go.Eng

theorem grow_ok {w : World} {n : Nat} (hn : n ≤ 1000000000) {K : KV} (h : ∀ w' v, Ow w' w.heap.size T.api_Member 3 encM v [] → Fr (fun _ => False) w w' → K v w') :
    callT P F.slices_Grow_api_Member_api_Member [.slice none 0 0, .int .i64 n] w K := by
  apply M.slices_Grow_api_Member_api_Member.calls
  unfold M.slices_Grow_api_Member_api_Member
  have hneg : ¬ (n : Int) < 0 := by omega
  simp [hneg]
  unfold M.slices_Grow_api_Member_api_Member.j0
  have hsl : isSlB P T.sl_api_Member = true := by kernel_rfl
  have w0 : IntKind.i64.wrap 0 = 0 := by decide
  have wn : IntKind.i64.wrap (n : Int) = n := wrap_id (by omega) (by omega)
  rw [joinT_eq, cap_sl hsl, len_sl hsl]
  simp only [bin_sub, bin_gtr]
  have e1 : IntKind.i64.wrap ((n : Int) - IntKind.i64.wrap (((0 : Nat) : Int) - ((0 : Nat) : Int))) = n := by
    rw [show ((0 : Nat) : Int) - ((0 : Nat) : Int) = 0 from by omega, w0, Int.sub_zero, wn]
  rw [e1]
  by_cases h0 : 0 < n
  · have h0' : (0 : Int) < n := by omega
    simp only [h0', decide_true, Eng.cond_true]
    rw [cap_sl hsl, sl_gen (i := 0) (j := 0) hsl (.inl ⟨rfl, rfl⟩) (.inr ⟨.i64, rfl⟩) (Nat.le_refl _) (Nat.le_refl _)]
    refine app_mk (enc := encM) et.sl_api_Member (kn := .i64) (by kernel_rfl) h0 hn (by decide) _ fun w' cap hc o f => ?_
    rw [len_sl hsl, sl_gen (i := 0) (j := 0) hsl (.inl ⟨rfl, rfl⟩) (.inr ⟨.i64, rfl⟩) (Nat.le_refl _) (Nat.zero_le _)]
    rw [if_neg (by omega)]
    have := h w' _ o f
    simpa [Addr.add, gv] using this
  · have h0' : ¬ (0 : Int) < n := by omega
    simp only [h0', decide_false, Eng.cond_false]
    exact h w _ Ow.none (Fr.refl _ _)

abbrev Sls (w : World) (v : Value) (l : List Mem) : Prop := Sl w 3 encM v l
abbrev Ows (w : World) (base : Nat) (v : Value) (l : List Mem) : Prop := Ow w base T.api_Member 3 encM v l
def tot (L : List (Value × List Mem)) : Nat := (L.map fun p => p.2.length).sum
theorem tot_take {L : List (Value × List Mem)} {i : Nat} (hi : i < L.length) : tot (L.take (i + 1)) = tot (L.take i) + L[i].2.length := by
  unfold tot
  rw [List.take_succ_eq_append_getElem hi, List.map_append, List.sum_append]; simp
theorem tot_le {L : List (Value × List Mem)} (i : Nat) : tot (L.take i) ≤ tot L := by
  unfold tot
  conv => rhs; rw [← List.take_append_drop i L, List.map_append, List.sum_append]
  omega
theorem flat_len (L : List (Value × List Mem)) : (L.flatMap (·.2)).length = tot L := by
  unfold tot
  induction L with
  | nil => rfl
  | cons p L ih => simp [ih]
def CaI (w : World) (L : List (Value × List Mem)) : KL := fun x w1 => ∃ (u : Value) (i : Nat), x = [u, .int .i64 (tot (L.take i) : Nat), .int .i64 (i : Nat)] ∧ w1 = w ∧ i ≤ L.length
def CbI (w : World) (L : List (Value × List Mem)) : KL := fun x w1 => ∃ (u v : Value) (i : Nat), x = [u, v, .int .i64 (i : Nat)] ∧ i ≤ L.length ∧ Fr (fun _ => False) w w1 ∧ Ows w1 w.heap.size v ((L.take i).flatMap (·.2))
theorem concat_ok {w : World} {b cap : Nat} {L : List (Value × List Mem)} {e : TypeId} (hb : w.heap[b]? = some (.cells (L.map (·.1)).toArray e (0, 0))) (hs : ∀ p ∈ L, Sls w p.1 p.2) (ht : tot L ≤ 100000000) (hL : L.length ≤ 1000) {K : KV}
    (h : ∀ w' v, Ows w' w.heap.size v (L.flatMap (·.2)) → Fr (fun _ => False) w w' → K v w') : callT P F.slices_Concat_api_Member_api_Member [.slice (some ⟨b, 0, none⟩) L.length cap] w K := by
  apply M.slices_Concat_api_Member_api_Member.calls
  unfold M.slices_Concat_api_Member_api_Member
  have hss : isSlB P T.sl_sl_api_Member = true := by kernel_rfl
  have hsl : isSlB P T.sl_api_Member = true := by kernel_rfl
  have q0 : ∀ a b c : Value, gv [a, b, c] 0 = a := fun _ _ _ => rfl
  have q1 : ∀ a b c : Value, gv [a, b, c] 1 = b := fun _ _ _ => rfl
  have q2 : ∀ a b c : Value, gv [a, b, c] 2 = c := fun _ _ _ => rfl
  have q4 : ∀ a b c d e : Value, gv [a, b, c, d, e] 4 = e := fun _ _ _ _ _ => rfl
  have cell : ∀ (w' : World), Fr (fun _ => False) w w' → ∀ (i : Nat) (hi : i < L.length), cellOf w' b i = some L[i].1 := fun w' f i hi => by
    rw [cellOf_of (f.heap hb fun h => h)]
    simp [hi]
  rw [joinT_eq, len_sl hss]
  refine ⟨CaI w L, fun x _ => L.length - ms x 2, ⟨_, 0, rfl, rfl, Nat.zero_le _⟩, ?_⟩
  rintro x w1 ⟨u, i, rfl, rfl, hi⟩
  simp only [q0, q1, q2, bin_lss, joinT_eq]
  by_cases hil : i < L.length
  · have hil' : (i : Int) < L.length := by omega
    simp only [hil', decide_true, Eng.cond_true]
    unfold M.slices_Concat_api_Member_api_Member.j2
    have hwi : IntKind.i64.wrap ((i : Int) + 1) = ((i + 1 : Nat) : Int) := by rw [wrap_id (by omega) (by omega)]; rfl
    have c0 := cell w1 (Fr.refl _ _) i hil
    have hsi := hs L[i] (List.getElem_mem hil)
    obtain ⟨a', cap', hv', _⟩ := hsi
    have htt := tot_take hil
    have hle := tot_le (L := L) (i + 1)
    have hwt : IntKind.i64.wrap ((tot (L.take i) : Int) + (L[i].2.length : Int)) = ((tot (L.take (i + 1)) : Nat) : Int) := by rw [wrap_id (by omega) (by omega)]; omega
    have hng : ¬ ((tot (L.take (i + 1)) : Nat) : Int) < 0 := by omega
    simp only [q0, q1, q2, joinT_eq]
    simp [hil, c0, hv', hwt, hwi, -Int.natCast_add]
    refine ⟨⟨_, i + 1, rfl, rfl, by omega⟩, ?_⟩
    simp [ms, gv]; omega
  · have hie : i = L.length := by omega
    have hil' : ¬ (i : Int) < L.length := by omega
    simp only [hil', decide_false, Eng.cond_false]
    have htk : L.take i = L := List.take_of_length_le (by omega)
    rw [htk]
    unfold M.slices_Concat_api_Member_api_Member.j0
    simp only [q4]
    rw [M.slices_Grow_api_Member_api_Member.fcall]
    refine grow_ok (by omega) fun w2 v2 o2 f2 => ?_
    rw [joinT_eq, len_sl hss]
    refine ⟨CbI w1 L, fun x _ => L.length - ms x 2, ⟨_, v2, 0, rfl, Nat.zero_le _, f2, o2⟩, ?_⟩
    rintro x w3 ⟨u', v, j, rfl, hj, f3, o3⟩
    simp only [q0, q1, q2, bin_lss, joinT_eq]
    by_cases hjl : j < L.length
    · have hjl' : (j : Int) < L.length := by omega
      simp only [hjl', decide_true, Eng.cond_true]
      unfold M.slices_Concat_api_Member_api_Member.j6
      have hwj : IntKind.i64.wrap ((j : Int) + 1) = ((j + 1 : Nat) : Int) := by rw [wrap_id (by omega) (by omega)]; rfl
      have c0 := cell w3 f3 j hjl
      have hsj := (hs L[j] (List.getElem_mem hjl)).fr f3 fun _ _ _ h => h
      have hl1 : ((L.take j).flatMap (·.2)).length = tot (L.take j) := flat_len _
      have htt := tot_take hjl
      have hle := tot_le (L := L) (j + 1)
      simp only [q0, q1, q2, joinT_eq]
      simp [hjl, c0, -List.length_flatMap]
      have hge := f3.size
      refine app_sl et.sl_api_Member encM_len encM_one o3 hsj (by rw [hl1]; omega) (by decide) hge _ fun v' w4 o4 f4 g4 => ?_
      simp only [hwj]
      refine ⟨⟨_, v', j + 1, rfl, by omega, f3.trans' f4 fun x hx he => by have := (o3.lt he).1; omega, ?_⟩, ?_⟩
      · rw [List.take_succ_eq_append_getElem hjl, List.flatMap_append]
        simpa using o4
      · simp [ms, gv]; omega
    · have hjl' : ¬ (j : Int) < L.length := by omega
      simp only [hjl', decide_false, Eng.cond_false, q4]
      have htj : L.take j = L := List.take_of_length_le (by omega)
      rw [htj] at o3
      exact h w3 v o3 f3
end Go.Proofs.Ytkjhekflgghbdaa.CM
set_option maxRecDepth 100000
namespace Go.Proofs.Ytkjhekflgghbdaa
open Go.Eng
def newerM (x y : Mem) : Bool := decide (y.inc < x.inc) || (decide (x.inc = y.inc) && decide (y.st < x.st))
def cmpI (x y : Int) : Int := if x < y then -1 else if y < x then 1 else 0
theorem compareU {w : World} (x y : Int) {K : KV} (h : K (.int .i64 (cmpI x y)) w) : fcallT P F.cmp_Compare_uint64 [.int .u64 x, .int .u64 y] w K := by
  rw [M.cmp_Compare_uint64.fcall]
  apply M.cmp_Compare_uint64.calls
  unfold M.cmp_Compare_uint64
  have nan : ∀ (z : Int) {K : KV}, K (.bool false) w → fcallT P F.cmp_isNaN_uint64 [.int .u64 z] w K := fun z K hK => by
    rw [M.cmp_isNaN_uint64.fcall]
    apply M.cmp_isNaN_uint64.calls
    unfold M.cmp_isNaN_uint64
    simp; exact hK
  refine nan x ?_
  refine nan y ?_
  simp
  unfold M.cmp_Compare_uint64.j2 cmpI at *
  by_cases h1 : x < y
  · simp [h1] at h ⊢; exact h
  · by_cases h2 : y < x
    · simp [h1, h2] at h ⊢; exact h
    · simp [h1, h2] at h ⊢; exact h
theorem compareI {w : World} (x y : Int) {K : KV} (h : K (.int .i64 (cmpI x y)) w) : fcallT P F.cmp_Compare_int [.int .i64 x, .int .i64 y] w K := by
  rw [M.cmp_Compare_int.fcall]
  apply M.cmp_Compare_int.calls
  unfold M.cmp_Compare_int
  have nan : ∀ (z : Int) {K : KV}, K (.bool false) w → fcallT P F.cmp_isNaN_int [.int .i64 z] w K := fun z K hK => by
    rw [M.cmp_isNaN_int.fcall]
    apply M.cmp_isNaN_int.calls
    unfold M.cmp_isNaN_int
    simp; exact hK
  refine nan x ?_
  refine nan y ?_
  simp
  unfold M.cmp_Compare_int.j2 cmpI at *
  by_cases h1 : x < y
  · simp [h1] at h ⊢; exact h
  · by_cases h2 : y < x
    · simp [h1, h2] at h ⊢; exact h
    · simp [h1, h2] at h ⊢; exact h
def encI (x : Int) : List Value := [.int .i64 x]
def O2I (w : World) (x y : Int) : KL := fun z w1 => w1 = w ∧ ∃ (u0 u1 : Value) (i : Nat), z = [u0, u1, .int .i64 (i : Nat)] ∧ i ≤ 2 ∧ (0 < i → x = 0) ∧ (1 < i → y = 0)
/-- The first of two numbers that is not 0. -/
theorem or2_ok {w : World} {v : Value} {x y : Int} (hs : Sl w 1 encI v [x, y]) {K : KV} (h : K (.int .i64 (if x ≠ 0 then x else y)) w) : fcallT P F.cmp_Or_int [v] w K := by
  rw [M.cmp_Or_int.fcall]
  apply M.cmp_Or_int.calls
  unfold M.cmp_Or_int
  simp only [joinT_eq]
  rw [hs.len_ok (by kernel_rfl)]
  refine ⟨O2I w x y, fun z _ => 2 - ms z 2, ⟨rfl, _, _, 0, rfl, by omega, fun h => by omega, fun h => by omega⟩, ?_⟩
  rintro z w1 ⟨rfl, u0, u1, i, rfl, hi, hx, hy⟩
  have q2 : gv [u0, u1, .int .i64 (i : Nat)] 2 = .int .i64 (i : Nat) := rfl
  simp only [q2]
  obtain ⟨a, cap, hv, _, _, hc⟩ := id hs
  obtain ⟨b, o, rfl, _, e0⟩ := hc 0 x rfl
  obtain ⟨b', o', hbo, _, e1⟩ := hc 1 y rfl
  injection hbo with hbo
  injection hbo with h1 h2
  subst h1 h2
  have c0 := e0 0 _ rfl
  have c1 := e1 0 _ rfl
  simp only [Nat.zero_mul, Nat.add_zero, Nat.one_mul] at c0 c1
  unfold M.cmp_Or_int.j2
  have hv2 : v = .slice (some ⟨b, o, none⟩) 2 cap := hv
  subst hv2
  have w1' : IntKind.i64.wrap ((0 : Int) + 1) = ((1 : Nat) : Int) := by rw [wrap_id (by omega) (by omega)]; rfl
  have w2' : IntKind.i64.wrap ((1 : Int) + 1) = ((2 : Nat) : Int) := by rw [wrap_id (by omega) (by omega)]; rfl
  have w1'' : IntKind.i64.wrap 1 = 1 := wrap_id (by omega) (by omega)
  have w2'' : IntKind.i64.wrap 2 = 2 := wrap_id (by omega) (by omega)
  match i, hi, hx, hy with
  | 0, _, _, _ =>
    by_cases hx0 : x = 0
    · subst hx0
      simp [q2, c0, w1'']
      exact ⟨⟨rfl, _, _, 1, rfl, by omega, fun _ => rfl, fun h => by omega⟩, by simp [ms, gv]⟩
    · simp [hx0] at h
      simp [q2, c0, hx0]
      exact h
  | 1, _, hx, _ =>
    have hx0 := hx (by omega)
    subst hx0
    simp at h
    by_cases hy0 : y = 0
    · subst hy0
      simp [q2, c1, w2'']
      exact ⟨⟨rfl, _, _, 2, rfl, by omega, fun _ => rfl, fun _ => rfl⟩, by simp [ms, gv]⟩
    · simp [q2, c1, hy0]
      exact h
  | 2, _, hx, hy =>
    have hx0 := hx (by omega)
    have hy0 := hy (by omega)
    subst hx0 hy0
    simp at h
    simp [q2]
    exact h
theorem newer_ok {w : World} (x y : Mem) {K : KV} (h : ∀ w', Fr (fun _ => False) w w' → K (.bool (newerM x y)) w') : fcallT P F.view_Newer [aggM x, aggM y] w K := by
  rw [M.view_Newer.fcall]
  apply M.view_Newer.calls
  unfold M.view_Newer aggM
  have hb1 : (w.alloc (.cells #[.int .u64 x.id, .int .u64 x.inc, .int .i64 x.st] T.api_Member)).heap[w.heap.size]? = some (.cells #[.int .u64 x.id, .int .u64 x.inc, .int .i64 x.st] T.api_Member (0, 0)) := by rw [alloc_heap, if_pos rfl]
  have f1 : Fr (fun _ => False) w (w.alloc (.cells #[.int .u64 x.id, .int .u64 x.inc, .int .i64 x.st] T.api_Member)) := (Fr.refl _ w).alloc _
  simp
  have hsz : (w.alloc (.cells #[.int .u64 x.id, .int .u64 x.inc, .int .i64 x.st] T.api_Member)).heap.size = w.heap.size + 1 := alloc_size _ _
  generalize w.alloc (.cells #[.int .u64 x.id, .int .u64 x.inc, .int .i64 x.st] T.api_Member) = w1 at *
  have hb2 : (w1.alloc (.cells #[.int .u64 y.id, .int .u64 y.inc, .int .i64 y.st] T.api_Member)).heap[w1.heap.size]? = some (.cells #[.int .u64 y.id, .int .u64 y.inc, .int .i64 y.st] T.api_Member (0, 0)) := by rw [alloc_heap, if_pos rfl]
  have f2 : Fr (fun _ => False) w1 (w1.alloc (.cells #[.int .u64 y.id, .int .u64 y.inc, .int .i64 y.st] T.api_Member)) := (Fr.refl _ w1).alloc _
  have hb1' := f2.heap hb1 fun h => h
  rw [hsz] at hb2
  generalize w1.alloc (.cells #[.int .u64 y.id, .int .u64 y.inc, .int .i64 y.st] T.api_Member) = w2 at *
  have p1 : cellOf w2 w.heap.size 1 = some (.int .u64 x.inc) := by rw [cellOf_of hb1']; rfl
  have p2 : cellOf w2 w.heap.size 2 = some (.int .i64 x.st) := by rw [cellOf_of hb1']; rfl
  have q1 : cellOf w2 (w.heap.size + 1) 1 = some (.int .u64 y.inc) := by rw [cellOf_of hb2]; rfl
  have q2 : cellOf w2 (w.heap.size + 1) 2 = some (.int .i64 y.st) := by rw [cellOf_of hb2]; rfl
  simp [p1, p2, q1, q2]
  refine compareU _ _ ?_
  simp [p1, p2, q1, q2]
  refine compareI _ _ ?_
  simp
  refine or2_ok (x := cmpI x.inc y.inc) (y := cmpI x.st y.st) (hs := ?_) ?_
  · refine ⟨some ⟨w2.heap.size, 0, none⟩, 2, rfl, Nat.le_refl _, by decide, fun i z hz => ?_⟩
    refine ⟨w2.heap.size, 0, rfl, by simp, fun j u hj => ?_⟩
    rw [cellOf_of (c := #[.int .i64 (cmpI x.inc y.inc), .int .i64 (cmpI x.st y.st)]) (e := T.int) (f := (0, 0)) (by rw [alloc_heap, if_pos (show w2.heap.size = (Eng.dr w2 1).heap.size from rfl)])]
    match i, hz with
    | 0, hz => simp at hz; subst hz; match j, hj with
      | 0, hj => simp [encI] at hj; subst hj; rfl
      | j + 1, hj => simp [encI] at hj
    | 1, hz => simp at hz; subst hz; match j, hj with
      | 0, hj => simp [encI] at hj; subst hj; rfl
      | j + 1, hj => simp [encI] at hj
    | i + 2, hz => simp at hz
  · simp
    have e : decide (0 < if cmpI x.inc y.inc ≠ 0 then cmpI x.inc y.inc else cmpI x.st y.st) = newerM x y := by
      unfold newerM cmpI
      by_cases a1 : x.inc < y.inc
      · have a2 : ¬ y.inc < x.inc := by omega
        have a3 : ¬ x.inc = y.inc := by omega
        simp [a1, a2, a3]
      · by_cases a2 : y.inc < x.inc
        · simp [a1, a2]
        · have a3 : x.inc = y.inc := by omega
          by_cases a4 : x.st < y.st
          · have a5 : ¬ y.st < x.st := by omega
            simp [a1, a2, a3, a4, a5]
          · by_cases a5 : y.st < x.st <;> simp [a1, a2, a3, a4, a5]
    simp at e
    rw [e]
    exact h _ ((((f1.trans f2).dr 1)).alloc _)
end Go.Proofs.Ytkjhekflgghbdaa
set_option maxRecDepth 100000
namespace Go.Proofs.Ytkjhekflgghbdaa
open Go.Eng
def insM : List Mem → Mem → List Mem
  | [], x => [x]
  | o :: t, x => if o.id = x.id then (if newerM x o = true then x else o) :: t else o :: insM t x
def encA (A : List Mem) : MP := A.map fun x => (x.id, aggM x)
def findM (A : List Mem) (k : Int) : Option Mem := A.find? fun x => decide (x.id = k)
theorem mget_encA (A : List Mem) (k : Int) : mget (encA A) k = (findM A k).map aggM := by
  unfold findM encA
  induction A with
  | nil => rfl
  | cons o t ih =>
    rw [List.map_cons, List.find?_cons]
    unfold mget
    by_cases h : o.id = k
    · simp [h]
    · simp only [decide_eq_false h, if_neg h]
      exact ih
theorem mset_encA (A : List Mem) (x : Mem) (h : ∀ o, findM A x.id = some o → newerM x o = true) : mset (encA A) x.id (aggM x) = encA (insM A x) := by
  unfold findM at h
  unfold encA
  induction A with
  | nil => rfl
  | cons o t ih =>
    rw [List.map_cons]
    unfold mset insM
    by_cases ho : o.id = x.id
    · have hn := h o (by simp [ho])
      simp [ho, hn]
    · rw [if_neg ho, if_neg ho, List.map_cons]
      rw [ih fun o' ho' => h o' (by rw [List.find?_cons, decide_eq_false ho]; exact ho')]
theorem insM_still (A : List Mem) (x : Mem) {o : Mem} (h : findM A x.id = some o) (hn : newerM x o = false) : insM A x = A := by
  unfold findM at h
  induction A with
  | nil => cases h
  | cons a t ih =>
    unfold insM
    rw [List.find?_cons] at h
    by_cases ho : a.id = x.id
    · rw [decide_eq_true ho] at h
      cases h
      rw [if_pos ho, hn]; rfl
    · rw [decide_eq_false ho] at h
      rw [if_neg ho, ih h]
abbrev rowM (v : Value) (l : List Mem) : Asn := rowA T.api_Member 3 encM v l
section
variable {w0 w : World} {R : List Asn} {r : Nat} {A L : List Mem} {tv : Value}
theorem mapAt_of {m : MP} (S : St w0 w (mapA r .u64 m :: R)) : MapAt w r .u64 m ∧ (mkeys m).Nodup := by
  obtain ⟨B, h1, _⟩ := S.open
  exact h1.1
theorem mapSet {m : MP} (S : St w0 w (mapA r .u64 m :: R)) {o : Obj} {k : Int} {v : Value} (h : MapAt (World.setObj w r o) r .u64 (mset m k v)) : St w0 (World.setObj w r o) (mapA r .u64 (mset m k v) :: R) := by
  obtain ⟨B, ⟨k1, k2⟩, hB, cl⟩ := S.open
  refine cl (World.setObj w r o) [mapA r .u64 (mset m k v)] ((Fr.refl B w).setObj (.inl k2) o) (Rs.one (B := B) ⟨⟨h, ?_⟩, k2⟩ fun b hb => .inl hb)
  rw [mkeys_mset]
  split
  · exact k1.2
  · rename_i hx
    rw [List.nodup_append]
    exact ⟨k1.2, by simp, fun a ha b hb' hab => by
      simp at hb'
      exact hx (by rw [← hb', ← hab]; exact ha)⟩
theorem mrJ3 (S : St w0 w (rowM tv L :: mapA r .u64 (encA A) :: R)) {i : Nat} (hi : i < L.length) (hL : L.length ≤ 1000000) {u : Value} {K2 : KL} {K : KV}
    (h : ∀ w' y, St w0 w' (rowM tv L :: mapA r .u64 (encA (insM A L[i])) :: R) → K2 [y, .int .i64 ((i + 1 : Nat) : Int)] w') : M.view_Merge.j3 tv [u, .int .i64 (i : Nat)] (.map (some r)) K2 w K := by
  unfold M.view_Merge.j3
  have q1 : gv [u, .int .i64 (i : Nat)] 1 = .int .i64 (i : Nat) := rfl
  have hwi : IntKind.i64.wrap ((i : Int) + 1) = ((i + 1 : Nat) : Int) := by rw [wrap_id (by omega) (by omega)]; rfl
  obtain ⟨b, o, cap, hv, hb, _, hc⟩ := (S.row encM_len : SlM w tv L).at hi
  have hld : ∀ K, ldN P 3 b (o + i * 3) w K = K (aggM L[i]) w := fun K => ldM hc K
  generalize L[i] = x at *
  simp only [joinT_eq, q1, bin_add, hwi]
  rw [hv]
  simp [hi, hld]
  rw [show aggM x = .agg #[.int .u64 x.id, .int .u64 x.inc, .int .i64 x.st] from rfl]
  simp
  have hba : (w.alloc (.cells #[.int .u64 0, .int .u64 0, .int .i64 0] T.api_Member)).heap[w.heap.size]? = some (.cells #[.int .u64 0, .int .u64 0, .int .i64 0] T.api_Member (0, 0)) := by rw [alloc_heap, if_pos rfl]
  refine stN_all (vs := [.int .u64 x.id, .int .u64 x.inc, .int .i64 x.st]) hba rfl (by simp) fun w2 b2 f2 => ?_
  have f2' : Fr (fun _ => False) w w2 := ((Fr.refl _ w).alloc _).trans' f2 fun y hy he => by subst he; omega
  have S2 := S.step f2'
  have hld2 : ∀ {w'}, Fr (fun _ => False) w2 w' → ∀ K, ldN P 3 w.heap.size 0 w' K = K (aggM x) w' := fun f K => by
    have b3 := f.heap b2 fun h => h
    exact ldM (m := x) (i := 0) (fun k v hk => by rw [cellOf_of b3, Nat.zero_add, List.getElem?_toArray]; exact hk) K
  have hc0 : ∀ {w'}, Fr (fun _ => False) w2 w' → cellOf w' w.heap.size 0 = some (.int .u64 x.id) := fun f => by
    rw [cellOf_of (f.heap b2 fun h => h)]; rfl
  have c0 := hc0 (Fr.refl _ _)
  simp [c0]
  rw [luok_eq mt.map_uint64_api_Member (mapAt_of S2.swap).1, mget_encA]
  -- the old one, or nothing
  have old : ∀ (z : Mem) {Q : World → Prop}, (∀ w', Fr (fun _ => False) w2 w' → w'.heap[w2.heap.size]? = some (.cells (encM z).toArray T.api_Member (0, 0)) → Q w') →
      stN P w2.heap.size 0 [.int .u64 z.id, .int .u64 z.inc, .int .i64 z.st] (w2.alloc (.cells #[.int .u64 0, .int .u64 0, .int .i64 0] T.api_Member)) fun _ w => Q w := by
    intro z Q hQ
    have hbb : (w2.alloc (.cells #[.int .u64 0, .int .u64 0, .int .i64 0] T.api_Member)).heap[w2.heap.size]? = some (.cells #[.int .u64 0, .int .u64 0, .int .i64 0] T.api_Member (0, 0)) := by rw [alloc_heap, if_pos rfl]
    refine stN_all (vs := [.int .u64 z.id, .int .u64 z.inc, .int .i64 z.st]) hbb rfl (by simp) fun w3 b3 f3 => ?_
    exact hQ w3 (((Fr.refl _ w2).alloc _).trans' f3 fun y hy he => by subst he; omega) b3
  cases hf : findM A x.id with
  | none =>
    simp
    refine old ⟨0, 0, 0⟩ fun w3 f3 hb3 => ?_
    have e := mset_encA A x fun o ho => by rw [hf] at ho; cases ho
    simp [hc0 f3]
    rw [hld2 f3]
    have S3 := (S2.step f3).swap
    refine mu_ok mt.map_uint64_api_Member (mapAt_of S3).1 x.id _ _ fun ob hob => ?_
    have S4 := (mapSet S3 hob).swap
    rw [e] at S4
    exact h _ _ S4
  | some z =>
    simp
    rw [show aggM z = .agg #[.int .u64 z.id, .int .u64 z.inc, .int .i64 z.st] from rfl]
    simp
    refine old z fun w3 f3 hb3 => ?_
    have hldz : ∀ K, ldN P 3 w2.heap.size 0 w3 K = K (aggM z) w3 := fun K => ldM (m := z) (i := 0) (fun k v hk => by rw [cellOf_of hb3, Nat.zero_add, List.getElem?_toArray]; exact hk) K
    rw [hld2 f3]
    try simp
    rw [hldz]
    try simp
    refine newer_ok x z fun w4 f4 => ?_
    have S4 := (S2.step (f3.trans f4)).swap
    cases hnw : newerM x z with
    | true =>
      have e := mset_encA A x fun o ho => by rw [hf] at ho; cases ho; exact hnw
      simp [hc0 (f3.trans f4)]
      rw [hld2 (f3.trans f4)]
      refine mu_ok mt.map_uint64_api_Member (mapAt_of S4).1 x.id _ _ fun ob hob => ?_
      have S5 := (mapSet S4 hob).swap
      rw [e] at S5
      exact h _ _ S5
    | false =>
      simp
      have e := insM_still A x hf hnw
      rw [e] at h
      exact h _ _ S4.swap
end
end Go.Proofs.Ytkjhekflgghbdaa
set_option maxRecDepth 100000
namespace Go.Proofs.Ytkjhekflgghbdaa
open Go.Eng
def mergeA (L : List Mem) : List Mem := L.foldl insM []
def outM (A : List Mem) : List Mem := (Suint64.srtd (A.map Mem.id)).map fun k => (findM A k).getD ⟨0, 0, 0⟩
def mergeV (a b : List Mem) : List Mem × Int :=
  if vright a ≠ 0 ∨ vright b ≠ 0 then ([], 6) else if 16 < (mergeA (a ++ b)).length then ([], 4) else (outM (mergeA (a ++ b)), 0)
theorem insM_len (A : List Mem) (x : Mem) : (insM A x).length ≤ A.length + 1 := by
  induction A with
  | nil => simp [insM]
  | cons o t ih =>
    unfold insM
    split
    · simp
    · simp; omega
theorem mergeA_len (L : List Mem) : (mergeA L).length ≤ L.length := by
  have h : ∀ (L A : List Mem), (L.foldl insM A).length ≤ A.length + L.length := fun L => by
    induction L with
    | nil => intro A; simp
    | cons x L ih =>
      intro A
      have h1 := ih (insM A x)
      have h2 := insM_len A x
      rw [List.foldl_cons, List.length_cons]; omega
  simpa [mergeA] using h L []
theorem vright_cases (l : List Mem) : vright l = 0 ∨ vright l = 6 := by
  unfold vright
  split
  · exact .inl rfl
  · split <;> simp
section
variable {w0 w : World} {R : List Asn} {r : Nat} {A L : List Mem} {tv : Value}
theorem nilRowM (S : St w0 w R) : St w0 w (rowM (.slice none 0 0) [] :: R) := S.add (a := rowM (.slice none 0 0) []) (Fr.refl _ w) (B := fun _ => False) ⟨Ow.none, fun b hb => by simp [Value.ownBlock] at hb⟩ fun b hb => hb.elim
theorem moreRowM {v v2 : Value} {l l2 : List Mem} (S : St w0 w (rowM v l :: R)) (hs : SlM w v2 l2) (hl : l.length + l2.length ≤ 1000000000) {cs : List Bool} {ty : TypeId} {K : KV} (h : ∀ w' v', St w0 w' (rowM v' (l ++ l2) :: R) → K v' w') :
    biT P .append #[T.sl_api_Member, T.sl_api_Member] ty cs [v, v2] w K := by
  obtain ⟨B, ⟨h1, h2⟩, hB, cl⟩ := S.open
  refine app_sl et.sl_api_Member encM_len encM_one h1 hs hl (by decide) (Nat.zero_le _) cs fun v' w' o f g => ?_
  refine h w' v' (cl w' [rowM v' (l ++ l2)] (f.mono fun x _ hx => h2 x hx) (Rs.one (B := fun x => v'.ownBlock = some x) ⟨o, fun b hb => hb⟩ fun x hx => ?_))
  rcases g with g | ⟨y, g1, g2⟩
  · exact .inl (h2 x (by rw [← g]; exact hx))
  · rw [hx] at g1; cases g1
    exact .inr ⟨g2, (o.lt hx).2⟩
/-- The list out of the map. -/
def OmI (w0 : World) (r : Nat) (A : List Mem) (kv : Value) (ks : List Int) (R : List Asn) : KL := fun x w1 => ∃ (u0 v : Value) (i : Nat), x = [u0, v, .int .i64 (i : Nat)] ∧ i ≤ ks.length ∧ St w0 w1 (rowM v ((ks.take i).map fun k => (findM A k).getD ⟨0, 0, 0⟩) :: rowU' kv ks :: mapA r .u64 (encA A) :: R)
where rowU' (v : Value) (l : List Int) : Asn := rowA T.uint64 1 Suint64.encL v l
theorem mrJ5 (S : St w0 w (mapA r .u64 (encA A) :: R)) (hA : A.length ≤ 1000) {K : KV} (h : ∀ w' v, St w0 w' (rowM v (outM A) :: R) → K (.tuple #[v, .int .i64 0]) w') : M.view_Merge.j5 (.map (some r)) [.slice none 0 0, .int .i64 0] w K := by
  unfold M.view_Merge.j5
  obtain ⟨hm, hn⟩ := mapAt_of S
  have hk : mkeys (encA A) = A.map Mem.id := by unfold mkeys encA; rw [List.map_map]; rfl
  rw [joinT_eq]
  refine KeyV.keys_ok hm hn (by simp [encA]; omega) fun w1 kv o f => ?_
  rw [hk] at o
  generalize hks : Suint64.srtd (A.map Mem.id) = ks at o
  have hkl : ks.length = A.length := by rw [← hks, (Suint64.srtd_perm _).length_eq, List.length_map]
  have S1 : St w0 w1 (OmI.rowU' kv ks :: mapA r .u64 (encA A) :: R) := S.add (a := OmI.rowU' kv ks) f (B := fun b => kv.ownBlock = some b) ⟨o.mono (Nat.zero_le _), fun b hb => hb⟩ fun b hb => ⟨(o.lt hb).1, (o.lt hb).2⟩
  have hsl : ∀ {w R}, St w0 w (OmI.rowU' kv ks :: R) → Sl w 1 Suint64.encL kv ks := fun S => S.row fun _ => rfl
  rw [(hsl S1).len_ok (by kernel_rfl)]
  refine ⟨OmI w0 r A kv ks R, fun x _ => ks.length - ms x 2, ⟨_, _, 0, rfl, Nat.zero_le _, nilRowM S1⟩, ?_⟩
  rintro x w2 ⟨u0, v, i, rfl, hi, S2⟩
  have q1 : gv [u0, v, .int .i64 (i : Nat)] 1 = v := rfl
  have q2 : gv [u0, v, .int .i64 (i : Nat)] 2 = .int .i64 (i : Nat) := rfl
  simp only [q2]
  by_cases hil : i < ks.length
  · have hil' : (i : Int) < ks.length := by omega
    simp [hil']
    unfold M.view_Merge.j8
    have hwi : IntKind.i64.wrap ((i : Int) + 1) = ((i + 1 : Nat) : Int) := by rw [wrap_id (by omega) (by omega)]; rfl
    obtain ⟨b, o', cap, hv, hb, _, hc⟩ := (hsl S2.swap).at hil
    have c0 := hc 0 _ rfl
    simp only [Nat.mul_one, Nat.add_zero] at c0
    have htk : ks.take (i + 1) = ks.take i ++ [ks[i]] := List.take_succ_eq_append_getElem hil
    have hm2 := (mapAt_of S2.third).1
    have hsz : ((ks.take i).map fun k => (findM A k).getD ⟨0, 0, 0⟩).length ≤ 1000 := by rw [List.length_map, List.length_take]; omega
    generalize hz : (findM A ks[i]).getD ⟨0, 0, 0⟩ = z at *
    have hget : (mget (encA A) ks[i]).getD (.agg #[.int .u64 0, .int .u64 0, .int .i64 0]) = aggM z := by
      rw [mget_encA, ← hz]
      cases findM A ks[i] <;> rfl
    simp only [joinT_eq, q1, q2, bin_add, hwi]
    rw [hv]
    simp [hil, c0]
    rw [lu_eq mt.map_uint64_api_Member hm2, hget]
    rw [show aggM z = .agg #[.int .u64 z.id, .int .u64 z.inc, .int .i64 z.st] from rfl]
    simp
    have S3 := S2.step ((Fr.refl _ w2).alloc (.cells #[.int .u64 z.id, .int .u64 z.inc, .int .i64 z.st] T.api_Member))
    refine moreRowM S3 (l2 := [z]) (Sl.one rfl rfl) (by simp at hsz ⊢; omega) fun w3 v3 S4 => ?_
    refine ⟨⟨_, v3, i + 1, rfl, by omega, ?_⟩, by simp [ms, gv]; omega⟩
    rw [htk, List.map_append]
    show St w0 w3 (rowM v3 (_ ++ [(findM A ks[i]).getD ⟨0, 0, 0⟩]) :: _)
    rw [hz, ← hv]
    exact S4
  · have hil' : ¬ (i : Int) < ks.length := by omega
    simp [hil']
    rw [List.take_of_length_le (by omega)] at S2
    refine h w2 v ?_
    unfold outM
    rw [hks]
    exact S2.swap.drop.swap.drop
def M1I (w0 : World) (r : Nat) (L : List Mem) (tv : Value) (R : List Asn) : KL := fun x w1 => ∃ (u : Value) (i : Nat), x = [u, .int .i64 (i : Nat)] ∧ i ≤ L.length ∧ St w0 w1 (rowM tv L :: mapA r .u64 (encA (mergeA (L.take i))) :: R)
theorem merge_st {l1 l2 : List Mem} {v1 v2 : Value} (S : St w0 w R) (h1 : ∀ w' L, St w0 w' (L ++ R) → SlM w' v1 l1) (h2 : ∀ w' L, St w0 w' (L ++ R) → SlM w' v2 l2) (n1 : l1.length ≤ 400) (n2 : l2.length ≤ 400) {K : KV}
    (h : ∀ w' v', St w0 w' (rowM v' (mergeV l1 l2).1 :: R) → K (.tuple #[v', .int .i64 (mergeV l1 l2).2]) w') : fcallT P F.view_Merge [v1, v2] w K := by
  rw [M.view_Merge.fcall]
  apply M.view_Merge.calls
  unfold M.view_Merge
  rw [joinT_eq]
  refine vright_ok (h1 w [] S) (by omega) fun w1 f1 => ?_
  have S1 := S.step f1
  refine vright_ok (h2 w1 [] S1) (by omega) fun w2 f2 => ?_
  have S2 := S1.step f2
  simp
  have S3 := S2.step ((Fr.refl _ w2).alloc (.cells #[.int .i64 (vright l1), .int .i64 (vright l2)] T.api_Kind))
  have hk : Sl (w2.alloc (.cells #[.int .i64 (vright l1), .int .i64 (vright l2)] T.api_Kind)) 1 encK (.slice (some ⟨w2.heap.size, 0, none⟩) 2 2) [vright l1, vright l2] := by
    refine ⟨some ⟨w2.heap.size, 0, none⟩, 2, rfl, Nat.le_refl _, by decide, fun i z hz => ?_⟩
    refine ⟨w2.heap.size, 0, rfl, by simp, fun j u hj => ?_⟩
    rw [cellOf_of (c := #[.int .i64 (vright l1), .int .i64 (vright l2)]) (e := T.api_Kind) (f := (0, 0)) (by rw [alloc_heap, if_pos rfl])]
    match i, hz with
    | 0, hz => simp at hz; subst hz; match j, hj with
      | 0, hj => simp [encK] at hj; subst hj; rfl
      | j + 1, hj => simp [encK] at hj
    | 1, hz => simp at hz; subst hz; match j, hj with
      | 0, hj => simp [encK] at hj; subst hj; rfl
      | j + 1, hj => simp [encK] at hj
    | i + 2, hz => simp at hz
  rw [M.cmp_Or_api_Kind.fcall]
  refine or_ok hk (by simp) ?_
  unfold mergeV at h
  by_cases hbad : vright l1 ≠ 0 ∨ vright l2 ≠ 0
  · have hor : orK [vright l1, vright l2] = 6 := by
      rcases vright_cases l1 with e1 | e1 <;> rcases vright_cases l2 with e2 | e2 <;> rw [e1, e2] at hbad ⊢ <;> first | rfl | simp at hbad
    rw [if_pos hbad] at h
    rw [hor]
    simp
    exact h _ _ (nilRowM S3)
  · have e1 : vright l1 = 0 := Decidable.not_not.1 fun h => hbad (.inl h)
    have e2 : vright l2 = 0 := Decidable.not_not.1 fun h => hbad (.inr h)
    have hor : orK [vright l1, vright l2] = 0 := by rw [e1, e2]; rfl
    rw [if_neg hbad] at h
    rw [hor]
    simp
    unfold M.view_Merge.j0
    generalize w2.alloc (.cells #[.int .i64 (vright l1), .int .i64 (vright l2)] T.api_Kind) = w3 at *
    rw [mkm_eq]
    have hm := MapAt_new w3 .u64
    have S4 := S3.add (a := mapA w3.heap.size .u64 (encA [])) (w' := w3.alloc (.map #[] 0)) ((Fr.refl _ w3).alloc _) (B := fun x => x = w3.heap.size) ⟨⟨hm, by simp [mkeys, encA]⟩, rfl⟩ fun x hx => by subst hx; rw [alloc_size]; omega
    generalize w3.heap.size = r at *
    generalize w3.alloc (.map #[] 0) = w4 at *
    have s1 := h1 w4 [mapA r .u64 (encA [])] S4
    have s2 := h2 w4 [mapA r .u64 (encA [])] S4
    obtain ⟨a1, c1, hv1, _⟩ := id s1
    obtain ⟨a2, c2, hv2, _⟩ := id s2
    rw [hv1, hv2]
    simp
    rw [← hv1, ← hv2]
    have f5 : Fr (fun _ => False) w4 (w4.alloc (.cells #[v1, v2] T.sl_api_Member)) := (Fr.refl _ w4).alloc _
    have hbl : (w4.alloc (.cells #[v1, v2] T.sl_api_Member)).heap[w4.heap.size]? = some (.cells (([(v1, l1), (v2, l2)] : List (Value × List Mem)).map (·.1)).toArray T.sl_api_Member (0, 0)) := by
      rw [alloc_heap, if_pos rfl]; rfl
    rw [M.slices_Concat_api_Member_api_Member.fcall]
    refine CM.concat_ok (L := [(v1, l1), (v2, l2)]) hbl (fun p hp => ?_) (by simp [CM.tot]; omega) (by simp) fun w6 tv o f6 => ?_
    · simp at hp
      rcases hp with rfl | rfl
      · exact s1.fr f5 fun _ _ _ h => h
      · exact s2.fr f5 fun _ _ _ h => h
    have hs5 : w4.heap.size ≤ (w4.alloc (.cells #[v1, v2] T.sl_api_Member)).heap.size := f5.size
    have S6 : St w0 w6 (rowM tv (l1 ++ l2) :: mapA r .u64 (encA []) :: R) := S4.add (a := rowM tv (l1 ++ l2)) (f5.trans f6) (B := fun b => tv.ownBlock = some b) ⟨by simpa using o.mono (Nat.zero_le _), fun b hb => hb⟩ fun b hb => by
      have := o.lt hb
      exact ⟨by omega, this.2⟩
    generalize hL : l1 ++ l2 = L at *
    have hLl : L.length ≤ 800 := by rw [← hL, List.length_append]; omega
    rw [(S6.row encM_len : SlM w6 tv L).len_ok (by kernel_rfl)]
    refine ⟨M1I w0 r L tv R, fun x _ => L.length - ms x 1, ⟨_, 0, rfl, Nat.zero_le _, S6⟩, ?_⟩
    rintro x w7 ⟨u, i, rfl, hi, S7⟩
    have q1 : gv [u, .int .i64 (i : Nat)] 1 = .int .i64 (i : Nat) := rfl
    simp only [q1]
    by_cases hil : i < L.length
    · have hil' : (i : Int) < L.length := by omega
      simp [hil']
      refine mrJ3 S7 hil (by omega) fun w8 y S8 => ?_
      refine ⟨⟨_, i + 1, rfl, by omega, ?_⟩, by simp [ms, gv]; omega⟩
      have : mergeA (L.take (i + 1)) = insM (mergeA (L.take i)) L[i] := by
        unfold mergeA
        rw [List.take_succ_eq_append_getElem hil, List.foldl_append]; rfl
      rw [this]; exact S8
    · have hil' : ¬ (i : Int) < L.length := by omega
      simp [hil']
      rw [List.take_of_length_le (by omega)] at S7
      unfold M.view_Merge.j1
      have hml := mergeA_len L
      rw [joinT_eq, lenmap_eq mt.map_uint64_api_Member (mapAt_of S7.swap).1]
      have hel : (encA (mergeA L)).length = (mergeA L).length := by simp [encA]
      by_cases h16 : 16 < (mergeA L).length
      · rw [if_pos h16] at h
        have h16' : (16 : Int) < (mergeA L).length := by omega
        simp [hel, h16']
        exact h _ _ (nilRowM S7.drop.drop)
      · rw [if_neg h16] at h
        have h16' : ¬ (16 : Int) < (mergeA L).length := by omega
        simp [hel, h16']
        exact mrJ5 S7.drop (by omega) h
end
end Go.Proofs.Ytkjhekflgghbdaa
set_option maxRecDepth 100000
namespace Go.Proofs.Ytkjhekflgghbdaa
open Go.Eng
def ma : Mem := ⟨1, 1, 2⟩
def mb : Mem := ⟨1, 2, 0⟩
theorem merge_ab : mergeV [ma] [mb] = ([mb], 0) := by
  have h1 : mergeA ([ma] ++ [mb]) = [mb] := by rfl
  have h2 : Suint64.srtd [1] = [1] := List.perm_singleton.1 (Suint64.srtd_perm [1])
  unfold mergeV
  rw [h1]
  have h3 : ¬ (vright [ma] ≠ 0 ∨ vright [mb] ≠ 0) := by decide
  rw [if_neg h3, if_neg (by decide)]
  unfold outM
  show (List.map _ (Suint64.srtd [1]), _) = _
  rw [h2]
  rfl
theorem same_ok {w : World} {v1 v2 : Value} {l1 l2 : List Mem} (s1 : SlM w v1 l1) (s2 : SlM w v2 l2) (hlen : l1.length ≤ 1000000) {K : KV} (h : ∀ w', Fr (fun _ => False) w w' → K (.bool (decide (l1 = l2))) w') : fcallT P F.view_Same [v1, v2] w K := by
  rw [M.view_Same.fcall]
  apply M.view_Same.calls
  unfold M.view_Same
  exact equalM_ok s1 s2 hlen h
theorem rd_mem {α : Type} {sz : Nat} {enc : α → List Value} {v : Value} {l : List α} {w0 w : World} {L : List Asn} (S : St w0 w L) (h : rdA sz enc v l ∈ L) : Sl w sz enc v l := by
  obtain ⟨s, t, rfl⟩ := List.append_of_mem h
  exact (S.perm List.perm_middle).rd
theorem blk_mem {b : Nat} {cs : Array Value} {e : TypeId} {w0 w : World} {L : List Asn} (S : St w0 w L) (h : blkA b cs e ∈ L) : w.heap[b]? = some (.cells cs e (0, 0)) := by
  obtain ⟨s, t, rfl⟩ := List.append_of_mem h
  exact (S.perm List.perm_middle).blk
theorem alive9 {w : World} {K : KV} (h : ∀ w', Fr (fun _ => False) w w' → K (.bool true) w') : fcallT P F.winnowlaw09_alive [] w K := by
  rw [M.winnowlaw09_alive.fcall]
  apply M.winnowlaw09_alive.calls
  unfold M.winnowlaw09_alive
  simp
  have S1 : St w (w.alloc (.cells #[.int .u64 0, .int .u64 0, .int .i64 0] T.api_Member)) [blkA w.heap.size #[.int .u64 0, .int .u64 0, .int .i64 0] T.api_Member] :=
    (St.start w).add ((Fr.refl _ w).alloc _) (B := fun x => x = w.heap.size) ⟨by rw [alloc_heap, if_pos rfl], rfl⟩ fun x hx => by subst hx; rw [alloc_size]; omega
  have hs1 : (w.alloc (.cells #[.int .u64 0, .int .u64 0, .int .i64 0] T.api_Member)).heap.size = w.heap.size + 1 := alloc_size _ _
  generalize w.alloc (.cells #[.int .u64 0, .int .u64 0, .int .i64 0] T.api_Member) = w1 at *
  have S2 : St w (w1.alloc (.cells #[.int .u64 0, .int .u64 0, .int .i64 0] T.api_Member)) (blkA (w.heap.size + 1) #[.int .u64 0, .int .u64 0, .int .i64 0] T.api_Member :: [blkA w.heap.size #[.int .u64 0, .int .u64 0, .int .i64 0] T.api_Member]) :=
    S1.add ((Fr.refl _ w1).alloc _) (B := fun x => x = w.heap.size + 1) ⟨by rw [alloc_heap, if_pos hs1.symm], rfl⟩ fun x hx => by subst hx; rw [alloc_size]; omega
  generalize w1.alloc (.cells #[.int .u64 0, .int .u64 0, .int .i64 0] T.api_Member) = w2 at *
  refine stN_all (vs := encM ma) S2.swap.blk rfl (encM_one ma) fun w3 b3 f3 => ?_
  have S3 := S2.swap.turn f3 b3
  refine stN_all (vs := encM mb) S3.swap.blk rfl (encM_one mb) fun w4 b4 f4 => ?_
  have S4 := S3.swap.turn f4 b4
  have ld1 : ∀ {w' L}, St w w' L → blkA w.heap.size (encM ma).toArray T.api_Member ∈ L → ∀ K, ldN P 3 w.heap.size 0 w' K = K (aggM ma) w' := fun S hm K => by
    have hh := blk_mem S hm
    exact ldM (m := ma) (i := 0) (fun k v hk => by rw [cellOf_of hh, Nat.zero_add, List.getElem?_toArray]; exact hk) K
  have ld2 : ∀ {w' L}, St w w' L → blkA (w.heap.size + 1) (encM mb).toArray T.api_Member ∈ L → ∀ K, ldN P 3 (w.heap.size + 1) 0 w' K = K (aggM mb) w' := fun S hm K => by
    have hh := blk_mem S hm
    exact ldM (m := mb) (i := 0) (fun k v hk => by rw [cellOf_of hh, Nat.zero_add, List.getElem?_toArray]; exact hk) K
  have bs : ∀ (z : Mem) w' K', bsT P T.sl_api_Member 1 #[(0, aggM z)] w' K' = K' (.slice (some ⟨w'.heap.size, 0, none⟩) 1 1) (w'.alloc (.cells (encM z).toArray T.api_Member)) := fun z w' K' => by
    unfold aggM; simp; rfl
  have row : ∀ (z : Mem) {w' R}, St w w' R → St w (w'.alloc (.cells (encM z).toArray T.api_Member)) (rdA 3 encM (.slice (some ⟨w'.heap.size, 0, none⟩) 1 1) [z] :: R) := fun z {w' R} S =>
    S.add (a := rdA 3 encM (.slice (some ⟨w'.heap.size, 0, none⟩) 1 1) [z]) ((Fr.refl _ w').alloc _) (B := fun x => x = w'.heap.size) ⟨Sl.one rfl rfl, fun x hx => by simpa [Value.ownBlock] using hx.symm⟩ fun x hx => by subst hx; rw [alloc_size]; omega
  rw [ld1 S4 (by simp), bs]
  have S5 := row ma S4
  rw [ld2 S5 (by simp), bs]
  have S6 := row mb S5
  refine merge_st (l1 := [ma]) (l2 := [mb]) S6 (fun w' L S => rd_mem S (by simp)) (fun w' L S => rd_mem S (by simp)) (by simp) (by simp) fun w7 v7 S7 => ?_
  rw [merge_ab] at S7 ⊢
  have S7d := S7.step ((Fr.refl _ w7).dr 1)
  simp only [ex_2_0, ex_2_1]
  rw [ld2 S7d (by simp)]
  refine ⟨rfl, ?_⟩
  rw [ld1 S7d (by simp)]
  refine ⟨rfl, ?_⟩
  refine newer_ok mb ma fun w8 f8 => ?_
  have S8 := S7d.step f8
  have hn : newerM mb ma = true := by decide
  rw [hn]
  have s8 : SlM w8 v7 [mb] := S8.row encM_len
  have hl8 : ∀ w' K', biT P .len #[T.sl_api_Member] T.int [false] [v7] w' K' = K' (.int .i64 1) w' := fun w' K' => s8.len_ok (by kernel_rfl) [false]
  obtain ⟨b, o, cap, hv, _, _, hc⟩ := s8.at (i := 0) (by simp)
  have hld : ∀ K, ldN P 3 b o w8 K = K (aggM mb) w8 := fun K => ldM (m := mb) (i := o) (fun k u hk => by simpa using hc k u hk) K
  have hia : ∀ K', iaT P T.sl_api_Member v7 (.int .i64 0) w8 K' = K' (.pointer (some ⟨b, o, none⟩)) w8 := fun K' => by
    rw [hv]; simp
  simp [hl8, hia, hld]
  rw [ld2 S8 (by simp)]
  simp [eqlMem]
  rw [ld2 S8 (by simp)]
  refine ⟨rfl, ?_⟩
  rw [bs]
  have S9 := row mb S8
  refine same_ok (s8.fr ((Fr.refl _ w8).alloc _) fun _ _ _ h => h) S9.rd (by simp) fun w9 f9 => ?_
  simp
  exact h w9 (S9.fr.trans f9)
/-! ### The law ViewNewer -/
theorem newer_irrefl (a : Mem) : newerM a a = false := by
  unfold newerM; simp
theorem mem_of {w : World} {n : Nat} {c : Array Value} (ht : TV P w n T.api_Member c.toList) : ∃ m, Value.agg c = aggM m := by
  obtain ⟨hl, hf⟩ := tv_struct Try.underlying63 ht
  have hl3 : Try.prog.cellsOf T.api_Member = 3 := by kernel_rfl
  rw [hl3] at hl
  obtain ⟨m0, t0⟩ := hf 0 _ rfl
  obtain ⟨m1, t1⟩ := hf 1 _ rfl
  obtain ⟨m2, t2⟩ := hf 2 _ rfl
  obtain ⟨x0, e0, _⟩ := tv_int (k := .u64) (by kernel_rfl) t0
  obtain ⟨x1, e1, _⟩ := tv_int (k := .u64) (by kernel_rfl) t1
  obtain ⟨x2, e2, _⟩ := tv_int (k := .i64) (by kernel_rfl) t2
  have c0 : Try.prog.cellsOf T.uint64 = 1 := by kernel_rfl
  have c1 : Try.prog.cellsOf T.int = 1 := by kernel_rfl
  refine ⟨⟨x0, x1, x2⟩, ?_⟩
  unfold aggM
  congr 1
  apply Array.toList_inj.1
  match hcl : c.toList, hl with
  | [u0, u1, u2], _ =>
    rw [hcl] at e0 e1 e2
    simp [c0, c1] at e0 e1 e2
    subst e0 e1 e2
    rfl
theorem members_of {w : World} {n : Nat} {v : Value} (h : TV P w n T.sl_api_Member [v]) : ∃ l, SlM w v l := by
  refine sl_of_tv (sz := 3) (rd := rdE encM) et.sl_api_Member.ty (by kernel_rfl) (by decide) (fun n b o cs ht hl hc => ?_) h
  obtain ⟨m, hm⟩ := mem_of (c := cs.toArray) (by simpa using ht)
  unfold aggM at hm
  injection hm with hm
  have : cs = encM m := by
    have := congrArg Array.toList hm
    simpa [encM] using this
  subst this
  exact ⟨m, fun j u hj => hc j u hj⟩
end Go.Proofs.Ytkjhekflgghbdaa
set_option maxRecDepth 100000
namespace Go.Proofs.Ytkjhekflgghbdaa
open Go.Eng
def alikeM (a b : Mem) : Bool := decide (a.inc = b.inc) && decide (a.st = b.st)
theorem newer_asym (a b : Mem) (h : newerM a b = true) : newerM b a = false := by
  unfold newerM at *
  by_cases h1 : b.inc < a.inc
  · have h2 : ¬ a.inc < b.inc := by omega
    have h3 : ¬ b.inc = a.inc := by omega
    simp [h2, h3]
  · by_cases h2 : a.inc = b.inc
    · by_cases h3 : b.st < a.st
      · have h4 : ¬ a.st < b.st := by omega
        simp [h2, h4]
      · simp [h1, h2, h3] at h
    · simp [h1, h2] at h
theorem alike_iff (a b : Mem) : alikeM a b = !(newerM a b || newerM b a) := by
  unfold alikeM newerM
  by_cases h1 : a.inc = b.inc
  · by_cases h2 : a.st = b.st
    · simp [h1, h2]
    · by_cases h3 : a.st < b.st
      · simp [h1, h2, h3]
      · have h4 : b.st < a.st := by omega
        simp [h1, h2, h4]
  · by_cases h3 : a.inc < b.inc
    · simp [h1, h3]
    · have h4 : b.inc < a.inc := by omega
      simp [h1, h4]
theorem newer_trans (a b c : Mem) (h1 : newerM a b = true) (h2 : newerM b c = true) : newerM a c = true := by
  unfold newerM at *
  simp at *
  omega
end Go.Proofs.Ytkjhekflgghbdaa
set_option maxRecDepth 100000
namespace Go.Proofs.Ytkjhekflgghbdaa
open Go.Eng
def mx (x o : Mem) : Mem := if newerM x o = true then x else o
def jn : Option Mem → Option Mem → Option Mem
  | none, b => b
  | some a, none => some a
  | some a, some b => some (mx b a)
theorem newer_negtrans (x y z : Mem) (h1 : newerM x y = false) (h2 : newerM y z = false) : newerM x z = false := by
  unfold newerM at *
  simp at *
  omega
theorem mx_assoc (x y z : Mem) : mx x (mx y z) = mx (mx x y) z := by
  unfold mx
  cases h1 : newerM y z <;> cases h2 : newerM x y <;> simp [h1, h2]
  · rw [newer_negtrans x y z h2 h1]; simp
  · rw [newer_trans x y z h2 h1]; simp
theorem mx_comm (x y : Mem) (h : x.id = y.id) : mx x y = mx y x := by
  unfold mx
  cases h1 : newerM x y <;> cases h2 : newerM y x <;> simp
  · have := alike_iff x y
    rw [h1, h2] at this
    unfold alikeM at this
    simp at this
    obtain ⟨a, b, c⟩ := x
    obtain ⟨a', b', c'⟩ := y
    simp at *
    exact ⟨h.symm, this.1.symm, this.2.symm⟩
  · have := newer_asym x y h1
    rw [h2] at this; cases this
theorem mx_self (x : Mem) : mx x x = x := by unfold mx; simp
theorem mx_id (x y : Mem) (h : x.id = y.id) : (mx x y).id = y.id := by unfold mx; split <;> simp [h]
theorem findM_id {A : List Mem} {k : Int} {x : Mem} (h : findM A k = some x) : x.id = k := by
  unfold findM at h
  simpa using List.find?_some h
theorem findM_insM (A : List Mem) (x : Mem) (k : Int) : findM (insM A x) k = if x.id = k then jn (findM A k) (some x) else findM A k := by
  unfold findM
  induction A with
  | nil =>
    unfold insM
    by_cases h : x.id = k <;> simp [h, jn]
  | cons o t ih =>
    unfold insM
    by_cases ho : o.id = x.id
    · rw [if_pos ho]
      have hid : (if newerM x o = true then x else o).id = x.id := by split <;> simp [ho]
      by_cases h : x.id = k
      · rw [if_pos h]
        have h' : o.id = k := ho.trans h
        simp [List.find?_cons, hid, h, h', jn, mx]
      · rw [if_neg h]
        have h' : ¬ o.id = k := fun h' => h (ho.symm.trans h')
        simp [List.find?_cons, hid, h, h']
    · rw [if_neg ho]
      rw [List.find?_cons, List.find?_cons]
      by_cases h' : o.id = k
      · have h : ¬ x.id = k := fun h => ho (h'.trans h.symm)
        simp [h', h]
      · simp only [decide_eq_false h']
        exact ih
theorem jn_assoc (a b c : Option Mem) : jn a (jn b c) = jn (jn a b) c := by
  cases a <;> cases b <;> cases c <;> simp [jn]
  exact (mx_assoc _ _ _).symm
theorem jn_comm {a b : Option Mem} {k : Int} (ha : ∀ x, a = some x → x.id = k) (hb : ∀ x, b = some x → x.id = k) : jn a b = jn b a := by
  cases a with
  | none => cases b <;> rfl
  | some x =>
    cases b with
    | none => rfl
    | some y => simp only [jn]; rw [mx_comm y x ((hb y rfl).trans (ha x rfl).symm)]
theorem jn_self (a : Option Mem) : jn a a = a := by cases a <;> simp [jn, mx_self]
theorem findM_foldl (L : List Mem) (k : Int) : ∀ A, findM (L.foldl insM A) k = jn (findM A k) (findM (mergeA L) k) := by
  induction L with
  | nil => intro A; show findM A k = jn (findM A k) none; cases findM A k <;> rfl
  | cons x L ih =>
    intro A
    rw [List.foldl_cons, ih (insM A x)]
    have e : findM (mergeA (x :: L)) k = jn (findM (insM [] x) k) (findM (mergeA L) k) := by
      unfold mergeA; rw [List.foldl_cons]; exact ih (insM [] x)
    rw [e, jn_assoc, findM_insM, findM_insM]
    congr 1
    by_cases h : x.id = k
    · simp only [h, if_true]
      show _ = jn (findM A k) (jn none (some x))
      rfl
    · simp only [h, if_false]
      show _ = jn (findM A k) none
      cases findM A k <;> rfl
theorem findM_append (a b : List Mem) (k : Int) : findM (mergeA (a ++ b)) k = jn (findM (mergeA a) k) (findM (mergeA b) k) := by
  show findM ((a ++ b).foldl insM []) k = _
  rw [List.foldl_append]
  exact findM_foldl b k _
theorem insM_ids (A : List Mem) (x : Mem) : (insM A x).map Mem.id = if x.id ∈ A.map Mem.id then A.map Mem.id else A.map Mem.id ++ [x.id] := by
  induction A with
  | nil => simp [insM]
  | cons o t ih =>
    unfold insM
    by_cases ho : o.id = x.id
    · rw [if_pos ho]
      have hid : (if newerM x o = true then x else o).id = o.id := by split <;> simp [ho]
      simp [hid, ho]
    · rw [if_neg ho, List.map_cons, ih]
      have ho' : ¬ x.id = o.id := fun h => ho h.symm
      by_cases hm : x.id ∈ t.map Mem.id
      · rw [if_pos hm, if_pos (by rw [List.map_cons]; exact List.mem_cons_of_mem _ hm)]; rfl
      · rw [if_neg hm, if_neg (by rw [List.map_cons, List.mem_cons]; rintro (h | h); exact ho' h; exact hm h)]; rfl
theorem mergeA_nd (L : List Mem) : ((mergeA L).map Mem.id).Nodup := by
  have h : ∀ (L A : List Mem), (A.map Mem.id).Nodup → ((L.foldl insM A).map Mem.id).Nodup := fun L => by
    induction L with
    | nil => exact fun A h => h
    | cons x L ih =>
      intro A hA
      rw [List.foldl_cons]
      refine ih _ ?_
      rw [insM_ids]
      split
      · exact hA
      · rename_i hx
        rw [List.nodup_append]
        exact ⟨hA, by simp, fun a ha b hb hab => by simp at hb; exact hx (by rw [← hb, ← hab]; exact ha)⟩
  exact h L [] List.nodup_nil
theorem mem_ids {A : List Mem} {k : Int} : k ∈ A.map Mem.id ↔ findM A k ≠ none := by
  unfold findM
  rw [Ne, List.find?_eq_none, List.mem_map]
  constructor
  · rintro ⟨x, hx, rfl⟩ h
    exact h x hx (by simp)
  · intro h
    exact Classical.byContradiction fun hn => h fun x hx hk => hn ⟨x, hx, by simpa using hk⟩
/-- What comes out is told by who is found. -/
theorem out_eq {A A' : List Mem} (hA : (A.map Mem.id).Nodup) (hA' : (A'.map Mem.id).Nodup) (h : ∀ k, findM A k = findM A' k) : outM A = outM A' ∧ A.length = A'.length := by
  have hp : (A.map Mem.id).Perm (A'.map Mem.id) := (List.perm_ext_iff_of_nodup hA hA').2 fun k => by rw [mem_ids, mem_ids, h k]
  refine ⟨?_, by simpa using hp.length_eq⟩
  unfold outM
  rw [Suint64.srtd_of_perm hp]
  exact List.map_congr_left fun k _ => by rw [h k]
theorem mergeV_comm (a b : List Mem) : mergeV a b = mergeV b a := by
  have h := out_eq (mergeA_nd (a ++ b)) (mergeA_nd (b ++ a)) fun k => by
    rw [findM_append, findM_append]
    exact jn_comm (k := k) (fun x hx => findM_id hx) fun x hx => findM_id hx
  unfold mergeV
  rw [h.1, h.2]
  have : (vright a ≠ 0 ∨ vright b ≠ 0) ↔ (vright b ≠ 0 ∨ vright a ≠ 0) := Or.comm
  simp only [this]
end Go.Proofs.Ytkjhekflgghbdaa
set_option maxRecDepth 100000
namespace Go.Proofs.Ytkjhekflgghbdaa
open Go.Eng
theorem insM_new (A : List Mem) (x : Mem) (h : x.id ∉ A.map Mem.id) : insM A x = A ++ [x] := by
  induction A with
  | nil => rfl
  | cons o t ih =>
    unfold insM
    rw [List.map_cons, List.mem_cons] at h
    rw [if_neg fun ho => h (.inl ho.symm), ih fun hm => h (.inr hm)]; rfl
theorem mergeA_still (L : List Mem) (h : (L.map Mem.id).Nodup) : mergeA L = L := by
  have g : ∀ (L A : List Mem), ((A ++ L).map Mem.id).Nodup → L.foldl insM A = A ++ L := fun L => by
    induction L with
    | nil => intro A _; simp
    | cons x L ih =>
      intro A hA
      have hx : x.id ∉ A.map Mem.id := by
        rw [List.map_append, List.map_cons, List.nodup_append] at hA
        intro hm
        exact hA.2.2 _ hm _ (List.mem_cons_self ..) rfl
      rw [List.foldl_cons, insM_new A x hx, ih (A ++ [x]) (by simpa using hA)]
      simp
  simpa [mergeA] using g L [] (by simpa using h)
theorem out_ids (A : List Mem) : (outM A).map Mem.id = Suint64.srtd (A.map Mem.id) := by
  unfold outM
  rw [List.map_map]
  conv => rhs; rw [← List.map_id (Suint64.srtd (A.map Mem.id))]
  refine List.map_congr_left fun k hk => ?_
  have hm : k ∈ A.map Mem.id := (Suint64.srtd_perm _).mem_iff.1 hk
  have hn := mem_ids.1 hm
  show ((findM A k).getD ⟨0, 0, 0⟩).id = k
  cases hf : findM A k with
  | none => exact absurd hf hn
  | some x => exact findM_id hf
theorem out_nd {A : List Mem} (h : (A.map Mem.id).Nodup) : ((outM A).map Mem.id).Nodup := by
  rw [out_ids]; exact (Suint64.srtd_perm _).nodup_iff.2 h
theorem findM_of_mem {L : List Mem} (h : (L.map Mem.id).Nodup) {x : Mem} (hx : x ∈ L) : findM L x.id = some x := by
  cases hf : findM L x.id with
  | none => exact absurd hf (mem_ids.1 (List.mem_map_of_mem hx))
  | some y =>
    have hy : y ∈ L := List.mem_of_find?_eq_some (show L.find? _ = some y from hf)
    rw [nodup_map_inj h hy hx (findM_id hf)]
theorem findM_out {A : List Mem} (h : (A.map Mem.id).Nodup) (k : Int) : findM (outM A) k = findM A k := by
  cases hf : findM A k with
  | none =>
    cases hg : findM (outM A) k with
    | none => rfl
    | some y =>
      have : k ∈ (outM A).map Mem.id := mem_ids.2 (by rw [hg]; exact fun h => by cases h)
      rw [out_ids] at this
      have := mem_ids.1 ((Suint64.srtd_perm _).mem_iff.1 this)
      exact absurd hf this
  | some x =>
    have hk : k ∈ Suint64.srtd (A.map Mem.id) := (Suint64.srtd_perm _).mem_iff.2 (mem_ids.2 (by rw [hf]; exact fun h => by cases h))
    have hx : x ∈ outM A := by
      unfold outM
      exact List.mem_map.2 ⟨k, hk, by rw [hf]; rfl⟩
    rw [← findM_id hf]
    exact findM_of_mem (out_nd h) hx
theorem out_mem {A : List Mem} (h : (A.map Mem.id).Nodup) {x : Mem} : x ∈ outM A ↔ x ∈ A := by
  constructor
  · intro hx
    have := findM_of_mem (out_nd h) hx
    rw [findM_out h] at this
    exact List.mem_of_find?_eq_some (show A.find? _ = some x from this)
  · intro hx
    have := findM_of_mem h hx
    rw [← findM_out h] at this
    exact List.mem_of_find?_eq_some (show (outM A).find? _ = some x from this)
theorem insM_mem {A : List Mem} {x y : Mem} (h : y ∈ insM A x) : y ∈ A ∨ y = x := by
  induction A with
  | nil => simp [insM] at h; exact .inr h
  | cons o t ih =>
    unfold insM at h
    split at h
    · rcases List.mem_cons.1 h with h | h
      · split at h
        · exact .inr h
        · exact .inl (by simp [h])
      · exact .inl (by simp [h])
    · rcases List.mem_cons.1 h with h | h
      · exact .inl (by simp [h])
      · rcases ih h with h | h
        · exact .inl (by simp [h])
        · exact .inr h
theorem mergeA_mem {L : List Mem} {y : Mem} (h : y ∈ mergeA L) : y ∈ L := by
  have g : ∀ (L A : List Mem), y ∈ L.foldl insM A → y ∈ A ∨ y ∈ L := fun L => by
    induction L with
    | nil => exact fun A h => .inl h
    | cons x L ih =>
      intro A h
      rcases ih _ h with h | h
      · rcases insM_mem h with h | h
        · exact .inl h
        · exact .inr (by simp [h])
      · exact .inr (by simp [h])
  simpa using g L [] h
/-! ### Views -/
structure GoodV (l : List Mem) : Prop where
  rise : (l.map Mem.id).Pairwise (· < ·)
  pos : ∀ m ∈ l, 0 < m.id
  odd : ∀ m ∈ l, oddM m = false
  few : l.length ≤ 16
theorem riseF_iff (l : List Mem) : ∀ last, riseF last l = true ↔ (l.map Mem.id).Pairwise (· < ·) ∧ ∀ m ∈ l, last < m.id := by
  induction l with
  | nil => intro last; simp [riseF]
  | cons x l ih =>
    intro last
    unfold riseF
    rw [Bool.and_eq_true, ih x.id, List.map_cons, List.pairwise_cons]
    constructor
    · rintro ⟨h1, h2, h3⟩
      have h1 : last < x.id := by simpa using h1
      refine ⟨⟨fun k hk => ?_, h2⟩, fun m hm => ?_⟩
      · obtain ⟨m, hm, rfl⟩ := List.mem_map.1 hk
        exact h3 m hm
      · rcases List.mem_cons.1 hm with rfl | hm
        · exact h1
        · have := h3 m hm; omega
    · rintro ⟨⟨h1, h2⟩, h3⟩
      exact ⟨by simpa using h3 x (by simp), h2, fun m hm => h1 _ (List.mem_map_of_mem hm)⟩
theorem vright_iff (l : List Mem) : vright l = 0 ↔ GoodV l := by
  unfold vright
  by_cases h0 : l = []
  · subst h0
    simp
    exact ⟨by simp, by simp, by simp, by simp⟩
  · rw [if_neg h0]
    have hpos : 0 < l.length := List.length_pos_iff.2 h0
    have : (if mright l = true then (0 : Int) else 6) = 0 ↔ mright l = true := by split <;> simp_all
    rw [this]
    unfold mright
    rw [Bool.and_eq_true, Bool.and_eq_true, Bool.and_eq_true, riseF_iff]
    constructor
    · rintro ⟨⟨⟨h1, h2⟩, h3, h4⟩, h5⟩
      refine ⟨h1, h2, fun m hm => ?_, by simpa using h4⟩
      have : l.any oddM = false := by simpa using h5
      rw [List.any_eq_false] at this
      simpa using this m hm
    · rintro ⟨h1, h2, h3, h4⟩
      refine ⟨⟨⟨h1, h2⟩, by simpa using hpos, by simpa using h4⟩, ?_⟩
      have : l.any oddM = false := by
        rw [List.any_eq_false]
        intro m hm; rw [h3 m hm]; simp
      rw [this]; rfl
theorem GoodV.nd {l : List Mem} (h : GoodV l) : (l.map Mem.id).Nodup := h.rise.imp fun h => by omega
theorem srtd_lt {l : List Int} (h : l.Nodup) : (Suint64.srtd l).Pairwise (· < ·) := by
  have h1 : (Suint64.srtd l).Pairwise (fun a b => decide (a ≤ b) = true) := by
    unfold Suint64.srtd
    exact List.pairwise_mergeSort (fun a b c h1 h2 => by simp at *; omega) (fun a b => by simp; omega) l
  have h2 : (Suint64.srtd l).Nodup := (Suint64.srtd_perm l).nodup_iff.2 h
  exact (h1.and h2).imp fun ⟨h1, h2⟩ => by simp at h1; omega
theorem good_out {A : List Mem} (h : (A.map Mem.id).Nodup) (hp : ∀ m ∈ A, 0 < m.id ∧ oddM m = false) (hf : A.length ≤ 16) : GoodV (outM A) := by
  refine ⟨by rw [out_ids]; exact srtd_lt h, fun m hm => (hp m ((out_mem h).1 hm)).1, fun m hm => (hp m ((out_mem h).1 hm)).2, ?_⟩
  unfold outM
  rw [List.length_map, (Suint64.srtd_perm _).length_eq, List.length_map]; exact hf
theorem out_self {l : List Mem} (h : GoodV l) : outM l = l := by
  have hs : Suint64.srtd (l.map Mem.id) = l.map Mem.id := by
    unfold Suint64.srtd
    exact List.mergeSort_of_pairwise (h.rise.imp fun h => by simp; omega)
  unfold outM
  rw [hs, List.map_map]
  conv => rhs; rw [← List.map_id l]
  refine List.map_congr_left fun x hx => ?_
  show (findM l x.id).getD ⟨0, 0, 0⟩ = x
  rw [findM_of_mem h.nd hx]; rfl
/-! ### The law's three parts -/
theorem mergeV_self {a : List Mem} (ha : vright a = 0) : mergeV a a = (a, 0) := by
  have g := (vright_iff a).1 ha
  have h := out_eq (mergeA_nd (a ++ a)) g.nd fun k => by rw [findM_append, mergeA_still a g.nd, jn_self]
  unfold mergeV
  rw [if_neg (by rw [ha]; simp), h.1, h.2, if_neg (by have := g.few; omega), out_self g]
theorem mergeV_ok {a b : List Mem} (ha : vright a = 0) (hb : vright b = 0) (h : (mergeV a b).2 = 0) : (mergeV a b).1 = outM (mergeA (a ++ b)) ∧ vright (mergeV a b).1 = 0 ∧ ∀ k, findM (mergeV a b).1 k = jn (findM a k) (findM b k) := by
  have ga := (vright_iff a).1 ha
  have gb := (vright_iff b).1 hb
  have hlen : ¬ 16 < (mergeA (a ++ b)).length := fun h16 => by
    unfold mergeV at h
    rw [if_neg (by rw [ha, hb]; simp), if_pos h16] at h
    cases h
  have e : (mergeV a b).1 = outM (mergeA (a ++ b)) := by
    unfold mergeV
    rw [if_neg (by rw [ha, hb]; simp), if_neg hlen]
  refine ⟨e, ?_, fun k => ?_⟩
  · rw [e, vright_iff]
    refine good_out (mergeA_nd _) (fun m hm => ?_) (by omega)
    rcases List.mem_append.1 (mergeA_mem hm) with hm | hm
    · exact ⟨ga.pos m hm, ga.odd m hm⟩
    · exact ⟨gb.pos m hm, gb.odd m hm⟩
  · rw [e, findM_out (mergeA_nd _), findM_append, mergeA_still a ga.nd, mergeA_still b gb.nd]
theorem mergeV_assoc {a b c : List Mem} (ha : vright a = 0) (hb : vright b = 0) (hc : vright c = 0) (h1 : (mergeV a b).2 = 0) (h2 : (mergeV b c).2 = 0) : mergeV (mergeV a b).1 c = mergeV a (mergeV b c).1 := by
  obtain ⟨_, p1, p2⟩ := mergeV_ok ha hb h1
  obtain ⟨_, q1, q2⟩ := mergeV_ok hb hc h2
  generalize (mergeV a b).1 = ab at *
  generalize (mergeV b c).1 = bc at *
  have ga := ((vright_iff a).1 ha).nd
  have gc := ((vright_iff c).1 hc).nd
  have gab := ((vright_iff ab).1 p1).nd
  have gbc := ((vright_iff bc).1 q1).nd
  have h := out_eq (mergeA_nd (ab ++ c)) (mergeA_nd (a ++ bc)) fun k => by
    rw [findM_append, findM_append, mergeA_still ab gab, mergeA_still c gc, mergeA_still a ga, mergeA_still bc gbc, p2, q2, jn_assoc]
  unfold mergeV
  rw [h.1, h.2, p1, hc, ha, q1]
theorem mergeV_below {a b : List Mem} (ha : vright a = 0) (hb : vright b = 0) (h : (mergeV a b).2 = 0) : ∀ x ∈ a, ∃ m, findM (mergeV a b).1 x.id = some m ∧ newerM x m = false := by
  intro x hx
  obtain ⟨_, _, p⟩ := mergeV_ok ha hb h
  have ga := ((vright_iff a).1 ha).nd
  have hf := p x.id
  rw [findM_of_mem ga hx] at hf
  cases hfb : findM b x.id with
  | none => rw [hfb] at hf; exact ⟨x, hf, newer_irrefl x⟩
  | some y =>
    rw [hfb] at hf
    refine ⟨mx y x, hf, ?_⟩
    unfold mx
    split
    · rename_i hyx; exact newer_asym y x hyx
    · exact newer_irrefl x
end Go.Proofs.Ytkjhekflgghbdaa
set_option maxRecDepth 100000
namespace Go.Proofs.Ytkjhekflgghbdaa
open Go.Eng
def insS : List Mem → Mem → List Mem
  | [], x => [x]
  | o :: t, x => if o.id < x.id then o :: insS t x else if o.id = x.id then (if newerM x o = true then x else o) :: t else x :: o :: t
def Rises (l : List Mem) : Prop := (l.map Mem.id).Pairwise (· < ·)
theorem Rises.nd {l : List Mem} (h : Rises l) : (l.map Mem.id).Nodup := h.imp fun h => by omega
theorem insS_ids {l : List Mem} {x y : Mem} (h : y ∈ insS l x) : y.id = x.id ∨ ∃ o ∈ l, y.id = o.id := by
  induction l with
  | nil => simp [insS] at h; exact .inl (by rw [h])
  | cons o t ih =>
    unfold insS at h
    split at h
    · rcases List.mem_cons.1 h with h | h
      · exact .inr ⟨o, by simp, by rw [h]⟩
      · rcases ih h with h | ⟨p, hp, h⟩
        · exact .inl h
        · exact .inr ⟨p, by simp [hp], h⟩
    · split at h
      · rename_i he
        rcases List.mem_cons.1 h with h | h
        · left
          rw [h]
          split
          · rfl
          · exact he
        · exact .inr ⟨y, by simp [h], rfl⟩
      · rcases List.mem_cons.1 h with h | h
        · exact .inl (by rw [h])
        · exact .inr ⟨y, h, rfl⟩
theorem insS_rises {l : List Mem} (x : Mem) (h : Rises l) : Rises (insS l x) := by
  unfold Rises at *
  induction l with
  | nil => simp [insS]
  | cons o t ih =>
    rw [List.map_cons, List.pairwise_cons] at h
    unfold insS
    split
    · rename_i hlt
      rw [List.map_cons, List.pairwise_cons]
      refine ⟨fun k hk => ?_, ih h.2⟩
      obtain ⟨y, hy, rfl⟩ := List.mem_map.1 hk
      rcases insS_ids hy with e | ⟨p, hp, e⟩
      · rw [e]; exact hlt
      · rw [e]; exact h.1 _ (List.mem_map_of_mem hp)
    · split
      · rename_i he
        have hid : (if newerM x o = true then x else o).id = o.id := by split <;> simp [he]
        rw [List.map_cons, hid, List.pairwise_cons]; exact h
      · rename_i h1 h2
        rw [List.map_cons, List.map_cons, List.pairwise_cons, List.pairwise_cons]
        refine ⟨fun k hk => ?_, h⟩
        rcases List.mem_cons.1 hk with hk | hk
        · rw [hk]; omega
        · have := h.1 k hk; omega
theorem insS_find {l : List Mem} (x : Mem) (h : Rises l) (k : Int) : findM (insS l x) k = if x.id = k then jn (findM l k) (some x) else findM l k := by
  unfold Rises at h
  unfold findM
  induction l with
  | nil =>
    unfold insS
    by_cases hk : x.id = k <;> simp [hk, jn]
  | cons o t ih =>
    rw [List.map_cons, List.pairwise_cons] at h
    unfold insS
    by_cases h1 : o.id < x.id
    · rw [if_pos h1, List.find?_cons, List.find?_cons]
      by_cases ho : o.id = k
      · have hx : ¬ x.id = k := by omega
        simp [ho, hx]
      · simp only [decide_eq_false ho]
        exact ih h.2
    · rw [if_neg h1]
      by_cases h2 : o.id = x.id
      · rw [if_pos h2]
        have hid : (if newerM x o = true then x else o).id = x.id := by split <;> simp [h2]
        by_cases hk : x.id = k
        · have hok : o.id = k := h2.trans hk
          simp [List.find?_cons, hid, hk, hok, jn, mx]
        · have hok : ¬ o.id = k := fun h' => hk (h2.symm.trans h')
          simp [List.find?_cons, hid, hk, hok]
      · rw [if_neg h2]
        by_cases hk : x.id = k
        · have hok : ¬ o.id = k := fun h' => h2 (h'.trans hk.symm)
          have hnone : t.find? (fun y => decide (y.id = k)) = none := by
            rw [List.find?_eq_none]
            intro y hy
            have := h.1 _ (List.mem_map_of_mem hy)
            simp; omega
          simp [List.find?_cons, hk, hok, hnone, jn]
        · simp [List.find?_cons, hk]
theorem foldS (b : List Mem) : ∀ l, Rises l → Rises (b.foldl insS l) ∧ ∀ k, findM (b.foldl insS l) k = jn (findM l k) (findM (mergeA b) k) := by
  induction b with
  | nil =>
    intro l h
    refine ⟨h, fun k => ?_⟩
    show findM l k = jn (findM l k) none
    cases findM l k <;> rfl
  | cons x b ih =>
    intro l h
    obtain ⟨h1, h2⟩ := ih (insS l x) (insS_rises x h)
    refine ⟨h1, fun k => ?_⟩
    rw [List.foldl_cons, h2 k, insS_find x h]
    have e : findM (mergeA (x :: b)) k = jn (findM (insM [] x) k) (findM (mergeA b) k) := by
      unfold mergeA; rw [List.foldl_cons]; exact findM_foldl b k _
    rw [e, jn_assoc, findM_insM]
    congr 1
    by_cases hk : x.id = k
    · simp only [hk, if_true]; rfl
    · simp only [hk, if_false]
      show _ = jn (findM l k) none
      cases findM l k <;> rfl
theorem rises_out {l : List Mem} (h : Rises l) : outM l = l := by
  have hs : Suint64.srtd (l.map Mem.id) = l.map Mem.id := by
    unfold Suint64.srtd
    exact List.mergeSort_of_pairwise (h.imp fun h => by simp; omega)
  unfold outM
  rw [hs, List.map_map]
  conv => rhs; rw [← List.map_id l]
  refine List.map_congr_left fun x hx => ?_
  show (findM l x.id).getD ⟨0, 0, 0⟩ = x
  rw [findM_of_mem h.nd hx]; rfl
/-- Inserted one by one is merged. -/
theorem insS_merge {a b : List Mem} (ha : Rises a) : b.foldl insS a = outM (mergeA (a ++ b)) ∧ (b.foldl insS a).length = (mergeA (a ++ b)).length := by
  obtain ⟨h1, h2⟩ := foldS b a ha
  have h := out_eq h1.nd (mergeA_nd (a ++ b)) fun k => by rw [h2 k, findM_append, mergeA_still a ha.nd]
  exact ⟨by rw [← h.1, rises_out h1], h.2⟩
end Go.Proofs.Ytkjhekflgghbdaa
set_option maxRecDepth 100000
namespace Go.Proofs.Ytkjhekflgghbdaa
open Go.Eng
def lastM (l : List Mem) (i : Nat) : Int := match i with
  | 0 => 0
  | i + 1 => (l[i]?.map Mem.id).getD 0
def MbI (W : World) (l : List Mem) : KL := fun x w1 => ∃ (u : Value) (i : Nat), x = [u, .int .i64 (i : Nat)] ∧ i ≤ l.length ∧ (riseF 0 l && !(l.any oddM)) = (riseF (lastM l i) (l.drop i) && !((l.drop i).any oddM)) ∧ Fr (fun _ => False) W w1
theorem refMembers_ok {w : World} {v : Value} {l : List Mem} (hs : SlM w v l) (hlen : l.length ≤ 1000000) (hid : ∀ m ∈ l, 0 ≤ m.id) {K : KV} (h : ∀ w', Fr (fun _ => False) w w' → K (.bool (mright l)) w') : fcallT P F.winnowref05_Members [v] w K := by
  rw [M.winnowref05_Members.fcall]
  apply M.winnowref05_Members.calls
  unfold M.winnowref05_Members
  rw [joinT_eq]
  refine ⟨MbI w l, fun x _ => l.length - ms x 1, ⟨_, 0, rfl, Nat.zero_le _, rfl, Fr.refl _ _⟩, ?_⟩
  rintro x w1 ⟨u, i, rfl, hi, hr, f1⟩
  have q0 : gv [u, .int .i64 (i : Nat)] 0 = u := rfl
  have q1 : gv [u, .int .i64 (i : Nat)] 1 = .int .i64 (i : Nat) := rfl
  have hs1 := hs.fr f1 fun _ _ _ h => h
  simp only [joinT_eq, q1]
  rw [hs1.len_ok (by kernel_rfl)]
  have hmr : mright l = ((riseF 0 l && !(l.any oddM)) && (decide (0 < l.length) && decide (l.length ≤ 16))) := by
    unfold mright
    cases riseF 0 l <;> cases l.any oddM <;> simp
  by_cases hil : i < l.length
  · have hil' : (i : Int) < l.length := by omega
    simp [hil']
    unfold M.winnowref05_Members.j2
    obtain ⟨b, o, cap, hv, hb, _, hc⟩ := hs1.at hil
    have hld : ∀ K, ldN P 3 b (o + i * 3) w1 K = K (aggM l[i]) w1 := fun K => ldM hc K
    have hwi : IntKind.i64.wrap ((i : Int) + 1) = ((i + 1 : Nat) : Int) := by rw [wrap_id (by omega) (by omega)]; rfl
    have hdrop : l.drop i = l[i] :: l.drop (i + 1) := List.drop_eq_getElem_cons hil
    have hlast : lastM l (i + 1) = l[i].id := by unfold lastM; simp [List.getElem?_eq_getElem hil]
    have hm0 := hid _ (List.getElem_mem hil)
    -- the one ahead
    have hprev : 0 < i → ∃ p, l[i - 1]? = some p ∧ lastM l i = p.id ∧ ∀ j u, (encM p)[j]? = some u → cellOf w1 b (o + (i - 1) * 3 + j) = some u := fun h0 => by
      have hp : i - 1 < l.length := by omega
      obtain ⟨b', o', cap', hv', _, _, hc'⟩ := hs1.at hp
      have hvv := hv.symm.trans hv'
      injection hvv with ha1 _ _
      injection ha1 with ha1
      injection ha1 with ha4 ha5
      subst ha4 ha5
      refine ⟨l[i - 1], List.getElem?_eq_getElem hp, ?_, hc'⟩
      obtain ⟨k, rfl⟩ : ∃ k, i = k + 1 := ⟨i - 1, by omega⟩
      have hp' : k < l.length := by omega
      show (l[k]?.map Mem.id).getD 0 = _
      rw [List.getElem?_eq_getElem hp']; rfl
    rw [hdrop] at hr
    have hcons : (riseF (lastM l i) (l[i] :: l.drop (i + 1)) && !((l[i] :: l.drop (i + 1)).any oddM)) = ((decide (lastM l i < l[i].id) && !(oddM l[i])) && (riseF (lastM l (i + 1)) (l.drop (i + 1)) && !((l.drop (i + 1)).any oddM))) := by
      rw [List.any_cons, hlast]
      show ((decide (lastM l i < l[i].id) && riseF l[i].id (l.drop (i + 1))) && _) = _
      cases decide (lastM l i < l[i].id) <;> cases riseF l[i].id (l.drop (i + 1)) <;> cases oddM l[i] <;> simp
    rw [hcons] at hr
    generalize hm : l[i] = m at *
    subst hv
    simp [q0, q1, hil, hld]
    rw [show aggM m = .agg #[.int .u64 m.id, .int .u64 m.inc, .int .i64 m.st] from rfl]
    simp
    have hba : (w1.alloc (.cells #[.int .u64 0, .int .u64 0, .int .i64 0] T.api_Member)).heap[w1.heap.size]? = some (.cells #[.int .u64 0, .int .u64 0, .int .i64 0] T.api_Member (0, 0)) := by rw [alloc_heap, if_pos rfl]
    refine stN_all (vs := [.int .u64 m.id, .int .u64 m.inc, .int .i64 m.st]) hba rfl (by simp) fun w2 b2 f2 => ?_
    have f2' : Fr (fun _ => False) w1 w2 := ((Fr.refl _ w1).alloc _).trans' f2 fun y hy he => by subst he; omega
    have c0 : cellOf w2 w1.heap.size 0 = some (.int .u64 m.id) := by rw [cellOf_of b2]; rfl
    have c1 : cellOf w2 w1.heap.size 1 = some (.int .u64 m.inc) := by rw [cellOf_of b2]; rfl
    have c2 : cellOf w2 w1.heap.size 2 = some (.int .i64 m.st) := by rw [cellOf_of b2]; rfl
    have fin : Fr (fun _ => False) w (Eng.dr w2 1) := (f1.trans f2').dr 1
    have no : (decide (lastM l i < m.id) && !(oddM m)) = false → K (.bool false) (Eng.dr w2 1) := fun hx => by
      rw [hx, Bool.false_and] at hr
      have := h (Eng.dr w2 1) fin
      rw [hmr, hr] at this
      simpa using this
    have yes : (decide (lastM l i < m.id) && !(oddM m)) = true → MbI w l [u, .int .i64 ((i + 1 : Nat) : Int)] (Eng.dr w2 1) ∧ l.length - ms [u, .int .i64 ((i + 1 : Nat) : Int)] 1 < l.length - ms [u, .int .i64 (i : Nat)] 1 := fun hx => by
      rw [hx, Bool.true_and] at hr
      exact ⟨⟨_, i + 1, rfl, by omega, hr, fin⟩, by simp [ms, gv]; omega⟩
    by_cases e0 : m.id = 0
    · have hb0 : (decide (lastM l i < m.id) && !(oddM m)) = false := by
        have : ¬ lastM l i < m.id := by
          have : 0 ≤ lastM l i := by
            by_cases h0 : 0 < i
            · obtain ⟨p, hp, hpl, _⟩ := hprev h0
              rw [hpl]; exact hid p (List.mem_of_getElem? hp)
            · have : i = 0 := by omega
              subst this; exact Int.le_refl _
          omega
        rw [decide_eq_false this, Bool.false_and]
      simp [c0, e0]
      exact no hb0
    by_cases e1 : m.inc = 0
    · have hb0 : (decide (lastM l i < m.id) && !(oddM m)) = false := by
        unfold oddM; simp [e1]
      simp [c0, c1, e0, e1]
      exact no hb0
    by_cases e2 : m.st < 0
    · have hb0 : (decide (lastM l i < m.id) && !(oddM m)) = false := by
        unfold oddM; simp [e2]
      simp [c0, c1, c2, e0, e1, e2]
      exact no hb0
    by_cases e3 : 2 < m.st
    · have hb0 : (decide (lastM l i < m.id) && !(oddM m)) = false := by
        unfold oddM; simp [e3]
      simp [c0, c1, c2, e0, e1, e2, e3]
      exact no hb0
    have hodd : oddM m = false := by unfold oddM; simp [e1, e2, e3]
    by_cases e4 : 0 < i
    · obtain ⟨p, hp, hpl, hpc⟩ := hprev e4
      have cp := hpc 0 _ rfl
      simp only [Nat.add_zero] at cp
      have cp2 : cellOf w2 b (o + (i - 1) * 3) = some (.int .u64 p.id) := by rw [cellOf_heap (f2'.keep b hb fun h => h)]; exact cp
      have e4' : (0 : Int) < i := by omega
      have hsub : IntKind.i64.wrap ((i : Int) - 1) = ((i - 1 : Nat) : Int) := by rw [wrap_id (by omega) (by omega)]; omega
      have hi1 : i - 1 < l.length := by omega
      have hi1' : ((i - 1 : Nat) : Int) < l.length := by omega
      by_cases e5 : m.id ≤ p.id
      · have hb0 : (decide (lastM l i < m.id) && !(oddM m)) = false := by
          rw [hpl, decide_eq_false (by omega), Bool.false_and]
        simp [c0, c1, c2, e0, e1, e2, e3, e4, hsub, hi1, cp2, e5]
        exact no hb0
      · have hb0 : (decide (lastM l i < m.id) && !(oddM m)) = true := by
          rw [hpl, decide_eq_true (by omega), hodd]; rfl
        simp [c0, c1, c2, e0, e1, e2, e3, e4, hsub, hi1, cp2, e5, hwi]
        exact yes hb0
    · have hi0 : i = 0 := by omega
      have hb0 : (decide (lastM l i < m.id) && !(oddM m)) = true := by
        have : lastM l i < m.id := by rw [hi0]; show 0 < m.id; omega
        rw [decide_eq_true this, hodd]; rfl
      simp [c0, c1, c2, e0, e1, e2, e3, e4, hwi]
      exact yes hb0
  · have hil' : ¬ (i : Int) < l.length := by omega
    simp [hil']
    unfold M.winnowref05_Members.j0
    rw [List.drop_of_length_le (by omega)] at hr
    have hr' : (riseF 0 l && !(l.any oddM)) = true := by rw [hr]; rfl
    rw [hmr, hr', Bool.true_and] at h
    rw [hs1.len_ok (by kernel_rfl)]
    have hx : decide ((l.length : Int) ≤ 16) = decide (l.length ≤ 16) := by
      by_cases h16 : l.length ≤ 16
      · rw [decide_eq_true h16, decide_eq_true (by omega)]
      · rw [decide_eq_false h16, decide_eq_false (by omega)]
    by_cases h0 : 0 < l.length
    · have h0' : (1 : Int) ≤ l.length := by omega
      simp [h0']
      rw [hs1.len_ok (by kernel_rfl)]
      simp
      rw [hx]
      have := h w1 f1
      simpa [h0] using this
    · have h0' : ¬ (1 : Int) ≤ l.length := by omega
      simp [h0']
      have := h w1 f1
      simpa [h0] using this
theorem refRight_ok {w : World} {v : Value} {l : List Mem} (hs : SlM w v l) (hlen : l.length ≤ 1000000) (hid : ∀ m ∈ l, 0 ≤ m.id) {K : KV} (h : ∀ w', Fr (fun _ => False) w w' → K (.int .i64 (vright l)) w') : fcallT P F.winnowref09_Right [v] w K := by
  rw [M.winnowref09_Right.fcall]
  apply M.winnowref09_Right.calls
  unfold M.winnowref09_Right
  simp only [joinT_eq]
  rw [hs.len_ok (by kernel_rfl)]
  unfold vright at h
  by_cases h0 : l = []
  · subst h0
    simp at h ⊢
    exact h w (Fr.refl _ _)
  · rw [if_neg h0] at h
    have hl : 0 < l.length := List.length_pos_iff.2 h0
    simp [hl]
    refine refMembers_ok hs hlen hid fun w1 f1 => ?_
    cases hm : mright l with
    | true => rw [hm] at h; simp; simpa using h w1 f1
    | false => rw [hm] at h; simp; simpa using h w1 f1
theorem refNewer_ok {w : World} (x y : Mem) {K : KV} (h : ∀ w', Fr (fun _ => False) w w' → K (.bool (newerM x y)) w') : fcallT P F.winnowref09_Newer [aggM x, aggM y] w K := by
  rw [M.winnowref09_Newer.fcall]
  apply M.winnowref09_Newer.calls
  unfold M.winnowref09_Newer aggM
  have hb1 : (w.alloc (.cells #[.int .u64 x.id, .int .u64 x.inc, .int .i64 x.st] T.api_Member)).heap[w.heap.size]? = some (.cells #[.int .u64 x.id, .int .u64 x.inc, .int .i64 x.st] T.api_Member (0, 0)) := by rw [alloc_heap, if_pos rfl]
  have f1 : Fr (fun _ => False) w (w.alloc (.cells #[.int .u64 x.id, .int .u64 x.inc, .int .i64 x.st] T.api_Member)) := (Fr.refl _ w).alloc _
  simp
  have hsz : (w.alloc (.cells #[.int .u64 x.id, .int .u64 x.inc, .int .i64 x.st] T.api_Member)).heap.size = w.heap.size + 1 := alloc_size _ _
  generalize w.alloc (.cells #[.int .u64 x.id, .int .u64 x.inc, .int .i64 x.st] T.api_Member) = w1 at *
  have hb2 : (w1.alloc (.cells #[.int .u64 y.id, .int .u64 y.inc, .int .i64 y.st] T.api_Member)).heap[w1.heap.size]? = some (.cells #[.int .u64 y.id, .int .u64 y.inc, .int .i64 y.st] T.api_Member (0, 0)) := by rw [alloc_heap, if_pos rfl]
  have f2 : Fr (fun _ => False) w1 (w1.alloc (.cells #[.int .u64 y.id, .int .u64 y.inc, .int .i64 y.st] T.api_Member)) := (Fr.refl _ w1).alloc _
  have hb1' := f2.heap hb1 fun h => h
  rw [hsz] at hb2
  generalize w1.alloc (.cells #[.int .u64 y.id, .int .u64 y.inc, .int .i64 y.st] T.api_Member) = w2 at *
  have p1 : cellOf w2 w.heap.size 1 = some (.int .u64 x.inc) := by rw [cellOf_of hb1']; rfl
  have p2 : cellOf w2 w.heap.size 2 = some (.int .i64 x.st) := by rw [cellOf_of hb1']; rfl
  have q1 : cellOf w2 (w.heap.size + 1) 1 = some (.int .u64 y.inc) := by rw [cellOf_of hb2]; rfl
  have q2 : cellOf w2 (w.heap.size + 1) 2 = some (.int .i64 y.st) := by rw [cellOf_of hb2]; rfl
  have fin := h w2 (f1.trans f2)
  unfold newerM at fin
  by_cases e1 : y.inc < x.inc
  · simp [e1] at fin
    simp [p1, q1, e1]; exact fin
  by_cases e2 : x.inc = y.inc
  · simp [e2] at fin
    simp [p1, p2, q1, q2, e2]; exact fin
  · simp [e1, e2] at fin
    simp [p1, q1, e1, e2]; exact fin
def RsmI (W : World) (l1 l2 : List Mem) : KL := fun x w1 => ∃ (u : Value) (i : Nat), x = [u, .int .i64 (i : Nat)] ∧ i ≤ l1.length ∧ (∀ j, j < i → l1[j]? = l2[j]?) ∧ Fr (fun _ => False) W w1
theorem refSame_ok {w : World} {v1 v2 : Value} {l1 l2 : List Mem} (s1 : SlM w v1 l1) (s2 : SlM w v2 l2) (hlen : l1.length ≤ 1000000) {K : KV} (h : ∀ w', Fr (fun _ => False) w w' → K (.bool (decide (l1 = l2))) w') : fcallT P F.winnowref09_Same [v1, v2] w K := by
  rw [M.winnowref09_Same.fcall]
  apply M.winnowref09_Same.calls
  unfold M.winnowref09_Same
  simp only [joinT_eq]
  rw [s1.len_ok (by kernel_rfl), s2.len_ok (by kernel_rfl)]
  by_cases hne : l1.length = l2.length
  · simp [hne]
    refine ⟨RsmI w l1 l2, fun x _ => l1.length - ms x 1, ⟨_, 0, rfl, Nat.zero_le _, fun _ h => by omega, Fr.refl _ _⟩, ?_⟩
    rintro x w1 ⟨u, i, rfl, hi, hz, f1⟩
    have q1 : gv [u, .int .i64 (i : Nat)] 1 = .int .i64 (i : Nat) := rfl
    have t1 := s1.fr f1 fun _ _ _ h => h
    unfold M.winnowref09_Same.j2
    simp only [joinT_eq, q1]
    rw [t1.len_ok (by kernel_rfl)]
    by_cases hil : i < l1.length
    · have hil' : (i : Int) < l1.length := by omega
      have hil2 : i < l2.length := by omega
      simp [hil']
      unfold M.winnowref09_Same.j3
      obtain ⟨b1, o1, cap1, hv1, _, _, e1⟩ := (s1.fr (f1.dr 1) fun _ _ _ h => h).at hil
      obtain ⟨b2, o2, cap2, hv2, _, _, e2⟩ := (s2.fr (f1.dr 1) fun _ _ _ h => h).at hil2
      have hld1 : ∀ K, ldN P 3 b1 (o1 + i * 3) (Eng.dr w1 1) K = K (aggM l1[i]) (Eng.dr w1 1) := fun K => ldM e1 K
      have hld2 : ∀ K, ldN P 3 b2 (o2 + i * 3) (Eng.dr w1 1) K = K (aggM l2[i]) (Eng.dr w1 1) := fun K => ldM e2 K
      have hwi : IntKind.i64.wrap ((i : Int) + 1) = ((i + 1 : Nat) : Int) := by rw [wrap_id (by omega) (by omega)]; rfl
      subst hv1 hv2
      simp [q1, hil, hil2, hld1, hld2, neqMem]
      by_cases heq : l1[i] = l2[i]
      · simp [heq, hwi]
        refine ⟨⟨_, i + 1, rfl, by omega, fun j hj => ?_, f1.dr 1⟩, by simp [ms, gv]; omega⟩
        by_cases hji : j = i
        · subst hji
          rw [List.getElem?_eq_getElem hil, List.getElem?_eq_getElem hil2, heq]
        · exact hz j (by omega)
      · simp [heq]
        have hf : decide (l1 = l2) = false := decide_eq_false fun h => heq (by subst h; rfl)
        rw [hf] at h
        exact h _ (f1.dr 1)
    · have hil' : ¬ (i : Int) < l1.length := by omega
      simp [hil']
      have hf : decide (l1 = l2) = true := decide_eq_true (List.ext_getElem? fun j => by
        by_cases hj : j < i
        · exact hz j hj
        · rw [List.getElem?_eq_none (by omega), List.getElem?_eq_none (by omega)])
      rw [hf] at h
      exact h _ f1
  · have hf : decide (l1 = l2) = false := decide_eq_false fun h => hne (by rw [h])
    rw [hf] at h
    have hne' : ¬ (l1.length : Int) = l2.length := by omega
    simp [hne']
    exact h w (Fr.refl _ _)
end Go.Proofs.Ytkjhekflgghbdaa
set_option maxRecDepth 100000
namespace Go.Proofs.Ytkjhekflgghbdaa
open Go.Eng
theorem res_mem (b : Nat) (w : World) (K : KV) : resT P T.api_Member (.pointer (some ⟨b, 0, none⟩)) w K = ldN P 3 b 0 w K := by refine Eq.trans ?_ rfl; kernel_rfl
def findP (l : List Mem) (k : Int) : Mem := (findM l k).getD ⟨0, 0, 0⟩
theorem findM_at {l : List Mem} {k : Int} {i : Nat} (hi : i < l.length) (hk : l[i].id = k) (hz : ∀ j (h : j < l.length), j < i → l[j].id ≠ k) : findM l k = some l[i] := by
  unfold findM
  rw [List.find?_eq_some_iff_getElem]
  exact ⟨decide_eq_true hk, i, hi, rfl, fun j hj => by simpa using hz j (by omega) hj⟩
theorem findM_none {l : List Mem} {k : Int} (h : ∀ m ∈ l, m.id ≠ k) : findM l k = none := by
  unfold findM
  rw [List.find?_eq_none]
  intro m hm; simpa using h m hm
theorem st3_ok {w0 w : World} {b : Nat} {c : Array Value} (z : Mem) (hb : w.heap[b]? = some (.cells c T.api_Member (0, 0))) (hc : c.size = 3) (hn : w0.heap.size ≤ b) (hf : Fr (fun _ => False) w0 w) {Q : World → Prop}
    (h : ∀ w', Fr (fun _ => False) w0 w' → w'.heap[b]? = some (.cells (encM z).toArray T.api_Member (0, 0)) → Q w') : stN P b 0 [.int .u64 z.id, .int .u64 z.inc, .int .i64 z.st] w fun _ w => Q w := by
  refine stN_all (vs := [.int .u64 z.id, .int .u64 z.inc, .int .i64 z.st]) hb hc.symm (by simp) fun w3 b3 f3 => ?_
  exact h w3 (hf.trans' f3 fun y hy he => by subst he; omega) b3
theorem ld3_ok {w : World} {b : Nat} {z : Mem} (hb : w.heap[b]? = some (.cells (encM z).toArray T.api_Member (0, 0))) (K : KV) : ldN P 3 b 0 w K = K (aggM z) w :=
  ldM (m := z) (i := 0) (fun k v hk => by rw [cellOf_of hb, Nat.zero_add, List.getElem?_toArray]; exact hk) K
def RfI (W : World) (b : Nat) (l : List Mem) (k : Int) : KL := fun x w1 => ∃ (u : Value) (i : Nat), x = [u, .int .i64 (i : Nat)] ∧ i ≤ l.length ∧ (∀ j (h : j < l.length), j < i → l[j].id ≠ k) ∧ Fr (fun _ => False) W w1 ∧ w1.heap[b]? = some (.cells #[.int .u64 0, .int .u64 0, .int .i64 0] T.api_Member (0, 0))
theorem refFind_ok {w : World} {v : Value} {l : List Mem} {k : Int} (hs : SlM w v l) (hlen : l.length ≤ 1000000) {K : KV} (h : ∀ w', Fr (fun _ => False) w w' → K (.tuple #[aggM (findP l k), .bool (findM l k).isSome]) w') : fcallT P F.winnowref09_Find [v, .int .u64 k] w K := by
  rw [M.winnowref09_Find.fcall]
  apply M.winnowref09_Find.calls
  unfold M.winnowref09_Find
  simp only [joinT_eq]
  simp
  have hb2 : (w.alloc (.cells #[.int .u64 0, .int .u64 0, .int .i64 0] T.api_Member)).heap[w.heap.size]? = some (.cells #[.int .u64 0, .int .u64 0, .int .i64 0] T.api_Member (0, 0)) := by rw [alloc_heap, if_pos rfl]
  have f2 : Fr (fun _ => False) w (w.alloc (.cells #[.int .u64 0, .int .u64 0, .int .i64 0] T.api_Member)) := (Fr.refl _ w).alloc _
  generalize w.alloc (.cells #[.int .u64 0, .int .u64 0, .int .i64 0] T.api_Member) = w1 at *
  refine ⟨RfI w w.heap.size l k, fun x _ => l.length - ms x 1, ⟨_, 0, rfl, Nat.zero_le _, fun _ _ h => by omega, f2, hb2⟩, ?_⟩
  rintro x w2 ⟨u, i, rfl, hi, hz, f3, hb3⟩
  have q1 : gv [u, .int .i64 (i : Nat)] 1 = .int .i64 (i : Nat) := rfl
  have hs2 := hs.fr f3 fun _ _ _ h => h
  simp only [q1]
  rw [hs2.len_ok (by kernel_rfl)]
  by_cases hil : i < l.length
  · have hil' : (i : Int) < l.length := by omega
    simp [hil']
    unfold M.winnowref09_Find.j2
    obtain ⟨b, o, cap, hv, hb, _, hc⟩ := hs2.at hil
    have hld : ∀ K, ldN P 3 b (o + i * 3) w2 K = K (aggM l[i]) w2 := fun K => ldM hc K
    have hwi : IntKind.i64.wrap ((i : Int) + 1) = ((i + 1 : Nat) : Int) := by rw [wrap_id (by omega) (by omega)]; rfl
    have c0 := hc 0 _ rfl
    simp only [Nat.add_zero] at c0
    by_cases hk : l[i].id = k
    · have hf := findM_at hil hk hz
      have hfp : findP l k = l[i] := by unfold findP; rw [hf]; rfl
      rw [hf, hfp] at h
      rw [hv]
      simp [q1, hil, c0, hk, hld]
      rw [show aggM l[i] = .agg #[.int .u64 l[i].id, .int .u64 l[i].inc, .int .i64 l[i].st] from rfl]
      simp
      refine st3_ok (w0 := w) l[i] hb3 rfl (Nat.le_refl _) f3 fun w4 f4 b4 => ?_
      try simp
      rw [res_mem, ld3_ok b4]
      refine ⟨rfl, ?_⟩
      simpa using h w4 f4
    · rw [hv]
      simp [q1, hil, c0, hk, hwi]
      refine ⟨⟨_, i + 1, rfl, by omega, fun j hj hji => ?_, f3, hb3⟩, by simp [ms, gv]; omega⟩
      by_cases hje : j = i
      · subst hje; exact hk
      · exact hz j hj (by omega)
  · have hil' : ¬ (i : Int) < l.length := by omega
    have hf := findM_none (l := l) (k := k) fun m hm => by
      obtain ⟨j, hj, rfl⟩ := List.getElem_of_mem hm
      exact hz j hj (by omega)
    have hfp : findP l k = ⟨0, 0, 0⟩ := by unfold findP; rw [hf]; rfl
    rw [hf, hfp] at h
    simp [hil']
    refine st3_ok (w0 := w) ⟨0, 0, 0⟩ hb3 rfl (Nat.le_refl _) f3 fun w4 f4 b4 => ?_
    try simp
    rw [res_mem, ld3_ok b4]
    refine ⟨rfl, ?_⟩
    simpa using h w4 f4
end Go.Proofs.Ytkjhekflgghbdaa
set_option maxRecDepth 100000
namespace Go.Proofs.Ytkjhekflgghbdaa
open Go.Eng

structure Nd where
  id : Int
  period : Int
  wait : Int
  now : Int
  due : Int
  left : Bool
  v : List Mem
  h : MP
def heardStep (id frm now : Int) (h : MP) (m : Mem) : MP := if m.id ≠ id ∧ (mget h m.id = none ∨ m.id = frm) then mset h m.id (.int .u64 now) else h
def heardAll (id frm now : Int) (h : MP) (l : List Mem) : MP := l.foldl (heardStep id frm now) h
def bumpM (id : Int) (m : Mem) : Mem := if m.id = id then ⟨m.id, m.inc + 1, 0⟩ else m
def goneM (id : Int) (m : Mem) : Mem := if m.id = id then ⟨m.id, m.inc, 2⟩ else m
def hat (h : MP) (k : Int) : Int := match mget h k with
  | some (.int _ t) => t
  | _ => 0
def aged (now wait : Int) (h : MP) (m : Mem) : Int :=
  if m.st = 0 then (if wait ≤ IntKind.u64.wrap (now - hat h m.id) then 1 else 0) else if m.st = 1 then (if IntKind.u64.wrap (now - hat h m.id) < 2 * wait then 1 else 2) else m.st
def ageM (id now wait : Int) (h : MP) (m : Mem) : Mem := if m.id = id then m else ⟨m.id, m.inc, aged now wait h m⟩
def Nd.new (self inc period wait now : Int) : Nd := ⟨self, period, wait, now, now, false, [⟨self, inc, 0⟩], []⟩
def maxI (a b : Int) : Int := if a < b then b else a
def minI (a b : Int) : Int := if a < b then a else b
def Nd.hear (n : Nd) (frm : Int) (l : List Mem) (now : Int) : Nd × Int :=
  if (mergeV n.v l).2 ≠ 0 then ({ n with now := maxI n.now now }, (mergeV n.v l).2)
  else if (findP (mergeV n.v l).1 n.id).st ≠ 0 ∧ n.left = false ∧ (findP (mergeV n.v l).1 n.id).inc < 18446744073709551615
    then ({ n with now := maxI n.now now, v := (mergeV n.v l).1.map (bumpM n.id), h := heardAll n.id frm (maxI n.now now) n.h (mergeV n.v l).1 }, 0)
    else ({ n with now := maxI n.now now, v := (mergeV n.v l).1, h := heardAll n.id frm (maxI n.now now) n.h (mergeV n.v l).1 }, 0)
def outs (id : Int) (l : List Mem) : List Int := (l.filter fun m => decide (m.id ≠ id) && decide (m.st ≠ 2)).map Mem.id
def gones (id : Int) (l : List Mem) : List Int := (l.filter fun m => decide (m.id ≠ id) && decide (m.st = 2)).map Mem.id
def picked (g : List Int) (pick : Int) : List Int := if g = [] then [] else [g.getD (pick % g.length).toNat 0]
def Nd.tick (n : Nd) (now pick : Int) : Nd × List Int :=
  if maxI n.now now < n.due then ({ n with now := maxI n.now now }, [])
  else ({ n with now := maxI n.now now, due := maxI n.now now + minI n.period (18446744073709551615 - maxI n.now now), v := n.v.map (ageM n.id (maxI n.now now) n.wait n.h) },
    outs n.id (n.v.map (ageM n.id (maxI n.now now) n.wait n.h)) ++ picked (gones n.id (n.v.map (ageM n.id (maxI n.now now) n.wait n.h))) pick)
def Nd.leave (n : Nd) : Nd := { n with v := n.v.map (goneM n.id), left := true }
def Nd.self (n : Nd) : Mem := findP n.v n.id

def IncR (l : List Mem) : Prop := ∀ m ∈ l, 0 ≤ m.inc ∧ m.inc < 18446744073709551616
structure NdOk (n : Nd) : Prop where
  good : GoodV n.v
  own : findM n.v n.id ≠ none
  inc : IncR n.v
  id0 : 0 < n.id ∧ n.id < 18446744073709551616
  per : 1 ≤ n.period ∧ n.period ≤ 1099511627776
  wai : 1 ≤ n.wait ∧ n.wait ≤ 1099511627776
  nw : 0 ≤ n.now ∧ n.now < 18446744073709551616
  du : 0 ≤ n.due ∧ n.due < 18446744073709551616

theorem findM_map {l : List Mem} {g : Mem → Mem} (hg : ∀ m, (g m).id = m.id) (k : Int) : findM (l.map g) k = (findM l k).map g := by
  unfold findM
  induction l with
  | nil => rfl
  | cons x l ih =>
    rw [List.map_cons, List.find?_cons, List.find?_cons, hg]
    by_cases h : x.id = k
    · simp [h]
    · simp only [decide_eq_false h]; exact ih
theorem ids_map {l : List Mem} {g : Mem → Mem} (hg : ∀ m, (g m).id = m.id) : (l.map g).map Mem.id = l.map Mem.id := by
  rw [List.map_map]; exact List.map_congr_left fun x _ => hg x
theorem GoodV.map {l : List Mem} {g : Mem → Mem} (h : GoodV l) (hg : ∀ m, (g m).id = m.id) (ho : ∀ m ∈ l, oddM (g m) = false) : GoodV (l.map g) := by
  refine ⟨by rw [ids_map hg]; exact h.rise, fun m hm => ?_, fun m hm => ?_, by rw [List.length_map]; exact h.few⟩
  · obtain ⟨x, hx, rfl⟩ := List.mem_map.1 hm
    rw [hg]; exact h.pos x hx
  · obtain ⟨x, hx, rfl⟩ := List.mem_map.1 hm
    exact ho x hx
theorem bump_id (id : Int) (m : Mem) : (bumpM id m).id = m.id := by unfold bumpM; split <;> rfl
theorem gone_id (id : Int) (m : Mem) : (goneM id m).id = m.id := by unfold goneM; split <;> rfl
theorem age_id (id now wait : Int) (h : MP) (m : Mem) : (ageM id now wait h m).id = m.id := by unfold ageM; split <;> rfl
theorem odd_iff (m : Mem) : oddM m = false ↔ m.inc ≠ 0 ∧ 0 ≤ m.st ∧ m.st ≤ 2 := by
  unfold oddM; simp
theorem aged_range {now wait : Int} {h : MP} {m : Mem} (ho : 0 ≤ m.st ∧ m.st ≤ 2) : m.st ≤ aged now wait h m ∧ aged now wait h m ≤ 2 := by
  unfold aged
  split
  · split <;> omega
  · split
    · split <;> omega
    · omega
theorem findP_eq {l : List Mem} {k : Int} {m : Mem} (h : findM l k = some m) : findP l k = m := by unfold findP; rw [h]; rfl
theorem good_pos {l : List Mem} (h : GoodV l) (hi : IncR l) {m : Mem} (hm : m ∈ l) : 1 ≤ m.inc ∧ 0 ≤ m.st ∧ m.st ≤ 2 := by
  have := (odd_iff m).1 (h.odd m hm)
  have := hi m hm
  omega
theorem findM_mem {l : List Mem} {k : Int} {m : Mem} (h : findM l k = some m) : m ∈ l := List.mem_of_find?_eq_some (show l.find? _ = some m from h)
theorem merge_kind (a b : List Mem) : (mergeV a b).2 = 0 ∧ vright a = 0 ∧ vright b = 0 ∨ (mergeV a b).2 = 4 ∧ vright a = 0 ∧ vright b = 0 ∨ (mergeV a b).2 = 6 ∧ (vright a ≠ 0 ∨ vright b ≠ 0) := by
  unfold mergeV
  split
  · rename_i h; exact .inr (.inr ⟨rfl, h⟩)
  · rename_i h
    have h1 : vright a = 0 := Decidable.not_not.1 fun h' => h (.inl h')
    have h2 : vright b = 0 := Decidable.not_not.1 fun h' => h (.inr h')
    split
    · exact .inr (.inl ⟨rfl, h1, h2⟩)
    · exact .inl ⟨rfl, h1, h2⟩
theorem merge_zero {a b : List Mem} (h : (mergeV a b).2 = 0) : vright a = 0 ∧ vright b = 0 := by
  rcases merge_kind a b with ⟨_, h⟩ | ⟨h', _⟩ | ⟨h', _⟩
  · exact h
  · rw [h] at h'; cases h'
  · rw [h] at h'; cases h'
theorem merge_mem {a b : List Mem} (h : (mergeV a b).2 = 0) {x : Mem} (hx : x ∈ (mergeV a b).1) : x ∈ a ∨ x ∈ b := by
  obtain ⟨h1, h2⟩ := merge_zero h
  rw [(mergeV_ok h1 h2 h).1] at hx
  exact List.mem_append.1 (mergeA_mem ((out_mem (mergeA_nd _)).1 hx))
theorem merge_inc {a b : List Mem} (h : (mergeV a b).2 = 0) (ha : IncR a) (hb : IncR b) : IncR (mergeV a b).1 := fun m hm => by
  rcases merge_mem h hm with h | h
  · exact ha m h
  · exact hb m h
theorem jn_some (a : Mem) (b : Option Mem) : ∃ m, jn (some a) b = some m := by
  cases b with
  | none => exact ⟨_, rfl⟩
  | some b => exact ⟨_, rfl⟩
theorem maxI_range {a b : Int} (ha : 0 ≤ a ∧ a < 18446744073709551616) (hb : 0 ≤ b ∧ b < 18446744073709551616) : 0 ≤ maxI a b ∧ maxI a b < 18446744073709551616 := by
  unfold maxI; split <;> omega

section
variable {n : Nd} {frm now pick : Int} {l : List Mem}
theorem hear_ok (h : NdOk n) (hl : IncR l) (hn : 0 ≤ now ∧ now < 18446744073709551616) : NdOk (n.hear frm l now).1 := by
  have ht := maxI_range h.nw hn
  unfold Nd.hear
  by_cases hk : (mergeV n.v l).2 = 0
  · rw [if_neg (by simpa using hk)]
    obtain ⟨r1, r2⟩ := merge_zero hk
    obtain ⟨_, p1, p2⟩ := mergeV_ok r1 r2 hk
    have hi := merge_inc hk h.inc hl
    have hg := (vright_iff _).1 p1
    obtain ⟨o, ho⟩ := Option.ne_none_iff_exists'.1 h.own
    obtain ⟨m, hm⟩ := jn_some o (findM l n.id)
    have hf : findM (mergeV n.v l).1 n.id = some m := by rw [p2, ho, hm]
    have hfp := findP_eq hf
    rw [hfp]
    generalize (mergeV n.v l).1 = v at *
    split
    · rename_i hc
      refine ⟨hg.map (bump_id _) fun x hx => ?_, ?_, fun x hx => ?_, h.id0, h.per, h.wai, ht, h.du⟩
      · have := good_pos hg hi hx
        rw [odd_iff]
        unfold bumpM
        split <;> simp <;> omega
      · show findM (v.map (bumpM n.id)) n.id ≠ none
        rw [findM_map (bump_id _), hf]; simp
      · obtain ⟨y, hy, rfl⟩ := List.mem_map.1 hx
        have := hi y hy
        unfold bumpM
        split
        · rename_i he
          have : y = m := by
            have := findM_of_mem hg.nd hy
            rw [he, hf] at this
            exact (Option.some.inj this).symm
          subst this
          simp; omega
        · exact this
    · exact ⟨hg, by show findM v n.id ≠ none; rw [hf]; simp, hi, h.id0, h.per, h.wai, ht, h.du⟩
  · rw [if_pos hk]
    exact ⟨h.good, h.own, h.inc, h.id0, h.per, h.wai, ht, h.du⟩
theorem tick_ok (h : NdOk n) (hn : 0 ≤ now ∧ now < 18446744073709551616) : NdOk (n.tick now pick).1 := by
  have ht := maxI_range h.nw hn
  have hp := h.per
  unfold Nd.tick
  generalize maxI n.now now = t at *
  split
  · exact ⟨h.good, h.own, h.inc, h.id0, h.per, h.wai, ht, h.du⟩
  · refine ⟨h.good.map (age_id _ _ _ _) fun x hx => ?_, ?_, fun x hx => ?_, h.id0, h.per, h.wai, ht, ?_⟩
    · have := good_pos h.good h.inc hx
      have := aged_range (now := t) (wait := n.wait) (h := n.h) this.2
      rw [odd_iff]
      unfold ageM
      split <;> simp <;> omega
    · show findM (n.v.map _) n.id ≠ none
      rw [findM_map (age_id _ _ _ _)]
      obtain ⟨o, ho⟩ := Option.ne_none_iff_exists'.1 h.own
      rw [ho]; simp
    · obtain ⟨y, hy, rfl⟩ := List.mem_map.1 hx
      have := h.inc y hy
      unfold ageM
      split
      · exact this
      · exact this
    · show 0 ≤ t + minI n.period (18446744073709551615 - t) ∧ t + minI n.period (18446744073709551615 - t) < 18446744073709551616
      unfold minI
      split <;> omega
theorem leave_ok (h : NdOk n) : NdOk n.leave := by
  refine ⟨h.good.map (gone_id _) fun x hx => ?_, ?_, fun x hx => ?_, h.id0, h.per, h.wai, h.nw, h.du⟩
  · have := good_pos h.good h.inc hx
    rw [odd_iff]
    unfold goneM
    split <;> simp <;> omega
  · show findM (n.v.map _) n.id ≠ none
    rw [findM_map (gone_id _)]
    obtain ⟨o, ho⟩ := Option.ne_none_iff_exists'.1 h.own
    rw [ho]; simp
  · obtain ⟨y, hy, rfl⟩ := List.mem_map.1 hx
    have := h.inc y hy
    unfold goneM
    split <;> exact this
theorem new_ok {self inc period wait : Int} (h1 : 0 < self ∧ self < 18446744073709551616) (h2 : 0 < inc ∧ inc < 18446744073709551616) (h3 : 1 ≤ period ∧ period ≤ 1099511627776) (h4 : 1 ≤ wait ∧ wait ≤ 1099511627776) (hn : 0 ≤ now ∧ now < 18446744073709551616) :
    NdOk (Nd.new self inc period wait now) := by
  refine ⟨⟨by simp [Nd.new], ?_, ?_, by simp [Nd.new]⟩, ?_, ?_, h1, h3, h4, hn, hn⟩
  · intro m hm; simp [Nd.new] at hm; subst hm; exact h1.1
  · intro m hm; simp [Nd.new] at hm; subst hm; rw [odd_iff]; simp; omega
  · simp [Nd.new, findM]
  · intro m hm; simp [Nd.new] at hm; subst hm; simp; omega

/-! ### A view never falls -/
def BelowV (a b : List Mem) : Prop := ∀ x ∈ a, ∃ y, findM b x.id = some y ∧ newerM x y = false
theorem BelowV.refl {a : List Mem} (h : GoodV a) : BelowV a a := fun x hx => ⟨x, findM_of_mem h.nd hx, newer_irrefl x⟩
theorem BelowV.map {a b : List Mem} {g : Mem → Mem} (h : BelowV a b) (hg : ∀ m, (g m).id = m.id) (hb : ∀ y ∈ b, newerM y (g y) = false) : BelowV a (b.map g) := fun x hx => by
  obtain ⟨y, h1, h2⟩ := h x hx
  exact ⟨g y, by rw [findM_map hg, h1]; rfl, newer_negtrans _ _ _ h2 (hb y (findM_mem h1))⟩
theorem newer_up {x y : Mem} (h : x.inc < y.inc ∨ x.inc = y.inc ∧ x.st ≤ y.st) : newerM x y = false := by
  unfold newerM; simp; omega
theorem hear_up (h : NdOk n) : BelowV n.v (n.hear frm l now).1.v := by
  unfold Nd.hear
  by_cases hk : (mergeV n.v l).2 = 0
  · rw [if_neg (by simpa using hk)]
    obtain ⟨r1, r2⟩ := merge_zero hk
    have hb : BelowV n.v (mergeV n.v l).1 := mergeV_below r1 r2 hk
    split
    · refine hb.map (bump_id _) fun y _ => newer_up ?_
      unfold bumpM
      split
      · left; show y.inc < y.inc + 1; omega
      · right; omega
    · exact hb
  · rw [if_pos hk]; exact .refl h.good
theorem tick_up (h : NdOk n) : BelowV n.v (n.tick now pick).1.v := by
  unfold Nd.tick
  split
  · exact .refl h.good
  · refine (BelowV.refl h.good).map (age_id _ _ _ _) fun y hy => newer_up ?_
    have := good_pos h.good h.inc hy
    have := aged_range (now := maxI n.now now) (wait := n.wait) (h := n.h) this.2
    unfold ageM
    split
    · right; omega
    · right; simp; omega
theorem leave_up (h : NdOk n) : BelowV n.v n.leave.v := by
  refine (BelowV.refl h.good).map (gone_id _) fun y hy => newer_up ?_
  have := good_pos h.good h.inc hy
  unfold goneM
  split
  · right; simp; omega
  · right; omega

/-! ### The node in its own view -/
structure SelfI (n : Nd) (B : Int) : Prop where
  is : ∃ m, findM n.v n.id = some m ∧ m.inc ≤ B ∧ (n.left = false → m.st = 0)
theorem hear_self (h : NdOk n) {B C : Int} (hs : SelfI n B) (hc : ∀ x ∈ l, x.id = n.id → x.inc ≤ C) (hcb : C ≤ B) (hB : B < 18446744073709551615) : SelfI (n.hear frm l now).1 (B + 1) := by
  obtain ⟨o, ho, hob, hoa⟩ := hs.is
  unfold Nd.hear
  by_cases hk : (mergeV n.v l).2 = 0
  · rw [if_neg (by simpa using hk)]
    obtain ⟨r1, r2⟩ := merge_zero hk
    obtain ⟨_, p1, p2⟩ := mergeV_ok r1 r2 hk
    obtain ⟨m, hm⟩ := jn_some o (findM l n.id)
    have hf : findM (mergeV n.v l).1 n.id = some m := by rw [p2, ho, hm]
    have hmB : m.inc ≤ B := by
      rcases merge_mem hk (findM_mem hf) with hx | hx
      · have := findM_of_mem h.good.nd hx
        rw [findM_id hf, ho] at this
        cases this; exact hob
      · have := hc m hx (findM_id hf); omega
    rw [findP_eq hf]
    split
    · exact ⟨⟨bumpM n.id m, by show findM (List.map _ _) n.id = _; rw [findM_map (bump_id _), hf]; rfl, by unfold bumpM; split <;> (try show m.inc + 1 ≤ B + 1) <;> omega, fun _ => by unfold bumpM; rw [if_pos (findM_id hf)]⟩⟩
    · rename_i hne
      refine ⟨⟨m, hf, by omega, fun hl => ?_⟩⟩
      have hl' : n.left = false := hl
      exact Decidable.not_not.1 fun h' => hne ⟨h', hl', by omega⟩
  · rw [if_pos hk]
    exact ⟨⟨o, ho, by omega, hoa⟩⟩
theorem tick_self {B : Int} (hs : SelfI n B) : SelfI (n.tick now pick).1 B := by
  obtain ⟨o, ho, hob, hoa⟩ := hs.is
  unfold Nd.tick
  split
  · exact ⟨⟨o, ho, hob, hoa⟩⟩
  · refine ⟨⟨o, ?_, hob, hoa⟩⟩
    show findM (List.map _ _) n.id = _
    rw [findM_map (age_id _ _ _ _), ho]
    show some (ageM _ _ _ _ o) = _
    unfold ageM
    rw [if_pos (findM_id ho)]
theorem leave_self {B : Int} (hs : SelfI n B) : SelfI n.leave B := by
  obtain ⟨o, ho, hob, hoa⟩ := hs.is
  refine ⟨⟨goneM n.id o, ?_, ?_, fun h => by cases h⟩⟩
  · show findM (List.map _ _) n.id = _
    rw [findM_map (gone_id _), ho]; rfl
  · unfold goneM; split <;> exact hob

/-! ### A node that has left -/
theorem hear_left {m : Mem} (hf : findM n.v n.id = some m) (hl : n.left = true) (hno : ∀ x ∈ l, x.id ≠ n.id) : findM (n.hear frm l now).1.v n.id = some m := by
  unfold Nd.hear
  by_cases hk : (mergeV n.v l).2 = 0
  · rw [if_neg (by simpa using hk)]
    obtain ⟨r1, r2⟩ := merge_zero hk
    obtain ⟨_, p1, p2⟩ := mergeV_ok r1 r2 hk
    rw [if_neg (by rw [hl]; simp)]
    show findM (mergeV n.v l).1 n.id = _
    rw [p2, hf, findM_none hno]; rfl
  · rw [if_pos hk]; exact hf
theorem tick_left {m : Mem} (hf : findM n.v n.id = some m) : findM (n.tick now pick).1.v n.id = some m := by
  unfold Nd.tick
  split
  · exact hf
  · show findM (List.map _ _) n.id = _
    rw [findM_map (age_id _ _ _ _), hf]
    show some (ageM _ _ _ _ m) = _
    unfold ageM
    rw [if_pos (findM_id hf)]
theorem hear_id (n : Nd) (frm now : Int) (l : List Mem) : (n.hear frm l now).1.id = n.id ∧ (n.hear frm l now).1.left = n.left ∧ (n.hear frm l now).1.period = n.period ∧ (n.hear frm l now).1.wait = n.wait ∧ (n.hear frm l now).1.due = n.due ∧ (n.hear frm l now).1.now = maxI n.now now := by
  unfold Nd.hear
  split
  · exact ⟨rfl, rfl, rfl, rfl, rfl, rfl⟩
  · split <;> exact ⟨rfl, rfl, rfl, rfl, rfl, rfl⟩
theorem tick_id (n : Nd) (now pick : Int) : (n.tick now pick).1.id = n.id ∧ (n.tick now pick).1.left = n.left ∧ (n.tick now pick).1.h = n.h := by
  unfold Nd.tick
  split <;> exact ⟨rfl, rfl, rfl⟩
theorem hear_kind (n : Nd) (frm now : Int) (l : List Mem) : (n.hear frm l now).2 = (mergeV n.v l).2 := by
  unfold Nd.hear
  by_cases hk : (mergeV n.v l).2 = 0
  · rw [if_neg (by simpa using hk)]
    split <;> exact hk.symm
  · rw [if_pos hk]
end
end Go.Proofs.Ytkjhekflgghbdaa
set_option maxRecDepth 100000
namespace Go.Proofs.Ytkjhekflgghbdaa
open Go.Eng
theorem mergeV_still {a : List Mem} {x o : Mem} (ha : vright a = 0) (hx : vright [x] = 0) (hf : findM a x.id = some o) (hn : newerM x o = false) : mergeV a [x] = (a, 0) := by
  have g := (vright_iff a).1 ha
  have h := out_eq (mergeA_nd (a ++ [x])) g.nd fun k => by
    rw [findM_append, mergeA_still a g.nd, mergeA_still [x] (by simp)]
    unfold findM at *
    by_cases hk : x.id = k
    · subst hk
      rw [hf]
      simp [jn, mx, hn]
    · simp [hk]
      cases a.find? (fun y => decide (y.id = k)) <;> rfl
  unfold mergeV
  rw [if_neg (by rw [ha, hx]; simp), h.1, h.2, if_neg (by have := g.few; omega), out_self g]
def v123 (s : Int) : List Mem := [⟨1, 1, 0⟩, ⟨2, 1, 0⟩, ⟨3, 1, s⟩]
/-- Node 1, which heard 2 at hb, and 3 at the beginning. -/
structure HS (n : Nd) (per wait now hb s : Int) : Prop where
  ok : NdOk n
  id : n.id = 1
  pr : n.period = per
  wt : n.wait = wait
  nw : n.now = now
  left : n.left = false
  v : n.v = v123 s
  h2 : mget n.h 2 = some (.int .u64 hb)
  h3 : mget n.h 3 = some (.int .u64 0)
  due : n.due ≤ now + per
  s0 : 0 ≤ s ∧ s ≤ 2
section
variable {n : Nd} {per wait now hb s t : Int}
theorem maxI_right {a b : Int} (h : a ≤ b) : maxI a b = b := by unfold maxI; split <;> omega
theorem good123 (h : 0 ≤ s ∧ s ≤ 2) : vright (v123 s) = 0 := by
  rw [vright_iff]
  refine ⟨by simp [v123], ?_, ?_, by simp [v123]⟩
  · intro m hm; simp [v123] at hm; rcases hm with rfl | rfl | rfl <;> simp
  · intro m hm; simp [v123] at hm; rcases hm with rfl | rfl | rfl <;> (rw [odd_iff]; simp; try omega)
theorem inc2 : IncR [⟨2, 1, 0⟩] := by intro m hm; simp at hm; subst hm; simp
theorem hs_hear (h : HS n per wait now hb s) (ht : now ≤ t ∧ t < 18446744073709551616) (h0 : 0 ≤ now) (hp : 0 ≤ per) : HS (n.hear 2 [⟨2, 1, 0⟩] t).1 per wait t t s := by
  have hm : mergeV n.v [⟨2, 1, 0⟩] = (v123 s, 0) := by
    rw [h.v]
    exact mergeV_still (good123 h.s0) (by decide) (o := ⟨2, 1, 0⟩) rfl (by decide)
  have ok := hear_ok (frm := 2) (l := [⟨2, 1, 0⟩]) (now := t) h.ok inc2 (by omega)
  have hnow : maxI n.now t = t := maxI_right (by rw [h.nw]; exact ht.1)
  have hfp : findP (v123 s) n.id = ⟨1, 1, 0⟩ := by rw [h.id]; rfl
  have he : (n.hear 2 [⟨2, 1, 0⟩] t).1 = { n with now := t, v := v123 s, h := heardAll n.id 2 t n.h (v123 s) } := by
    unfold Nd.hear
    rw [hm, hfp, hnow]
    rfl
  rw [he] at ok ⊢
  have hh : heardAll n.id 2 t n.h (v123 s) = mset n.h 2 (.int .u64 t) := by
    rw [h.id]
    unfold heardAll v123
    simp only [List.foldl_cons, List.foldl_nil]
    have e1 : heardStep 1 2 t n.h ⟨1, 1, 0⟩ = n.h := by unfold heardStep; simp
    have e2 : heardStep 1 2 t n.h ⟨2, 1, 0⟩ = mset n.h 2 (.int .u64 t) := by unfold heardStep; simp
    have e3 : heardStep 1 2 t (mset n.h 2 (.int .u64 t)) ⟨3, 1, s⟩ = mset n.h 2 (.int .u64 t) := by
      unfold heardStep
      rw [if_neg]
      rintro ⟨_, hx⟩
      rcases hx with hx | hx
      · have hx' : mget (mset n.h 2 (.int .u64 t)) 3 = none := hx
        rw [mget_mset, if_neg (by decide), h.h3] at hx'; cases hx'
      · simp at hx
    rw [e1, e2, e3]
  have hd := h.due
  refine ⟨ok, h.id, h.pr, h.wt, rfl, h.left, rfl, ?_, ?_, ?_, h.s0⟩
  · show mget (heardAll n.id 2 t n.h (v123 s)) 2 = _
    rw [hh, mget_mset, if_pos rfl]
  · show mget (heardAll n.id 2 t n.h (v123 s)) 3 = _
    rw [hh, mget_mset, if_neg (by decide)]; exact h.h3
  · show n.due ≤ _; omega
def agest (wait t s : Int) : Int := if s = 0 then (if wait ≤ t then 1 else 0) else if s = 1 then (if t < 2 * wait then 1 else 2) else s
theorem hs_tick (h : HS n per wait now hb s) (ht : now ≤ t ∧ t < 1152921504606846976) (h0 : 0 ≤ now) (hb0 : 0 ≤ hb ∧ hb ≤ t) (hw : t - hb < wait) (hp : 0 ≤ per ∧ per ≤ 1152921504606846976) (pick : Int) :
    ∃ s', HS (n.tick t pick).1 per wait t hb s' ∧ (n.due ≤ t → s' = agest wait t s ∧ (n.tick t pick).1.due = t + per ∧ (n.tick t pick).2 = [2, 3]) := by
  have ok := tick_ok (now := t) (pick := pick) h.ok (by omega)
  have hnow : maxI n.now t = t := maxI_right (by rw [h.nw]; exact ht.1)
  by_cases hd : t < n.due
  · have he : n.tick t pick = ({ n with now := t }, []) := by unfold Nd.tick; rw [hnow, if_pos hd]
    rw [he] at ok ⊢
    have := h.due
    exact ⟨s, ⟨ok, h.id, h.pr, h.wt, rfl, h.left, h.v, h.h2, h.h3, by show n.due ≤ _; omega, h.s0⟩, fun h => by omega⟩
  · have hmin : minI n.period (18446744073709551615 - t) = per := by unfold minI; rw [h.pr, if_pos (by omega)]
    have hv : n.v.map (ageM n.id t n.wait n.h) = v123 (agest wait t s) := by
      rw [h.v, h.id, h.wt]
      unfold v123
      simp only [List.map_cons, List.map_nil]
      have e1 : ageM 1 t wait n.h ⟨1, 1, 0⟩ = ⟨1, 1, 0⟩ := by unfold ageM; simp
      have w2 : IntKind.u64.wrap (t - hb) = t - hb := wrap_u64 (by omega) (by omega)
      have w3 : IntKind.u64.wrap (t - 0) = t := by rw [wrap_u64 (by omega) (by omega)]; omega
      have e2 : ageM 1 t wait n.h ⟨2, 1, 0⟩ = ⟨2, 1, 0⟩ := by
        unfold ageM aged hat
        simp only [h.h2, w2]
        simp; omega
      have e3 : ageM 1 t wait n.h ⟨3, 1, s⟩ = ⟨3, 1, agest wait t s⟩ := by
        unfold ageM aged hat agest
        simp only [h.h3, w3]
        rfl
      rw [e1, e2, e3]
    have he : n.tick t pick = ({ n with now := t, due := t + per, v := v123 (agest wait t s) }, outs n.id (v123 (agest wait t s)) ++ picked (gones n.id (v123 (agest wait t s))) pick) := by
      unfold Nd.tick
      rw [hnow, if_neg hd, hmin, hv]
    rw [he] at ok ⊢
    have hs' : 0 ≤ agest wait t s ∧ agest wait t s ≤ 2 := by
      have := h.s0
      unfold agest
      split
      · split <;> omega
      · split
        · split <;> omega
        · omega
    refine ⟨agest wait t s, ⟨ok, h.id, h.pr, h.wt, rfl, h.left, rfl, h.h2, h.h3, Int.le_refl _, hs'⟩, fun _ => ⟨rfl, rfl, ?_⟩⟩
    show outs n.id _ ++ picked _ _ = _
    rw [h.id]
    generalize agest wait t s = z at *
    by_cases hz : z = 2
    · subst hz
      have o : outs 1 (v123 2) = [2] := by rfl
      have g : gones 1 (v123 2) = [3] := by rfl
      rw [o, g]
      unfold picked
      simp
    · have o : outs 1 (v123 z) = [2, 3] := by unfold outs v123; simp [hz]
      have g : gones 1 (v123 z) = [] := by unfold gones v123; simp [hz]
      rw [o, g]
      rfl
theorem hs_start (per wait : Int) (h1 : 1 ≤ per ∧ per ≤ 1000) (h2 : 1 ≤ wait ∧ wait ≤ 1000) : HS ((Nd.new 1 1 per wait 0).hear 2 [⟨2, 1, 0⟩, ⟨3, 1, 0⟩] 0).1 per wait 0 0 0 := by
  have ok0 : NdOk (Nd.new 1 1 per wait 0) := new_ok (by omega) (by omega) (by omega) (by omega) (by omega)
  have iL : IncR [⟨2, 1, 0⟩, ⟨3, 1, 0⟩] := by intro m hm; simp at hm; rcases hm with rfl | rfl <;> simp
  have ok := hear_ok (frm := 2) (l := [⟨2, 1, 0⟩, ⟨3, 1, 0⟩]) (now := 0) ok0 iL (by omega)
  have hs : Suint64.srtd [1, 2, 3] = [1, 2, 3] := by
    unfold Suint64.srtd
    exact List.mergeSort_of_pairwise (by simp)
  have hm : mergeV (Nd.new 1 1 per wait 0).v [⟨2, 1, 0⟩, ⟨3, 1, 0⟩] = (v123 0, 0) := by
    have h1 : mergeA ((Nd.new 1 1 per wait 0).v ++ [⟨2, 1, 0⟩, ⟨3, 1, 0⟩]) = v123 0 := by rfl
    unfold mergeV
    rw [h1]
    have h3 : ¬ (vright (Nd.new 1 1 per wait 0).v ≠ 0 ∨ vright [⟨2, 1, 0⟩, ⟨3, 1, 0⟩] ≠ 0) := by
      show ¬ (vright [⟨1, 1, 0⟩] ≠ 0 ∨ _)
      decide
    rw [if_neg h3, if_neg (by decide)]
    unfold outM
    show (List.map _ (Suint64.srtd [1, 2, 3]), _) = _
    rw [hs]
    rfl
  have he : ((Nd.new 1 1 per wait 0).hear 2 [⟨2, 1, 0⟩, ⟨3, 1, 0⟩] 0).1 = { Nd.new 1 1 per wait 0 with v := v123 0, h := [(2, .int .u64 0), (3, .int .u64 0)] } := by
    unfold Nd.hear
    rw [hm]
    rfl
  rw [he] at ok ⊢
  exact ⟨ok, rfl, rfl, rfl, rfl, rfl, rfl, rfl, rfl, by show (0 : Int) ≤ _; omega, by omega⟩
end
end Go.Proofs.Ytkjhekflgghbdaa
