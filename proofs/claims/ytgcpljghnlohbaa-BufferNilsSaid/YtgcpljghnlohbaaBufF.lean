/-
  The law BufferDue: its second loop, and its end. No condition.
-/
import Derived.Test.YtgcpljghnlohbaaBufE
set_option maxRecDepth 100000
namespace Go.Proofs.Ytgcpljghnlohbaa
open Go.Eng

theorem isBo : isBoB P T.bool = true := by kernel_rfl
@[simp] theorem neqB (rx ry : Operand) (x y : Bool) (w : World) (K : KV) : binT P .neq T.bool rx ry (.bool x) (.bool y) w K = K (.bool !(x == y)) w := bin_neqB isBo

def cntP (L : List (Int × Int)) (now : Int) : Nat := L.countP fun p => decide (p.2 ≤ now)
def CntI (w : World) (ids ats : List Int) (now : Int) : KL := fun x w1 => ∃ (p0 p1 p2 : Value) (i : Nat), x = [p0, p1, p2, .int .i64 (cntP ((ids.zip ats).take i) now : Nat), .int .i64 (i : Nat)] ∧ i ≤ ids.length ∧ Fr (fun _ => False) w w1

theorem cnt_loop {w : World} {dv idsv atv : Value} {D ids ats : List Int} {now : Int} (h1 : SlU w dv D) (hD : D.length < 1000) (h2 : SlU w idsv ids) (h3 : SlU w atv ats) (hle : ids.length = ats.length) (hn : ids.length < 1000)
    (hm : ∀ (i : Nat) (hi : i < ids.length) (hi' : i < ats.length), (D.any fun y => decide (y = ids[i])) = decide (ats[i] ≤ now)) {x1 : List Value} (e4 : gv x1 4 = idsv) (e5 : gv x1 5 = atv) (y0 : Value) {K11 : KL} {K : KV}
    (h : ∀ w' q0 q1 q2 q3, Fr (fun _ => False) w w' → K11 [q0, q1, q2, q3, .int .i64 (cntP (ids.zip ats) now : Nat)] w') : loopT [undef, undef, y0, .int .i64 0, .int .i64 0] w fun K12 x12 w => M.winnowlaw16_BufferDue.j12 x1 x12 K11 dv (.int .u64 now) K12 w K := by
  refine ⟨CntI w ids ats now, fun x _ => ids.length - ms x 4, ⟨_, _, _, 0, rfl, Nat.zero_le _, Fr.refl _ _⟩, ?_⟩
  rintro x w1 ⟨p0, p1, p2, i, rfl, hi, f1⟩
  have g4 : ∀ n : Nat, gv [p0, p1, p2, .int .i64 (n : Int), .int .i64 (i : Int)] 4 = .int .i64 (i : Int) := fun _ => rfl
  have g3 : ∀ n : Nat, gv [p0, p1, p2, .int .i64 (n : Int), .int .i64 (i : Int)] 3 = .int .i64 (n : Int) := fun _ => rfl
  unfold M.winnowlaw16_BufferDue.j12
  simp only [joinT_eq, g4, e4]
  have r1 : SlU w1 dv D := h1.fr f1 fun _ _ _ h => h
  have r2 : SlU w1 idsv ids := h2.fr f1 fun _ _ _ h => h
  rw [r2.len_ok (by simp)]
  by_cases hil : i < ids.length
  · have hil' : i < ats.length := by omega
    simp [hil]
    unfold M.winnowlaw16_BufferDue.j13
    simp only [joinT_eq]
    refine is_loop2 r1 hD r2 hil e4 (g4 _) fun w2 jv f2 => ?_
    have f12 := f1.trans f2
    have r3 : SlU w2 atv ats := h3.fr f12 fun _ _ _ h => h
    obtain ⟨b3, o3, c3, hv3, _, k3⟩ := slU_at r3 hil'
    have hw : IntKind.i64.wrap ((i : Int) + 1) = ((i + 1 : Nat) : Int) := by rw [wrap_id (by omega) (by omega)]; rfl
    have hz : (ids.zip ats)[i]? = some (ids[i], ats[i]) := by rw [List.getElem?_zip_eq_some]; exact ⟨List.getElem?_eq_getElem hil, List.getElem?_eq_getElem hil'⟩
    have hzl : i < (ids.zip ats).length := (List.getElem?_eq_some_iff.1 hz).1
    have hze : (ids.zip ats)[i] = (ids[i], ats[i]) := (List.getElem?_eq_some_iff.1 hz).2
    have hcn : cntP ((ids.zip ats).take (i + 1)) now = cntP ((ids.zip ats).take i) now + (if ats[i] ≤ now then 1 else 0) := by
      unfold cntP
      rw [List.take_succ_eq_append_getElem hzl, List.countP_append, hze]
      simp [List.countP_cons]
    have hcle : cntP ((ids.zip ats).take i) now ≤ i := by
      unfold cntP
      exact Nat.le_trans List.countP_le_length (by simp; omega)
    unfold M.winnowlaw16_BufferDue.j15
    have g1 : ∀ bb, gv [jv, .bool bb] 1 = .bool bb := fun _ => rfl
    simp only [joinT_eq, g4, g3, e5, g1, hm i hil hil']
    subst hv3
    by_cases hd : ats[i] ≤ now
    · have hw2 : IntKind.i64.wrap ((cntP ((ids.zip ats).take i) now : Int) + 1) = ((cntP ((ids.zip ats).take (i + 1)) now : Nat) : Int) := by
        rw [hcn, if_pos hd, wrap_id (by omega) (by omega)]; rfl
      simp [hil', k3, hd, hw, hw2]
      exact ⟨⟨_, _, _, i + 1, rfl, by omega, f12⟩, by simp [ms, gv]; omega⟩
    · have hw2 : cntP ((ids.zip ats).take (i + 1)) now = cntP ((ids.zip ats).take i) now := by rw [hcn, if_neg hd]; rfl
      simp [hil', k3, hd, hw]
      exact ⟨⟨_, _, _, i + 1, by rw [hw2]; rfl, by omega, f12⟩, by simp [ms, gv]; omega⟩
  · have hie : i = ids.length := by omega
    subst hie
    have ht : (ids.zip ats).take ids.length = ids.zip ats := List.take_of_length_le (by simp; omega)
    simp
    have := h w1 (.int .i64 (ids.length : Nat)) p0 p1 p2 f1
    rw [ht]
    exact this
end Go.Proofs.Ytgcpljghnlohbaa
