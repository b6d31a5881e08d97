/-
  The law BufferDue. No condition.
-/
import Derived.Test.YtgcpljghnlohbaaBufA
set_option maxRecDepth 100000
namespace Go.Proofs.Ytgcpljghnlohbaa
open Go.Eng

def AnyI (w : World) (ids : List Int) (k : Int) : KL := fun x w1 => ∃ j : Nat, x = [.bool ((ids.take j).any fun y => decide (y = k)), .int .i64 (j : Nat)] ∧ j ≤ ids.length ∧ Fr (fun _ => False) w w1
theorem any_step {ids : List Int} {k : Int} {j : Nat} (hj : j < ids.length) : ((ids.take (j + 1)).any fun y => decide (y = k)) = (((ids.take j).any fun y => decide (y = k)) || decide (ids[j] = k)) := by
  rw [List.take_succ_eq_append_getElem hj, List.any_append]; simp

theorem is_loop1 {w : World} {idsv a1 : Value} {ids : List Int} {l : List Spn} (h1 : SlU w idsv ids) (hn : ids.length < 1000) (hs : SlS w a1 l) {i : Nat} (hi : i < l.length) {x2 : List Value} (e3 : gv x2 3 = idsv) (e6 : gv x2 6 = .int .i64 (i : Nat)) {K6 : KL} {K : KV}
    (h : ∀ w' jv, Fr (fun _ => False) w w' → K6 [jv, .bool (ids.any fun y => decide (y = l[i].trace))] w') : loopT [.bool false, .int .i64 0] w fun K7 x7 w => M.winnowlaw16_BufferDue.j7 x2 x7 K6 a1 K7 w K := by
  refine ⟨AnyI w ids l[i].trace, fun x _ => ids.length - ms x 1, ⟨0, by simp, Nat.zero_le _, Fr.refl _ _⟩, ?_⟩
  rintro x w1 ⟨j, rfl, hj, f1⟩
  unfold M.winnowlaw16_BufferDue.j7
  have g1 : ∀ b, gv [.bool b, .int .i64 (j : Int)] 1 = .int .i64 (j : Int) := fun _ => rfl
  have g0 : ∀ b, gv [.bool b, .int .i64 (j : Int)] 0 = .bool b := fun _ => rfl
  simp only [joinT_eq, e3, g1, g0]
  have hr1 : SlU w1 idsv ids := h1.fr f1 fun _ _ _ h => h
  have hs1 : SlS w1 a1 l := hs.fr f1 fun _ _ _ h => h
  rw [hr1.len_ok (by simp)]
  by_cases hlt : j < ids.length
  · obtain ⟨b1, o1, c1, hv1, _, k1⟩ := slU_at hr1 hlt
    obtain ⟨b2, o2, c2, hv2, _, _, k2⟩ := hs1.at hi
    have k20 := k2 0 _ rfl
    simp only [Nat.add_zero] at k20
    have hw : IntKind.i64.wrap ((j : Int) + 1) = ((j + 1 : Nat) : Int) := by rw [wrap_id (by omega) (by omega)]; rfl
    have nx : ∀ w2, Fr (fun _ => False) w w2 → AnyI w ids l[i].trace [.bool (((ids.take j).any fun y => decide (y = l[i].trace)) || decide (ids[j] = l[i].trace)), .int .i64 ((j + 1 : Nat) : Int)] w2 ∧ ids.length - ms [.bool (((ids.take j).any fun y => decide (y = l[i].trace)) || decide (ids[j] = l[i].trace)), .int .i64 ((j + 1 : Nat) : Int)] 1 < ids.length - ms [.bool ((ids.take j).any fun y => decide (y = l[i].trace)), .int .i64 (j : Int)] 1 := fun w2 f2 =>
      ⟨⟨j + 1, by rw [any_step hlt], by omega, f2⟩, by simp [ms, gv]; omega⟩
    simp [hlt]
    unfold M.winnowlaw16_BufferDue.j8
    simp only [joinT_eq, g1, g0, e3, e6]
    generalize (List.take j ids).any (fun y => decide (y = l[i].trace)) = bb at *
    cases bb with
    | true =>
      simp [hw]
      have := nx _ (f1.dr 1)
      simpa using this
    | false =>
      subst hv1 hv2
      simp [hlt, hi, k1, k20, hw]
      have := nx _ (f1.dr 1)
      simpa using this
  · have hje : j = ids.length := by omega
    subst hje
    simp
    have := h w1 (.int .i64 (ids.length : Nat)) f1
    simpa using this

theorem is_loop2 {w : World} {dv idsv : Value} {D ids : List Int} (h1 : SlU w dv D) (hn : D.length < 1000) (hs : SlU w idsv ids) {i : Nat} (hi : i < ids.length) {x1 x12 : List Value} (e4 : gv x1 4 = idsv) (e6 : gv x12 4 = .int .i64 (i : Nat)) {K6 : KL} {K : KV}
    (h : ∀ w' jv, Fr (fun _ => False) w w' → K6 [jv, .bool (D.any fun y => decide (y = ids[i]))] w') : loopT [.bool false, .int .i64 0] w fun K16 x16 w => M.winnowlaw16_BufferDue.j16 dv x16 K6 x1 x12 K16 w K := by
  refine ⟨AnyI w D ids[i], fun x _ => D.length - ms x 1, ⟨0, by simp, Nat.zero_le _, Fr.refl _ _⟩, ?_⟩
  rintro x w1 ⟨j, rfl, hj, f1⟩
  unfold M.winnowlaw16_BufferDue.j16
  have g1 : ∀ b, gv [.bool b, .int .i64 (j : Int)] 1 = .int .i64 (j : Int) := fun _ => rfl
  have g0 : ∀ b, gv [.bool b, .int .i64 (j : Int)] 0 = .bool b := fun _ => rfl
  simp only [joinT_eq, g1, g0]
  have hr1 : SlU w1 dv D := h1.fr f1 fun _ _ _ h => h
  have hs1 : SlU w1 idsv ids := hs.fr f1 fun _ _ _ h => h
  rw [hr1.len_ok (by simp)]
  by_cases hlt : j < D.length
  · obtain ⟨b1, o1, c1, hv1, _, k1⟩ := slU_at hr1 hlt
    obtain ⟨b2, o2, c2, hv2, _, k2⟩ := slU_at hs1 hi
    have hw : IntKind.i64.wrap ((j : Int) + 1) = ((j + 1 : Nat) : Int) := by rw [wrap_id (by omega) (by omega)]; rfl
    have nx : ∀ w2, Fr (fun _ => False) w w2 → AnyI w D ids[i] [.bool (((D.take j).any fun y => decide (y = ids[i])) || decide (D[j] = ids[i])), .int .i64 ((j + 1 : Nat) : Int)] w2 ∧ D.length - ms [.bool (((D.take j).any fun y => decide (y = ids[i])) || decide (D[j] = ids[i])), .int .i64 ((j + 1 : Nat) : Int)] 1 < D.length - ms [.bool ((D.take j).any fun y => decide (y = ids[i])), .int .i64 (j : Int)] 1 := fun w2 f2 =>
      ⟨⟨j + 1, by rw [any_step hlt], by omega, f2⟩, by simp [ms, gv]; omega⟩
    simp [hlt]
    unfold M.winnowlaw16_BufferDue.j17
    simp only [joinT_eq, g1, g0, e4, e6]
    generalize (List.take j D).any (fun y => decide (y = ids[i])) = bb at *
    cases bb with
    | true =>
      simp [hw]
      have := nx _ (f1.dr 1)
      simpa using this
    | false =>
      subst hv1 hv2
      simp [hlt, hi, k1, k2, hw]
      have := nx _ (f1.dr 1)
      simpa using this
  · have hje : j = D.length := by omega
    subst hje
    simp
    have := h w1 (.int .i64 (D.length : Nat)) f1
    simpa using this

/-! ### The plain law -/
theorem cdue_mem {c : CT} {k : Int} {now : Int} : k ∈ cdue c now ↔ ∃ a, (k, a) ∈ c ∧ a ≤ now := by
  unfold cdue
  rw [List.mem_map]
  constructor
  · rintro ⟨⟨x, a⟩, h, rfl⟩
    rw [List.mem_filter] at h
    exact ⟨a, (srt_perm c).mem_iff.1 h.1, by simpa using h.2⟩
  · rintro ⟨a, h1, h2⟩
    exact ⟨(k, a), List.mem_filter.2 ⟨(srt_perm c).mem_iff.2 h1, by simpa using h2⟩, rfl⟩
theorem due_prefix : ∀ {m : CT}, m.Pairwise (fun a b => leP a b = true) → ∀ (now later : Int), now ≤ later → ((m.filter fun p => decide (p.2 ≤ later)).take (m.filter fun p => decide (p.2 ≤ now)).length) = m.filter fun p => decide (p.2 ≤ now)
  | [], _, _, _, _ => rfl
  | p :: m, hp, now, later, h => by
    rw [List.pairwise_cons] at hp
    by_cases hd : p.2 ≤ now
    · have hl : p.2 ≤ later := by omega
      simp only [List.filter_cons, hd, hl, decide_true, if_true, List.length_cons, List.take_succ_cons]
      rw [due_prefix hp.2 now later h]
    · have : (p :: m).filter (fun p => decide (p.2 ≤ now)) = [] := by
        rw [List.filter_eq_nil_iff]
        intro q hq
        rcases List.mem_cons.1 hq with rfl | hq
        · simpa using hd
        · have := hp.1 q hq
          simp only [leP, Bool.or_eq_true, Bool.and_eq_true, decide_eq_true_eq] at this
          simp; omega
      rw [this]; rfl
theorem cdue_prefix (c : CT) {now later : Int} (h : now ≤ later) : (cdue c later).take (cdue c now).length = cdue c now := by
  unfold cdue
  rw [List.length_map, ← List.map_take, due_prefix (srt_pw c) now later h]
end Go.Proofs.Ytgcpljghnlohbaa
