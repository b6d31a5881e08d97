/-
  The laws on timers: the example that comes at any rate, the comparison of two lists, and what a nil heap says. No condition.
-/
import Derived.Test.YtiolnbhnahlphaaTim5
namespace Go.Proofs.Ytiolnbhnahlphaa
open Go.Eng

theorem u64s_at {w : World} {base n : Nat} {v : Value} {l : List Int} (h : w.ownsRow base T.uint64 1 v n (u64s l)) {i : Nat} {x : Int} (hi : l[i]? = some x) : ∃ g cap, v = .slice (some ⟨g, 0, none⟩) n cap ∧ base ≤ g ∧ cellOf w g i = some (.int .u64 x) := by
  have hl : l.length = n := by have := row_len h; simpa [u64s] using this
  have hpos : 0 < n := by have := (List.getElem?_eq_some_iff.1 hi).1; omega
  obtain ⟨g, cap, cur, hv, hb, _⟩ := row_form h hpos
  exact ⟨g, cap, hv, hb, row_cell h (by rw [hv]; rfl) (by simp [u64s, hi])⟩
theorem len_row {w w' : World} {base e n sz ty : Nat} {v : Value} {xs : List Value} (h : w.ownsRow base e sz v n xs) {t : TypeId} (ht : isSlB P t = true) (cs : List Bool) {K : KV} (hk : K (.int .i64 n) w') : biT P .len #[t] ty cs [v] w' K := by
  rcases h.2 with ⟨rfl, hn⟩ | ⟨g, cap, cur, rfl, _⟩
  · rw [len_sl ht]; rw [hn] at hk; exact hk
  · rw [len_sl ht]; exact hk

theorem alive_ok {w : World} {K : KV} (h : ∀ w', Fr (fun _ => False) w w' → K (.bool true) w') : callT P F.winnowlaw15_alive [] w K := by
  apply M.winnowlaw15_alive.calls
  unfold M.winnowlaw15_alive
  simp
  generalize hw1 : w.alloc (.cells #[.slice none 0 0, .map none] T.timers_Heap) = w1
  have hb1 : w1.heap[w.heap.size]? = some (.cells #[.slice none 0 0, .map none] T.timers_Heap (0, 0)) := by rw [← hw1, alloc_heap, if_pos rfl]
  have hf1 : Fr (fun _ => False) w w1 := by rw [← hw1]; exact (Fr.refl _ w).alloc _
  have hs1 : w1.heap.size = w.heap.size + 1 := by rw [← hw1, alloc_size]
  rw [M.ptimers_Heap_Set.fcall]
  refine set_ok (Hp.new hb1) (by simp) 5 3 fun w2 O2 H2 hf2 hO2 => ?_
  rw [M.ptimers_Heap_Set.fcall]
  refine set_ok H2 (by simp [cset, cdel]) 4 3 fun w3 O3 H3 hf3 hO3 => ?_
  have hc : cset (cset [] 5 3) 4 3 = [(4, 3), (5, 3)] := by simp [cset, cdel]
  rw [hc] at H3
  have hs2 := hf2.size
  have hs3 := hf3.size
  have g2 : ∀ b, O2 b → w.heap.size ≤ b := fun b hb => by rcases hO2 b hb with h | h <;> omega
  have g3 : ∀ b, O3 b → w.heap.size ≤ b := fun b hb => by
    rcases hO3 b hb with h | h
    · exact g2 b h
    · omega
  have f3 : Fr (fun _ => False) w w3 := (hf1.trans' hf2 fun b hlt hb => by omega).trans' hf3 fun b hlt hb => by have := g2 b hb; omega
  have hsrt : srt [((4 : Int), (3 : Int)), (5, 3)] = [(4, 3), (5, 3)] := sorted_eq (srt_perm _) (srt_pw _) (by decide)
  have hdue : cdue [((4 : Int), (3 : Int)), (5, 3)] 3 = [4, 5] := by unfold cdue; rw [hsrt]; rfl
  rw [M.ptimers_Heap_Pop.fcall]
  refine pop_ok H3 (by simp) 3 fun w4 v H4 hr4 hf4 => ?_
  rw [hdue] at hr4
  have f4 : Fr (fun _ => False) w w4 := f3.trans' hf4 fun b hlt hb => by have := g3 b hb; omega
  refine len_row hr4 (by simp) _ ?_
  obtain ⟨g, cap, rfl, _, e0⟩ := u64s_at hr4 (i := 0) (x := 4) rfl
  obtain ⟨g', cap', hv', _, e1⟩ := u64s_at hr4 (i := 1) (x := 5) rfl
  injection hv' with hg _ _
  injection hg with hg
  injection hg with hg
  subst hg
  simp [e0, e1]
  rw [M.ptimers_Heap_Len.fcall]
  refine len_ok H4 ?_
  simp [crest]
  exact h w4 f4

def UintsI (w : World) (n1 : Nat) (l1 l2 : List Int) : KL := fun x w1 => ∃ i : Nat, x = [gv x 0, .int .i64 (i : Nat)] ∧ i ≤ n1 ∧ l1.take i = l2.take i ∧ Fr (fun _ => False) w w1
theorem uints_ok {w : World} {b1 b2 n1 n2 : Nat} {v1 v2 : Value} {l1 l2 : List Int} (h1 : w.ownsRow b1 T.uint64 1 v1 n1 (u64s l1)) (h2 : w.ownsRow b2 T.uint64 1 v2 n2 (u64s l2)) (hn : n1 < 1000000) {K : KV}
    (h : ∀ w', Fr (fun _ => False) w w' → K (.bool (decide (l1 = l2))) w') : callT P F.winnowlaw15_uints [v1, v2] w K := by
  have e1 : l1.length = n1 := by have := row_len h1; simpa [u64s] using this
  have e2 : l2.length = n2 := by have := row_len h2; simpa [u64s] using this
  apply M.winnowlaw15_uints.calls
  unfold M.winnowlaw15_uints
  simp only [joinT_eq]
  refine len_row h1 (by simp) _ (len_row h2 (by simp) _ ?_)
  by_cases hne : n1 = n2
  · subst hne
    simp
    unfold M.winnowlaw15_uints.j0
    simp only [joinT_eq]
    refine ⟨UintsI w n1 l1 l2, fun x _ => n1 - ms x 1, ⟨0, rfl, Nat.zero_le _, by simp, Fr.refl _ _⟩, ?_⟩
    rintro x w1 ⟨i, hx, hin, htk, hf1⟩
    rw [hx]
    have hr1 : w1.ownsRow b1 T.uint64 1 v1 n1 (u64s l1) := row_keep h1 fun g hg => by
      obtain ⟨cap, cur, _, _, hgb, _⟩ := row_at h1 hg
      exact hf1.keep g (heap_lt hgb) fun h => h
    have hr2 : w1.ownsRow b2 T.uint64 1 v2 n1 (u64s l2) := row_keep h2 fun g hg => by
      obtain ⟨cap, cur, _, _, hgb, _⟩ := row_at h2 hg
      exact hf1.keep g (heap_lt hgb) fun h => h
    refine len_row hr1 (by simp) _ ?_
    by_cases hlt : i < n1
    · have q1 : l1[i]? = some l1[i] := List.getElem?_eq_getElem (by omega)
      have q2 : l2[i]? = some l2[i] := List.getElem?_eq_getElem (by omega)
      obtain ⟨g1, c1, rfl, _, k1⟩ := u64s_at hr1 q1
      obtain ⟨g2, c2, rfl, _, k2⟩ := u64s_at hr2 q2
      have hi' : (i : Int) < (n1 : Int) := by omega
      have hw : IntKind.i64.wrap ((i : Int) + 1) = ((i + 1 : Nat) : Int) := by rw [wrap_id (by omega) (by omega)]; rfl
      unfold M.winnowlaw15_uints.j3
      by_cases heq : l1[i] = l2[i]
      · simp [hlt, k1, k2, heq, hw]
        refine ⟨⟨i + 1, by simp [gv, hw], by omega, ?_, hf1.dr 1⟩, ?_⟩
        · rw [List.take_succ_eq_append_getElem (by omega), List.take_succ_eq_append_getElem (by omega), htk, heq]
        · simp [ms, gv]; omega
      · have hne : ¬ l1 = l2 := fun h => heq (by subst h; rfl)
        simp [hlt, k1, k2, heq]
        have := h _ (hf1.dr 1)
        simp [hne] at this
        exact this
    · have hin' : i = n1 := by omega
      subst hin'
      rw [List.take_of_length_le (by omega), List.take_of_length_le (by omega)] at htk
      simp
      have := h _ hf1
      simp [htk] at this
      exact this
  · have hne' : ¬ ((n1 : Int) = n2) := by omega
    have hl : ¬ l1 = l2 := fun h => hne (by rw [← e1, ← e2, h])
    simp [hne']
    have := h _ (Fr.refl _ _)
    simp [hl] at this
    exact this

theorem nils_ok {w : World} (k a : Int) {K : KV} (h : ∀ w', Fr (fun _ => False) w w' → K (.bool true) w') : callT P F.winnowlaw15_TimersNils [.int .u64 k, .int .u64 a] w K := by
  apply M.winnowlaw15_TimersNils.calls
  unfold M.winnowlaw15_TimersNils
  rw [M.ptimers_Heap_Set.fcall]
  refine nil_set k a ?_
  rw [M.ptimers_Heap_At.fcall]
  refine nil_at k ?_
  simp
  rw [M.ptimers_Heap_Next.fcall]
  refine nil_next ?_
  simp
  rw [M.ptimers_Heap_Del.fcall]
  refine nil_del k ?_
  simp
  rw [M.ptimers_Heap_Pop.fcall]
  refine nil_pop a ?_
  simp
  rw [M.ptimers_Heap_Len.fcall]
  refine nil_len ?_
  simp
  rw [show ∀ K, fcallT P F.winnowlaw15_alive [] w K = callT P F.winnowlaw15_alive [] w K from fun K => M.winnowlaw15_alive.fcall [] w K]
  refine alive_ok fun w' hf => ?_
  exact h w' hf
end Go.Proofs.Ytiolnbhnahlphaa
