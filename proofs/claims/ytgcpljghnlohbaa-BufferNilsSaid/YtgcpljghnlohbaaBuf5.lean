/-
  A buffer of traces: Get. No condition.
-/
import Derived.Test.YtgcpljghnlohbaaBuf4
set_option maxRecDepth 100000
namespace Go.Proofs.Ytgcpljghnlohbaa
open Go.Eng

theorem clone_ok {w : World} {v : Value} {l : List Spn} (hs : SlS w v l) (hlen : l.length ≤ 1000000) {K : KV} (h : ∀ w' v', SlS w' v' l → (∀ x, v'.ownBlock = some x → w.heap.size ≤ x ∧ x < w'.heap.size) → Fr (fun _ => False) w w' → K v' w') : callT P F.slices_Clone_api_Span_api_Span [v] w K := by
  apply M.slices_Clone_api_Span_api_Span.calls
  unfold M.slices_Clone_api_Span_api_Span
  simp only [joinT_eq]
  have hs' := hs
  obtain ⟨a, cap, rfl, _⟩ := hs'
  cases a with
  | none =>
    simp
    have hz : l = [] := by
      obtain ⟨a', cap', hv, _, _, h3⟩ := hs
      cases l with
      | nil => rfl
      | cons x l =>
        obtain ⟨b, o, ha, _⟩ := h3 0 x rfl
        injection hv with h1 _ _
        rw [← h1] at ha; cases ha
    subst hz
    exact h w _ Sl.nil (fun x hx => by simp [Value.ownBlock] at hx) (Fr.refl _ _)
  | some a =>
    simp
    have f0 : Fr (fun _ => False) w (w.alloc (.cells #[] T.api_Span)) := (Fr.refl _ w).alloc _
    refine app_sl et.sl_api_Span encS_len encS_one (base := w.heap.size) (Ow.empty (by rw [alloc_heap, if_pos rfl]) (Nat.le_refl _)) (hs.fr f0 fun _ _ _ h => h) (by simp; omega) (by decide) (by simp) _ fun v3 w3 o3 f3 g3 => ?_
    rw [List.nil_append] at o3
    exact h w3 v3 (o3.sl encS_len) (fun x hx => o3.lt hx) (f0.trans' f3 fun b hb hv => by simp [Value.ownBlock] at hv; omega)

theorem get_ok {w : World} {hb : Nat} {g : Cfg} {B : Nat → Prop} {A : List AE} {c : CT} (I : Buf w hb g B A c) (hl : ∀ e ∈ A, e.l.length ≤ 1000) (k : Int) {K : KV}
    (h0 : (∀ e ∈ A, e.t ≠ k) → K (.tuple #[.slice none 0 0, .bool false, .bool false]) w)
    (h1 : ∀ e ∈ A, e.t = k → ∀ w' v', SlS w' v' e.l → (∀ x, v'.ownBlock = some x → w.heap.size ≤ x ∧ x < w'.heap.size) → Fr (fun _ => False) w w' → K (.tuple #[v', .bool e.over, .bool true]) w') : callT P F.pbuffer_Buffer_Get [.pointer (some ⟨hb, 0, none⟩), .int .u64 k] w K := by
  obtain ⟨⟨O, r, m, es, hAe, J, hB⟩, hlt⟩ := I
  apply M.pbuffer_Buffer_Get.calls
  unfold M.pbuffer_Buffer_Get
  simp only [joinT_eq]
  obtain ⟨_, _, _, q5⟩ := J.cells
  simp [q5]
  rw [lu_eq mt.map_uint64_p_buffer_entry J.mp]
  rcases J.find k with ⟨hmn, hne⟩ | ⟨e, he, het, hme⟩
  · rw [hmn]
    simp
    refine h0 fun e he => ?_
    rw [hAe] at he
    obtain ⟨x, hx, rfl⟩ := List.mem_map.1 he
    exact hne x hx
  · rw [hme]
    have e1 : e.ptr = .pointer (some ⟨e.p, 0, none⟩) := rfl
    simp [e1]
    unfold M.pbuffer_Buffer_Get.j0
    simp [q5]
    rw [lu_eq mt.map_uint64_p_buffer_entry J.mp, hme]
    obtain ⟨c0, c1⟩ := cells2 (J.blk e he)
    simp [e1, c0, c1]
    rw [M.slices_Clone_api_Span_api_Span.fcall]
    have eA : e.abs ∈ A := by rw [hAe]; exact List.mem_map_of_mem he
    have hll : e.l.length ≤ 1000 := hl _ eA
    have fd : Fr (fun _ => False) w (dr w 1) := (Fr.refl _ w).dr 1
    refine clone_ok (((J.row e he).sl encS_len).fr fd fun _ _ _ h => h) (by omega) fun w2 v2 s2 o2 f2 => ?_
    have f2' := fd.trans f2
    obtain ⟨d0, d1⟩ := cells2 (f2'.heap (J.blk e he) fun h => h)
    simp [d1]
    exact h1 e.abs eA het w2 v2 s2 o2 f2'
end Go.Proofs.Ytgcpljghnlohbaa
