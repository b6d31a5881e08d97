/-
  The library's heap over a line: Push, Pop, Fix, Remove. No condition.
-/
import Derived.Test.YtgcpljghnlohbaaTim1
set_option maxRecDepth 100000
namespace Go.Proofs.Ytgcpljghnlohbaa
open Go.Eng
variable [HE]

theorem HL.keep {w w' : World} {hb : Nat} {v mv : Value} {its : List It} {S : Nat → Prop} (H : HL w hb v mv its) (hf : Fr S w w') (h1 : ¬ S hb) (h2 : ∀ b, fpL v its b → ¬ S b) : HL w' hb v mv its := by
  refine ⟨hf.heap H.blk h1, row_keep H.row fun g hg => ?_, fun i t ht => hf.heap (H.itm i t ht) (h2 _ (.inr ⟨t, List.mem_of_getElem? ht, rfl⟩))⟩
  obtain ⟨cap, cur, _, _, hb', _⟩ := row_at H.row hg
  exact hf.keep g (heap_lt hb') (h2 g (.inl hg))
theorem fpL_lt {w : World} {hb : Nat} {v mv : Value} {its : List It} (H : HL w hb v mv its) {b : Nat} (h : fpL v its b) : b < w.heap.size := by
  rcases h with hg | ⟨t, ht, rfl⟩
  · obtain ⟨cap, cur, _, _, hb', _⟩ := row_at H.row hg
    exact heap_lt hb'
  · obtain ⟨i, hi⟩ := List.mem_iff_getElem?.1 ht
    exact heap_lt (H.itm i t hi)

theorem inv_push {w : World} {hb : Nat} {v mv : Value} {its : List It} (H : HL w hb v mv its) (hlen : its.length < 1099511627776) {t : It} {z : Int} (ht : w.heap[t.p]? = some (.cells #[.int .u64 t.k, .int .u64 t.a, .int .i64 z] T.timers_item (0, 0)))
    (hnew : ∀ u ∈ its, u.p ≠ t.p) (K : KV)
    (h : ∀ w' v', HL w' hb v' mv (its ++ [t]) → Fr (fun b => fpL v its b ∨ b = hb ∨ b = t.p) w w' → (∀ b, v'.ownBlock = some b → v.ownBlock = some b ∨ w.heap.size ≤ b) → K (.tuple #[]) w') :
    invokeT P (lineI hb) "Push" [.iface T.p_timers_item t.ptr] w K := by
  unfold lineI
  rw [inv_ptr (P := P) (t := T.p_timers_line) (name := "Push") (f := F.ptimers_line_Push) (by simp), M.ptimers_line_Push.fcall]
  apply M.ptimers_line_Push.calls
  unfold M.ptimers_line_Push
  obtain ⟨h0, h1⟩ := cellsH H.blk
  obtain ⟨t0, t1, t2⟩ := cells3 ht
  have f2 := frzOf_of ht 2
  have fb := frzOf_of H.blk 0
  have hbt : hb ≠ t.p := ne_of_elem H.blk ht (by first | decide | exact HE.n1 | exact HE.n2 | exact HE.n1.symm | exact HE.n2.symm)
  have e1 : t.ptr = .pointer (some ⟨t.p, 0, none⟩) := rfl
  have hlenv : ∀ (w1 : World) (K1 : KV), K1 (.int .i64 its.length) w1 → biT P .len #[T.timers_line] T.int [false] [v] w1 K1 := fun w1 K1 hk => by
    rcases H.row.2 with ⟨rfl, hn⟩ | ⟨g, cap, cur, rfl, _⟩
    · simp [hn] at hk ⊢; exact hk
    · simp; exact hk
  simp [h0, e1]
  refine hlenv _ _ ?_
  simp [h0, t2, f2, cellOf_setCell, hbt.symm]
  -- the new row of one
  generalize hw1 : w.setCell ⟨t.p, 2, none⟩ (.int .i64 its.length) = w1
  have hs1 : w1.heap.size = w.heap.size := by rw [← hw1, setCell_size]
  have hf1 : Fr (fun b => fpL v its b ∨ b = hb ∨ b = t.p) w w1 := by
    rw [← hw1]; exact (Fr.refl _ w).setCell (.inl (.inr (.inr rfl))) _ _
  have hrow1 : w1.ownsRow 0 T.p_timers_item 1 v its.length (its.map It.ptr) := row_keep H.row fun g hg => by
    obtain ⟨cap, cur, _, _, hb', _⟩ := row_at H.row hg
    rw [← hw1, setCell_ne]
    exact (ne_of_elem hb' ht (by first | decide | exact HE.n1 | exact HE.n2 | exact HE.n1.symm | exact HE.n2.symm)).symm
  have hrow2 := hrow1.alloc (.cells #[.pointer (some ⟨t.p, 0, none⟩)] T.p_timers_item)
  refine app_own (P := P) et.timers_line hrow2 (b := w.heap.size) (o := 0) (m := 1) (c := 1) (news := [t.ptr]) rfl ?_ ?_ (by omega) (by omega) (Nat.zero_le _) _ _ ?_
  · intro j u hj
    have : j = 0 ∧ u = t.ptr := by
      cases j with
      | zero => simp at hj; exact ⟨rfl, hj.symm⟩
      | succ j => simp at hj
    obtain ⟨rfl, rfl⟩ := this
    rw [Nat.zero_add, cellOf_new hs1.symm]; rfl
  · intro u hu; simp at hu; subst hu; rfl
  · intro v' w2 hrow3 hgr _ hwhere
    have hf2 : Fr (fun b => fpL v its b ∨ b = hb ∨ b = t.p) w w2 := (hf1.alloc _).trans' (Fr.grown hgr) fun b _ h => .inl (.inl h)
    have hbg : ∀ g, v.ownBlock = some g → g ≠ hb := fun g hg => by
      obtain ⟨cap, cur, _, _, hb', _⟩ := row_at H.row hg
      exact ne_of_elem hb' H.blk (by first | decide | exact HE.n1 | exact HE.n2 | exact HE.n1.symm | exact HE.n2.symm)
    have hblt := heap_lt H.blk
    have hblk1 : (w1.alloc (.cells #[.pointer (some ⟨t.p, 0, none⟩)] T.p_timers_item)).heap[hb]? = some (hbk v mv) := by
      rw [alloc_heap, if_neg (by omega), ← hw1, setCell_ne hbt.symm]; exact H.blk
    have hblk2 : w2.heap[hb]? = some (hbk v mv) := by
      rw [hgr.block hb (by rw [alloc_size]; omega) (fun he => hbg hb he.symm rfl)]; exact hblk1
    have c0 : (cellOf w2 hb 0).isSome = true := by rw [cellOf_of hblk2]; rfl
    have ff : frzOf w2 hb 0 = false := frzOf_of hblk2 0
    have hv' : v' = .slice none 0 0 ∨ ∃ g c, v' = .slice (some ⟨g, 0, none⟩) (its.length + 1) c := by
      rcases hrow3.2 with ⟨h, _⟩ | ⟨g, c, _, h, _⟩
      · exact .inl h
      · exact .inr ⟨g, c, h⟩
    have hst : ∀ K1 : KV, K1 undef (w2.setCell ⟨hb, 0, none⟩ v') → stT P T.timers_line (.pointer (some ⟨hb, 0, none⟩)) v' w2 K1 := fun K1 hk => by
      rcases hv' with rfl | ⟨g, c, rfl⟩ <;> simp [c0, ff] <;> exact hk
    refine hst _ (h _ v' ⟨?_, ?_, ?_⟩ (hf2.setCell (.inl (.inr (.inl rfl))) _ _) ?_)
    · exact hbk_set0 hblk2
    · have hr : (its ++ [t]).map It.ptr = its.map It.ptr ++ [t.ptr] := by simp
      rw [hr, List.length_append]
      refine row_keep hrow3 fun g hg => ?_
      obtain ⟨cap, cur, _, _, hb', _⟩ := row_at hrow3 hg
      rw [setCell_ne]
      exact (ne_of_elem hb' hblk2 (by first | decide | exact HE.n1 | exact HE.n2 | exact HE.n1.symm | exact HE.n2.symm)).symm
    · -- the items
      have keep : ∀ p o, w1.heap[p]? = some o → v.ownBlock ≠ some p → p ≠ hb → (w2.setCell ⟨hb, 0, none⟩ v').heap[p]? = some o := fun p o hp hg hph => by
        have hlt := heap_lt hp
        rw [setCell_ne hph.symm, hgr.block p (by rw [alloc_size]; omega) (fun he => hg he.symm), alloc_heap, if_neg (by omega)]
        exact hp
      intro i u hu
      rw [List.getElem?_append] at hu
      split at hu
      · have hu' := H.itm i u hu
        have hne : t.p ≠ u.p := fun h => hnew u (List.mem_of_getElem? hu) h.symm
        refine keep _ _ (by rw [← hw1, setCell_ne hne]; exact hu') (fun hg => ?_) (fun h => ?_)
        · obtain ⟨cap, cur, _, _, hb', _⟩ := row_at H.row hg
          exact ne_of_elem hb' hu' (by first | decide | exact HE.n1 | exact HE.n2 | exact HE.n1.symm | exact HE.n2.symm) rfl
        · unfold itemAt at hu'; rw [h] at hu'; exact ne_of_elem H.blk hu' (by first | decide | exact HE.n1 | exact HE.n2 | exact HE.n1.symm | exact HE.n2.symm) rfl
      · rename_i hlt
        have hi : i = its.length ∧ u = t := by
          cases hd : i - its.length with
          | zero => rw [hd] at hu; simp at hu; exact ⟨by omega, hu.symm⟩
          | succ n => rw [hd] at hu; simp at hu
        obtain ⟨rfl, rfl⟩ := hi
        refine keep _ _ (by rw [← hw1, setCell_at ht]; rfl) (fun hg => ?_) hbt.symm
        obtain ⟨cap, cur, _, _, hb', _⟩ := row_at H.row hg
        exact ne_of_elem hb' ht (by first | decide | exact HE.n1 | exact HE.n2 | exact HE.n1.symm | exact HE.n2.symm) rfl
    · intro b hb'
      rcases hwhere with h | ⟨g, h, hge⟩
      · exact .inl (h ▸ hb')
      · rw [hb'] at h; cases h
        rw [alloc_size] at hge; exact .inr (by omega)

theorem inv_pop {w : World} {hb n : Nat} {v mv : Value} {its : List It} (H : HL w hb v mv its) (hlen : its.length < 1099511627776) (hn : its.length = n + 1) (K : KV)
    (h : ∀ w' v', HL w' hb v' mv (its.take n) → Fr (fun b => b = hb) w w' → v'.ownBlock = v.ownBlock → K (.iface T.p_timers_item (At its n).ptr) w') :
    invokeT P (lineI hb) "Pop" [] w K := by
  unfold lineI
  rw [inv_ptr (P := P) (t := T.p_timers_line) (name := "Pop") (f := F.ptimers_line_Pop) (by simp), M.ptimers_line_Pop.fcall]
  apply M.ptimers_line_Pop.calls
  unfold M.ptimers_line_Pop
  obtain ⟨h0, h1⟩ := cellsH H.blk
  have fb := frzOf_of H.blk 0
  obtain ⟨g, cap, cur, hv, _, hgb, hnc, _, _, _⟩ := row_form H.row (by omega)
  have cn := row_cell H.row (g := g) (by rw [hv]; rfl) (i := n) (x := (At its n).ptr) (by rw [List.getElem?_map, at_some (by omega)]; rfl)
  have hw : IntKind.i64.wrap ((its.length : Int) - 1) = (n : Int) := by rw [wrap_id (by omega) (by omega)]; omega
  have l1 : (n : Int) < its.length := by omega
  have l2 : (n : Int) ≤ cap := by omega
  have hbg : hb ≠ g := (ne_of_elem hgb H.blk (by first | decide | exact HE.n1 | exact HE.n2 | exact HE.n1.symm | exact HE.n2.symm)).symm
  have hnl : n < its.length := by omega
  have hnc' : n ≤ cap := by omega
  subst hv
  simp [h0, hw, hnl, hnc', cn, fb]
  refine h _ (.slice (some ⟨g, 0, none⟩) n cap) ⟨?_, ?_, ?_⟩ ((Fr.refl (fun b => b = hb) w).setCell (.inl rfl) _ _) rfl
  · rw [setCell_at H.blk]; rfl
  · have hl : (its.take n).length = n := by rw [List.length_take]; omega
    rw [hl, List.map_take]
    have := row_take (m := n) (row_keep (w' := w.setCell ⟨hb, 0, none⟩ (.slice (some ⟨g, 0, none⟩) n cap)) H.row fun g' hg' => by cases hg'; rw [setCell_ne hbg]) (by omega)
    simpa using this
  · intro i u hu
    rw [List.getElem?_take] at hu
    split at hu
    · have hu' := H.itm i u hu
      unfold itemAt at hu' ⊢
      rw [setCell_ne (ne_of_elem H.blk hu' (by first | decide | exact HE.n1 | exact HE.n2 | exact HE.n1.symm | exact HE.n2.symm))]
      exact hu'
    · cases hu

/-- Of what may have turned when a heap was put in order: its line's own blocks. -/
theorem fix_ok {w : World} {hb i : Nat} {v mv : Value} {its : List It} (H : HL w hb v mv its) (hlen : its.length < 1099511627776) (hi : i < its.length) (hD : DInv (At its) its.length i i) {K : KV}
    (h : ∀ w' its', HL w' hb v mv its' → its'.Perm its → HeapN (At its') its'.length → Fr (fpL v its) w w' → K (.tuple #[]) w') : callT P F.heap_Fix [lineI hb, .int .i64 i] w K := by
  apply M.heap_Fix.calls
  unfold M.heap_Fix
  refine inv_len H _ ?_
  rw [M.heap_down.fcall]
  refine down_ok H (by omega) (Nat.le_refl _) hi hD fun w1 its1 b H1 hp1 hl1 ht hf _ hf1 => ?_
  cases b with
  | true =>
    simp
    exact h w1 its1 H1 hp1 (by rw [hl1]; exact ht rfl) hf1
  | false =>
    simp
    rw [M.heap_up.fcall]
    refine up_ok H1 (by omega) (by omega) (Nat.le_of_eq hl1.symm) hi (hf rfl) fun w2 its2 H2 hp2 hl2 hh _ hf2 => ?_
    exact h w2 its2 H2 (hp2.trans hp1) (by rw [hl2, hl1]; exact hh) (hf1.trans' hf2 fun b _ hb' => fpL_perm hp1 hb')

theorem push_ok {w : World} {hb : Nat} {v mv : Value} {its : List It} (H : HL w hb v mv its) (hlen : its.length < 1099511627776) (hh : HeapN (At its) its.length) {t : It} {z : Int} (ht : w.heap[t.p]? = some (.cells #[.int .u64 t.k, .int .u64 t.a, .int .i64 z] T.timers_item (0, 0)))
    (hnew : ∀ u ∈ its, u.p ≠ t.p) {K : KV}
    (h : ∀ w' v' its', HL w' hb v' mv its' → its'.Perm (its ++ [t]) → HeapN (At its') its'.length → Fr (fun b => fpL v its b ∨ b = hb ∨ b = t.p) w w' → (∀ b, v'.ownBlock = some b → v.ownBlock = some b ∨ w.heap.size ≤ b) → K (.tuple #[]) w') :
    callT P F.heap_Push [lineI hb, .iface T.p_timers_item t.ptr] w K := by
  apply M.heap_Push.calls
  unfold M.heap_Push
  refine inv_push H hlen ht hnew _ fun w1 v1 H1 hf1 hv1 => ?_
  refine inv_len H1 _ ?_
  have hw : IntKind.i64.wrap ((((its ++ [t]).length : Nat) : Int) - 1) = ((its.length : Nat) : Int) := by rw [wrap_id (by simp <;> omega) (by simp <;> omega)]; simp
  rw [bin_sub, hw, M.heap_up.fcall]
  have hl : (its ++ [t]).length = its.length + 1 := by simp
  refine up_ok H1 (by omega) (by omega) (Nat.le_refl _) (by omega) ⟨fun c h0 hc hne => ?_, fun c h0 hc hpc _ => ?_⟩ fun w2 its2 H2 hp2 hl2 hh2 _ hf2 => ?_
  · have hc' : c < its.length := by omega
    have hp := par_lt h0
    have e1 : At (its ++ [t]) c = At its c := by simp [At, List.getElem?_append, hc']
    have e2 : At (its ++ [t]) (par c) = At its (par c) := by simp [At, List.getElem?_append, show par c < its.length from by omega]
    rw [e1, e2]; exact hh c h0 hc'
  · have := par_lt h0; omega
  · refine h w2 v1 its2 H2 hp2 (by rw [hl2]; exact hh2) (hf1.trans' hf2 fun b hlt hb' => ?_) hv1
    rcases fpL_perm (List.Perm.refl _) hb' with hg | ⟨u, hu, hp⟩
    · rcases hv1 b hg with hg | hg
      · exact .inl (.inl hg)
      · omega
    · rcases List.mem_append.1 hu with hu | hu
      · exact .inl (.inr ⟨u, hu, hp⟩)
      · rw [List.mem_singleton] at hu; subst hu; exact .inr (.inr hp.symm)

theorem remove_ok {w : World} {hb i : Nat} {v mv : Value} {its : List It} (H : HL w hb v mv its) (hlen : its.length < 1099511627776) (hi : i < its.length) (hh : HeapN (At its) its.length) {K : KV}
    (h : ∀ w' v' its', HL w' hb v' mv its' → (At its i :: its').Perm its → HeapN (At its') its'.length → Fr (fun b => fpL v its b ∨ b = hb) w w' → v'.ownBlock = v.ownBlock → K (.iface T.p_timers_item (At its i).ptr) w') :
    callT P F.heap_Remove [lineI hb, .int .i64 i] w K := by
  apply M.heap_Remove.calls
  unfold M.heap_Remove
  refine inv_len H _ ?_
  obtain ⟨n, hn⟩ : ∃ n, its.length = n + 1 := ⟨its.length - 1, by omega⟩
  have hw : IntKind.i64.wrap (((its.length : Nat) : Int) - 1) = ((n : Nat) : Int) := by rw [wrap_id (by omega) (by omega)]; omega
  -- the end: the last one is taken
  have fin : ∀ (w1 : World) (its1 : List It), HL w1 hb v mv its1 → its1.Perm its → At its1 n = At its i → HeapN (At its1) n → Fr (fpL v its) w w1 → invokeT P (lineI hb) "Pop" [] w1 K := fun w1 its1 H1 hp1 hlast hh1 hf1 => by
    have hl1 := hp1.length_eq
    refine inv_pop H1 (n := n) (by omega) (by omega) _ fun w2 v2 H2 hf2 hv2 => ?_
    rw [hlast]
    have hlt : (its1.take n).length = n := by rw [List.length_take]; omega
    have ht : its1 = its1.take n ++ [At its1 n] := by
      have h1 : its1.take (n + 1) = its1.take n ++ [its1[n]'(by omega)] := by rw [List.take_succ_eq_append_getElem (by omega)]
      rw [List.take_of_length_le (by omega)] at h1
      have h2 : At its1 n = its1[n]'(by omega) := by simp [At, show n < its1.length from by omega]
      rw [h2]; exact h1
    refine h w2 v2 _ H2 ?_ ?_ ((hf1.mono fun _ _ h => .inl h).trans' hf2 fun b _ hb' => .inr hb') hv2
    · rw [← hlast]
      have : (At its1 n :: its1.take n).Perm (its1.take n ++ [At its1 n]) := (List.perm_append_comm (l₁ := [At its1 n]) (l₂ := its1.take n))
      rw [← ht] at this
      exact this.trans hp1
    · rw [hlt]
      intro c h0 hc
      have hp := par_lt h0
      have e1 : At (its1.take n) c = At its1 c := by simp [At, hc]
      have e2 : At (its1.take n) (par c) = At its1 (par c) := by simp [At, show par c < n from by omega]
      rw [e1, e2]; exact hh1 c h0 hc
  by_cases hin : i = n
  · subst hin
    simp [hw]
    exact fin w its H (List.Perm.refl _) rfl (fun c h0 hc => hh c h0 (by omega)) (Fr.refl _ _)
  · have hne : ¬ ((n : Int) = (i : Int)) := by omega
    have b1 : i < its.length := hi
    have b2 : n < its.length := by omega
    simp [hw, hne]
    refine inv_swap H (at_some b1) (at_some b2) hin _ fun w1 H1 hf1 => ?_
    have hs : At (swapI its i n (At its i) (At its n)) = sw (At its) i n := At_swap_fun b1 b2
    have hl1 := swapI_len its i n (At its i) (At its n)
    have hp1 := swapI_perm b1 b2
    rw [M.heap_down.fcall]
    refine down_ok H1 (by omega) (by omega) (by omega) (by rw [hs]; exact broken_last (by rw [← hn]; exact hh) (by omega)) fun w2 its2 b H2 hp2 hl2 ht hf hc2 hf2 => ?_
    have hf12 : Fr (fpL v its) w w2 := hf1.trans' hf2 fun b _ hb' => fpL_perm hp1 hb'
    have hlast2 : At its2 n = At its i := by rw [hc2 n (Nat.le_refl _), hs]; simp [sw]
    cases b with
    | true =>
      simp
      exact fin w2 its2 H2 (hp2.trans hp1) hlast2 (ht rfl) hf12
    | false =>
      simp
      rw [M.heap_up.fcall]
      refine up_ok H2 (by omega) (by omega) (n := n) (by omega) (by omega) (hf rfl) fun w3 its3 H3 hp3 hl3 hh3 hc3 hf3 => ?_
      exact fin w3 its3 H3 (hp3.trans (hp2.trans hp1)) (by rw [hc3 n (Nat.le_refl _)]; exact hlast2) hh3 (hf12.trans' hf3 fun b _ hb' => fpL_perm (hp2.trans hp1) hb')
end Go.Proofs.Ytgcpljghnlohbaa
