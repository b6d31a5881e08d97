/-
  The Heap of timers: a new one, Set, Del, Pop; and what a nil one says. No condition.
-/
import Derived.Test.YtgcpljghnlohbaaTim3
set_option maxRecDepth 100000
namespace Go.Proofs.Ytgcpljghnlohbaa
open Go.Eng
variable [HE]

/-- A new Heap. -/
theorem Hp.new {w' : World} {hb : Nat} (hb' : w'.heap[hb]? = some (hbk (.slice none 0 0) (.map none))) : Hp w' hb (fun b => b = hb) [] := by
  refine ⟨⟨.slice none 0 0, .map none, [], ⟨⟨hb', World.ownsRow_nil _ _ _ _, fun i t h => by simp at h⟩, fun c h0 hc => by simp at hc, by simp, .inl ⟨rfl, rfl⟩⟩, List.Perm.refl _, rfl, fun b hf => ?_, fun r h => by cases h⟩, fun b hb2 => ?_, by simp [ckeys]⟩
  · rcases hf with h | ⟨t, ht, _⟩
    · simp [Value.ownBlock] at h
    · cases ht
  · rw [hb2]; exact heap_lt hb'

theorem set_ok {w : World} {hb : Nat} {O : Nat → Prop} {c : CT} (H : Hp w hb O c) (hlen : c.length < 1000000) (k a : Int) {K : KV}
    (h : ∀ w' O', Hp w' hb O' (cset c k a) → Fr O w w' → (∀ b, O' b → O b ∨ w.heap.size ≤ b) → K (.tuple #[]) w') : callT P F.ptimers_Heap_Set [ptrH hb, .int .u64 k, .int .u64 a] w K := by
  obtain ⟨v, mv, its, hI, hp, h1, h2, h3⟩ := H.ex
  obtain ⟨c0, c1⟩ := cellsH hI.hl.blk
  apply M.ptimers_Heap_Set.calls
  unfold M.ptimers_Heap_Set
  rcases hI.mp with ⟨rfl, rfl⟩ | ⟨r, m, rfl, hm, hmn, hm2, hm3⟩
  · have hc : c = [] := hp.symm.eq_nil
    subst hc
    have hblt := heap_lt hI.hl.blk
    have ff := frzOf_of hI.hl.blk 1
    simp [ptrH, c1]
    rw [mkm_eq]
    generalize hw1 : w.alloc (.map #[] 0) = w1
    have hs1 : w1.heap.size = w.heap.size + 1 := by rw [← hw1, alloc_size]
    have hb1 : w1.heap[hb]? = some (hbk v (.map none)) := by rw [← hw1, alloc_heap, if_neg (by omega)]; exact hI.hl.blk
    obtain ⟨d0, d1⟩ := cellsH hb1
    have ff1 := frzOf_of hb1 1
    simp [d1, ff1]
    generalize hw2 : w1.setCell ⟨hb, 1, none⟩ (.map (some w.heap.size)) = w2
    have hb2 : w2.heap[hb]? = some (hbk v (.map (some w.heap.size))) := by rw [← hw2]; exact hbk_set1 hb1
    have hf2 : Fr O w w2 := by
      rw [← hw2, ← hw1]
      exact ((Fr.refl O w).alloc _).setCell (.inl h1) _ _
    have hs2 : w2.heap.size = w.heap.size + 1 := by rw [← hw2, setCell_size, hs1]
    have hm' : MapAt w2 w.heap.size .u64 [] := by
      refine (MapAt_new w .u64).of_heap ?_
      rw [← hw2, setCell_ne (by omega), hw1]
    have hne : ∀ b, fpL v ([] : List It) b → b ≠ hb := fun b hf => by
      rcases hf with hg | ⟨t, ht, _⟩
      · obtain ⟨cap, cur, _, _, hgb, _⟩ := row_at hI.hl.row hg
        exact ne_of_elem hgb hI.hl.blk (by first | decide | exact HE.n1 | exact HE.n2 | exact HE.n1.symm | exact HE.n2.symm)
      · cases ht
    have H2 : HL w2 hb v (.map (some w.heap.size)) [] := hI.hl.beside hb2 fun b hf => by
      have hlt := fpL_lt hI.hl hf
      rw [← hw2, setCell_ne (Ne.symm (hne b hf)), ← hw1, alloc_heap, if_neg (by omega)]
    refine set_made (O := fun b => O b ∨ b = w.heap.size) ⟨H2, hI.hh, hI.nd, .inr ⟨_, _, rfl, hm', by simp [mkeys], fun t ht => (by cases ht), fun _ _ => rfl⟩⟩ hm' (by simp [mkeys]) (fun t ht => (by cases ht)) (fun _ _ => rfl) hp (.inl h1) (fun b hf => .inl (h2 b hf)) (.inr rfl) (fun b hb' => ?_) H.nd hlen k a fun w3 O3 H3 hf3 hO3 => ?_
    · rcases hb' with hb' | hb'
      · have := H.lt b hb'; omega
      · omega
    · refine h w3 O3 H3 (hf2.trans' hf3 fun b hlt hb' => ?_) fun b hb' => ?_
      · rcases hb' with hb' | hb'
        · exact hb'
        · omega
      · rcases hO3 b hb' with (hb' | hb') | hb'
        · exact .inl hb'
        · exact .inr (by omega)
        · exact .inr (by omega)
  · simp [ptrH, c1]
    exact set_made hI hm hmn hm2 hm3 hp h1 h2 (h3 r rfl) H.lt H.nd hlen k a h

theorem del_none {w : World} {hb : Nat} {O : Nat → Prop} {c : CT} (H : Hp w hb O c) (k : Int) (hk : cget c k = none) {K : KV} (h : K (.bool false) w) : callT P F.ptimers_Heap_Del [ptrH hb, .int .u64 k] w K := by
  obtain ⟨v, mv, its, hI, hp, _⟩ := H.ex
  obtain ⟨c0, c1⟩ := cellsH hI.hl.blk
  apply M.ptimers_Heap_Del.calls
  unfold M.ptimers_Heap_Del ptrH
  simp [c1]
  refine map_get hI.mp hp H.nd k false _ (fun _ => ?_) (fun t ht htk ha => ?_) fun _ => rfl
  · simp; exact h
  · rw [hk] at ha; cases ha

theorem del_some {w : World} {hb : Nat} {O : Nat → Prop} {c : CT} (H : Hp w hb O c) (hlen : c.length < 1000000) (k a : Int) (hk : cget c k = some a) {K : KV} (h : ∀ w', Hp w' hb O (cdel c k) → Fr O w w' → K (.bool true) w') : callT P F.ptimers_Heap_Del [ptrH hb, .int .u64 k] w K := by
  obtain ⟨v, mv, its, hI, hp, h1, h2, h3⟩ := H.ex
  have hl : c.length = its.length := by rw [← hp.length_eq]; simp
  obtain ⟨c0, c1⟩ := cellsH hI.hl.blk
  apply M.ptimers_Heap_Del.calls
  unfold M.ptimers_Heap_Del M.ptimers_Heap_Del.j0 ptrH
  obtain ⟨r, m, rfl, hm, hmn, hm2, hm3⟩ : ∃ r m, mv = .map (some r) ∧ MapAt w r .u64 m ∧ (mkeys m).Nodup ∧ (∀ t ∈ its, mget m t.k = some t.ptr) ∧ ∀ k, (∀ t ∈ its, t.k ≠ k) → mget m k = none := by
    rcases hI.mp with ⟨_, rfl⟩ | hx
    · have hc : c = [] := hp.symm.eq_nil
      subst hc
      simp [cget] at hk
    · exact hx
  obtain ⟨t, ht, hta⟩ := List.mem_map.1 (hp.mem_iff.2 (cget_mem hk))
  obtain ⟨rfl, rfl⟩ : t.k = k ∧ t.a = a := by simpa [It.pr] using hta
  obtain ⟨i, hi⟩ := List.mem_iff_getElem?.1 ht
  have hil := (List.getElem?_eq_some_iff.1 hi).1
  obtain ⟨t0, t1, t2⟩ := cells3 (hI.hl.itm i t hi)
  have hg : (mget m t.k).getD (.pointer none) = .pointer (some ⟨t.p, 0, none⟩) := by rw [hm2 t ht]; rfl
  simp [c1]
  rw [lu_eq mt.map_uint64_p_timers_item hm, hg]
  simp [c1]
  rw [lu_eq mt.map_uint64_p_timers_item (hm.of_heap (w' := dr w 1) rfl), hg]
  simp [t2]
  rw [M.heap_Remove.fcall]
  have hAt : At its i = t := At_some hi
  refine remove_ok (hI.hl.dr 1) (by omega) hil hI.hh fun w1 v1 its1 H1 hp1 hh1 hf1 hv1 => ?_
  rw [hAt] at hp1
  have hf1' : Fr (fun b => fpL v its b ∨ b = hb) w w1 := ⟨hf1.size, hf1.keep, hf1.tape, hf1.os, hf1.output⟩
  have hm1 : MapAt w1 r .u64 m := hm.of_heap (hf1'.keep r hm.lt fun hf => fp_ne_map hI.hl hm hf rfl)
  obtain ⟨d0, d1⟩ := cellsH H1.blk
  simp [d1]
  refine del_ok mt.map_uint64_p_timers_item hm1 t.k _ _ _ fun o hm2' => ?_
  generalize hw2 : World.setObj w1 r o = w2 at hm2'
  have hrlt : r < w1.heap.size := hm1.lt
  have hf2 : Fr (fun b => b = r) w1 w2 := by rw [← hw2]; exact (Fr.refl (fun b => b = r) w1).setObj (.inl rfl) _
  have H2 : HL w2 hb v1 (.map (some r)) its1 := H1.keep hf2 (fp_ne_map H1 hm1 (.inr rfl)) fun b hf => fp_ne_map H1 hm1 (.inl hf)
  have hmem : ∀ u, u ∈ its1 → u ∈ its := fun u hu => hp1.mem_iff.1 (List.mem_cons_of_mem _ hu)
  have hnd1 : ((t :: its1).map (·.k)).Nodup := ((hp1.map _).nodup_iff).2 hI.nd
  rw [List.map_cons, List.nodup_cons] at hnd1
  have hne : ∀ u ∈ its1, t.k ≠ u.k := fun u hu h => hnd1.1 (by rw [h]; exact List.mem_map.2 ⟨u, hu, rfl⟩)
  have hfr : Fr O w w2 := (hf1'.mono fun b _ hb' => by
    rcases hb' with hb' | rfl
    · exact h2 b hb'
    · exact h1).trans' hf2 fun b _ hb' => by rw [hb']; exact h3 r rfl
  refine h w2 ⟨⟨v1, .map (some r), its1, ⟨H2, hh1, hnd1.2, .inr ⟨r, _, rfl, hm2', ?_, fun u hu => ?_, fun k' hk' => ?_⟩⟩, ?_, h1, fun b hf => ?_, h3⟩, fun b hb' => Nat.lt_of_lt_of_le (H.lt b hb') hfr.size, cdel_nodup H.nd _⟩ hfr
  · rw [mkeys_mdel]; exact hmn.erase _
  · rw [mget_mdel_ne _ _ _ (hne u hu)]; exact hm2 u (hmem u hu)
  · by_cases hkk : t.k = k'
    · subst hkk; exact mget_mdel_same _ _ hmn
    · rw [mget_mdel_ne _ _ _ hkk]
      refine hm3 k' fun u hu huk => ?_
      rcases List.mem_cons.1 (hp1.mem_iff.2 hu) with rfl | hu'
      · exact hkk huk
      · exact hk' u hu' huk
  · refine del_perm H.nd (a := t.a) ?_
    exact (hp1.map It.pr).trans hp
  · rcases hf with hg' | ⟨u, hu, hpu⟩
    · exact h2 b (.inl (hv1 ▸ hg'))
    · exact h2 b (.inr ⟨u, hmem u hu, hpu⟩)
end Go.Proofs.Ytgcpljghnlohbaa
