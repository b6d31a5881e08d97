/-
  The Heap of timers: Set, Del, At, Len, Next, told over what it has. No condition.
-/
import Derived.Test.YtgcpljghnlohbaaTim2
import Derived.Test.YtgcpljghnlohbaaTimPure2
set_option maxRecDepth 100000
namespace Go.Proofs.Ytgcpljghnlohbaa
open Go.Eng
variable [HE]

def It.pr (t : It) : Int × Int := (t.k, t.a)

/-- The map beside the line. -/
def MapOk (w : World) (mv : Value) (its : List It) : Prop :=
  (mv = .map none ∧ its = []) ∨ ∃ r m, mv = .map (some r) ∧ MapAt w r .u64 m ∧ (mkeys m).Nodup ∧ (∀ t ∈ its, mget m t.k = some t.ptr) ∧ ∀ k, (∀ t ∈ its, t.k ≠ k) → mget m k = none

structure HpI (w : World) (hb : Nat) (v mv : Value) (its : List It) : Prop where
  hl : HL w hb v mv its
  hh : HeapN (At its) its.length
  nd : (its.map (·.k)).Nodup
  mp : MapOk w mv its

def ptrH (hb : Nat) : Value := .pointer (some ⟨hb, 0, none⟩)

/-- A Heap at block hb, whose memory lies in O, that has the pairs c. -/
structure Hp (w : World) (hb : Nat) (O : Nat → Prop) (c : CT) : Prop where
  ex : ∃ v mv its, HpI w hb v mv its ∧ (its.map It.pr).Perm c ∧ O hb ∧ (∀ b, fpL v its b → O b) ∧ ∀ r, mv = .map (some r) → O r
  lt : ∀ b, O b → b < w.heap.size
  nd : (ckeys c).Nodup

omit [HE] in
theorem MapOk.keep {w w' : World} {mv : Value} {its : List It} (h : MapOk w mv its) (hk : ∀ r, mv = .map (some r) → w'.heap[r]? = w.heap[r]?) : MapOk w' mv its := by
  rcases h with h | ⟨r, m, hr, hm, h1, h2, h3⟩
  · exact .inl h
  · exact .inr ⟨r, m, hr, hm.of_heap (hk r hr), h1, h2, h3⟩
omit [HE] in
theorem MapOk.perm {w : World} {mv : Value} {its its' : List It} (h : MapOk w mv its) (hp : its'.Perm its) : MapOk w mv its' := by
  rcases h with ⟨h1, h2⟩ | ⟨r, m, hr, hm, h1, h2, h3⟩
  · subst h2; exact .inl ⟨h1, hp.eq_nil⟩
  · exact .inr ⟨r, m, hr, hm, h1, fun t ht => h2 t (hp.mem_iff.1 ht), fun k hk => h3 k fun t ht => hk t (hp.mem_iff.2 ht)⟩

theorem Hp.keep {w w' : World} {hb : Nat} {O S : Nat → Prop} {c : CT} (H : Hp w hb O c) (hf : Fr S w w') (hd : ∀ b, O b → ¬ S b) : Hp w' hb O c := by
  obtain ⟨v, mv, its, hI, hp, h1, h2, h3⟩ := H.ex
  refine ⟨⟨v, mv, its, ⟨hI.hl.keep hf (hd _ h1) fun b hb' => hd _ (h2 b hb'), hI.hh, hI.nd, hI.mp.keep fun r hr => hf.keep r (H.lt r (h3 r hr)) (hd _ (h3 r hr))⟩, hp, h1, h2, h3⟩, fun b hb' => Nat.lt_of_lt_of_le (H.lt b hb') hf.size, H.nd⟩
theorem Hp.congr {w : World} {hb : Nat} {O : Nat → Prop} {c c' : CT} (H : Hp w hb O c) (h : c.Perm c') : Hp w hb O c' := by
  obtain ⟨v, mv, its, hI, hp, h1, h2, h3⟩ := H.ex
  exact ⟨⟨v, mv, its, hI, hp.trans h, h1, h2, h3⟩, H.lt, ((h.map _).nodup_iff).1 H.nd⟩

theorem len_ok {w : World} {hb : Nat} {O : Nat → Prop} {c : CT} (H : Hp w hb O c) {K : KV} (h : K (.int .i64 c.length) w) : callT P F.ptimers_Heap_Len [ptrH hb] w K := by
  obtain ⟨v, mv, its, hI, hp, _⟩ := H.ex
  apply M.ptimers_Heap_Len.calls
  unfold M.ptimers_Heap_Len ptrH
  obtain ⟨h0, h1⟩ := cellsH hI.hl.blk
  have hl : c.length = its.length := by rw [← hp.length_eq]; simp
  rw [hl] at h
  simp [h0]
  rcases hI.hl.row.2 with ⟨rfl, hn⟩ | ⟨g, cap, cur, rfl, _⟩
  · simp [hn] at h ⊢; exact h
  · simp; exact h

omit [HE] in
theorem map_get {w : World} {mv : Value} {its : List It} {c : CT} (hm : MapOk w mv its) (hp : (its.map It.pr).Perm c) (hn : (ckeys c).Nodup) (k : Int) (ok : Bool) (K : KV) :
    (cget c k = none → K (cond ok (.tuple #[.pointer none, .bool false]) (.pointer none)) w) → (∀ t ∈ its, t.k = k → cget c k = some t.a → K (cond ok (.tuple #[t.ptr, .bool true]) t.ptr) w) →
    (mv = .map none → ok = false) → luT P T.map_uint64_p_timers_item mv (.int .u64 k) ok w K := by
  intro h0 h1 hok
  rcases hm with ⟨rfl, rfl⟩ | ⟨r, m, rfl, hm, _, h2, h3⟩
  · rw [hok rfl, lu_nil mt.map_uint64_p_timers_item]
    rw [hok rfl] at h0
    have hc : c = [] := hp.symm.eq_nil
    exact h0 (by rw [hc]; rfl)
  · rw [lu_any mt.map_uint64_p_timers_item hm]
    by_cases hex : ∃ t ∈ its, t.k = k
    · obtain ⟨t, ht, htk⟩ := hex
      have := h2 t ht
      rw [htk] at this
      rw [this]
      refine h1 t ht htk (cget_of_mem hn (hp.mem_iff.1 ?_))
      rw [← htk]
      exact List.mem_map.2 ⟨t, ht, rfl⟩
    · have hno : ∀ t ∈ its, t.k ≠ k := fun t ht htk => hex ⟨t, ht, htk⟩
      rw [h3 k hno]
      refine h0 ((cget_none_iff _ _).2 fun hk => ?_)
      obtain ⟨p, hp', rfl⟩ := List.mem_map.1 hk
      obtain ⟨t, ht, rfl⟩ := List.mem_map.1 (hp.mem_iff.2 hp')
      exact hno t ht rfl

theorem at_ok {w : World} {hb : Nat} {O : Nat → Prop} {c : CT} (H : Hp w hb O c) (k : Int) {K : KV} (h0 : cget c k = none → K (.tuple #[.int .u64 0, .bool false]) w) (h1 : ∀ a, cget c k = some a → K (.tuple #[.int .u64 a, .bool true]) w) :
    callT P F.ptimers_Heap_At [ptrH hb, .int .u64 k] w K := by
  obtain ⟨v, mv, its, hI, hp, _⟩ := H.ex
  apply M.ptimers_Heap_At.calls
  unfold M.ptimers_Heap_At M.ptimers_Heap_At.j0 ptrH
  obtain ⟨c0, c1⟩ := cellsH hI.hl.blk
  simp [c1]
  refine map_get hI.mp hp H.nd k false _ (fun hn => ?_) (fun t ht htk ha => ?_) fun _ => rfl
  · simp; exact h0 hn
  · obtain ⟨i, hi⟩ := List.mem_iff_getElem?.1 ht
    obtain ⟨t0, t1, t2⟩ := cells3 (hI.hl.itm i t hi)
    simp [It.ptr, c1]
    refine map_get hI.mp hp H.nd k false _ (fun hn => ?_) (fun u hu huk hb' => ?_) fun _ => rfl
    · rw [hn] at ha; cases ha
    · obtain ⟨j, hj⟩ := List.mem_iff_getElem?.1 hu
      obtain ⟨u0, u1, u2⟩ := cells3 (hI.hl.itm j u hj)
      simp [It.ptr, u1]
      exact h1 _ hb'

theorem next_ok {w : World} {hb : Nat} {O : Nat → Prop} {c : CT} (H : Hp w hb O c) (hlen : c.length < 1099511627776) {K : KV} (h0 : c = [] → K (.tuple #[.int .u64 0, .int .u64 0, .bool false]) w)
    (h1 : ∀ k a, (k, a) ∈ c → (∀ q ∈ c, leP (k, a) q = true) → K (.tuple #[.int .u64 k, .int .u64 a, .bool true]) (dr w 1)) : callT P F.ptimers_Heap_Next [ptrH hb] w K := by
  obtain ⟨v, mv, its, hI, hp, _⟩ := H.ex
  have hl : c.length = its.length := by rw [← hp.length_eq]; simp
  apply M.ptimers_Heap_Next.calls
  unfold M.ptimers_Heap_Next M.ptimers_Heap_Next.j0
  simp only [joinT_eq]
  rw [M.ptimers_Heap_Len.fcall]
  refine len_ok H ?_
  by_cases hc : c = []
  · subst hc
    simp
    exact h0 rfl
  · have hpos : 0 < c.length := List.length_pos_iff.2 hc
    have hz : ¬ ((c.length : Int) = 0) := by omega
    obtain ⟨c0, c1⟩ := cellsH hI.hl.blk
    obtain ⟨g, cap, cur, hv, _, hgb, hnc, _, _, _⟩ := row_form hI.hl.row (by omega)
    have hat := at_some (its := its) (i := 0) (by omega)
    obtain ⟨t0, t1, t2⟩ := cells3 (hI.hl.itm 0 _ hat)
    have cn := row_cell hI.hl.row (g := g) (by rw [hv]; rfl) (i := 0) (x := (At its 0).ptr) (by rw [List.getElem?_map, hat]; rfl)
    rw [hv] at c0
    have e1 : (At its 0).ptr = .pointer (some ⟨(At its 0).p, 0, none⟩) := rfl
    have hpos' : 0 < its.length := by omega
    simp [hc, ptrH, c0, cn, e1, t0, t1, hpos']
    have hm : At its 0 ∈ its := List.mem_of_getElem? hat
    refine h1 _ _ (hp.mem_iff.1 (List.mem_map.2 ⟨_, hm, rfl⟩)) fun q hq => ?_
    obtain ⟨u, hu, rfl⟩ := List.mem_map.1 (hp.mem_iff.2 hq)
    obtain ⟨j, hj⟩ := List.mem_iff_getElem?.1 hu
    have hjl := (List.getElem?_eq_some_iff.1 hj).1
    have := heap_min hI.hh j hjl
    rw [At_some hj] at this
    unfold le at this
    have hle : leP ((At its 0).k, (At its 0).a) (u.k, u.a) = true := by
      simp only [leP, Bool.or_eq_true, Bool.and_eq_true, decide_eq_true_eq]
      omega
    exact hle

/-- A line, whatever stands beside its slice. -/
theorem HL.beside {w w' : World} {hb : Nat} {v mv mv' : Value} {its : List It} (H : HL w hb v mv its) (hb' : w'.heap[hb]? = some (hbk v mv')) (hk : ∀ b, fpL v its b → w'.heap[b]? = w.heap[b]?) : HL w' hb v mv' its := by
  refine ⟨hb', row_keep H.row fun g hg => hk g (.inl hg), fun i t ht => ?_⟩
  have := H.itm i t ht
  unfold itemAt at this ⊢
  rw [hk _ (.inr ⟨t, List.mem_of_getElem? ht, rfl⟩)]
  exact this

theorem fp_ne_map {w : World} {hb r : Nat} {v mv : Value} {its : List It} {m : MP} (H : HL w hb v mv its) (hm : MapAt w r .u64 m) {b : Nat} (hf : fpL v its b ∨ b = hb) : b ≠ r := by
  obtain ⟨es, clk, hr, _⟩ := hm
  rcases hf with (hg | ⟨t, ht, rfl⟩) | rfl
  · obtain ⟨cap, cur, _, _, hb', _⟩ := row_at H.row hg
    exact ne_of_map hb' hr
  · obtain ⟨i, hi⟩ := List.mem_iff_getElem?.1 ht
    exact ne_of_map (H.itm i t hi) hr
  · exact ne_of_map H.blk hr

/-- Set where the map stands already. -/
theorem set_made {w : World} {hb r : Nat} {v : Value} {its : List It} {m : MP} {c : CT} {O : Nat → Prop} (hI : HpI w hb v (.map (some r)) its) (hm : MapAt w r .u64 m) (hmn : (mkeys m).Nodup) (hm2 : ∀ t ∈ its, mget m t.k = some t.ptr)
    (hm3 : ∀ k, (∀ t ∈ its, t.k ≠ k) → mget m k = none) (hp : (its.map It.pr).Perm c) (hO1 : O hb) (hO2 : ∀ b, fpL v its b → O b) (hO3 : O r) (hlt : ∀ b, O b → b < w.heap.size) (hnd : (ckeys c).Nodup) (hlen : c.length < 1000000) (k a : Int) {K : KV}
    (h : ∀ w' O', Hp w' hb O' (cset c k a) → Fr O w w' → (∀ b, O' b → O b ∨ w.heap.size ≤ b) → K (.tuple #[]) w') : M.ptimers_Heap_Set.j0 (ptrH hb) (.int .u64 k) (.int .u64 a) w K := by
  have hl : c.length = its.length := by rw [← hp.length_eq]; simp
  obtain ⟨c0, c1⟩ := cellsH hI.hl.blk
  unfold M.ptimers_Heap_Set.j0 ptrH
  simp [c1]
  rw [lu_any mt.map_uint64_p_timers_item hm]
  by_cases hex : ∃ t ∈ its, t.k = k
  · obtain ⟨t, ht, rfl⟩ := hex
    obtain ⟨i, hi⟩ := List.mem_iff_getElem?.1 ht
    have hil := (List.getElem?_eq_some_iff.1 hi).1
    have hit := hI.hl.itm i t hi
    obtain ⟨t0, t1, t2⟩ := cells3 hit
    have tf := frzOf_of hit 1
    rw [hm2 t ht]
    simp [It.ptr, t1, tf, t2, cellOf_setCell]
    rw [M.heap_Fix.fcall]
    -- the item's time is turned
    generalize hw1 : w.setCell ⟨t.p, 1, none⟩ (.int .u64 a) = w1
    have hbt : hb ≠ t.p := ne_of_elem hI.hl.blk hit (by first | decide | exact HE.n1 | exact HE.n2 | exact HE.n1.symm | exact HE.n2.symm)
    have hf1 : Fr (fpL v its) w w1 := by rw [← hw1]; exact (Fr.refl _ w).setCell (.inl (.inr ⟨t, ht, rfl⟩)) _ _
    let t' : It := ⟨t.p, t.k, a⟩
    have hptr : (its.set i t').map It.ptr = its.map It.ptr := map_set_same hi rfl
    have H1 : HL w1 hb v (.map (some r)) (its.set i t') := by
      refine ⟨?_, ?_, fun j u hu => ?_⟩
      · rw [← hw1, setCell_ne hbt.symm]; exact hI.hl.blk
      · rw [hptr, List.length_set]
        refine row_keep hI.hl.row fun g hg => ?_
        obtain ⟨cap, cur, _, _, hb', _⟩ := row_at hI.hl.row hg
        rw [← hw1, setCell_ne (ne_of_elem hb' hit (by first | decide | exact HE.n1 | exact HE.n2 | exact HE.n1.symm | exact HE.n2.symm)).symm]
      · rw [List.getElem?_set] at hu
        split at hu
        · rename_i hij; subst hij
          simp [hil] at hu; subst hu
          unfold itemAt
          rw [← hw1, setCell_at hit]; rfl
        · rename_i hij
          have hu' := hI.hl.itm j u hu
          have hne : t.p ≠ u.p := fun h => hij (itemAt_inj hit hu' h)
          unfold itemAt at hu' ⊢
          rw [← hw1, setCell_ne hne]; exact hu'
    have hD : DInv (At (its.set i t')) (its.set i t').length i i := by
      rw [List.length_set]
      refine broken_set hI.hh hil fun c hc => ?_
      simp [At, List.getElem?_set, Ne.symm hc]
    have hfix := fix_ok (K := fun _ w => K (.tuple #[]) w) (H1.dr 1) (by rw [List.length_set]; omega) (by rw [List.length_set]; exact hil) hD fun w2 its2 H2 hp2 hh2 hf2 => by
      have hkeys : (its.set i t').map (·.k) = its.map (·.k) := map_set_same hi rfl
      have hfr : Fr (fun b => fpL v its b) w w2 := (hf1.dr 1).trans' hf2 fun b _ hb' => by
        rcases hb' with hg | ⟨u, hu, hpu⟩
        · exact .inl hg
        · obtain ⟨j, hj⟩ := List.mem_iff_getElem?.1 hu
          rw [List.getElem?_set] at hj
          split at hj
          · rename_i hij; subst hij
            simp [hil] at hj; subst hj
            exact .inr ⟨t, ht, hpu⟩
          · exact .inr ⟨u, List.mem_of_getElem? hj, hpu⟩
      have hm' : MapAt w2 r .u64 m := hm.of_heap (hfr.keep r hm.lt fun hf => fp_ne_map hI.hl hm (.inl hf) rfl)
      have mem2 : ∀ u ∈ its2, ∃ x ∈ its, x.k = u.k ∧ x.p = u.p := fun u hu => by
        obtain ⟨j, hj⟩ := List.mem_iff_getElem?.1 (hp2.mem_iff.1 hu)
        rw [List.getElem?_set] at hj
        split at hj
        · rename_i hij; subst hij
          simp [hil] at hj; subst hj
          exact ⟨t, ht, rfl, rfl⟩
        · exact ⟨u, List.mem_of_getElem? hj, rfl, rfl⟩
      refine h w2 O ⟨⟨v, .map (some r), its2, ⟨H2, hh2, ?_, .inr ⟨r, m, rfl, hm', hmn, fun u hu => ?_, fun k' hk' => ?_⟩⟩, ?_, hO1, fun b hb' => ?_, fun r' hr' => by cases hr'; exact hO3⟩, fun b hb' => Nat.lt_of_lt_of_le (hlt b hb') hfr.size, cset_nodup hnd _ _⟩ (hfr.mono fun b _ hb' => hO2 b hb') fun b hb' => .inl hb'
      · rw [((hp2.map (·.k)).nodup_iff), hkeys]; exact hI.nd
      · obtain ⟨x, hx, h1, h2⟩ := mem2 u hu
        have := hm2 x hx
        rw [h1] at this
        rw [this]; unfold It.ptr; rw [h2]
      · refine hm3 k' fun x hx hxk => ?_
        obtain ⟨j, hj⟩ := List.mem_iff_getElem?.1 hx
        by_cases hij : i = j
        · subst hij
          rw [hi] at hj; cases hj
          have : t' ∈ its2 := hp2.mem_iff.2 (List.mem_iff_getElem?.2 ⟨i, by simp [List.getElem?_set, hil]⟩)
          exact hk' t' this hxk
        · have : x ∈ its2 := hp2.mem_iff.2 (List.mem_iff_getElem?.2 ⟨j, by simp [List.getElem?_set, hij, hj]⟩)
          exact hk' x this hxk
      · have h1 : (its2.map It.pr).Perm ((its.map It.pr).set i (t.k, a)) := by
          have := hp2.map It.pr
          rw [List.map_set] at this
          exact this
        refine h1.trans ?_
        have hnd' : (ckeys (its.map It.pr)).Nodup := ((hp.map _).nodup_iff).2 hnd
        have h2 := set_perm hnd' (i := i) (k := t.k) (a := t.a) (b := a) (by simp [hi, It.pr])
        exact h2.trans (cset_perm hp _ _)
      · rcases hb' with hg | ⟨u, hu, hpu⟩
        · exact hO2 b (.inl hg)
        · obtain ⟨x, hx, h1, h2⟩ := mem2 u hu
          exact hO2 b (.inr ⟨x, hx, h2.trans hpu⟩)
    exact hfix
  · have hno : ∀ t ∈ its, t.k ≠ k := fun t ht htk => hex ⟨t, ht, htk⟩
    rw [hm3 k hno]
    have hck : k ∉ ckeys c := fun hk => by
      obtain ⟨q, hq, rfl⟩ := List.mem_map.1 hk
      obtain ⟨t, ht, rfl⟩ := List.mem_map.1 (hp.mem_iff.2 hq)
      exact hno t ht rfl
    have hca : cset c k a = (k, a) :: c := by unfold cset; rw [cdel_none hck]
    simp
    unfold M.ptimers_Heap_Set.j1
    simp
    -- the new item
    generalize hw1 : w.alloc (.cells #[.int .u64 k, .int .u64 a, .int .i64 0] T.timers_item) = w1
    have hblt := heap_lt hI.hl.blk
    have hs1 : w1.heap.size = w.heap.size + 1 := by rw [← hw1, alloc_size]
    have keep1 : ∀ b, b < w.heap.size → w1.heap[b]? = w.heap[b]? := fun b hb' => by rw [← hw1, alloc_heap, if_neg (by omega)]
    have hf1 : Fr (fun _ => False) w w1 := by rw [← hw1]; exact (Fr.refl _ w).alloc _
    have c1' : cellOf w1 hb 1 = some (.map (some r)) := by rw [cellOf_heap (keep1 hb hblt)]; exact c1
    have hm1 : MapAt w1 r .u64 m := hm.of_heap (keep1 r hm.lt)
    have hL1 : HL w1 hb v (.map (some r)) its := hI.hl.keep hf1 (fun h => h) fun _ _ h => h
    simp [c1']
    refine mu_ok mt.map_uint64_p_timers_item hm1 k _ _ fun o hm2' => ?_
    generalize hw2 : World.setObj w1 r o = w2 at hm2'
    have hrlt : r < w1.heap.size := hm1.lt
    have keep2 : ∀ b, b ≠ r → w2.heap[b]? = w1.heap[b]? := fun b hb' => by rw [← hw2, setObj_heap _ _ _ _ hrlt, if_neg (Ne.symm hb')]
    have hf2 : Fr (fun b => b = r) w1 w2 := by rw [← hw2]; exact (Fr.refl (fun b => b = r) w1).setObj (.inl rfl) _
    have hL2 : HL w2 hb v (.map (some r)) its := hL1.keep hf2 (fp_ne_map hL1 hm1 (.inr rfl)) fun b hf => fp_ne_map hL1 hm1 (.inl hf)
    rw [M.heap_Push.fcall]
    have hti : w2.heap[w.heap.size]? = some (.cells #[.int .u64 k, .int .u64 a, .int .i64 0] T.timers_item (0, 0)) := by
      have hr' := hm.lt
      rw [keep2 _ (by omega), ← hw1, alloc_heap, if_pos rfl]
    refine push_ok (t := ⟨w.heap.size, k, a⟩) hL2 (by omega) hI.hh hti (fun u hu hp' => ?_) fun w3 v3 its3 H3 hp3 hh3 hf3 hv3 => ?_
    · have := fpL_lt hI.hl (.inr ⟨u, hu, rfl⟩)
      simp at hp'; omega
    have hs2 : w1.heap.size ≤ w2.heap.size := hf2.size
    have hfr : Fr O w w3 := (((hf1.mono fun _ _ h => h.elim).trans' hf2 fun b _ hb' => by rw [hb']; exact hO3).trans' hf3 fun b hlt' hb' => by
      rcases hb' with hf | rfl | rfl
      · exact hO2 b hf
      · exact hO1
      · simp at hlt')
    have hm3' : MapAt w3 r .u64 (mset m k (.pointer (some ⟨w.heap.size, 0, none⟩))) := hm2'.of_heap (hf3.keep r hm2'.lt fun hf => by
      rcases hf with hf | hf | hf
      · exact fp_ne_map hL1 hm1 (.inl hf) rfl
      · exact fp_ne_map hL1 hm1 (.inr hf) rfl
      · have := hm.lt; simp at hf; omega)
    have hkeys : ((its ++ [(⟨w.heap.size, k, a⟩ : It)]).map (·.k)).Nodup := by
      rw [List.map_append, List.nodup_append]
      refine ⟨hI.nd, by simp, fun x hx y hy => ?_⟩
      simp at hy; rw [hy]
      obtain ⟨t, ht, rfl⟩ := List.mem_map.1 hx
      exact hno t ht
    refine h w3 (fun b => O b ∨ (w.heap.size ≤ b ∧ b < w3.heap.size)) ⟨⟨v3, .map (some r), its3, ⟨H3, hh3, ?_, .inr ⟨r, _, rfl, hm3', ?_, fun u hu => ?_, fun k' hk' => ?_⟩⟩, ?_, .inl hO1, fun b hb' => ?_, fun r' hr' => by cases hr'; exact .inl hO3⟩, fun b hb' => ?_, cset_nodup hnd _ _⟩ hfr fun b hb' => hb'.imp id fun h => h.1
    · rw [((hp3.map (·.k)).nodup_iff)]; exact hkeys
    · rw [mkeys_mset, if_neg ((mget_none_iff _ _).1 (hm3 k hno)), List.nodup_append]
      refine ⟨hmn, by simp, fun x hx y hy => ?_⟩
      simp at hy; rw [hy]
      exact fun he => (mget_none_iff _ _).1 (hm3 k hno) (he ▸ hx)
    · rw [mget_mset]
      rcases List.mem_append.1 (hp3.mem_iff.1 hu) with hu | hu
      · rw [if_neg (Ne.symm (hno u hu))]; exact hm2 u hu
      · rw [List.mem_singleton] at hu; rw [hu]; simp [It.ptr]
    · have h1 : k ≠ k' := hk' ⟨w.heap.size, k, a⟩ (hp3.mem_iff.2 (by simp))
      rw [mget_mset, if_neg h1]
      exact hm3 k' fun t ht => hk' t (hp3.mem_iff.2 (by simp [ht]))
    · rw [hca]
      have h1 := hp3.map It.pr
      rw [List.map_append] at h1
      refine h1.trans (List.perm_append_comm.trans ?_)
      exact hp.cons (k, a)
    · rcases fpL_perm hp3 hb' with hg | ⟨u, hu, hpu⟩
      · rcases hv3 b hg with hg | hge
        · exact .inl (hO2 b (.inl hg))
        · refine .inr ⟨by omega, ?_⟩
          exact fpL_lt H3 hb'
      · rcases List.mem_append.1 hu with hu | hu
        · exact .inl (hO2 b (.inr ⟨u, hu, hpu⟩))
        · rw [List.mem_singleton] at hu; rw [hu] at hpu
          simp at hpu
          exact .inr ⟨by omega, fpL_lt H3 hb'⟩
    · rcases hb' with hb' | hb'
      · exact Nat.lt_of_lt_of_le (hlt b hb') hfr.size
      · exact hb'.2
end Go.Proofs.Ytgcpljghnlohbaa
