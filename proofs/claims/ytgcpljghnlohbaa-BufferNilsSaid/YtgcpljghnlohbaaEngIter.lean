/-
  A range over a map whose keys are whole numbers, a range over a string. Laws over any program. No condition.
-/
import Derived.Test.YtgcpljghnlohbaaEngSl
import Derived.Maps.RangeRun
namespace Go.Eng
open Go.ChangeMaps (setBlock)

theorem Ents.mem {k : IntKind} {es : List MapEntry} {m : MP} (h : Ents k es m) : ∀ e ∈ es, ∃ x, e.key = .int k x ∧ (x, e.val) ∈ m := by
  induction h with
  | nil => intro e he; cases he
  | cons _ ih =>
    intro e he
    rcases List.mem_cons.1 he with rfl | he
    · exact ⟨_, rfl, List.mem_cons_self ..⟩
    · obtain ⟨x, h1, h2⟩ := ih e he
      exact ⟨x, h1, List.mem_cons_of_mem _ h2⟩
theorem Ents.mem' {k : IntKind} {es : List MapEntry} {m : MP} (h : Ents k es m) : ∀ p ∈ m, ∃ e ∈ es, e.key = .int k p.1 ∧ e.val = p.2 := by
  induction h with
  | nil => intro e he; cases he
  | cons _ ih =>
    intro p hp
    rcases List.mem_cons.1 hp with rfl | hp
    · exact ⟨_, List.mem_cons_self .., rfl, rfl⟩
    · obtain ⟨e, h1, h2⟩ := ih p hp
      exact ⟨e, List.mem_cons_of_mem _ h1, h2⟩
/-- Where no key comes twice, an entry is known by its key. -/
theorem Ents.inj {k : IntKind} {es : List MapEntry} {m : MP} (h : Ents k es m) (hn : (mkeys m).Nodup) : ∀ e ∈ es, ∀ e' ∈ es, e.key = e'.key → e = e' := by
  induction h with
  | nil => intro e he; cases he
  | @cons x v b es m h ih =>
    simp only [mkeys, List.map_cons, List.nodup_cons] at hn
    have hno : ∀ e ∈ es, e.key ≠ .int k x := fun e he hk => by
      obtain ⟨y, h1, h2⟩ := h.mem e he
      rw [hk] at h1
      injection h1 with _ h1
      exact hn.1 (by rw [h1]; exact List.mem_map_of_mem h2)
    intro e he e' he' hk
    rcases List.mem_cons.1 he with rfl | he <;> rcases List.mem_cons.1 he' with rfl | he'
    · rfl
    · exact absurd hk.symm (hno e' he')
    · exact absurd hk (hno e he)
    · exact ih hn.2 e he e' he' hk

theorem nodup_map_inj {α β : Type} {f : α → β} : ∀ {l : List α}, (l.map f).Nodup → ∀ {a b : α}, a ∈ l → b ∈ l → f a = f b → a = b
  | [], _, _, _, h, _, _ => by cases h
  | c :: l, hn, a, b, ha, hb, he => by
    rw [List.map_cons, List.nodup_cons] at hn
    rcases List.mem_cons.1 ha with ha1 | ha1 <;> rcases List.mem_cons.1 hb with hb1 | hb1
    · rw [ha1, hb1]
    · exact absurd (by rw [← ha1, he]; exact List.mem_map_of_mem hb1) hn.1
    · exact absurd (by rw [← hb1, ← he]; exact List.mem_map_of_mem ha1) hn.1
    · exact nodup_map_inj hn.2 ha1 hb1 he
/-- An iterator over the map at r, in which the keys 'done' have come. -/
def ItAt (w : World) (it r : Nat) (k : IntKind) (m : MP) (done : List Int) : Prop := ∃ (es : Array MapEntry) (clk since c0 : Nat) (seen : Array Nat), w.heap[it]? = some (.mapIter (some r) since seen c0) ∧ w.heap[r]? = some (.map es clk) ∧ Ents k es.toList m ∧ Born es.toList clk ∧
  (∀ e ∈ es.toList, e.born < since) ∧ since ≤ c0 ∧ since ≤ clk ∧ (∀ e ∈ es.toList, ∀ x, e.key = .int k x → (seen.contains e.born = true ↔ x ∈ done)) ∧ seen.size = done.length ∧ done.Nodup ∧ ∀ x ∈ done, x ∈ mkeys m
/-- How many are left to come, at most. -/
def itLeft (w : World) (it n : Nat) : Nat := match w.heap[it]? with
  | some (.mapIter _ _ seen _) => n - seen.size
  | _ => 0
theorem len_le_of_sub {α : Type} [DecidableEq α] : ∀ {l l' : List α}, l.Nodup → (∀ x ∈ l, x ∈ l') → l.length ≤ l'.length
  | [], _, _, _ => Nat.zero_le _
  | a :: l, l', hn, hs => by
    rw [List.nodup_cons] at hn
    have ha := hs a (List.mem_cons_self ..)
    have := len_le_of_sub (l := l) (l' := l'.erase a) hn.2 fun x hx => by
      rw [List.mem_erase_of_ne (fun h => hn.1 (by rw [← h]; exact hx))]
      exact hs x (List.mem_cons_of_mem _ hx)
    rw [List.length_erase_of_mem ha] at this
    have := List.length_pos_of_mem ha
    simp only [List.length_cons]; omega
/-- .. and (x, v) came last. -/
def CurAt (w : World) (it r : Nat) (k : IntKind) (m : MP) (done : List Int) (x : Int) (v : Value) : Prop := ItAt w it r k m (x :: done) ∧ ∃ (es : Array MapEntry) (clk since : Nat) (seen : Array Nat) (e : MapEntry), w.heap[it]? = some (.mapIter (some r) since (seen.push e.born) clk) ∧
  w.heap[r]? = some (.map es clk) ∧ e ∈ es.toList ∧ (es.toList.map (·.born)).Nodup ∧ e.key = .int k x ∧ e.val = v

section
variable {P : Program} {w w' : World} {it r : Nat} {k : IntKind} {m : MP} {done : List Int}
theorem ItAt.keep (h : ItAt w it r k m done) (h1 : w'.heap[it]? = w.heap[it]?) (h2 : w'.heap[r]? = w.heap[r]?) : ItAt w' it r k m done := by
  obtain ⟨es, clk, since, c0, seen, g1, g2, rest⟩ := h
  exact ⟨es, clk, since, c0, seen, h1.trans g1, h2.trans g2, rest⟩
theorem ItAt.lt (h : ItAt w it r k m done) : it < w.heap.size ∧ r < w.heap.size := by
  obtain ⟨es, clk, since, c0, seen, g1, g2, rest⟩ := h
  exact ⟨heap_lt g1, heap_lt g2⟩
theorem ItAt.map (h : ItAt w it r k m done) : MapAt w r k m := by
  obtain ⟨es, clk, since, c0, seen, g1, g2, g3, g4, _⟩ := h
  exact ⟨es, clk, g2, g3, g4⟩
theorem rg_map {t elem : Nat} {zero : Value} (ht : MapTy P t k elem zero) (hm : MapAt w r k m) {K : KV} (h : ∀ w', ItAt w' w.heap.size r k m [] → Fr (fun _ => False) w w' → K (.pointer (some ⟨w.heap.size, 0, none⟩)) w') : rgT P t (.map (some r)) w K := by
  obtain ⟨⟨key, h1, h2⟩, i, h3, h4⟩ := ht
  obtain ⟨es, clk, hr, he, hbn⟩ := hm
  have hlt := heap_lt hr
  have := h (w.alloc (.mapIter (some r) clk #[] clk)) ⟨es, clk, clk, clk, #[], by rw [alloc_heap, if_pos rfl], by rw [alloc_heap, if_neg (by omega)]; exact hr, he, hbn, hbn.2, Nat.le_refl _, Nat.le_refl _, fun e _ x _ => by simp, rfl, List.nodup_nil, fun x hx => by cases hx⟩ ((Fr.refl _ w).alloc _)
  simpa [rgT, semT, Instr.range, Sem.run_bind, run_underlying' h1, Result.andThen, run_getObj hr, Sem.run_pure, newObj, Sem.run] using this
theorem nx_map (H : ItAt w it r k m done) (hn : (mkeys m).Nodup) (ty : TypeId) {K : KV} (h0 : (∀ p ∈ m, p.1 ∈ done) → K (.tuple #[.bool false]) w)
    (h1 : ∀ x v w', (x, v) ∈ m → x ∉ done → CurAt w' it r k m done x v → Fr (fun b => b = it) w w' → itLeft w' it m.length < itLeft w it m.length → K (.tuple #[.bool true, .int k x, v]) w') : nxT P (.pointer (some ⟨it, 0, none⟩)) false ty w K := by
  obtain ⟨es, clk, since, c0, seen, g1, g2, he, hbn, hold, hsc, hsk, hdn, hsz, hdnd, hdsub⟩ := H
  have hne : it ≠ r := fun h => by rw [h, g2] at g1; cases g1
  unfold nxT semT
  rcases run_next_at (P := P) w ty it r since c0 seen es clk g1 g2 hold hsc with ⟨hz, hrun⟩ | ⟨e, hel, w1, hw1, hrun⟩
  · rw [hrun]
    refine h0 fun p hp => ?_
    obtain ⟨e, hee, hk, hv⟩ := he.mem' p hp
    refine (hdn e hee p.1 hk).1 ?_
    have hl : leftOf es seen = #[] := Array.eq_empty_of_size_eq_zero hz
    unfold leftOf at hl
    rw [Array.filter_eq_empty_iff] at hl
    have := hl e (by simpa using hee)
    simpa using this
  · rw [hrun]
    unfold leftOf at hel
    simp only [Array.toList_filter, List.mem_filter] at hel
    obtain ⟨hee, hns⟩ := hel
    obtain ⟨x, hk, hxm⟩ := he.mem e hee
    have hxd : x ∉ done := fun h => by
      have := (hdn e hee x hk).2 h
      rw [this] at hns; cases hns
    have hi := heap_lt g1
    have hw1h : w1.heap = w.heap := by rcases hw1 with rfl | rfl <;> rfl
    have hb1 : (setBlock w1 it (.mapIter (some r) since (seen.push e.born) clk)).heap[it]? = some (.mapIter (some r) since (seen.push e.born) clk) := by
      show (w1.heap.setIfInBounds it _)[it]? = _
      rw [Array.getElem?_setIfInBounds_self_of_lt (by rw [hw1h]; exact hi)]
    have hb2 : ∀ b, b ≠ it → (setBlock w1 it (.mapIter (some r) since (seen.push e.born) clk)).heap[b]? = w.heap[b]? := fun b hb => by
      show (w1.heap.setIfInBounds it _)[b]? = _
      rw [Array.getElem?_setIfInBounds_ne (Ne.symm hb), hw1h]
    have hm2 : (setBlock w1 it (.mapIter (some r) since (seen.push e.born) clk)).heap[r]? = some (.map es clk) := by rw [hb2 r (Ne.symm hne)]; exact g2
    have key : K (.tuple #[.bool true, .int k x, e.val]) (setBlock w1 it (.mapIter (some r) since (seen.push e.born) clk)) := by
      refine h1 x e.val _ hxm hxd ⟨⟨es, clk, since, clk, seen.push e.born, hb1, hm2, he, hbn, hold, hsk, hsk, fun e' he' y hy => ?_, by rw [Array.size_push, hsz]; rfl, List.nodup_cons.2 ⟨hxd, hdnd⟩, fun y hy => ?_⟩, es, clk, since, seen, e, hb1, hm2, hee, hbn.1, hk, rfl⟩ ⟨?_, fun b _ hb => hb2 b hb, ?_, ?_, ?_⟩ ?_
      · rw [List.mem_cons, ← hdn e' he' y hy]
        simp only [Array.contains_push, Bool.or_eq_true, beq_iff_eq]
        constructor
        · rintro (h | h)
          · exact .inr h
          · left
            have hee' : e' = e := nodup_map_inj hbn.1 he' hee (by simpa using h)
            rw [hee', hk] at hy
            injection hy with _ hy
            exact hy.symm
        · rintro (h | h)
          · right
            subst h
            rw [he.inj hn e' he' e hee (by rw [hy, hk])]
          · exact .inl h
      · rcases List.mem_cons.1 hy with rfl | hy
        · exact List.mem_map_of_mem hxm
        · exact hdsub y hy
      · show _ ≤ (w1.heap.setIfInBounds it _).size
        simp [hw1h]
      · rcases hw1 with rfl | rfl <;> rfl
      · rcases hw1 with rfl | rfl <;> rfl
      · rcases hw1 with rfl | rfl <;> rfl
      · have hlen := len_le_of_sub (l := x :: done) (l' := mkeys m) (List.nodup_cons.2 ⟨hxd, hdnd⟩) fun y hy => by
          rcases List.mem_cons.1 hy with rfl | hy
          · exact List.mem_map_of_mem hxm
          · exact hdsub y hy
        simp only [mkeys, List.length_map, List.length_cons] at hlen
        simp only [itLeft, hb1, g1, Array.size_push, hsz]
        omega
    rw [hk]
    exact key
theorem en_map {x : Int} {v : Value} (H : CurAt w it r k m done x v) {K : KV} : enT P (.pointer (some ⟨it, 0, none⟩)) w K = K (.tuple #[.int k x, v]) w := by
  obtain ⟨_, es, clk, since, seen, e, g1, g2, g3, g4, g5, g6⟩ := H
  unfold enT semT
  rw [run_entry_at (P := P) w it r since seen es clk e g1 g2 g3 g4, g5, g6]

/-! ### A range over a string -/
theorem rg_str {t : TypeId} (ht : P.underlying t = some .string) (s : ByteArray) (K : KV) : rgT P t (.string s) w K = K (.pointer (some ⟨w.heap.size, 0, none⟩)) (w.alloc (.stringIter s 0)) := by
  simp [rgT, semT, Instr.range, Sem.run_bind, run_underlying' ht, Result.andThen, Sem.run_pure, newObj, Sem.run]
theorem nx_str {s : ByteArray} {pos : Nat} (h : w.heap[it]? = some (.stringIter s pos)) (ty : TypeId) {K : KV} (h0 : ¬ pos < s.size → K (.tuple #[.bool false]) w)
    (h1 : pos < s.size → ∀ w', w'.heap[it]? = some (.stringIter s (pos + (Utf8.decode s pos).2)) → Fr (fun b => b = it) w w' → K (.tuple #[.bool true, .int .i64 pos, .int .i32 (Utf8.decode s pos).1]) w') : nxT P (.pointer (some ⟨it, 0, none⟩)) true ty w K := by
  have hi := heap_lt h
  by_cases hp : pos < s.size
  · have hr : (Instr.next (.pointer (some ⟨it, 0, none⟩)) true ty).run P w = .ok (.tuple #[.bool true, .int .i64 pos, .int .i32 (Utf8.decode s pos).1]) { w with heap := w.heap.setIfInBounds it (.stringIter s (pos + (Utf8.decode s pos).2)) } := by
      simp [Instr.next, getObj, setObj, Sem.run_bind, Sem.run, h, Result.andThen, hp, goInt]
    unfold nxT semT
    rw [hr]
    refine h1 hp _ ?_ ⟨by simp, fun b hb hn => ?_, rfl, rfl, rfl⟩
    · show (w.heap.setIfInBounds it _)[it]? = _
      rw [Array.getElem?_setIfInBounds_self_of_lt hi]
    · show (w.heap.setIfInBounds it _)[b]? = _
      rw [Array.getElem?_setIfInBounds_ne (fun h => hn h.symm)]
  · have hr : (Instr.next (.pointer (some ⟨it, 0, none⟩)) true ty).run P w = .ok (.tuple #[.bool false]) w := by
      simp [Instr.next, getObj, Sem.run, h, hp, Sem.run_bind, Result.andThen]
    unfold nxT semT
    rw [hr]
    exact h0 hp
end
end Go.Eng
