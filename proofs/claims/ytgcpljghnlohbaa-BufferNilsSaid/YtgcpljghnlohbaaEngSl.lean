/-
  Slices that read as lists: each element has its cells ('enc'). Laws over any program. No condition.
-/
import Derived.Test.YtgcpljghnlohbaaEngArgs
namespace Go.Eng
section
variable {α : Type} {enc : α → List Value} {sz : Nat} {w w' : World} {v : Value} {l : List α} {S : Nat → Prop}

/-- An element at a place. -/
def rdE (enc : α → List Value) (w : World) (b o : Nat) (x : α) : Prop := ∀ j u, (enc x)[j]? = some u → cellOf w b (o + j) = some u
abbrev Sl (w : World) (sz : Nat) (enc : α → List Value) (v : Value) (l : List α) : Prop := SlOf w sz (rdE enc) v l
/-- A row that is the call's own. -/
def Ow (w : World) (base : Nat) (e : TypeId) (sz : Nat) (enc : α → List Value) (v : Value) (l : List α) : Prop := w.ownsRow base e sz v l.length (l.flatMap enc)

theorem SlOf.mono {rd rd' : World → Nat → Nat → α → Prop} (h : SlOf w sz rd v l) (hr : ∀ b o x, rd w b o x → rd' w b o x) : SlOf w sz rd' v l := by
  obtain ⟨a, cap, hv, h1, h2, h3⟩ := h
  exact ⟨a, cap, hv, h1, h2, fun i x hi => by obtain ⟨b, o, ha, hb, hr'⟩ := h3 i x hi; exact ⟨b, o, ha, hb, hr _ _ _ hr'⟩⟩
theorem rdE_heap {b o : Nat} {x : α} (h : rdE enc w b o x) (hb : w'.heap[b]? = w.heap[b]?) : rdE enc w' b o x := fun j u hj => by rw [cellOf_heap hb]; exact h j u hj
theorem Sl.kept (h : Sl w sz enc v l) (hk : ∀ b, v.ownBlock = some b → w'.heap[b]? = w.heap[b]?) (hs : w.heap.size ≤ w'.heap.size) : Sl w' sz enc v l := by
  obtain ⟨a, cap, rfl, h1, h2, h3⟩ := h
  refine ⟨a, cap, rfl, h1, h2, fun i x hi => ?_⟩
  obtain ⟨b, o, rfl, hb, hr⟩ := h3 i x hi
  exact ⟨b, o, rfl, by omega, rdE_heap hr (hk b rfl)⟩
theorem Sl.lt (h : Sl w sz enc v l) {x : α} (hx : x ∈ l) : ∃ b, v.ownBlock = some b ∧ b < w.heap.size := by
  obtain ⟨a, cap, rfl, h1, h2, h3⟩ := h
  obtain ⟨i, hi, rfl⟩ := List.mem_iff_getElem.1 hx
  obtain ⟨b, o, rfl, hb, hr⟩ := h3 i _ (List.getElem?_eq_getElem hi)
  exact ⟨b, rfl, hb⟩
/-- A frame keeps a list whose block is none of its own. -/
theorem Sl.fr (h : Sl w sz enc v l) (hf : Fr S w w') (hn : ∀ b, v.ownBlock = some b → b < w.heap.size → ¬ S b) : Sl w' sz enc v l := by
  obtain ⟨a, cap, rfl, h1, h2, h3⟩ := h
  refine ⟨a, cap, rfl, h1, h2, fun i x hi => ?_⟩
  obtain ⟨b, o, rfl, hb, hr⟩ := h3 i x hi
  exact ⟨b, o, rfl, Nat.lt_of_lt_of_le hb hf.size, rdE_heap hr (hf.keep b hb (hn b rfl hb))⟩
theorem Sl.at (h : Sl w sz enc v l) {i : Nat} (hi : i < l.length) : ∃ b o cap, v = .slice (some ⟨b, o, none⟩) l.length cap ∧ b < w.heap.size ∧ l.length ≤ cap ∧ ∀ j u, (enc l[i])[j]? = some u → cellOf w b (o + i * sz + j) = some u := by
  obtain ⟨a, cap, rfl, h1, h2, h3⟩ := h
  obtain ⟨b, o, rfl, hb, hr⟩ := h3 i _ (List.getElem?_eq_getElem hi)
  exact ⟨b, o, cap, rfl, hb, h1, hr⟩
theorem Sl.nil : Sl w sz enc (.slice none 0 0) ([] : List α) := ⟨none, 0, rfl, Nat.le_refl _, Nat.zero_le _, fun i x h => by simp at h⟩

theorem flatMap_len (he : ∀ x, (enc x).length = sz) : ∀ l : List α, (l.flatMap enc).length = l.length * sz
  | [] => by simp
  | x :: l => by rw [List.flatMap_cons, List.length_append, he, flatMap_len he l, List.length_cons, Nat.add_mul]; omega
theorem flatMap_at (he : ∀ x, (enc x).length = sz) : ∀ (l : List α) (i : Nat) (x : α) (j : Nat) (u : Value), l[i]? = some x → (enc x)[j]? = some u → (l.flatMap enc)[i * sz + j]? = some u := by
  intro l
  induction l with
  | nil => intro i x j u h; simp at h
  | cons y l ih =>
    intro i x j u hx hu
    rw [List.flatMap_cons]
    cases i with
    | zero =>
      simp at hx; subst hx
      have hj := (List.getElem?_eq_some_iff.1 hu).1
      rw [List.getElem?_append_left (by omega)]
      simpa using hu
    | succ i =>
      simp at hx
      rw [List.getElem?_append_right (by rw [he, Nat.add_mul]; omega), he]
      have : (i + 1) * sz + j - sz = i * sz + j := by rw [Nat.add_mul]; omega
      rw [this]
      exact ih i x j u hx hu
/-- Each cell of a list is one of an element's. -/
theorem flatMap_inv (he : ∀ x, (enc x).length = sz) (hp : 0 < sz) : ∀ (l : List α) (k : Nat) (u : Value), (l.flatMap enc)[k]? = some u → ∃ x, l[k / sz]? = some x ∧ (enc x)[k % sz]? = some u := by
  intro l
  induction l with
  | nil => intro k u h; simp at h
  | cons y l ih =>
    intro k u h
    rw [List.flatMap_cons, List.getElem?_append, he] at h
    split at h
    · rename_i hk
      rw [Nat.div_eq_of_lt hk, Nat.mod_eq_of_lt hk]
      exact ⟨y, rfl, h⟩
    · rename_i hk
      obtain ⟨x, h1, h2⟩ := ih _ _ h
      have hk' : k = k - sz + sz := by omega
      rw [hk', Nat.add_div_right _ hp, Nat.add_mod_right]
      exact ⟨x, by simpa using h1, h2⟩
theorem Sl.cells (he : ∀ x, (enc x).length = sz) (hp : 0 < sz) (h : Sl w sz enc v l) (hne : l ≠ []) : ∃ b o cap, v = .slice (some ⟨b, o, none⟩) l.length cap ∧ b < w.heap.size ∧ ∀ k u, (l.flatMap enc)[k]? = some u → cellOf w b (o + k) = some u := by
  obtain ⟨b, o, cap, hv, hb, _, _⟩ := h.at (i := 0) (by cases l with | nil => exact absurd rfl hne | cons => simp)
  refine ⟨b, o, cap, hv, hb, fun k u hk => ?_⟩
  obtain ⟨x, h1, h2⟩ := flatMap_inv he hp l k u hk
  obtain ⟨a, cap', hv', _, _, h3⟩ := h
  rw [hv] at hv'
  injection hv' with q _ _
  obtain ⟨b', o', ha, hb', hr⟩ := h3 _ x h1
  rw [ha] at q
  injection q with q
  injection q with q1 q2 _
  subst q1 q2
  have := hr _ u h2
  rw [Nat.add_assoc, Nat.mul_comm, Nat.div_add_mod] at this
  exact this
theorem Ow.sl {base : Nat} {e : TypeId} (he : ∀ x, (enc x).length = sz) (h : Ow w base e sz enc v l) : Sl w sz enc v l := by
  cases l with
  | nil =>
    rcases h.2 with ⟨rfl, _⟩ | ⟨g, cap, cur, hv, _, _, h1, h2, _⟩
    · exact Sl.nil
    · exact ⟨some ⟨g, 0, none⟩, cap, hv, h1, h2, fun i x h => by simp at h⟩
  | cons y l =>
    obtain ⟨g, cap, cur, hv, hg, hb, h1, h2, _⟩ := row_form h (by simp)
    refine ⟨some ⟨g, 0, none⟩, cap, hv, h1, h2, fun i x hi => ⟨g, 0, rfl, heap_lt hb, fun j u hu => ?_⟩⟩
    rw [Nat.zero_add]
    exact row_cell h (by rw [hv]; rfl) (flatMap_at he _ _ _ _ _ hi hu)
theorem Ow.keep {base : Nat} {e : TypeId} (h : Ow w base e sz enc v l) (hk : ∀ g, v.ownBlock = some g → w'.heap[g]? = w.heap[g]?) : Ow w' base e sz enc v l := row_keep h hk
theorem Ow.lt {base : Nat} {e : TypeId} (h : Ow w base e sz enc v l) {g : Nat} (hg : v.ownBlock = some g) : base ≤ g ∧ g < w.heap.size := by
  obtain ⟨_, _, _, h1, h2, _⟩ := row_at h hg
  exact ⟨h1, heap_lt h2⟩
theorem Ow.fr {base : Nat} {e : TypeId} (h : Ow w base e sz enc v l) (hf : Fr S w w') (hn : ∀ g, v.ownBlock = some g → ¬ S g) : Ow w' base e sz enc v l := h.keep fun g hg => hf.keep g (h.lt hg).2 (hn g hg)
theorem Ow.none {base : Nat} {e : TypeId} : Ow w base e sz enc (.slice none 0 0) ([] : List α) := ⟨by simp, .inl ⟨rfl, rfl⟩⟩
theorem Ow.mono {base base' : Nat} {e : TypeId} (h : Ow w base e sz enc v l) (hb : base' ≤ base) : Ow w base' e sz enc v l := by
  refine ⟨h.1, ?_⟩
  rcases h.2 with hn | ⟨g, cap, cur, hv, hg, rest⟩
  · exact .inl hn
  · exact .inr ⟨g, cap, cur, hv, by omega, rest⟩
theorem Ow.empty {base : Nat} {e : TypeId} {g : Nat} (hb : w.heap[g]? = some (.cells #[] e (0, 0))) (hg : base ≤ g) : Ow w base e sz enc (.slice (some ⟨g, 0, Option.none⟩) 0 0) ([] : List α) :=
  ⟨by simp, .inr ⟨g, 0, #[], rfl, hg, hb, Nat.le_refl _, Nat.zero_le _, by simp, by simp⟩⟩
theorem Ow.len {base : Nat} {e : TypeId} (h : Ow w base e sz enc v l) : ∃ a cap, v = .slice a l.length cap ∧ l.length ≤ cap := by
  rcases h.2 with ⟨rfl, h0⟩ | ⟨g, cap, cur, hv, _, _, h1, _⟩
  · exact ⟨_, _, by rw [h0], by omega⟩
  · exact ⟨_, _, hv, h1⟩

variable {P : Program}
theorem SlOf.len_ok {rd : World → Nat → Nat → α → Prop} (h : SlOf w' sz rd v l) {t ty : TypeId} (ht : isSlB P t = true) (cs : List Bool) {K : KV} : biT P .len #[t] ty cs [v] w K = K (.int .i64 l.length) w := by
  obtain ⟨a, cap, rfl, _⟩ := h
  rw [len_sl ht]
/-- 'v[i:j]' and its like. -/
theorem sl_gen {t : TypeId} (h : isSlB P t = true) {a : Option Addr} {len cap : Nat} {lo hi : Option Value} {i j : Nat} (hlo : lo = none ∧ i = 0 ∨ ∃ k, lo = some (.int k (i : Int))) (hhi : hi = none ∧ j = len ∨ ∃ k, hi = some (.int k (j : Int))) (h0 : i ≤ j) (h1 : j ≤ cap) (w : World) (K : KV) :
    slT P t (.slice a len cap) lo hi none w K = K (.slice (if cap = i then a else a.map (·.add (i * szE P t))) (j - i) (cap - i)) w := by
  obtain ⟨hu, inf, hi, hs⟩ := isSlB_spec h
  rcases hlo with ⟨rfl, rfl⟩ | ⟨k, rfl⟩ <;> rcases hhi with ⟨rfl, rfl⟩ | ⟨k', rfl⟩ <;>
    simp [slT, semT, Instr.sliceAt, Instr.slice, Instr.sliceBounds, Instr.sliceBound, asIntOf, Sem.run_bind, run_underlying' hu, Result.andThen, Sem.run_pure, run_size' hi, hs, h0, h1] <;>
    first | rfl | (split <;> first | rfl | simp_all)
theorem Sl.sub {lo hi : Option Value} {i j : Nat} (hs : Sl w sz enc v l) {t : TypeId} (h : isSlB P t = true) (hz : szE P t = sz) (hlo : lo = none ∧ i = 0 ∨ ∃ k, lo = some (.int k (i : Int))) (hhi : hi = none ∧ j = l.length ∨ ∃ k, hi = some (.int k (j : Int))) (h0 : i ≤ j) (h1 : j ≤ l.length) :
    ∃ v', Sl w sz enc v' ((l.drop i).take (j - i)) ∧ (∀ b, v'.ownBlock = some b → v.ownBlock = some b) ∧ ∀ w1 K, slT P t v lo hi none w1 K = K v' w1 := by
  obtain ⟨a, cap, rfl, g1, g2, g3⟩ := hs
  refine ⟨_, ?_, ?_, fun w1 K => sl_gen h hlo hhi h0 (by omega) w1 K⟩
  · have hlen : ((l.drop i).take (j - i)).length = j - i := by simp; omega
    refine ⟨_, _, by rw [hlen], by omega, by omega, fun k x hk => ?_⟩
    have hk' : k < j - i := by have := (List.getElem?_eq_some_iff.1 hk).1; omega
    rw [List.getElem?_take_of_lt hk', List.getElem?_drop] at hk
    obtain ⟨b, o, rfl, hb, hr⟩ := g3 (i + k) x hk
    rw [if_neg (by omega)]
    refine ⟨b, o + i * sz, by simp [Addr.add, hz], hb, ?_⟩
    rw [Nat.add_assoc, ← Nat.add_mul]; exact hr
  · intro b hb
    cases a with
    | none => split at hb <;> simp [Value.ownBlock] at hb
    | some a =>
      have : ∀ k, (a.add k).block = a.block := fun k => by unfold Addr.add; split <;> rfl
      split at hb <;> simp_all [Value.ownBlock]

theorem app_zero {t e ty : TypeId} {by' : Nat} (ht : ElemTy P t e sz by') {a a' : Option Addr} {n c c' : Nat} (hn : n ≤ c) (cs : List Bool) (w : World) (K : KV) : biT P .append #[t, t] ty cs [.slice a n c, .slice a' 0 c'] w K = K (.slice a n c) w := by
  obtain ⟨i, z, hi, hz, hs, hb, hzs⟩ := ht.inf
  have hfc : ∀ s, (Builtin.firstCells s 0 (.slice a' 0 c')).run P w = .ok #[] w := by
    intro s
    cases a' with
    | none => rfl
    | some x => simp [Builtin.firstCells, loadCells, loadCellsFrom, Sem.run_pure]
  cases a <;> simp [biT, nextT, builtin, Builtin.append_, Sem.run_bind, run_underlying' ht.ty, Result.andThen, Sem.run_pure, run_size' hi, Builtin.lenOf, hn, hfc, storeCells]

theorem app_sl {t e ty : TypeId} {by' : Nat} (ht : ElemTy P t e sz by') (he : ∀ x, (enc x).length = sz) (h1 : ∀ x, ∀ u ∈ enc x, oneC u = true) {base : Nat} {v2 : Value} {l2 : List α} (ho : Ow w base e sz enc v l) (hs : Sl w sz enc v2 l2)
    (h63 : l.length + l2.length ≤ 1000000000) (hby : by' ≤ 100000) (hbase : base ≤ w.heap.size) (cs : List Bool) {K : KV}
    (h : ∀ v' w', Ow w' base e sz enc v' (l ++ l2) → Fr (fun b => v.ownBlock = some b) w w' → (v'.ownBlock = v.ownBlock ∨ ∃ g, v'.ownBlock = some g ∧ w.heap.size ≤ g) → K v' w') : biT P .append #[t, t] ty cs [v, v2] w K := by
  by_cases hne : l2 = []
  · subst hne
    obtain ⟨a, cap, rfl, hc⟩ := ho.len
    obtain ⟨a2, cap2, rfl, _⟩ := hs
    rw [List.length_nil, app_zero ht hc]
    exact h _ _ (by rw [List.append_nil]; exact ho) (Fr.refl _ _) (.inl rfl)
  · obtain ⟨b, o, cap, rfl, hb, hc⟩ := hs.cells he ht.pos hne
    have hmul : (l.length + l2.length) * by' ≤ 1000000000 * 100000 := Nat.mul_le_mul h63 hby
    refine app_own ht ho (flatMap_len he l2) hc (fun u hu => ?_) (by omega) (by omega) hbase cs K fun v' w' r g _ hg => h v' w' ?_ ⟨g.size, fun b hb hn => g.block b hb fun he => hn he.symm, g.tape, g.os, g.output⟩ hg
    · obtain ⟨x, _, hx⟩ := List.mem_flatMap.1 hu
      exact h1 x u hx
    · unfold Ow; rw [List.length_append, List.flatMap_append]; exact r
theorem app_sl2 {t e ty : TypeId} {by' : Nat} (ht : ElemTy P t e sz by') (he : ∀ x, (enc x).length = sz) (h1 : ∀ x, ∀ u ∈ enc x, oneC u = true) {base : Nat} {v2 v3 : Value} {l2 l3 : List α} (ho : Ow w base e sz enc v l) (s2 : Sl w sz enc v2 l2) (s3 : Sl w sz enc v3 l3)
    (n3 : ∀ b, v3.ownBlock = some b → b < w.heap.size → v.ownBlock ≠ some b) (h63 : l.length + l2.length + l3.length ≤ 1000000000) (hby : by' ≤ 100000) (hbase : base ≤ w.heap.size) (cs cs' : List Bool) {K : KV}
    (h : ∀ v' w', Ow w' base e sz enc v' (l ++ l2 ++ l3) → Fr (fun b => v.ownBlock = some b) w w' → K v' w') : biT P .append #[t, t] ty cs [v, v2] w fun t1 w => biT P .append #[t, t] ty cs' [t1, v3] w K := by
  refine app_sl ht he h1 ho s2 (by omega) hby hbase cs fun v' w' o' f' g' => ?_
  refine app_sl ht he h1 o' (s3.fr f' n3) (by simp; omega) hby (Nat.le_trans hbase f'.size) cs' fun v'' w'' o'' f'' g'' => ?_
  refine h v'' w'' o'' (f'.trans' f'' fun b hb hv => ?_)
  rcases g' with g' | ⟨g, e1, e2⟩
  · rw [← g']; exact hv
  · rw [hv] at e1; cases e1; omega
theorem app_sl3 {t e ty : TypeId} {by' : Nat} (ht : ElemTy P t e sz by') (he : ∀ x, (enc x).length = sz) (h1 : ∀ x, ∀ u ∈ enc x, oneC u = true) {base : Nat} {v2 v3 v4 : Value} {l2 l3 l4 : List α} (ho : Ow w base e sz enc v l) (s2 : Sl w sz enc v2 l2) (s3 : Sl w sz enc v3 l3) (s4 : Sl w sz enc v4 l4)
    (n3 : ∀ b, v3.ownBlock = some b → b < w.heap.size → v.ownBlock ≠ some b) (n4 : ∀ b, v4.ownBlock = some b → b < w.heap.size → v.ownBlock ≠ some b) (h63 : l.length + l2.length + l3.length + l4.length ≤ 1000000000) (hby : by' ≤ 100000) (hbase : base ≤ w.heap.size) (cs cs' cs'' : List Bool) {K : KV}
    (hlt : ∀ b, v4.ownBlock = some b → b < w.heap.size)
    (h : ∀ v' w', Ow w' base e sz enc v' (l ++ l2 ++ l3 ++ l4) → Fr (fun b => v.ownBlock = some b) w w' → K v' w') : biT P .append #[t, t] ty cs [v, v2] w fun t1 w => biT P .append #[t, t] ty cs' [t1, v3] w fun t2 w => biT P .append #[t, t] ty cs'' [t2, v4] w K := by
  refine app_sl ht he h1 ho s2 (by omega) hby hbase cs fun v' w' o' f' g' => ?_
  refine app_sl2 ht he h1 o' (s3.fr f' n3) (s4.fr f' n4) (fun b hb _ hv => ?_) (by simp; omega) hby (Nat.le_trans hbase f'.size) cs' cs'' fun v'' w'' o'' f'' => ?_
  · rcases g' with g' | ⟨g, e1, e2⟩
    · exact n4 b hb (hlt b hb) (by rw [← g']; exact hv)
    · rw [hv] at e1; cases e1; have := hlt _ hb; omega
  · refine h v'' w'' o'' (f'.trans' f'' fun b hb hv => ?_)
    rcases g' with g' | ⟨g, e1, e2⟩
    · rw [← g']; exact hv
    · rw [hv] at e1; cases e1; omega
/-- A list of one, as it is built for an append. -/
theorem Sl.one {e : TypeId} {x : α} {cells : Array Value} (hw : w' = w.alloc (.cells cells e)) (hc : cells.toList = enc x) : Sl w' sz enc (.slice (some ⟨w.heap.size, 0, none⟩) 1 1) [x] := by
  subst hw
  refine ⟨some ⟨w.heap.size, 0, none⟩, 1, rfl, Nat.le_refl _, by decide, fun i y hi => ?_⟩
  have hi0 : i = 0 := by have := (List.getElem?_eq_some_iff.1 hi).1; simpa using this
  subst hi0
  simp at hi; subst hi
  refine ⟨_, 0, rfl, by simp, fun j u hu => ?_⟩
  rw [cellOf_new rfl]
  rw [← hc] at hu
  simpa using hu

/-! ### Comparisons of bools and strings -/
def isBoB (P : Program) (t : TypeId) : Bool := match P.underlying t with
  | some .bool => true
  | _ => false
theorem isBoB_spec {t : TypeId} (h : isBoB P t = true) : P.underlying t = some .bool := by
  unfold isBoB at h
  split at h
  · assumption
  · cases h
theorem run_equalB {t : TypeId} (h : isBoB P t = true) (x y : Bool) (w : World) : (Op.equal t (.bool x) (.bool y)).run P w = .ok (x == y) w := by
  have hu := isBoB_spec h
  unfold Op.equal Op.maxDepth Op.equalIn
  simp [Sem.run_bind, run_underlying' hu, Result.andThen, Sem.run_pure]
theorem bin_eqlB {t : TypeId} (h : isBoB P t = true) {rx ry : Operand} {x y : Bool} {K : KV} : binT P .eql t rx ry (.bool x) (.bool y) w K = K (.bool (x == y)) w := by
  simp [binT, semT, eqGuard, binOp, Sem.run_bind, Result.andThen, Sem.run_pure, run_equalB h]
theorem bin_neqB {t : TypeId} (h : isBoB P t = true) {rx ry : Operand} {x y : Bool} {K : KV} : binT P .neq t rx ry (.bool x) (.bool y) w K = K (.bool !(x == y)) w := by
  simp [binT, semT, eqGuard, binOp, Sem.run_bind, Result.andThen, Sem.run_pure, run_equalB h]
theorem bin_eqlS {t : TypeId} {rx ry : Operand} {x y : ByteArray} {K : KV} : binT P .eql t rx ry (.string x) (.string y) w K = K (.bool (x.toList == y.toList)) w := by
  simp [binT, semT, eqGuard, binOp, Op.stringOp, Sem.run_bind, Result.andThen, Sem.run_pure]
theorem bin_neqS {t : TypeId} {rx ry : Operand} {x y : ByteArray} {K : KV} : binT P .neq t rx ry (.string x) (.string y) w K = K (.bool !(x.toList == y.toList)) w := by
  simp [binT, semT, eqGuard, binOp, Op.stringOp, Sem.run_bind, Result.andThen, Sem.run_pure]

/-! ### A block that is written whole, or read in one -/
theorem setRow_at {b : Nat} {e : TypeId} {f : Nat × Nat} : ∀ (vs : List Value) (w : World) (i : Nat) (c : Array Value), w.heap[b]? = some (.cells c e f) → i + vs.length ≤ c.size →
    ∃ c', (setRow w b i vs).heap[b]? = some (.cells c' e f) ∧ c'.toList = c.toList.take i ++ vs ++ c.toList.drop (i + vs.length) ∧ Fr (fun g => g = b) w (setRow w b i vs) := by
  intro vs
  induction vs with
  | nil => intro w i c h _; exact ⟨c, h, by simp, Fr.refl _ _⟩
  | cons v vs ih =>
    intro w i c h hl
    simp only [List.length_cons] at hl
    have h' : (w.setCell ⟨b, i, none⟩ v).heap[b]? = some (.cells (c.setIfInBounds i v) e f) := by rw [setCell_heap, if_pos rfl, h]; rfl
    obtain ⟨c', g1, g2, g3⟩ := ih (w.setCell ⟨b, i, none⟩ v) (i + 1) _ h' (by simp; omega)
    refine ⟨c', g1, ?_, ((Fr.refl (fun g => g = b) w).setCell (.inl rfl) i v).trans g3⟩
    rw [g2, Array.toList_setIfInBounds]
    apply List.ext_getElem?
    intro k
    simp only [List.getElem?_append, List.getElem?_take, List.getElem?_drop, List.length_append, List.length_take, List.length_set, List.length_cons, Array.length_toList, List.getElem?_set]
    rw [Nat.min_eq_left (by omega), Nat.min_eq_left (by omega)]
    by_cases h1 : k < i
    · rw [if_pos (by omega), if_pos (by omega), if_pos (by omega), if_neg (by omega), if_pos (by omega), if_pos h1, if_pos h1]
    · by_cases h2 : k = i
      · subst h2
        rw [if_pos (by omega), if_pos (by omega), if_pos (by omega), if_pos rfl, if_pos (by omega), if_pos (by omega), if_neg (by omega)]
        simp
      · by_cases h3 : k < i + 1 + vs.length
        · rw [if_pos (by omega), if_neg (by omega), if_pos (by omega), if_neg (by omega)]
          have : k - i = k - (i + 1) + 1 := by omega
          rw [this, List.getElem?_cons_succ]
        · rw [if_neg (by omega), if_neg (by omega), if_neg (by omega)]
          congr 1; omega
theorem stN_all {b : Nat} {c : Array Value} {e : TypeId} {vs : List Value} (hb : w.heap[b]? = some (.cells c e (0, 0))) (hl : vs.length = c.size) (h1 : ∀ u ∈ vs, oneC u = true) {K : KV}
    (h : ∀ w', w'.heap[b]? = some (.cells vs.toArray e (0, 0)) → Fr (fun g => g = b) w w' → K undef w') : stN P b 0 vs w K := by
  rw [stN_eq vs fun k u hk => by
    have hk' := (List.getElem?_eq_some_iff.1 hk).1
    rw [Nat.zero_add]
    exact ⟨by rw [cellOf_of hb, Array.getElem?_eq_getElem (by omega)]; rfl, frzOf_of hb k, h1 _ (List.mem_of_getElem? hk)⟩]
  obtain ⟨c', g1, g2, g3⟩ := setRow_at vs w 0 c hb (by omega)
  refine h _ ?_ g3
  rw [g1]
  have : c' = vs.toArray := by
    apply Array.toList_inj.1
    rw [g2]; simp [hl]
  rw [this]
theorem ldN2 {b i : Nat} {u0 u1 : Value} (h0 : cellOf w b i = some u0) (h1 : cellOf w b (i + 1) = some u1) (K : KV) : ldN P 2 b i w K = K (.agg #[u0, u1]) w :=
  ldN_eq [u0, u1] 2 rfl (fun k v hk => by
    match k with
    | 0 => simp at hk; subst hk; exact h0
    | 1 => simp at hk; subst hk; exact h1
    | k + 2 => simp at hk) K
theorem ldN3 {b i : Nat} {u0 u1 u2 : Value} (h0 : cellOf w b i = some u0) (h1 : cellOf w b (i + 1) = some u1) (h2 : cellOf w b (i + 2) = some u2) (K : KV) : ldN P 3 b i w K = K (.agg #[u0, u1, u2]) w :=
  ldN_eq [u0, u1, u2] 3 rfl (fun k v hk => by
    match k with
    | 0 => simp at hk; subst hk; exact h0
    | 1 => simp at hk; subst hk; exact h1
    | 2 => simp at hk; subst hk; exact h2
    | k + 3 => simp at hk) K
end
end Go.Eng
