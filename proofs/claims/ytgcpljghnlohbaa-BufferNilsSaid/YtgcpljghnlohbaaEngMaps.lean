/-
  Maps whose keys are whole numbers, told as lists of pairs. Laws over any program. No condition.
-/
import Derived.Test.YtgcpljghnlohbaaEngLaws
namespace Go.Eng

abbrev MP := List (Int × Value)
def mget : MP → Int → Option Value
  | [], _ => none
  | (y, u) :: m, x => if y = x then some u else mget m x
def mset : MP → Int → Value → MP
  | [], x, v => [(x, v)]
  | (y, u) :: m, x, v => if y = x then (x, v) :: m else (y, u) :: mset m x v
def mdel : MP → Int → MP
  | [], _ => []
  | (y, u) :: m, x => if y = x then m else (y, u) :: mdel m x
def midx : MP → Int → Option Nat
  | [], _ => none
  | (y, _) :: m, x => if y = x then some 0 else (midx m x).map (· + 1)

/-- Entries that are these pairs. -/
inductive Ents (k : IntKind) : List MapEntry → MP → Prop
  | nil : Ents k [] []
  | cons {x : Int} {v : Value} {b : Nat} {es : List MapEntry} {m : MP} (h : Ents k es m) : Ents k (⟨.int k x, v, b⟩ :: es) ((x, v) :: m)

/-- Each entry came at a time of its own. -/
def Born (es : List MapEntry) (clk : Nat) : Prop := (es.map (·.born)).Nodup ∧ ∀ e ∈ es, e.born < clk
theorem Born.push {es : List MapEntry} {clk : Nat} (h : Born es clk) (k v : Value) : Born (es ++ [⟨k, v, clk⟩]) (clk + 1) := by
  refine ⟨?_, fun e he => ?_⟩
  · rw [List.map_append, List.nodup_append]
    refine ⟨h.1, by simp, fun a ha b hb => ?_⟩
    simp at hb; subst hb
    obtain ⟨e, he, rfl⟩ := List.mem_map.1 ha
    have := h.2 e he; omega
  · rcases List.mem_append.1 he with he | he
    · have := h.2 e he; omega
    · simp at he; subst he; exact Nat.lt_succ_self _
theorem Born.modify {es : List MapEntry} {clk : Nat} (h : Born es clk) (k v : Value) (j : Nat) : Born (es.modify j fun e => { e with key := k, val := v }) clk := by
  have hm : (es.modify j fun e => { e with key := k, val := v }).map (·.born) = es.map (·.born) := by
    apply List.ext_getElem?
    intro i
    simp only [List.getElem?_map, List.getElem?_modify]
    cases es[i]? with
    | none => rfl
    | some e => simp only [Option.map_some]; split <;> rfl
  refine ⟨by rw [hm]; exact h.1, fun e he => ?_⟩
  have : e.born ∈ es.map (·.born) := by rw [← hm]; exact List.mem_map_of_mem he
  obtain ⟨e', he', hb⟩ := List.mem_map.1 this
  rw [← hb]; exact h.2 e' he'
theorem Born.sub {es es' : List MapEntry} {clk : Nat} (h : Born es clk) (hs : es'.Sublist es) : Born es' clk := ⟨(hs.map _).nodup h.1, fun e he => h.2 e (hs.subset he)⟩
def MapAt (w : World) (r : Nat) (k : IntKind) (m : MP) : Prop := ∃ es clk, w.heap[r]? = some (.map es clk) ∧ Ents k es.toList m ∧ Born es.toList clk

theorem Ents.length {k : IntKind} {es : List MapEntry} {m : MP} (h : Ents k es m) : es.length = m.length := by
  induction h with
  | nil => rfl
  | cons _ ih => simp [ih]

theorem findNow_ents {k kk : IntKind} {es : List MapEntry} {m : MP} (h : Ents k es m) (x : Int) : ∀ i, Instr.findNow (.int kk) (.int k x) es i = some ((midx m x).bind fun j => (mget m x).map fun v => (i + j, v)) := by
  induction h with
  | nil => intro i; rfl
  | @cons y v b es m h ih =>
    intro i
    simp only [Instr.findNow, Instr.sameNow, if_true, midx, mget]
    by_cases hxy : y = x
    · subst hxy; simp
    · have : (x == y) = false := by simp; exact fun h => hxy h.symm
      simp only [this, if_neg hxy, ih (i + 1)]
      cases hm : midx m x with
      | none => simp
      | some j =>
        cases hg : mget m x with
        | none => simp
        | some u => simp; omega

theorem midx_mget (m : MP) (x : Int) : (midx m x).isSome = (mget m x).isSome := by
  induction m with
  | nil => rfl
  | cons p m ih =>
    obtain ⟨y, u⟩ := p
    simp only [midx, mget]
    split <;> simp_all

theorem findNow_some {k kk : IntKind} {es : List MapEntry} {m : MP} (h : Ents k es m) (x : Int) {v : Value} (hg : mget m x = some v) : ∃ j, midx m x = some j ∧ Instr.findNow (.int kk) (.int k x) es 0 = some (some (j, v)) := by
  have hi := midx_mget m x
  rw [hg] at hi
  cases hj : midx m x with
  | none => rw [hj] at hi; cases hi
  | some j => exact ⟨j, rfl, by rw [findNow_ents h, hj, hg]; simp⟩
theorem findNow_none {k kk : IntKind} {es : List MapEntry} {m : MP} (h : Ents k es m) (x : Int) (hg : mget m x = none) : Instr.findNow (.int kk) (.int k x) es 0 = some none := by
  have hi := midx_mget m x
  rw [hg] at hi
  cases hj : midx m x with
  | some j => rw [hj] at hi; cases hi
  | none => rw [findNow_ents h, hj]; rfl

theorem Ents.modify {k : IntKind} {es : List MapEntry} {m : MP} (h : Ents k es m) (x : Int) (v : Value) : ∀ {j : Nat}, midx m x = some j → Ents k (es.modify j fun e => { e with key := .int k x, val := v }) (mset m x v) := by
  induction h with
  | nil => intro j hj; simp [midx] at hj
  | @cons y u b es m h ih =>
    intro j hj
    simp only [midx, mset] at hj ⊢
    by_cases hxy : y = x
    · rw [if_pos hxy] at hj ⊢
      cases hj
      exact .cons h
    · rw [if_neg hxy] at hj ⊢
      cases hm : midx m x with
      | none => simp [hm] at hj
      | some i =>
        simp only [hm, Option.map_some, Option.some.injEq] at hj
        subst hj
        simpa using Ents.cons (ih hm)
theorem Ents.push {k : IntKind} {es : List MapEntry} {m : MP} (h : Ents k es m) (x : Int) (v : Value) (b : Nat) (hg : mget m x = none) : Ents k (es ++ [⟨.int k x, v, b⟩]) (mset m x v) := by
  induction h with
  | nil => exact .cons .nil
  | @cons y u b es m h ih =>
    simp only [mget] at hg
    by_cases hxy : y = x
    · simp [hxy] at hg
    · rw [if_neg hxy] at hg
      simp only [mset, if_neg hxy]
      exact .cons (ih hg)
theorem Ents.erase {k : IntKind} {es : List MapEntry} {m : MP} (h : Ents k es m) (x : Int) : ∀ {j : Nat}, midx m x = some j → Ents k (es.eraseIdx j) (mdel m x) := by
  induction h with
  | nil => intro j hj; simp [midx] at hj
  | @cons y u b es m h ih =>
    intro j hj
    simp only [midx, mdel] at hj ⊢
    by_cases hxy : y = x
    · rw [if_pos hxy] at hj ⊢
      cases hj
      exact h
    · rw [if_neg hxy] at hj ⊢
      cases hm : midx m x with
      | none => simp [hm] at hj
      | some i =>
        simp only [hm, Option.map_some, Option.some.injEq] at hj
        subst hj
        simpa using Ents.cons (ih hm)
theorem midx_lt {m : MP} {x : Int} {j : Nat} (h : midx m x = some j) : j < m.length := by
  induction m generalizing j with
  | nil => simp [midx] at h
  | cons p m ih =>
    obtain ⟨y, u⟩ := p
    simp only [midx] at h
    split at h
    · cases h; simp
    · cases hm : midx m x with
      | none => simp [hm] at h
      | some i => simp [hm] at h; subst h; simpa using ih hm

section
variable {P : Program}
/-- The type is a map type with whole numbers as keys and such elements. -/
structure MapTy (P : Program) (t : TypeId) (k : IntKind) (elem : TypeId) (zero : Value) : Prop where
  ty : ∃ key, P.underlying t = some (.map key elem) ∧ P.underlying key = some (.int k)
  ze : ∃ i, P.info? elem = some i ∧ i.zero = some zero

theorem MapTy.mk' {P : Program} {t : TypeId} {k : IntKind} {elem key : TypeId} {zero : Value} (h1 : P.underlying t = some (.map key elem)) (h2 : P.underlying key = some (.int k)) (h3 : (P.info? elem).bind (·.zero) = some zero) : MapTy P t k elem zero := by
  refine ⟨⟨key, h1, h2⟩, ?_⟩
  cases hi : P.info? elem with
  | none => simp [hi] at h3
  | some i => exact ⟨i, rfl, by simpa [hi] using h3⟩
theorem run_underlying' {t : TypeId} {d : TypeDesc} (h : P.underlying t = some d) (w : World) : (underlying t).run P w = .ok d w := by
  unfold underlying program
  rw [Sem.run_bind, show Sem.run P (Sem.program Sem.pure) w = Result.ok P w from rfl]
  simp only [Result.andThen, h, Sem.run_pure]
theorem run_zero' {t : TypeId} {i : TypeInfo} {z : Value} (h : P.info? t = some i) (hz : i.zero = some z) (w : World) : (zeroValue t).run P w = .ok z w := by
  unfold zeroValue typeInfo program
  rw [Sem.run_bind, Sem.run_bind, show Sem.run P (Sem.program Sem.pure) w = Result.ok P w from rfl]
  simp only [Result.andThen, h, Sem.run_pure, hz]
theorem run_getObj {w : World} {r : Nat} {es : Array MapEntry} {clk : Nat} (h : w.heap[r]? = some (.map es clk)) : (getObj r).run P w = .ok (.map es clk) w := by
  unfold getObj
  simp only [Sem.run, h]
theorem run_setObj {w : World} {r : Nat} {es : Array MapEntry} {clk : Nat} (h : w.heap[r]? = some (.map es clk)) (o : Obj) : (setObj r o).run P w = .ok () (World.setObj w r o) := by
  unfold Go.setObj World.setObj
  simp only [Sem.run, h]
theorem run_checkKey {key : TypeId} {k kk : IntKind} (h : P.underlying key = some (.int kk)) (e : Bool) (x : Int) (w : World) : (Instr.checkKey e 10000 key (.int k x)).run P w = .ok () w := by
  unfold Instr.checkKey
  rw [Sem.run_bind, run_underlying' h]
  simp only [Result.andThen, Sem.run_pure]

theorem run_findKey_none {key : TypeId} {k kk : IntKind} (h : P.underlying key = some (.int kk)) {es : Array MapEntry} {m : MP} (he : Ents k es.toList m) (x : Int) (hg : mget m x = none) (w : World) :
    (Instr.findKey key (.int k x) es.toList).run P w = .ok none w := by
  unfold Instr.findKey
  rw [Sem.run_bind, run_underlying' h]
  simp only [Result.andThen, findNow_none he x hg, Sem.run_pure]
theorem run_findKey_some {key : TypeId} {k kk : IntKind} (h : P.underlying key = some (.int kk)) {es : Array MapEntry} {m : MP} (he : Ents k es.toList m) (x : Int) {v : Value} (hg : mget m x = some v) (w : World) :
    ∃ j, midx m x = some j ∧ (Instr.findKey key (.int k x) es.toList).run P w = .ok (some (j, v)) w := by
  obtain ⟨j, hj, hf⟩ := findNow_some (kk := kk) he x hg
  refine ⟨j, hj, ?_⟩
  unfold Instr.findKey
  rw [Sem.run_bind, run_underlying' h]
  simp only [Result.andThen, hf, Sem.run_pure]

theorem lu_any {t elem r : Nat} {k : IntKind} {zero : Value} {w : World} {m : MP} (ht : MapTy P t k elem zero) (hm : MapAt w r k m) (x : Int) (ok : Bool) (K : KV) :
    luT P t (.map (some r)) (.int k x) ok w K = K (cond ok (.tuple #[(mget m x).getD zero, .bool (mget m x).isSome]) ((mget m x).getD zero)) w := by
  obtain ⟨⟨key, h1, h2⟩, i, h3, h4⟩ := ht
  obtain ⟨es, clk, hr, he, hbn⟩ := hm
  cases hg : mget m x with
  | none =>
    have hf := fun w => run_findKey_none h2 he x hg w
    cases ok <;> simp [luT, semT, Instr.lookup, Sem.run_bind, run_underlying' h1, Result.andThen, run_getObj hr, Sem.run_pure, run_checkKey h2, hf, run_zero' h3 h4]
  | some v =>
    obtain ⟨j, _, hf⟩ := run_findKey_some h2 he x hg w
    cases ok <;> simp [luT, semT, Instr.lookup, Sem.run_bind, run_underlying' h1, Result.andThen, run_getObj hr, Sem.run_pure, run_checkKey h2, hf]
theorem lu_eq {t elem r : Nat} {k : IntKind} {zero : Value} {w : World} {m : MP} (ht : MapTy P t k elem zero) (hm : MapAt w r k m) (x : Int) (K : KV) :
    luT P t (.map (some r)) (.int k x) false w K = K ((mget m x).getD zero) w := lu_any ht hm x false K
theorem luok_eq {t elem r : Nat} {k : IntKind} {zero : Value} {w : World} {m : MP} (ht : MapTy P t k elem zero) (hm : MapAt w r k m) (x : Int) (K : KV) :
    luT P t (.map (some r)) (.int k x) true w K = K (.tuple #[(mget m x).getD zero, .bool (mget m x).isSome]) w := lu_any ht hm x true K
theorem lu_nil {t elem : Nat} {k : IntKind} {zero : Value} {w : World} (ht : MapTy P t k elem zero) (x : Int) (K : KV) :
    luT P t (.map none) (.int k x) false w K = K zero w := by
  obtain ⟨⟨key, h1, h2⟩, i, h3, h4⟩ := ht
  have hf : ∀ w, (Instr.findKey key (.int k x) []).run P w = .ok none w := fun w => by
    unfold Instr.findKey
    rw [Sem.run_bind, run_underlying' h2]
    simp only [Result.andThen, Instr.findNow, Sem.run_pure]
  simp [luT, semT, Instr.lookup, Sem.run_bind, run_underlying' h1, Result.andThen, Sem.run_pure, run_checkKey h2, hf, run_zero' h3 h4]

theorem sameBits_int (k : IntKind) (x : Int) : Instr.sameBits 10000 (.int k x) (.int k x) = true := by simp [Instr.sameBits]

theorem mu_ok {t elem r : Nat} {k : IntKind} {zero : Value} {w : World} {m : MP} (ht : MapTy P t k elem zero) (hm : MapAt w r k m) (x : Int) (v : Value) (K : KV)
    (h : ∀ o, MapAt (World.setObj w r o) r k (mset m x v) → K undef (World.setObj w r o)) : muT P t (.map (some r)) (.int k x) v w K := by
  obtain ⟨⟨key, h1, h2⟩, i, h3, h4⟩ := ht
  obtain ⟨es, clk, hr, he, hbn⟩ := hm
  have hlt : r < w.heap.size := (Array.getElem?_eq_some_iff.1 hr).1
  cases hg : mget m x with
  | none =>
    have hf := fun w => run_findKey_none h2 he x hg w
    simp only [muT, semU, Instr.mapUpdate, Sem.run_bind, run_underlying' h1, Result.andThen, run_getObj hr, run_checkKey h2, hf, run_setObj hr]
    refine h _ ⟨es.push ⟨.int k x, v, clk⟩, clk + 1, ?_, ?_, ?_⟩
    · rw [setObj_heap _ _ _ _ hlt, if_pos rfl]
    · rw [Array.toList_push]; exact he.push x v clk hg
    · rw [Array.toList_push]; exact hbn.push _ _
  | some u =>
    obtain ⟨j, hj, hf⟩ := run_findKey_some h2 he x hg w
    have hkey : ((es[j]?).map (·.key)).getD (.int k x) = .int k x := by
      have : ∀ {l : List MapEntry} {m : MP}, Ents k l m → ∀ {j : Nat}, midx m x = some j → (l[j]?).map (·.key) = some (.int k x) := by
        intro l m hl
        induction hl with
        | nil => intro j hj; simp [midx] at hj
        | @cons y u b es m h ih =>
          intro j hj
          simp only [midx] at hj
          by_cases hxy : y = x
          · rw [if_pos hxy] at hj; cases hj; simp [hxy]
          · rw [if_neg hxy] at hj
            cases hm : midx m x with
            | none => simp [hm] at hj
            | some i => simp [hm] at hj; subst hj; simpa using ih hm
      have h' := this he hj
      simp only [Array.getElem?_toList] at h'
      rw [h']; rfl
    simp only [muT, semU, Instr.mapUpdate, Sem.run_bind, run_underlying' h1, Result.andThen, run_getObj hr, run_checkKey h2, hf, hkey, Instr.keyThatStays, sameBits_int, if_true, Sem.run_pure, run_setObj hr]
    refine h _ ⟨es.modify j fun e => { e with key := .int k x, val := v }, clk, ?_, ?_, ?_⟩
    · rw [setObj_heap _ _ _ _ hlt, if_pos rfl]
    · rw [Array.toList_modify]; exact he.modify x v hj
    · rw [Array.toList_modify]; exact hbn.modify _ _ _

theorem del_ok {t elem r ty : Nat} {k : IntKind} {zero : Value} {w : World} {m : MP} (ht : MapTy P t k elem zero) (hm : MapAt w r k m) (x : Int) (ats : TypeId) (cs : List Bool) (K : KV)
    (h : ∀ o, MapAt (World.setObj w r o) r k (mdel m x) → K (.tuple #[]) (World.setObj w r o)) : biT P .delete #[t, ats] ty cs [.map (some r), .int k x] w K := by
  obtain ⟨⟨key, h1, h2⟩, i, h3, h4⟩ := ht
  obtain ⟨es, clk, hr, he, hbn⟩ := hm
  have hlt : r < w.heap.size := (Array.getElem?_eq_some_iff.1 hr).1
  cases hg : mget m x with
  | none =>
    have hf := fun w => run_findKey_none h2 he x hg w
    simp only [biT, nextT, builtin, Builtin.delete_, List.getElem?_toArray, List.getElem?_cons_zero, List.getElem?_cons_succ, Sem.run_bind, run_underlying' h1, Result.andThen, run_getObj hr, run_checkKey h2, hf, run_setObj hr, Sem.run_pure]
    refine h _ ⟨es, clk, ?_, ?_, hbn⟩
    · rw [setObj_heap _ _ _ _ hlt, if_pos rfl]
    · have : ∀ m : MP, mget m x = none → mdel m x = m := by
        intro m
        induction m with
        | nil => intro _; rfl
        | cons p m ih =>
          obtain ⟨y, u⟩ := p
          intro h
          simp only [mget] at h
          split at h
          · cases h
          · rename_i hne
            simp only [mdel, if_neg hne, ih h]
      rw [this m hg]; exact he
  | some u =>
    obtain ⟨j, hj, hf⟩ := run_findKey_some h2 he x hg w
    simp only [biT, nextT, builtin, Builtin.delete_, List.getElem?_toArray, List.getElem?_cons_zero, List.getElem?_cons_succ, Sem.run_bind, run_underlying' h1, Result.andThen, run_getObj hr, run_checkKey h2, hf, run_setObj hr, Sem.run_pure]
    have hjl : j < es.size := by
      have := midx_lt hj
      rw [← he.length] at this
      simpa using this
    refine h _ ⟨es.eraseIdxIfInBounds j, clk, ?_, ?_, ?_⟩
    · rw [setObj_heap _ _ _ _ hlt, if_pos rfl]
    · rw [Array.eraseIdxIfInBounds, dif_pos hjl, Array.toList_eraseIdx]
      exact he.erase x hj
    · rw [Array.eraseIdxIfInBounds, dif_pos hjl, Array.toList_eraseIdx]
      exact hbn.sub (List.eraseIdx_sublist ..)

theorem lenmap_eq {t elem r ty : Nat} {k : IntKind} {zero : Value} {w : World} {m : MP} (ht : MapTy P t k elem zero) (hm : MapAt w r k m) (cs : List Bool) (K : KV) :
    biT P .len #[t] ty cs [.map (some r)] w K = K (.int .i64 m.length) w := by
  obtain ⟨⟨key, h1, h2⟩, i, h3, h4⟩ := ht
  obtain ⟨es, clk, hr, he, hbn⟩ := hm
  simp [biT, nextT, builtin, Builtin.len_, Sem.run_bind, run_underlying' h1, Result.andThen, run_getObj hr, Sem.run_pure, goInt, ← he.length]

theorem mkm_eq (t : TypeId) (w : World) (K : KV) : mkmT P t none w K = K (.map (some w.heap.size)) (w.alloc (.map #[] 0)) := Eq.trans rfl rfl
theorem MapAt_new (w : World) (k : IntKind) : MapAt (w.alloc (.map #[] 0)) w.heap.size k [] := ⟨#[], 0, by rw [alloc_heap, if_pos rfl], .nil, by simp [Born]⟩
theorem MapAt.of_heap {w w' : World} {r : Nat} {k : IntKind} {m : MP} (h : MapAt w r k m) (he : w'.heap[r]? = w.heap[r]?) : MapAt w' r k m := by
  obtain ⟨es, clk, hr, hE⟩ := h
  exact ⟨es, clk, he.trans hr, hE⟩
theorem MapAt.lt {w : World} {r : Nat} {k : IntKind} {m : MP} (h : MapAt w r k m) : r < w.heap.size := by
  obtain ⟨es, clk, hr, _, _⟩ := h
  exact (Array.getElem?_eq_some_iff.1 hr).1
end

/-! ### Plain facts on lists of pairs -/
theorem mget_mset (m : MP) (x : Int) (v : Value) (y : Int) : mget (mset m x v) y = if x = y then some v else mget m y := by
  induction m with
  | nil => simp [mset, mget]
  | cons p m ih =>
    obtain ⟨z, u⟩ := p
    simp only [mset]
    by_cases hz : z = x
    · subst hz; simp only [if_true, mget]; split <;> rfl
    · simp only [if_neg hz, mget, ih]
      by_cases hzy : z = y
      · subst hzy; simp [Ne.symm hz]
      · simp [hzy]
theorem mget_mdel_ne (m : MP) (x y : Int) (h : x ≠ y) : mget (mdel m x) y = mget m y := by
  induction m with
  | nil => rfl
  | cons p m ih =>
    obtain ⟨z, u⟩ := p
    simp only [mdel]
    by_cases hz : z = x
    · subst hz; simp only [if_true, mget, if_neg h]
    · simp only [if_neg hz, mget, ih]
def mkeys (m : MP) : List Int := m.map (·.1)
theorem mget_none_iff (m : MP) (x : Int) : mget m x = none ↔ x ∉ mkeys m := by
  induction m with
  | nil => simp [mget, mkeys]
  | cons p m ih =>
    obtain ⟨z, u⟩ := p
    simp only [mget, mkeys, List.map_cons, List.mem_cons, not_or] at ih ⊢
    by_cases hz : z = x
    · simp [hz]
    · simp [hz, ih, Ne.symm hz]
theorem mkeys_mset (m : MP) (x : Int) (v : Value) : mkeys (mset m x v) = if x ∈ mkeys m then mkeys m else mkeys m ++ [x] := by
  induction m with
  | nil => simp [mset, mkeys]
  | cons p m ih =>
    obtain ⟨z, u⟩ := p
    simp only [mset]
    by_cases hz : z = x
    · subst hz; simp [mkeys]
    · simp only [if_neg hz, mkeys, List.map_cons, List.mem_cons] at ih ⊢
      rw [ih]
      by_cases hx : x ∈ List.map (fun x => x.fst) m
      · simp [hx]
      · simp [hx, Ne.symm hz]
theorem mkeys_mdel (m : MP) (x : Int) : mkeys (mdel m x) = (mkeys m).erase x := by
  induction m with
  | nil => rfl
  | cons p m ih =>
    obtain ⟨z, u⟩ := p
    simp only [mdel]
    by_cases hz : z = x
    · subst hz; simp [mkeys]
    · simp only [if_neg hz, mkeys, List.map_cons] at ih ⊢
      rw [List.erase_cons_tail (by simpa using hz), ih]
theorem mget_mdel_same (m : MP) (x : Int) (h : (mkeys m).Nodup) : mget (mdel m x) x = none := by
  rw [mget_none_iff, mkeys_mdel]
  exact List.Nodup.not_mem_erase h
end Go.Eng
