/-
  Slices, appends, interface values, and what a call leaves as it was. Laws over any program. No condition.
-/
import Derived.Test.YtgcpljghnlohbaaEngMaps
import Derived.RowKit3
namespace Go.Eng

/-! ### What is left as it was -/
/-- Of what was there, no more than the blocks of 'S' may have turned. -/
structure Fr (S : Nat → Prop) (w w' : World) : Prop where
  size : w.heap.size ≤ w'.heap.size
  keep : ∀ b, b < w.heap.size → ¬ S b → w'.heap[b]? = w.heap[b]?
  tape : w'.tape = w.tape
  os : w'.os = w.os
  output : w'.output = w.output
section
variable {S S' : Nat → Prop} {w w' w'' : World}
theorem Fr.refl (S : Nat → Prop) (w : World) : Fr S w w := ⟨Nat.le_refl _, fun _ _ _ => rfl, rfl, rfl, rfl⟩
theorem Fr.mono (h : Fr S w w') (hs : ∀ b, b < w.heap.size → S b → S' b) : Fr S' w w' := ⟨h.size, fun b hb hn => h.keep b hb fun h' => hn (hs b hb h'), h.tape, h.os, h.output⟩
theorem Fr.trans' (h : Fr S w w') (h' : Fr S' w' w'') (hs : ∀ b, b < w.heap.size → S' b → S b) : Fr S w w'' :=
  ⟨Nat.le_trans h.size h'.size, fun b hb hn => (h'.keep b (Nat.lt_of_lt_of_le hb h.size) fun h'' => hn (hs b hb h'')).trans (h.keep b hb hn), h'.tape.trans h.tape, h'.os.trans h.os, h'.output.trans h.output⟩
theorem Fr.trans (h : Fr S w w') (h' : Fr S w' w'') : Fr S w w'' := h.trans' h' fun _ _ h => h
theorem Fr.dr (h : Fr S w w') (n : Nat) : Fr S w (dr w' n) := ⟨h.size, h.keep, h.tape, h.os, h.output⟩
theorem Fr.alloc (h : Fr S w w') (o : Obj) : Fr S w (w'.alloc o) :=
  ⟨by rw [alloc_size]; exact Nat.le_succ_of_le h.size, fun b hb hn => by rw [alloc_heap, if_neg (by have := h.size; omega)]; exact h.keep b hb hn, h.tape, h.os, h.output⟩
theorem Fr.setCell (h : Fr S w w') {b : Nat} (hb : S b ∨ w.heap.size ≤ b) (i : Nat) (v : Value) : Fr S w (w'.setCell ⟨b, i, none⟩ v) :=
  ⟨by rw [setCell_size]; exact h.size, fun b' hb' hn => by
    rw [setCell_heap, if_neg]
    · exact h.keep b' hb' hn
    · intro hbb; subst hbb
      rcases hb with hb | hb
      · exact hn hb
      · omega, h.tape, h.os, h.output⟩
theorem Fr.setObj (h : Fr S w w') {b : Nat} (hb : S b ∨ w.heap.size ≤ b) (o : Obj) : Fr S w (World.setObj w' b o) :=
  ⟨by rw [setObj_size]; exact h.size, fun b' hb' hn => by
    unfold World.setObj
    simp only [Array.getElem?_setIfInBounds]
    rw [if_neg]
    · exact h.keep b' hb' hn
    · intro hbb; subst hbb
      rcases hb with hb | hb
      · exact hn hb
      · omega, h.tape, h.os, h.output⟩
theorem Fr.grown {row : Option Nat} (h : World.grownBy w w' row) : Fr (fun b => row = some b) w w' := ⟨h.size, fun b hb hn => h.block b hb fun he => hn he.symm, h.tape, h.os, h.output⟩
theorem Fr.heap (h : Fr S w w') {b : Nat} {o : Obj} (ho : w.heap[b]? = some o) (hn : ¬ S b) : w'.heap[b]? = some o := (h.keep b (Array.getElem?_eq_some_iff.1 ho).1 hn).trans ho
end
theorem heap_lt {w : World} {b : Nat} {o : Obj} (h : w.heap[b]? = some o) : b < w.heap.size := (Array.getElem?_eq_some_iff.1 h).1
theorem cellOf_of {w : World} {b : Nat} {c : Array Value} {e : TypeId} {f : Nat × Nat} (h : w.heap[b]? = some (.cells c e f)) (i : Nat) : cellOf w b i = c[i]? := by simp [cellOf, h]
theorem frzOf_of {w : World} {b : Nat} {c : Array Value} {e : TypeId} (h : w.heap[b]? = some (.cells c e (0, 0))) (i : Nat) : frzOf w b i = false := by simp [frzOf, h]
theorem cellOf_heap {w w' : World} {b : Nat} (h : w'.heap[b]? = w.heap[b]?) (i : Nat) : cellOf w' b i = cellOf w b i := by simp [cellOf, h]
theorem ne_of_elem {w : World} {b b' : Nat} {c c' : Array Value} {e e' : TypeId} {f f' : Nat × Nat} (h : w.heap[b]? = some (.cells c e f)) (h' : w.heap[b']? = some (.cells c' e' f')) (hne : e ≠ e') : b ≠ b' := by
  rintro rfl
  rw [h] at h'
  injection h' with h'; injection h' with _ h' _; exact hne h'
theorem ne_of_map {w : World} {b b' : Nat} {c : Array Value} {e : TypeId} {f : Nat × Nat} {es : Array MapEntry} {n : Nat} (h : w.heap[b]? = some (.cells c e f)) (h' : w.heap[b']? = some (.map es n)) : b ≠ b' := by
  rintro rfl
  rw [h] at h'
  injection h' with h'; cases h'

theorem cellOf_dr (w : World) (n b i : Nat) : cellOf (dr w n) b i = cellOf w b i := Eq.trans rfl rfl
theorem frzOf_dr (w : World) (n b i : Nat) : frzOf (dr w n) b i = frzOf w b i := Eq.trans rfl rfl
theorem cellOf_new {w : World} {c : Array Value} {e : TypeId} {f : Nat × Nat} {n : Nat} (h : n = w.heap.size) (i : Nat) : cellOf (w.alloc (.cells c e f)) n i = c[i]? := by
  subst h; unfold cellOf; rw [alloc_heap, if_pos rfl]
theorem cells3 {w : World} {b : Nat} {x y z : Value} {e : TypeId} {f : Nat × Nat} (h : w.heap[b]? = some (.cells #[x, y, z] e f)) : cellOf w b 0 = some x ∧ cellOf w b 1 = some y ∧ cellOf w b 2 = some z := by
  simp [cellOf, h]
theorem cells2 {w : World} {b : Nat} {x y : Value} {e : TypeId} {f : Nat × Nat} (h : w.heap[b]? = some (.cells #[x, y] e f)) : cellOf w b 0 = some x ∧ cellOf w b 1 = some y := by
  simp [cellOf, h]

/-! ### Slices -/
def isSlB (P : Program) (t : TypeId) : Bool := match P.underlying t with
  | some (.slice e) => (P.info? e).isSome
  | _ => false
def elE (P : Program) (t : TypeId) : TypeId := match P.underlying t with
  | some (.slice e) => e
  | _ => 0
def szE (P : Program) (t : TypeId) : Nat := ((P.info? (elE P t)).map (·.size)).getD 0
def aggB (P : Program) (t : TypeId) : Bool := match P.underlying t with
  | some (.struct _) => true
  | some (.array _ _) => true
  | some _ => false
  | none => true

section
variable {P : Program}
theorem isSlB_spec {t : TypeId} (h : isSlB P t = true) : P.underlying t = some (.slice (elE P t)) ∧ ∃ i, P.info? (elE P t) = some i ∧ i.size = szE P t := by
  unfold isSlB at h
  split at h
  · rename_i e he
    have hE : elE P t = e := by simp [elE, he]
    obtain ⟨i, hi⟩ := Option.isSome_iff_exists.1 h
    exact ⟨by rw [hE]; exact he, i, by rw [hE]; exact hi, by simp [szE, hE, hi]⟩
  · cases h
theorem run_size' {e : TypeId} {i : TypeInfo} (h : P.info? e = some i) (w : World) : (sizeOf e).run P w = .ok i.size w := by
  unfold sizeOf typeInfo program
  rw [Sem.run_bind, Sem.run_bind, show Sem.run P (Sem.program Sem.pure) w = Result.ok P w from rfl]
  simp only [Result.andThen, h, Sem.run_pure]

theorem ia_ok {t : TypeId} (h : isSlB P t = true) {k : IntKind} {b o len cap : Nat} {i : Int} (h0 : 0 ≤ i) (h1 : i < len) (w : World) (K : KV) :
    iaT P t (.slice (some ⟨b, o, none⟩) len cap) (.int k i) w K = K (.pointer (some ⟨b, o + i.toNat * szE P t, none⟩)) w := by
  obtain ⟨hu, inf, hi, hs⟩ := isSlB_spec h
  simp [iaT, semT, Instr.indexAt, asIntOf, Sem.run_bind, run_underlying' hu, Result.andThen, Sem.run_pure, h0, h1, run_size' hi, add_addr, hs]

theorem len_sl {t ty : TypeId} (h : isSlB P t = true) (cs : List Bool) (a : Option Addr) (n c : Nat) (w : World) (K : KV) :
    biT P .len #[t] ty cs [.slice a n c] w K = K (.int .i64 n) w := by
  obtain ⟨hu, inf, hi, hs⟩ := isSlB_spec h
  simp [biT, nextT, builtin, Builtin.len_, Sem.run_bind, run_underlying' hu, Result.andThen, Sem.run_pure, goInt]

theorem sl_hi {t : TypeId} (h : isSlB P t = true) {k : IntKind} {a : Option Addr} {len cap : Nat} {i : Int} (h0 : 0 ≤ i) (h1 : i ≤ cap) (w : World) (K : KV) :
    slT P t (.slice a len cap) none (some (.int k i)) none w K = K (.slice a i.toNat cap) w := by
  obtain ⟨hu, inf, hi, hs⟩ := isSlB_spec h
  have ha : (if cap = 0 then a else a.map (·.add (0 * inf.size))) = a := by
    cases a with
    | none => simp
    | some a => simp [Addr.add]
  simp [slT, semT, Instr.sliceAt, Instr.slice, Instr.sliceBounds, Instr.sliceBound, asIntOf, Sem.run_bind, run_underlying' hu, Result.andThen, Sem.run_pure, h0, h1, run_size' hi]
  cases a <;> simp [Addr.add]

/-- 's[i:]': where nothing is left of the capacity the address stays. -/
theorem sl_lo {t : TypeId} (h : isSlB P t = true) {k : IntKind} {b o len cap : Nat} {i : Int} (h0 : 0 ≤ i) (h1 : i ≤ len) (w : World) (K : KV) :
    slT P t (.slice (some ⟨b, o, none⟩) len cap) (some (.int k i)) none none w K = K (.slice (some ⟨b, if cap = i.toNat then o else o + i.toNat * szE P t, none⟩) (len - i.toNat) (cap - i.toNat)) w := by
  obtain ⟨hu, inf, hi, hs⟩ := isSlB_spec h
  simp [slT, semT, Instr.sliceAt, Instr.slice, Instr.sliceBounds, Instr.sliceBound, asIntOf, Sem.run_bind, run_underlying' hu, Result.andThen, Sem.run_pure, h0, h1, run_size' hi, add_addr, hs]
  split <;> rfl

structure ElemTy (P : Program) (t e : TypeId) (sz by' : Nat) : Prop where
  ty : P.underlying t = some (.slice e)
  inf : ∃ i z, P.info? e = some i ∧ i.zero = some z ∧ i.size = sz ∧ i.bytes = by' ∧ z.cells.size = sz
  pos : 0 < sz

theorem ElemTy.mk' {P : Program} {t e : TypeId} {sz by' : Nat} (h1 : P.underlying t = some (.slice e)) (h2 : ((P.info? e).bind fun i => i.zero.map fun z => (i.size, i.bytes, z.cells.size)) = some (sz, by', sz)) (h3 : Nat.blt 0 sz = true) : ElemTy P t e sz by' := by
  refine ⟨h1, ?_, by simpa [Nat.blt_eq] using h3⟩
  cases hi : P.info? e with
  | none => simp [hi] at h2
  | some i =>
    cases hz : i.zero with
    | none => simp [hi, hz] at h2
    | some z =>
      simp only [hi, hz, Option.bind_some, Option.map_some, Option.some.injEq, Prod.mk.injEq] at h2
      exact ⟨i, z, rfl, hz, h2.1, h2.2.1, h2.2.2⟩
theorem oneC_eq (u : Value) : oneC u = u.oneCell' := by cases u <;> rfl

/-- 'append(v, x...)': v owns its row. -/
theorem app_own {t e ty : TypeId} {sz by' : Nat} (ht : ElemTy P t e sz by') {w : World} {base n : Nat} {v : Value} {xs : List Value} (hown : w.ownsRow base e sz v n xs) {b o m c : Nat} {news : List Value}
    (hl : news.length = m * sz) (hnews : ∀ j u, news[j]? = some u → cellOf w b (o + j) = some u) (h1 : ∀ u ∈ news, oneC u = true) (h63 : n + m ≤ 140737488355328) (hby : (n + m) * by' ≤ 140737488355328) (hbase : base ≤ w.heap.size) (cs : List Bool) (K : KV)
    (h : ∀ v' w', w'.ownsRow base e sz v' (n + m) (xs ++ news) → w.grownBy w' v.ownBlock → (v' = .slice none 0 0 ↔ v = .slice none 0 0 ∧ m = 0) → (v'.ownBlock = v.ownBlock ∨ ∃ g, v'.ownBlock = some g ∧ w.heap.size ≤ g) → K v' w') : biT P .append #[t, t] ty cs [v, .slice (some ⟨b, o, none⟩) m c] w K := by
  obtain ⟨i, z, hi, hz, hs, hb, hzs⟩ := ht.inf
  have hnews' : ∀ j u, news[j]? = some u → w.cell? ((⟨b, o, none⟩ : Addr).add j) = some u := fun j u hu => by rw [add_addr, cell?_eq]; exact hnews j u hu
  have h1' : ∀ u ∈ news, u.oneCell' = true := fun u hu => by rw [← oneC_eq]; exact h1 u hu
  have key : ∃ v' w', (Builtin.append_ #[t, t] ty #[v, .slice (some ⟨b, o, none⟩) m c]).run P w = .ok v' w' ∧ w'.ownsRow base e sz v' (n + m) (xs ++ news) ∧ w.grownBy w' v.ownBlock ∧
      (v' = .slice none 0 0 ↔ v = .slice none 0 0 ∧ m = 0) ∧ (v'.ownBlock = v.ownBlock ∨ ∃ g, v'.ownBlock = some g ∧ w.heap.size ≤ g) := by
    obtain ⟨v', w', hr, g1, g2, g3⟩ := run_append_own (P := P) w base t ty e i z sz by' ht.ty hi hz hs hb hzs ht.pos v n xs hown ⟨b, o, none⟩ m c news hl hnews' h1' (by unfold maxLen; omega) hby hbase
    refine ⟨v', w', hr, g1, g2, g3, ?_⟩
    rcases hown.2 with ⟨hv, hn0⟩ | ⟨g, cap, cur, hv, hbg, hg, hnc, hcm, hcs, htake⟩
    · subst hv
      subst hn0
      obtain ⟨v2, w2, hr2, k1, _, _⟩ := run_append_own (P := P) w w.heap.size t ty e i z sz by' ht.ty hi hz hs hb hzs ht.pos (.slice none 0 0) 0 xs ⟨hown.1, .inl ⟨rfl, rfl⟩⟩ ⟨b, o, none⟩ m c news hl hnews' h1' (by unfold maxLen; omega) hby (Nat.le_refl _)
      rw [hr] at hr2
      injection hr2 with e1 e2
      subst e1
      rcases k1.2 with ⟨h0, _⟩ | ⟨g, _, _, h0, hge, _⟩
      · exact .inl (by rw [h0])
      · exact .inr ⟨g, by rw [h0]; rfl, hge⟩
    · subst hv
      by_cases hroom : n + m ≤ cap
      · have hfit : n * i.size + news.length ≤ cur.size := by rw [hl, hcs, hs, ← Nat.add_mul]; exact Nat.mul_le_mul_right _ hroom
        have hr2 := run_append_room (P := P) w t ty e i ht.ty hi g n cap cur hg ⟨b, o, none⟩ m c news (by rw [hs]; exact hl) hnews' h1' hroom hfit
        rw [hr] at hr2
        injection hr2 with e1 e2
        exact .inl (by rw [e1]; rfl)
      · have holds : ∀ j u, xs[j]? = some u → w.cell? ((⟨g, 0, none⟩ : Addr).add j) = some u := hown.cells (g := g) rfl
        have hr2 := run_append_grow (P := P) w t ty e i z ht.ty hi hz ⟨g, 0, none⟩ n cap xs (by rw [hs]; exact hown.1) holds ⟨b, o, none⟩ m c news (by rw [hs]; exact hl) hnews' (by omega) (by omega) (growslice_fits (by omega) (by rw [hb]; exact hby))
        rw [hr] at hr2
        injection hr2 with e1 e2
        exact .inr ⟨w.heap.size, by rw [e1]; rfl, Nat.le_refl _⟩
  obtain ⟨v', w', hr, g1, g2, g3, g4⟩ := key
  unfold biT nextT builtin
  simp only
  rw [Sem.run_bind]
  have : (#[v, .slice (some ⟨b, o, none⟩) m c] : Array Value) = [v, .slice (some ⟨b, o, none⟩) m c].toArray := rfl
  rw [← this, hr]
  simp only [Result.andThen, Sem.run_pure]
  exact h v' w' g1 g2 g3 g4

/-! ### Interface values -/
def mthB (P : Program) (t : TypeId) (name : String) (f : FuncId) (ptr : Bool) : Bool := match P.info? t with
  | some i => match i.methods.find? (·.name == name) with
    | some m => m.path.isEmpty && (m.func == some (f, ptr) && match P.underlying t with
      | some (.pointer e) => (ptr || !aggB P e)
      | _ => false)
    | none => false
  | none => false

theorem run_isAgg {t : TypeId} (h : aggB P t = false) (w : World) : (isAgg t).run P w = .ok false w := by
  unfold aggB at h
  unfold isAgg
  rw [Sem.run_bind]
  cases hu : P.underlying t with
  | none => simp [hu] at h
  | some d =>
    rw [run_underlying' hu]
    simp only [Result.andThen]
    rw [hu] at h
    cases d <;> simp_all [Sem.run_pure]

theorem run_typeInfo' {t : TypeId} {i : TypeInfo} (h : P.info? t = some i) (w : World) : (typeInfo t).run P w = .ok i w := by
  unfold typeInfo program
  rw [Sem.run_bind, show Sem.run P (Sem.program Sem.pure) w = Result.ok P w from rfl]
  simp only [Result.andThen, h, Sem.run_pure]
theorem run_loadVar1 {t : TypeId} (h : aggB P t = false) {w : World} {b o : Nat} {v : Value} (hc : cellOf w b o = some v) : (loadVar t ⟨b, o, none⟩).run P w = .ok v w := by
  unfold loadVar
  rw [Sem.run_bind, run_isAgg h]
  simp only [Result.andThen, load]
  rw [← cell?_eq] at hc
  simp [Sem.run, hc]

theorem run_method_val {t : TypeId} {name : String} {f : FuncId} (h : mthB P t name f false = true) (n : Nat) {w : World} {b o : Nat} {v : Value} (hc : cellOf w b o = some v) :
    (method (n + 1) t (.pointer (some ⟨b, o, none⟩)) name).run P w = .ok (f, v) w := by
  unfold mthB at h
  cases hi : P.info? t with
  | none => simp [hi] at h
  | some i =>
    simp only [hi] at h
    cases hm : i.methods.find? (·.name == name) with
    | none => simp [hm] at h
    | some m =>
      simp only [hm, Bool.and_eq_true, beq_iff_eq] at h
      obtain ⟨h1, h2, h3⟩ := h
      cases hu : P.underlying t with
      | none => simp [hu] at h3
      | some d =>
        cases d <;> simp [hu] at h3
        rename_i e
        have hp : m.path = #[] := by simpa using h1
        have hw : ∀ x y, Builtin.ssaWrapNilChk_ #[t] t #[.pointer (some ⟨b, o, none⟩), strVal x, strVal y] = pure (.pointer (some ⟨b, o, none⟩)) := fun _ _ => rfl
        simp [method, Sem.run_bind, run_typeInfo' hi, Result.andThen, hm, hp, follow, Sem.run_pure, h2, receiverAt, run_underlying' hu, Place.get, hw, asAddr, run_loadVar1 h3 hc]
theorem run_method_ptr {t : TypeId} {name : String} {f : FuncId} (h : mthB P t name f true = true) (n : Nat) (a : Addr) (w : World) :
    (method (n + 1) t (.pointer (some a)) name).run P w = .ok (f, .pointer (some a)) w := by
  unfold mthB at h
  cases hi : P.info? t with
  | none => simp [hi] at h
  | some i =>
    simp only [hi] at h
    cases hm : i.methods.find? (·.name == name) with
    | none => simp [hm] at h
    | some m =>
      simp only [hm, Bool.and_eq_true, beq_iff_eq] at h
      obtain ⟨h1, h2, h3⟩ := h
      cases hu : P.underlying t with
      | none => simp [hu] at h3
      | some d =>
        cases d <;> simp [hu] at h3
        have hp : m.path = #[] := by simpa using h1
        simp [method, Sem.run_bind, run_typeInfo' hi, Result.andThen, hm, hp, follow, Sem.run_pure, h2, receiverAt, run_underlying' hu, Place.get]
theorem inv_val {t : TypeId} {name : String} {f : FuncId} (h : mthB P t name f false = true) {w : World} {b o : Nat} {v : Value} (hc : cellOf w b o = some v) (args : List Value) (K : KV) :
    invokeT P (.iface t (.pointer (some ⟨b, o, none⟩))) name args w K = fcallT P f (v :: args) w K :=
  invokeT_eq (by rw [show P.types.size + Made.depth = (P.types.size + Made.depth - 1) + 1 from by simp [Made.depth]]; exact run_method_val h _ hc) args K
theorem inv_ptr {t : TypeId} {name : String} {f : FuncId} (h : mthB P t name f true = true) (a : Addr) (w : World) (args : List Value) (K : KV) :
    invokeT P (.iface t (.pointer (some a))) name args w K = fcallT P f (.pointer (some a) :: args) w K :=
  invokeT_eq (by rw [show P.types.size + Made.depth = (P.types.size + Made.depth - 1) + 1 from by simp [Made.depth]]; exact run_method_ptr h _ a w) args K
end
end Go.Eng
