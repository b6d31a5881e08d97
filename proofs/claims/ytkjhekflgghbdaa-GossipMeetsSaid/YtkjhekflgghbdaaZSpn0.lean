/-
  Names of spans: which are right. No condition.
  Spans: what is right, their cells. No condition.
  Equality of structs, field by field. No condition.
  Members: rising lists, the first of a kind, clones, equality. No condition.
  message.Right of members; view.Right. No condition.
  Sorting a row of whole numbers (uint64): the row, and the insertion sort. No condition.
  Sorting a row of whole numbers (uint64): the heap sort. No condition.
  Sorting a row of whole numbers (uint64): the partitions. No condition.
  Sorting a row of whole numbers (uint64): the partial insertion sort, the range turned round. No condition.
  math/bits.Len at small numbers, the next power of two, and what xorshift gives. No condition.
  Sorting a row of whole numbers (uint64): the pivot, the patterns. No condition.
-/
import Derived.Test.YtkjhekflgghbdaaM
import Derived.Test.YtkjhekflgghbdaaFacts
import Derived.Test.YtkjhekflgghbdaaZEngSimp
import Derived.Test.YtkjhekflgghbdaaRows
import Derived.Laws.StructEq
import Derived.Test.YtkjhekflgghbdaaEnc
import Derived.Sort.AssemblyPlain
set_option maxRecDepth 100000
namespace Go.Proofs.Ytkjhekflgghbdaa
open Go.Eng

@[simp] theorem strT : isStrB P T.string = true := by refine Eq.trans ?_ rfl; kernel_rfl
@[simp] theorem lenS (ty : TypeId) (cs : List Bool) (s : ByteArray) (w : World) (K : KV) : biT P .len #[T.string] ty cs [.string s] w K = K (.int .i64 s.size) w := len_str strT cs s w K

theorem toList_empty (s : ByteArray) : s.toList.isEmpty = decide (s.size = 0) := by
  have h : s.size = s.data.toList.length := Array.length_toList.symm
  rw [ByteArray.toList_eq, h]
  cases s.data.toList <;> simp
/-- Does a text begin with another one? -/
def hasPre (s p : ByteArray) : Bool := decide (p.size ≤ s.size) && ((s.extract 0 p.size).toList == p.toList)
theorem hasPrefix_ok {w : World} (s p : ByteArray) {K : KV} (h : K (.bool (hasPre s p)) w) : callT P F.strings_HasPrefix [.string s, .string p] w K := by
  apply M.strings_HasPrefix.calls
  unfold M.strings_HasPrefix
  rw [M.internal_stringslite_HasPrefix.fcall]
  apply M.internal_stringslite_HasPrefix.calls
  unfold M.internal_stringslite_HasPrefix
  unfold hasPre at h
  by_cases hl : p.size ≤ s.size
  · have hl' : (p.size : Int) ≤ s.size := by omega
    have hsl : ∀ K, slT P T.string (.string s) none (some (.int .i64 (p.size : Int))) none w K = K (.string (s.extract 0 p.size)) w := fun K => sl_str strT (.inl ⟨rfl, rfl⟩) (.inr ⟨_, rfl⟩) (Nat.zero_le _) hl w K
    simp [hl, hsl, bin_eqlS] at h ⊢
    exact h
  · have hl' : ¬ (p.size : Int) ≤ s.size := by omega
    simp [hl] at h ⊢
    exact h

def runeErr : ByteArray := ⟨#[239, 191, 189]⟩
def badRune (s : ByteArray) (i : Nat) : Bool := decide ((Utf8.decode s i).1 < 32) || ((decide (127 ≤ (Utf8.decode s i).1) && decide ((Utf8.decode s i).1 ≤ 159)) || (decide ((Utf8.decode s i).1 = 65533) && !hasPre (s.extract i s.size) runeErr))
/-- Are the runes from a place on right? -/
def runesOk (s : ByteArray) (i : Nat) : Bool :=
  if h : i < s.size then !badRune s i && runesOk s (i + (Utf8.decode s i).2) else true
termination_by s.size - i
decreasing_by have := decode_width s i; omega
def nameK (s : ByteArray) : Int := if s.size = 0 ∨ 32 < s.size then 5 else if runesOk s 0 = true then 0 else 5

def NameI (w : World) (s : ByteArray) : KL := fun x w1 => ∃ (pos : Nat), w1.heap[w.heap.size]? = some (.stringIter s pos) ∧ Fr (fun _ => False) w w1 ∧ runesOk s pos = runesOk s 0
def mIter (s : ByteArray) (it : Nat) (w : World) : Nat := match w.heap[it]? with
  | some (.stringIter _ pos) => s.size - pos
  | _ => 0
theorem name_ok {w : World} (s : ByteArray) {K : KV} (h : ∀ w', Fr (fun _ => False) w w' → K (.int .i64 (nameK s)) w') : callT P F.span_Name [.string s] w K := by
  apply M.span_Name.calls
  unfold M.span_Name
  simp only [joinT_eq]
  have hemp : s.toList.isEmpty = decide (s.size = 0) := toList_empty s
  unfold nameK at h
  by_cases h0 : s.size = 0
  · simp [bin_eqlS, hemp, h0] at h ⊢
    exact h w (Fr.refl _ _)
  · by_cases h1 : 32 < s.size
    · have h1' : (32 : Int) < s.size := by omega
      simp [bin_eqlS, hemp, h0, h1, h1'] at h ⊢
      exact h w (Fr.refl _ _)
    · have h1' : ¬ (32 : Int) < s.size := by omega
      simp [bin_eqlS, hemp, h0, h1, h1'] at h ⊢
      unfold M.span_Name.j0
      simp only [joinT_eq]
      rw [rg_str (isStrB_spec strT)]
      refine ⟨NameI w s, fun _ w1 => mIter s w.heap.size w1, ⟨0, by rw [alloc_heap, if_pos rfl], (Fr.refl _ w).alloc _, rfl⟩, ?_⟩
      rintro x w1 ⟨pos, hit, hf, hp⟩
      refine nx_str hit _ (fun he => ?_) fun hlt w2 hit2 hf2 => ?_
      · have hr : runesOk s 0 = true := by rw [← hp]; unfold runesOk; rw [dif_neg he]
        have e0 : ∀ w K, exT P (.tuple #[.bool false]) 0 w K = K (.bool false) w := fun _ _ => rfl
        simp [e0]
        have := h w1 hf
        simpa [hr] using this
      · simp
        unfold M.span_Name.j3
        simp
        have hr : runesOk s pos = (!badRune s pos && runesOk s (pos + (Utf8.decode s pos).2)) := by
          conv => lhs; unfold runesOk
          rw [dif_pos hlt]
        have F2 : Fr (fun _ => False) w w2 := hf.trans' hf2 fun g hg h' => by omega
        have hbad : badRune s pos = true → K (.int .i64 5) w2 := fun hb => by
          rw [hb, hp] at hr
          have := h w2 F2
          simpa [hr] using this
        have hgood : badRune s pos = false → ∀ xs, NameI w s xs w2 ∧ mIter s w.heap.size w2 < mIter s w.heap.size w1 := fun hb xs => by
          rw [hb, hp] at hr
          refine ⟨⟨_, hit2, F2, by rw [hr]; rfl⟩, ?_⟩
          have := decode_width s pos
          simp only [mIter, hit, hit2]; omega
        unfold badRune at hbad hgood
        generalize hc : (Utf8.decode s pos).1 = c at *
        clear hc
        have hsl : ∀ K, slT P T.string (.string s) (some (.int .i64 (pos : Int))) none none w2 K = K (.string (s.extract pos s.size)) w2 := fun K => sl_str strT (.inr ⟨_, rfl⟩) (.inl ⟨rfl, rfl⟩) (by omega) (Nat.le_refl _) w2 K
        have j4 : ∀ (b : Bool) (t14 : Value), b = (decide (c < 32) || (decide (127 ≤ c) && decide (c ≤ 159))) → M.span_Name.j4 [.bool b] (.int .i32 c) (.string s) (.int .i64 pos) (fun x' w' => NameI w s x' w' ∧ mIter s w.heap.size w' < mIter s w.heap.size w1) t14 x w2 K := by
          intro b t14 hb
          unfold M.span_Name.j4
          cases b with
          | true => simp at hb ⊢; exact hbad (by simp; omega)
          | false =>
            by_cases he : c = 65533
            · have he' : (c : Int) = 65533 := by omega
              simp [he', hsl]
              rw [M.strings_HasPrefix.fcall]
              refine hasPrefix_ok _ _ ?_
              have hx : hasPre (s.extract pos s.size) ⟨#[239, 191, 189]⟩ = hasPre (s.extract pos s.size) runeErr := rfl
              rw [hx]
              cases hq : hasPre (s.extract pos s.size) runeErr with
              | true => simp; exact hgood (by simp [he, hq]) _
              | false => simp; exact hbad (by simp [he, hq])
            · have he' : ¬ (c : Int) = 65533 := by omega
              simp [he']
              refine hgood ?_ _
              have : (decide (c < 32) || (decide (127 ≤ c) && decide (c ≤ 159))) = false := hb.symm
              simp [he] at this ⊢
              exact this
        by_cases h32 : c < 32
        · have h32' : (c : Int) < 32 := by omega
          simp [h32']
          exact j4 true _ (by simp [h32])
        · have h32' : ¬ (c : Int) < 32 := by omega
          by_cases h127 : 127 ≤ c
          · have h127' : (127 : Int) ≤ c := by omega
            by_cases h159 : c ≤ 159
            · have h159' : (c : Int) ≤ 159 := by omega
              simp [h32', h127', h159']
              exact j4 true _ (by simp [h32, h127, h159])
            · have h159' : ¬ (c : Int) ≤ 159 := by omega
              simp [h32', h127', h159']
              exact j4 false _ (by simp [h32, h127, h159])
          · have h127' : ¬ (127 : Int) ≤ c := by omega
            simp [h32', h127']
            exact j4 false _ (by simp [h32, h127])
end Go.Proofs.Ytkjhekflgghbdaa
set_option maxRecDepth 100000
namespace Go.Proofs.Ytkjhekflgghbdaa
open Go.Eng

structure Spn where
  trace : Int
  id : Int
  parent : Int
  start : Int
  len : Int
  service : ByteArray
  name : ByteArray
  fail : Bool
def encS (s : Spn) : List Value := [.int .u64 s.trace, .int .u64 s.id, .int .u64 s.parent, .int .u64 s.start, .int .u64 s.len, .string s.service, .string s.name, .bool s.fail]
def aggS (s : Spn) : Value := .agg #[.int .u64 s.trace, .int .u64 s.id, .int .u64 s.parent, .int .u64 s.start, .int .u64 s.len, .string s.service, .string s.name, .bool s.fail]
theorem encS_len (s : Spn) : (encS s).length = 8 := rfl
theorem encS_one (s : Spn) : ∀ u ∈ encS s, oneC u = true := fun u hu => by
  simp only [encS, List.mem_cons, List.not_mem_nil, or_false] at hu
  rcases hu with rfl | rfl | rfl | rfl | rfl | rfl | rfl | rfl <;> rfl

@[simp] theorem max_int (t1 t2 ty : TypeId) (cs : List Bool) (k : IntKind) (x y : Int) (w : World) (K : KV) : biT P .max #[t1, t2] ty cs [.int k x, .int k y] w K = K (.int k (max x y)) w := by
  have : (if x < y then y else x) = max x y := by split <;> omega
  simp [biT, nextT, builtin, Builtin.max_, Builtin.max2, Sem.run_bind, Result.andThen, Sem.run_pure, this]
@[simp] theorem min_int (t1 t2 ty : TypeId) (cs : List Bool) (k : IntKind) (x y : Int) (w : World) (K : KV) : biT P .min #[t1, t2] ty cs [.int k x, .int k y] w K = K (.int k (min x y)) w := by
  have : (if y < x then y else x) = min x y := by split <;> omega
  simp [biT, nextT, builtin, Builtin.min_, Builtin.min2, Sem.run_bind, Result.andThen, Sem.run_pure, this]

/-! ### The first kind that is not OK -/
def encK (k : Int) : List Value := [.int .i64 k]
def orK (l : List Int) : Int := (l.find? fun k => !decide (k = 0)).getD 0
def OrI (w : World) (l : List Int) : KL := fun x w1 => ∃ (a b : Value) (i : Nat), x = [a, b, .int .i64 (i : Nat)] ∧ w1 = w ∧ i ≤ l.length ∧ ∀ (j : Nat) k, l[j]? = some k → j < i → k = 0
theorem or_ok {w : World} {v : Value} {l : List Int} (hs : Sl w 1 encK v l) (hlen : l.length ≤ 1000) {K : KV} (h : K (.int .i64 (orK l)) w) : callT P F.cmp_Or_api_Kind [v] w K := by
  apply M.cmp_Or_api_Kind.calls
  unfold M.cmp_Or_api_Kind
  simp only [joinT_eq]
  rw [hs.len_ok (by simp)]
  refine ⟨OrI w l, fun x _ => l.length - ms x 2, ⟨_, _, 0, rfl, rfl, Nat.zero_le _, fun j k _ h => by omega⟩, ?_⟩
  rintro x w1 ⟨a, b, i, rfl, rfl, hi, hz⟩
  have gv2 : gv [a, b, .int .i64 (i : Int)] 2 = .int .i64 (i : Int) := rfl
  simp only [gv2]
  by_cases hil : i < l.length
  · obtain ⟨bb, o, cap, rfl, hb, _, hr⟩ := hs.at hil
    have e0 := hr 0 _ rfl
    simp only [Nat.mul_one, Nat.add_zero] at e0
    have hw : IntKind.i64.wrap ((i : Int) + 1) = ((i + 1 : Nat) : Int) := by rw [wrap_id (by omega) (by omega)]; rfl
    simp [hil]
    unfold M.cmp_Or_api_Kind.j2
    simp only [joinT_eq, gv2]
    by_cases hk : l[i] = 0
    · simp [hil, e0, hk, hw]
      refine ⟨⟨_, _, i + 1, rfl, rfl, by omega, fun j k hj hlt => ?_⟩, by simp [ms, gv]; omega⟩
      by_cases hji : j = i
      · subst hji
        rw [List.getElem?_eq_getElem hil] at hj
        cases hj; exact hk
      · exact hz j k hj (by omega)
    · simp [hil, e0, hk]
      have : orK l = l[i] := by
        unfold orK
        have : l.find? (fun k => !decide (k = 0)) = some l[i] := by
          rw [List.find?_eq_some_iff_getElem]
          refine ⟨by simpa using hk, i, hil, rfl, fun j hj => ?_⟩
          have := hz j _ (List.getElem?_eq_getElem (by omega)) hj
          simp [this]
        rw [this]; rfl
      rw [this] at h; exact h
  · simp [hil]
    have : orK l = 0 := by
      unfold orK
      have : l.find? (fun k => !decide (k = 0)) = none := by
        rw [List.find?_eq_none]
        intro k hk
        obtain ⟨j, hj, rfl⟩ := List.mem_iff_getElem.1 hk
        have := hz j _ (List.getElem?_eq_getElem hj) (by omega)
        simp [this]
      rw [this]; rfl
    rw [this] at h; exact h

def rightK (s : Spn) : Int := if s.trace = 0 ∨ s.id = 0 ∨ 1099511627776 < max s.start s.len then 1 else orK [nameK s.service, nameK s.name]
theorem right_ok {w : World} (s : Spn) {K : KV} (h : ∀ w', Fr (fun _ => False) w w' → K (.int .i64 (rightK s)) w') : callT P F.span_Right [aggS s] w K := by
  apply M.span_Right.calls
  unfold M.span_Right aggS
  simp only [joinT_eq, box_eq, cells_agg]
  generalize hwa : w.alloc (.cells #[.int .u64 s.trace, .int .u64 s.id, .int .u64 s.parent, .int .u64 s.start, .int .u64 s.len, .string s.service, .string s.name, .bool s.fail] T.api_Span) = wa
  have hb : wa.heap[w.heap.size]? = some (.cells #[.int .u64 s.trace, .int .u64 s.id, .int .u64 s.parent, .int .u64 s.start, .int .u64 s.len, .string s.service, .string s.name, .bool s.fail] T.api_Span (0, 0)) := by rw [← hwa, alloc_heap, if_pos rfl]
  have hf : Fr (fun _ => False) w wa := by rw [← hwa]; exact (Fr.refl _ w).alloc _
  have c0 := cellOf_of hb 0
  have c1 := cellOf_of hb 1
  have c3 := cellOf_of hb 3
  have c4 := cellOf_of hb 4
  have c5 := cellOf_of hb 5
  have c6 := cellOf_of hb 6
  simp at c0 c1 c3 c4 c5 c6
  unfold rightK at h
  by_cases h0 : s.trace = 0
  · simp [c0, h0] at h ⊢
    exact h wa hf
  · by_cases h1 : s.id = 0
    · simp [c0, c1, h0, h1] at h ⊢
      exact h wa hf
    · by_cases h2 : 1099511627776 < max s.start s.len
      · simp [c0, c1, c3, c4, h0, h1, h2] at h ⊢
        exact h wa hf
      · simp [c0, c1, c3, c4, h0, h1, h2] at h ⊢
        unfold M.span_Right.j0
        simp [c5, c6]
        rw [M.span_Name.fcall]
        refine name_ok _ fun w2 f2 => ?_
        have f2' : Fr (fun _ => False) wa w2 := ⟨f2.size, f2.keep, f2.tape, f2.os, f2.output⟩
        have d6 : cellOf w2 w.heap.size 6 = some (.string s.name) := by rw [cellOf_heap (f2'.keep _ (heap_lt hb) fun h => h)]; exact c6
        simp [d6]
        rw [M.span_Name.fcall]
        refine name_ok _ fun w3 f3 => ?_
        simp
        rw [M.cmp_Or_api_Kind.fcall]
        have hsl : Sl (w3.alloc (.cells #[.int .i64 (nameK s.service), .int .i64 (nameK s.name)] T.api_Kind)) 1 encK (.slice (some ⟨w3.heap.size, 0, none⟩) 2 2) [nameK s.service, nameK s.name] := by
          refine ⟨_, 2, rfl, Nat.le_refl _, by decide, fun i x hi => ⟨_, 0, rfl, by simp, fun j u hu => ?_⟩⟩
          rw [cellOf_new rfl]
          match i with
          | 0 => simp at hi; subst hi; match j with
            | 0 => simpa [encK] using hu
            | j + 1 => simp [encK] at hu
          | 1 => simp at hi; subst hi; match j with
            | 0 => simpa [encK] using hu
            | j + 1 => simp [encK] at hu
          | i + 2 => simp at hi
        exact or_ok hsl (by simp) (h _ (((hf.trans f2').trans f3).alloc _))
end Go.Proofs.Ytkjhekflgghbdaa
set_option maxRecDepth 100000
namespace Go.Proofs.Ytkjhekflgghbdaa
open Go.Eng
theorem partL {t : TypeId} (h : aggB P t = false) {xs : Array Value} {i : Nat} {v : Value} (hv : xs[i]? = some v) (w : World) : (part t xs i).run P w = .ok v w := by
  unfold part
  rw [Sem.run_bind, run_isAgg h]
  simp [Result.andThen, hv, Sem.run_pure]
theorem eqF {d : Nat} {xs ys : Array Value} {f : Field} {fs : List Field} {w : World} {u v : Value} {b c : Bool} (hn : f.name ≠ "_") (h : aggB P f.type = false) (hx : xs[f.offset]? = some u) (hy : ys[f.offset]? = some v) (he : (Op.equalIn d f.type u v).run P w = .ok b w) (hr : (Op.eqFields d xs ys fs).run P w = .ok c w) : (Op.eqFields d xs ys (f :: fs)).run P w = .ok (b && c) w := by
  simp only [Op.eqFields]
  rw [if_pos hn]
  simp only [Sem.run_bind, partL h hx, partL h hy, he, Result.andThen]
  cases b
  · rfl
  · simpa using hr
end Go.Proofs.Ytkjhekflgghbdaa
set_option maxRecDepth 100000
namespace Go.Proofs.Ytkjhekflgghbdaa
open Go.Eng

def aggM (m : Mem) : Value := .agg #[.int .u64 m.id, .int .u64 m.inc, .int .i64 m.st]
abbrev SlM (w : World) (v : Value) (l : List Mem) : Prop := Sl w 3 encM v l
theorem ldM {w : World} {b i : Nat} {m : Mem} (h : ∀ k v, (encM m)[k]? = some v → cellOf w b (i + k) = some v) (K : KV) : ldN P 3 b i w K = K (aggM m) w := ldN_eq (encM m) 3 rfl h K
/-! ### rise -/
def riseF : Int → List Mem → Bool
  | _, [] => true
  | last, m :: l => decide (last < m.id) && riseF m.id l
def RsI (W : World) (l : List Mem) : KL := fun x w1 => ∃ (u0 u1 : Value) (last : Int) (i : Nat), x = [u0, u1, .int .u64 last, .int .i64 (i : Nat)] ∧ i ≤ l.length ∧ riseF 0 l = riseF last (l.drop i) ∧ Fr (fun _ => False) W w1
theorem callId {w : World} (m : Mem) {K : KV} (h : ∀ w', Fr (fun _ => False) w w' → K (.int .u64 m.id) w') : callRT P (.func (.func F.message_right_2) #[] #[]) [aggM m] w K := by
  rw [M.message_right_2.rcall]
  apply M.message_right_2.calls
  unfold M.message_right_2 aggM
  simp
  have c0 : cellOf (w.alloc (.cells #[.int .u64 m.id, .int .u64 m.inc, .int .i64 m.st] T.api_Member)) w.heap.size 0 = some (.int .u64 m.id) := by rw [cellOf_of (by rw [alloc_heap, if_pos rfl])]; rfl
  simp [c0]
  exact h _ ((Fr.refl _ w).alloc _)
theorem rise_ok {w : World} {v : Value} {l : List Mem} (hs : SlM w v l) (hlen : l.length ≤ 1000000) {K : KV} (h : ∀ w', Fr (fun _ => False) w w' → K (.bool (riseF 0 l && (decide (0 < l.length) && decide (l.length ≤ 16)))) w') :
    fcallT P F.message_rise_api_Member [v, .int .i64 16, .func (.func F.message_right_2) #[] #[]] w K := by
  rw [M.message_rise_api_Member.fcall]
  apply M.message_rise_api_Member.calls
  unfold M.message_rise_api_Member
  simp only [joinT_eq]
  rw [hs.len_ok (by kernel_rfl)]
  refine ⟨RsI w l, fun x _ => l.length - ms x 3, ⟨_, _, 0, 0, rfl, Nat.zero_le _, rfl, Fr.refl _ _⟩, ?_⟩
  rintro x w1 ⟨u0, u1, last, i, rfl, hi, hr, f1⟩
  have q2 : gv [u0, u1, .int .u64 last, .int .i64 (i : Nat)] 2 = .int .u64 last := rfl
  have q3 : gv [u0, u1, .int .u64 last, .int .i64 (i : Nat)] 3 = .int .i64 (i : Nat) := rfl
  have hs1 := hs.fr f1 fun _ _ _ h => h
  simp only [q3]
  by_cases hil : i < l.length
  · have hil' : (i : Int) < l.length := by omega
    simp [hil']
    unfold M.message_rise_api_Member.j2
    obtain ⟨b, o, cap, hv, hb, _, hc⟩ := hs1.at hil
    have hld : ∀ K, ldN P 3 b (o + i * 3) w1 K = K (aggM l[i]) w1 := fun K => ldM hc K
    have hwi : IntKind.i64.wrap ((i : Int) + 1) = ((i + 1 : Nat) : Int) := by rw [wrap_id (by omega) (by omega)]; rfl
    have hdrop : l.drop i = l[i] :: l.drop (i + 1) := List.drop_eq_getElem_cons hil
    rw [hdrop] at hr
    generalize l[i] = m at *
    subst hv
    simp [q2, q3, hil, hld]
    have e1 : aggM m = .agg #[.int .u64 m.id, .int .u64 m.inc, .int .i64 m.st] := rfl
    rw [e1]
    simp
    have hba : (w1.alloc (.cells #[.int .u64 0, .int .u64 0, .int .i64 0] T.api_Member)).heap[w1.heap.size]? = some (.cells #[.int .u64 0, .int .u64 0, .int .i64 0] T.api_Member (0, 0)) := by rw [alloc_heap, if_pos rfl]
    refine stN_all (vs := [.int .u64 m.id, .int .u64 m.inc, .int .i64 m.st]) hba rfl (by simp) fun w2 b2 f2 => ?_
    have f2' : Fr (fun _ => False) w1 w2 := ((Fr.refl _ w1).alloc _).trans' f2 fun y hy he => by subst he; omega
    have hld2 : ∀ {w'}, Fr (fun _ => False) w2 w' → ∀ K, ldN P 3 w1.heap.size 0 w' K = K (aggM m) w' := fun f K => by
      have b3 := f.heap b2 fun h => h
      exact ldM (m := m) (i := 0) (fun k v hk => by rw [cellOf_of b3, Nat.zero_add, List.getElem?_toArray]; exact hk) K
    rw [hld2 (Fr.refl _ _)]
    refine callId m fun w3 f3 => ?_
    simp
    by_cases hle : m.id ≤ last
    · have hlt : ¬ last < m.id := by omega
      simp [hle]
      have hf : riseF 0 l = false := by rw [hr]; unfold riseF; simp [hlt]
      rw [hf] at h
      exact h w3 ((f1.trans f2').trans f3)
    · have hlt : last < m.id := by omega
      simp [hle]
      rw [hld2 f3]
      refine callId m fun w4 f4 => ?_
      simp [hwi]
      refine ⟨⟨_, _, m.id, i + 1, rfl, by omega, ?_, ((f1.trans f2').trans f3).trans f4⟩, by simp [ms, gv]; omega⟩
      rw [hr]
      show (decide (last < m.id) && riseF m.id (l.drop (i + 1))) = _
      simp [hlt]
  · have hil' : ¬ (i : Int) < l.length := by omega
    have hr1 : riseF 0 l = true := by rw [hr, List.drop_of_length_le (by omega)]; rfl
    simp [hil']
    unfold M.message_rise_api_Member.j0
    rw [hs1.len_ok (by kernel_rfl)]
    rw [hr1] at h
    by_cases h0 : 0 < l.length
    · have h0' : (0 : Int) < l.length := by omega
      have hx : decide ((l.length : Int) ≤ 16) = decide (l.length ≤ 16) := by
        by_cases h16 : l.length ≤ 16
        · rw [decide_eq_true h16, decide_eq_true (by omega)]
        · rw [decide_eq_false h16, decide_eq_false (by omega)]
      simp [h0]
      rw [hs1.len_ok (by kernel_rfl)]
      simp
      rw [hx]
      have := h w1 f1
      simpa [h0] using this
    · simp [h0]
      have := h w1 f1
      simpa [h0] using this

/-! ### The first of a kind -/
def FsI' (W : World) (p : Mem → Bool) (l : List Mem) : KL := fun x w1 => ∃ (u0 u1 : Value) (i : Nat), x = [u0, u1, .int .i64 (i : Nat)] ∧ i ≤ l.length ∧ (∀ j (h : j < l.length), j < i → p l[j] = false) ∧ Fr (fun _ => False) W w1
theorem index_ok {w : World} {v fv : Value} {l : List Mem} {p : Mem → Bool} (hs : SlM w v l) (hlen : l.length ≤ 1000000) (hp : ∀ m w1, Fr (fun _ => False) w w1 → ∀ {K : KV}, (∀ w', Fr (fun _ => False) w1 w' → K (.bool (p m)) w') → callRT P fv [aggM m] w1 K) {K : KV}
    (h1 : ∀ w' i (hi : i < l.length), p l[i] = true → (∀ j (h : j < l.length), j < i → p l[j] = false) → Fr (fun _ => False) w w' → K (.int .i64 (i : Nat)) w')
    (h0 : ∀ w', (∀ m ∈ l, p m = false) → Fr (fun _ => False) w w' → K (.int .i64 (-1)) w') : fcallT P F.slices_IndexFunc_api_Member_api_Member [v, fv] w K := by
  rw [M.slices_IndexFunc_api_Member_api_Member.fcall]
  apply M.slices_IndexFunc_api_Member_api_Member.calls
  unfold M.slices_IndexFunc_api_Member_api_Member
  simp only [joinT_eq]
  rw [hs.len_ok (by kernel_rfl)]
  refine ⟨FsI' w p l, fun x _ => l.length - ms x 2, ⟨_, _, 0, rfl, Nat.zero_le _, fun _ _ h => by omega, Fr.refl _ _⟩, ?_⟩
  rintro x w1 ⟨u0, u1, i, rfl, hi, hz, f1⟩
  have q2 : gv [u0, u1, .int .i64 (i : Nat)] 2 = .int .i64 (i : Nat) := rfl
  have hs1 := hs.fr f1 fun _ _ _ h => h
  simp only [q2]
  by_cases hil : i < l.length
  · have hil' : (i : Int) < l.length := by omega
    simp [hil']
    unfold M.slices_IndexFunc_api_Member_api_Member.j2
    obtain ⟨b, o, cap, hv, hb, _, hc⟩ := hs1.at hil
    have hld : ∀ K, ldN P 3 b (o + i * 3) w1 K = K (aggM l[i]) w1 := fun K => ldM hc K
    have hwi : IntKind.i64.wrap ((i : Int) + 1) = ((i + 1 : Nat) : Int) := by rw [wrap_id (by omega) (by omega)]; rfl
    subst hv
    simp [q2, hil, hld]
    refine hp l[i] w1 f1 fun w2 f2 => ?_
    cases hpi : p l[i] with
    | true => simp; exact h1 w2 i hil hpi hz (f1.trans f2)
    | false =>
      simp [hwi]
      refine ⟨⟨_, _, i + 1, rfl, by omega, fun j hj hji => ?_, f1.trans f2⟩, by simp [ms, gv]; omega⟩
      by_cases hje : j = i
      · subst hje; exact hpi
      · exact hz j hj (by omega)
  · have hil' : ¬ (i : Int) < l.length := by omega
    simp [hil']
    refine h0 w1 (fun m hm => ?_) f1
    obtain ⟨j, hj, rfl⟩ := List.getElem_of_mem hm
    exact hz j hj (by omega)
def oddM (m : Mem) : Bool := decide (m.inc = 0) || (decide (m.st < 0) || decide (2 < m.st))
theorem callOdd {w : World} (m : Mem) {K : KV} (h : ∀ w', Fr (fun _ => False) w w' → K (.bool (oddM m)) w') : callRT P (.func (.func F.message_right_1) #[] #[]) [aggM m] w K := by
  rw [M.message_right_1.rcall]
  apply M.message_right_1.calls
  unfold M.message_right_1 aggM
  simp
  have hb : (w.alloc (.cells #[.int .u64 m.id, .int .u64 m.inc, .int .i64 m.st] T.api_Member)).heap[w.heap.size]? = some (.cells #[.int .u64 m.id, .int .u64 m.inc, .int .i64 m.st] T.api_Member (0, 0)) := by rw [alloc_heap, if_pos rfl]
  have c1 : cellOf (w.alloc (.cells #[.int .u64 m.id, .int .u64 m.inc, .int .i64 m.st] T.api_Member)) w.heap.size 1 = some (.int .u64 m.inc) := by rw [cellOf_of hb]; rfl
  have c2 : cellOf (w.alloc (.cells #[.int .u64 m.id, .int .u64 m.inc, .int .i64 m.st] T.api_Member)) w.heap.size 2 = some (.int .i64 m.st) := by rw [cellOf_of hb]; rfl
  have fin := h _ ((Fr.refl _ w).alloc (.cells #[.int .u64 m.id, .int .u64 m.inc, .int .i64 m.st] T.api_Member))
  unfold oddM at fin
  generalize w.alloc (.cells #[.int .u64 m.id, .int .u64 m.inc, .int .i64 m.st] T.api_Member) = w1 at *
  by_cases h1 : m.inc = 0
  · simp [c1, c2, h1] at fin ⊢; exact fin
  by_cases h2 : m.st < 0
  · simp [c1, c2, h1, h2] at fin ⊢; exact fin
  simp [c1, c2, h1, h2] at fin ⊢; exact fin
theorem containsM_ok {w : World} {v : Value} {l : List Mem} (hs : SlM w v l) (hlen : l.length ≤ 1000000) {K : KV} (h : ∀ w', Fr (fun _ => False) w w' → K (.bool (l.any oddM)) w') : fcallT P F.slices_ContainsFunc_api_Member_api_Member [v, .func (.func F.message_right_1) #[] #[]] w K := by
  rw [M.slices_ContainsFunc_api_Member_api_Member.fcall]
  apply M.slices_ContainsFunc_api_Member_api_Member.calls
  unfold M.slices_ContainsFunc_api_Member_api_Member
  refine index_ok (p := oddM) hs hlen (fun m w1 _ _ hK => callOdd m hK) (fun w' i hi hpi _ f => ?_) fun w' hn f => ?_
  · have : l.any oddM = true := List.any_eq_true.2 ⟨l[i], List.getElem_mem hi, hpi⟩
    rw [this] at h
    have h0 : (0 : Int) ≤ (i : Nat) := by omega
    simp [h0]
    exact h w' f
  · have : l.any oddM = false := by
      rw [List.any_eq_false]
      intro m hm; rw [hn m hm]; simp
    rw [this] at h
    simp
    exact h w' f
/-! ### Clones, equality -/
theorem cloneM_ok {w : World} {v : Value} {l : List Mem} (hs : SlM w v l) (hlen : l.length ≤ 1000000) {K : KV} (h : ∀ w' v', SlM w' v' l → (∀ x, v'.ownBlock = some x → w.heap.size ≤ x) → Fr (fun _ => False) w w' → K v' w') : fcallT P F.slices_Clone_api_Member_api_Member [v] w K := by
  rw [M.slices_Clone_api_Member_api_Member.fcall]
  apply M.slices_Clone_api_Member_api_Member.calls
  unfold M.slices_Clone_api_Member_api_Member
  simp only [joinT_eq]
  have hs' := hs
  obtain ⟨a, cap, rfl, _⟩ := hs'
  cases a with
  | none =>
    simp
    have hz : l = [] := by
      obtain ⟨a', cap', hv, _, _, h3⟩ := hs
      cases l with
      | nil => rfl
      | cons x l =>
        obtain ⟨b, o, ha, _⟩ := h3 0 x rfl
        injection hv with h1 _ _
        rw [← h1] at ha; cases ha
    subst hz
    exact h w _ Sl.nil (fun x hx => by simp [Value.ownBlock] at hx) (Fr.refl _ _)
  | some a =>
    simp
    have f0 : Fr (fun _ => False) w (w.alloc (.cells #[] T.api_Member)) := (Fr.refl _ w).alloc _
    refine app_sl et.sl_api_Member encM_len encM_one (base := w.heap.size) (Ow.empty (by rw [alloc_heap, if_pos rfl]) (Nat.le_refl _)) (hs.fr f0 fun _ _ _ h => h) (by simp; omega) (by decide) (by simp) _ fun v3 w3 o3 f3 g3 => ?_
    rw [List.nil_append] at o3
    exact h w3 v3 (o3.sl encM_len) (fun x hx => (o3.lt hx).1) (f0.trans' f3 fun b hb hv => by simp [Value.ownBlock] at hv; omega)
end Go.Proofs.Ytkjhekflgghbdaa
set_option maxRecDepth 100000
namespace Go.Proofs.Ytkjhekflgghbdaa
open Go.Eng
/-! ### Equality of members -/
theorem equal_mem (x y : Mem) (w : World) : (Op.equalIn 10000 T.api_Member (aggM x) (aggM y)).run P w = .ok (x.id == y.id && (x.inc == y.inc && (x.st == y.st))) w := by
  have hS : P.underlying T.api_Member = some (.struct (P.fieldsOf T.api_Member)) := by kernel_rfl
  have hp : P.stoodInHeld T.api_Member = false := by kernel_rfl
  unfold aggM
  rw [show (10000 : Nat) = 9999 + 1 from rfl, run_equalIn_agg w 9999 T.api_Member _ _ hS hp]
  simp only [Program.fieldsOf, show P.underlying T.api_Member = _ from Try.underlying63]
  have u22 : P.underlying T.uint64 = some (.int .u64) := by kernel_rfl
  have u3 : P.underlying T.int = some (.int .i64) := by kernel_rfl
  have a22 : aggB P T.uint64 = false := by kernel_rfl
  have a3 : aggB P T.int = false := by kernel_rfl
  refine eqF (by decide) a22 rfl rfl (run_equalIn_int w 9998 T.uint64 _ _ _ _ u22) ?_
  refine eqF (by decide) a22 rfl rfl (run_equalIn_int w 9998 T.uint64 _ _ _ _ u22) ?_
  have := eqF (fs := []) (d := 9999) (xs := #[.int .u64 x.id, .int .u64 x.inc, .int .i64 x.st]) (ys := #[.int .u64 y.id, .int .u64 y.inc, .int .i64 y.st]) (f := { name := "State", type := T.int, offset := 2, embedded := false, tag := "", pkgPath := "", byteOffset := 16 }) (w := w) (c := true) (by decide) a3 rfl rfl (run_equalIn_int w 9998 T.int _ _ _ _ u3) rfl
  simpa using this
theorem memEq (x y : Mem) : (x.id == y.id && (x.inc == y.inc && (x.st == y.st))) = decide (x = y) := by
  obtain ⟨a, b, c⟩ := x
  obtain ⟨a', b', c'⟩ := y
  simp only [Mem.mk.injEq]
  by_cases h1 : a = a' <;> by_cases h2 : b = b' <;> by_cases h3 : c = c' <;> simp [h1, h2, h3]
theorem neqMem (rx ry : Operand) (x y : Mem) (w : World) (K : KV) : binT P .neq T.api_Member rx ry (aggM x) (aggM y) w K = K (.bool !(decide (x = y))) w := by
  have hm : P.eqGuardType P.depth T.api_Member = false := by kernel_rfl
  have hg := run_eqGuard_agg (P := P) w .neq T.api_Member rx ry #[.int .u64 x.id, .int .u64 x.inc, .int .i64 x.st] #[.int .u64 y.id, .int .u64 y.inc, .int .i64 y.st] hm
  have he := equal_mem x y w
  rw [memEq] at he
  unfold binT semT
  unfold aggM at he ⊢
  rw [Sem.run_bind, hg]
  simp only [Result.andThen]
  rw [run_neq_struct, he]
  rfl
theorem eqlMem (rx ry : Operand) (x y : Mem) (w : World) (K : KV) : binT P .eql T.api_Member rx ry (aggM x) (aggM y) w K = K (.bool (decide (x = y))) w := by
  have hm : P.eqGuardType P.depth T.api_Member = false := by kernel_rfl
  have hg := run_eqGuard_agg (P := P) w .eql T.api_Member rx ry #[.int .u64 x.id, .int .u64 x.inc, .int .i64 x.st] #[.int .u64 y.id, .int .u64 y.inc, .int .i64 y.st] hm
  have he := equal_mem x y w
  rw [memEq] at he
  unfold binT semT
  unfold aggM at he ⊢
  rw [Sem.run_bind, hg]
  simp only [Result.andThen]
  rw [run_eql_struct, he]
  rfl
def EmI (W : World) (l1 l2 : List Mem) : KL := fun x w1 => ∃ (u0 u1 : Value) (i : Nat), x = [u0, u1, .int .i64 (i : Nat)] ∧ i ≤ l1.length ∧ (∀ j, j < i → l1[j]? = l2[j]?) ∧ Fr (fun _ => False) W w1
theorem equalM_ok {w : World} {v1 v2 : Value} {l1 l2 : List Mem} (s1 : SlM w v1 l1) (s2 : SlM w v2 l2) (hlen : l1.length ≤ 1000000) {K : KV} (h : ∀ w', Fr (fun _ => False) w w' → K (.bool (decide (l1 = l2))) w') : fcallT P F.slices_Equal_api_Member_api_Member [v1, v2] w K := by
  rw [M.slices_Equal_api_Member_api_Member.fcall]
  apply M.slices_Equal_api_Member_api_Member.calls
  unfold M.slices_Equal_api_Member_api_Member
  simp only [joinT_eq]
  rw [s1.len_ok (by kernel_rfl), s2.len_ok (by kernel_rfl)]
  by_cases hne : l1.length = l2.length
  · simp [hne]
    unfold M.slices_Equal_api_Member_api_Member.j0
    simp only [joinT_eq]
    rw [s1.len_ok (by kernel_rfl)]
    refine ⟨EmI w l1 l2, fun x _ => l1.length - ms x 2, ⟨_, _, 0, rfl, Nat.zero_le _, fun _ h => by omega, Fr.refl _ _⟩, ?_⟩
    rintro x w1 ⟨u0, u1, i, rfl, hi, hz, f1⟩
    have q2 : gv [u0, u1, .int .i64 (i : Nat)] 2 = .int .i64 (i : Nat) := rfl
    have t1 := s1.fr f1 fun _ _ _ h => h
    have t2 := s2.fr f1 fun _ _ _ h => h
    simp only [q2]
    by_cases hil : i < l1.length
    · have hil' : (i : Int) < l1.length := by omega
      have hil2 : i < l2.length := by omega
      simp [hil']
      unfold M.slices_Equal_api_Member_api_Member.j3
      obtain ⟨b1, o1, cap1, hv1, _, _, e1⟩ := (s1.fr (f1.dr 1) fun _ _ _ h => h).at hil
      obtain ⟨b2, o2, cap2, hv2, _, _, e2⟩ := (s2.fr (f1.dr 1) fun _ _ _ h => h).at hil2
      have hld1 : ∀ K, ldN P 3 b1 (o1 + i * 3) (Eng.dr w1 1) K = K (aggM l1[i]) (Eng.dr w1 1) := fun K => ldM e1 K
      have hld2 : ∀ K, ldN P 3 b2 (o2 + i * 3) (Eng.dr w1 1) K = K (aggM l2[i]) (Eng.dr w1 1) := fun K => ldM e2 K
      have hwi : IntKind.i64.wrap ((i : Int) + 1) = ((i + 1 : Nat) : Int) := by rw [wrap_id (by omega) (by omega)]; rfl
      subst hv1 hv2
      simp [q2, hil, hil2, hld1, hld2, neqMem]
      by_cases heq : l1[i] = l2[i]
      · simp [heq, hwi]
        refine ⟨⟨_, _, i + 1, rfl, by omega, fun j hj => ?_, f1.dr 1⟩, by simp [ms, gv]; omega⟩
        by_cases hji : j = i
        · subst hji
          rw [List.getElem?_eq_getElem hil, List.getElem?_eq_getElem hil2, heq]
        · exact hz j (by omega)
      · simp [heq]
        have hf : decide (l1 = l2) = false := decide_eq_false fun h => heq (by subst h; rfl)
        rw [hf] at h
        exact h _ (f1.dr 1)
    · have hil' : ¬ (i : Int) < l1.length := by omega
      simp [hil']
      have hf : decide (l1 = l2) = true := decide_eq_true (List.ext_getElem? fun j => by
        by_cases hj : j < i
        · exact hz j hj
        · rw [List.getElem?_eq_none (by omega), List.getElem?_eq_none (by omega)])
      rw [hf] at h
      exact h _ f1
  · have hf : decide (l1 = l2) = false := decide_eq_false fun h => hne (by rw [h])
    rw [hf] at h
    have hne' : ¬ (l1.length : Int) = l2.length := by omega
    simp [hne']
    exact h w (Fr.refl _ _)
theorem equalS_nil {w : World} {K : KV} (h : K (.bool true) w) : fcallT P F.slices_Equal_api_Span_api_Span [.slice none 0 0, .slice none 0 0] w K := by
  rw [M.slices_Equal_api_Span_api_Span.fcall]
  apply M.slices_Equal_api_Span_api_Span.calls
  unfold M.slices_Equal_api_Span_api_Span
  have hl : ∀ K', biT P .len #[T.sl_api_Span] T.int [false] [.slice none 0 0] w K' = K' (.int .i64 0) w := fun K' => (Sl.nil (w := w) (enc := encS) (sz := 8)).len_ok (by kernel_rfl) [false]
  simp only [joinT_eq]
  rw [hl, hl]
  simp
  unfold M.slices_Equal_api_Span_api_Span.j0
  simp only [joinT_eq]
  rw [hl]
  refine ⟨fun x w1 => w1 = w ∧ ∃ u0 u1, x = [u0, u1, .int .i64 0], fun _ _ => 0, ⟨rfl, _, _, rfl⟩, ?_⟩
  rintro x w1 ⟨rfl, u0, u1, rfl⟩
  have q : ∀ a b c : Value, gv [a, b, c] 2 = c := fun _ _ _ => rfl
  simp [q]
  exact h
theorem equalU_nil {w : World} {K : KV} (h : K (.bool true) w) : fcallT P F.slices_Equal_uint64_uint64 [.slice none 0 0, .slice none 0 0] w K := by
  rw [M.slices_Equal_uint64_uint64.fcall]
  apply M.slices_Equal_uint64_uint64.calls
  unfold M.slices_Equal_uint64_uint64
  have hl : ∀ K', biT P .len #[T.sl_uint64] T.int [false] [.slice none 0 0] w K' = K' (.int .i64 0) w := fun K' => (Sl.nil (w := w) (enc := encB) (sz := 1)).len_ok (by kernel_rfl) [false]
  simp only [joinT_eq]
  rw [hl, hl]
  simp
  unfold M.slices_Equal_uint64_uint64.j0
  simp only [joinT_eq]
  rw [hl]
  refine ⟨fun x w1 => w1 = w ∧ ∃ u0 u1, x = [u0, u1, .int .i64 0], fun _ _ => 0, ⟨rfl, _, _, rfl⟩, ?_⟩
  rintro x w1 ⟨rfl, u0, u1, rfl⟩
  have q : ∀ a b c : Value, gv [a, b, c] 2 = c := fun _ _ _ => rfl
  simp [q]
  exact h
theorem ta_spans (v : Value) (w : World) (K : KV) : taT P (.iface T.message_Members v) T.any T.message_Spans true w K = K (.tuple #[.agg #[.int .u64 0, .bool false, .slice none 0 0], .bool false]) w := by refine Eq.trans ?_ rfl; kernel_rfl
theorem eq_nilI (v : Value) (rx ry : Operand) (w : World) (K : KV) : binT P .eql T.any rx ry (.iface T.message_Members v) .nilIface w K = K (.bool false) w := by refine Eq.trans ?_ rfl; kernel_rfl
theorem eq_bal0 (rx ry : Operand) (w : World) (K : KV) : binT P .eql T.api_Ballot rx ry (.agg #[.int .u64 0, .int .u64 0]) (.agg #[.int .u64 0, .int .u64 0]) w K = K (.bool true) w := by refine Eq.trans ?_ rfl; kernel_rfl
theorem res_pkt (b : Nat) (w : World) (K : KV) : resT P T.api_Packet (.pointer (some ⟨b, 0, none⟩)) w K = ldN P 11 b 0 w K := by refine Eq.trans ?_ rfl; kernel_rfl
/-! ### A packet of members -/
def pktC (v : Value) : List Value := [.int .i64 3, .int .u64 0, .int .u64 0, .int .u64 0, .int .u64 0, .int .u64 0, .int .i64 0, .bool false, .slice none 0 0, v, .slice none 0 0]
theorem ldPkt {w : World} {b : Nat} {v : Value} {f : Nat × Nat} (h : w.heap[b]? = some (.cells (pktC v).toArray T.api_Packet f)) (K : KV) : ldN P 11 b 0 w K = K (.agg (pktC v).toArray) w :=
  ldN_eq (pktC v) 11 rfl (fun k u hk => by rw [cellOf_of h, Nat.zero_add, List.getElem?_toArray]; exact hk) K
theorem pkt_at {w : World} {b : Nat} {v : Value} {f : Nat × Nat} (h : w.heap[b]? = some (.cells (pktC v).toArray T.api_Packet f)) : ∀ (j : Nat) (u : Value), (pktC v)[j]? = some u → cellOf w b j = some u := fun j u hj => by
  rw [cellOf_of h, List.getElem?_toArray]; exact hj
def mright (l : List Mem) : Bool := (riseF 0 l && (decide (0 < l.length) && decide (l.length ≤ 16))) && !(l.any oddM)
theorem thing_ok {w : World} {v : Value} {l : List Mem} (hs : SlM w v l) (hlen : l.length ≤ 1000000) {K : KV} (h : ∀ w' v', SlM w' v' l → Fr (fun _ => False) w w' → K (.iface T.message_Members (.agg #[v'])) w') : fcallT P F.message_thing [.agg (pktC v).toArray] w K := by
  rw [M.message_thing.fcall]
  apply M.message_thing.calls
  unfold M.message_thing
  have hb : (w.alloc (.cells (pktC v).toArray T.api_Packet)).heap[w.heap.size]? = some (.cells (pktC v).toArray T.api_Packet (0, 0)) := by rw [alloc_heap, if_pos rfl]
  have f1 : Fr (fun _ => False) w (w.alloc (.cells (pktC v).toArray T.api_Packet)) := (Fr.refl _ w).alloc _
  have c0 := pkt_at hb 0 _ rfl
  have c9 := pkt_at hb 9 _ rfl
  have hs1 := hs.fr f1 fun _ _ _ h => h
  simp
  generalize w.alloc (.cells (pktC v).toArray T.api_Packet) = w1 at *
  simp [c0]
  unfold M.message_thing.j1
  obtain ⟨a, c, hv, _⟩ := id hs1
  have c9' := c9
  rw [hv] at c9'
  simp [c0, c9']
  rw [← hv]
  refine cloneM_ok hs1 hlen fun w2 v2 s2 _ f2 => ?_
  obtain ⟨a2, c2, hv2, _⟩ := id s2
  have fin := h w2 v2 s2 (f1.trans f2)
  rw [hv2] at fin ⊢
  simp
  exact fin
theorem mem_box {w : World} {v : Value} {l : List Mem} (hs : SlM w v l) {K : KV} (h : ∀ w' b, w'.heap[b]? = some (.cells #[v] T.message_Members (0, 0)) → Fr (fun _ => False) w w' → K (.pointer (some ⟨b, 0, none⟩)) w') : alT P T.message_Members w fun t w => stT P T.message_Members t (.agg #[v]) w fun _ w => K t w := by
  obtain ⟨a, c, hv, _⟩ := id hs
  rw [hv] at h ⊢
  simp
  have hba : (w.alloc (.cells #[.slice none 0 0] T.message_Members)).heap[w.heap.size]? = some (.cells #[.slice none 0 0] T.message_Members (0, 0)) := by rw [alloc_heap, if_pos rfl]
  refine stN_all (vs := [.slice a l.length c]) hba rfl (by simp) fun w2 b2 f2 => ?_
  exact h w2 _ b2 (((Fr.refl _ w).alloc _).trans' f2 fun y hy he => by subst he; omega)
theorem mright_ok {w : World} {v : Value} {l : List Mem} (hs : SlM w v l) (hlen : l.length ≤ 1000000) {K : KV} (h : ∀ w', Fr (fun _ => False) w w' → K (.bool (mright l)) w') : fcallT P F.message_right [.iface T.message_Members (.agg #[v])] w K := by
  rw [M.message_right.fcall]
  apply M.message_right.calls
  unfold M.message_right
  simp
  have hba : (w.alloc (.cells #[.int .u64 0, .int .u64 0] T.api_Ballot)).heap[w.heap.size]? = some (.cells #[.int .u64 0, .int .u64 0] T.api_Ballot (0, 0)) := by rw [alloc_heap, if_pos rfl]
  refine stN_all (vs := [.int .u64 0, .int .u64 0]) hba rfl (by simp) fun w2 b2 f2 => ?_
  have f2' : Fr (fun _ => False) w w2 := ((Fr.refl _ w).alloc _).trans' f2 fun y hy he => by subst he; omega
  have hs2 := hs.fr f2' fun _ _ _ h => h
  rw [ta_spans]
  obtain ⟨a, c, hv, _⟩ := id hs2
  have hcell : ∀ {w'}, Fr (fun _ => False) w2 w' → SlM w' v l := fun f => hs2.fr f fun _ _ _ h => h
  rw [hv]
  simp
  have hbm : (w2.alloc (.cells #[.slice none 0 0] T.message_Members)).heap[w2.heap.size]? = some (.cells #[.slice none 0 0] T.message_Members (0, 0)) := by rw [alloc_heap, if_pos rfl]
  refine stN_all (vs := [.slice a l.length c]) hbm rfl (by simp) fun w3 b3 f3 => ?_
  have f3' : Fr (fun _ => False) w2 w3 := ((Fr.refl _ w2).alloc _).trans' f3 fun y hy he => by subst he; omega
  have c0 : cellOf w3 w2.heap.size 0 = some (.slice a l.length c) := by rw [cellOf_of b3]; rfl
  simp [c0]
  rw [← hv]
  refine rise_ok (hcell f3') hlen fun w4 f4 => ?_
  have c4 : cellOf w4 w2.heap.size 0 = some (.slice a l.length c) := by rw [cellOf_of (f4.heap b3 fun h => h)]; rfl
  unfold mright at h
  generalize (riseF 0 l && (decide (0 < l.length) && decide (l.length ≤ 16))) = r at *
  cases r with
  | false =>
    simp
    exact h w4 ((f2'.trans f3').trans f4)
  | true =>
    simp [c4]
    rw [← hv]
    refine containsM_ok (hcell (f3'.trans f4)) hlen fun w5 f5 => ?_
    simp
    exact h w5 (((f2'.trans f3').trans f4).trans f5)
theorem packetM_ok {w : World} {v : Value} {l : List Mem} (hs : SlM w v l) (hlen : l.length ≤ 1000000) {K : KV} (h : ∀ w' v', SlM w' v' l → Fr (fun _ => False) w w' → K (.agg (pktC v').toArray) w') : fcallT P F.message_packet [.iface T.message_Members (.agg #[v])] w K := by
  rw [M.message_packet.fcall]
  apply M.message_packet.calls
  unfold M.message_packet
  simp
  rw [ta_spans]
  generalize hw1 : w.alloc (.cells #[.int .i64 0, .int .u64 0, .int .u64 0, .int .u64 0, .int .u64 0, .int .u64 0, .int .i64 0, .bool false, .slice none 0 0, .slice none 0 0, .slice none 0 0] T.api_Packet) = w1
  have hb1 : w1.heap[w.heap.size]? = some (.cells #[.int .i64 0, .int .u64 0, .int .u64 0, .int .u64 0, .int .u64 0, .int .u64 0, .int .i64 0, .bool false, .slice none 0 0, .slice none 0 0, .slice none 0 0] T.api_Packet (0, 0)) := by rw [← hw1, alloc_heap, if_pos rfl]
  have f1 : Fr (fun _ => False) w w1 := by rw [← hw1]; exact (Fr.refl _ w).alloc _
  have hs1 := hs.fr f1 fun _ _ _ h => h
  obtain ⟨a, c, hv, _⟩ := id hs1
  have hcell : ∀ {w'}, Fr (fun _ => False) w1 w' → SlM w' v l := fun f => hs1.fr f fun _ _ _ h => h
  rw [hv]
  simp
  have hbm : (w1.alloc (.cells #[.slice none 0 0] T.message_Members)).heap[w1.heap.size]? = some (.cells #[.slice none 0 0] T.message_Members (0, 0)) := by rw [alloc_heap, if_pos rfl]
  refine stN_all (vs := [.slice a l.length c]) hbm rfl (by simp) fun w3 b3 f3 => ?_
  have f3' : Fr (fun _ => False) w1 w3 := ((Fr.refl _ w1).alloc _).trans' f3 fun y hy he => by subst he; omega
  have c0 : cellOf w3 w1.heap.size 0 = some (.slice a l.length c) := by rw [cellOf_of b3]; rfl
  simp [c0]
  rw [← hv]
  refine cloneM_ok (hcell f3') hlen fun w4 v4 s4 n4 f4 => ?_
  obtain ⟨a4, c4, hv4, _⟩ := id s4
  have hb4 := (f3'.trans f4).heap hb1 fun h => h
  rw [hv4]
  simp
  refine stN_all (vs := pktC (.slice a4 l.length c4)) hb4 rfl (by simp [pktC]) fun w5 b5 f5 => ?_
  rw [ldPkt b5]
  have e : Value.agg (pktC (.slice a4 l.length c4)).toArray = .agg #[.int .i64 3, .int .u64 0, .int .u64 0, .int .u64 0, .int .u64 0, .int .u64 0, .int .i64 0, .bool false, .slice none 0 0, .slice a4 l.length c4, .slice none 0 0] := rfl
  rw [e]
  simp
  refine stN_all (vs := pktC (.slice a4 l.length c4)) b5 rfl (by simp [pktC]) fun w6 b6 f6 => ?_
  rw [res_pkt, ldPkt b6]
  simp
  have hlt1 : w.heap.size < w1.heap.size := (Array.getElem?_eq_some_iff.1 hb1).1
  have hs31 := f3'.size
  have hnn : ∀ b, (Value.slice a4 l.length c4).ownBlock = some b → b ≠ w.heap.size := fun b hb => by
    have := n4 b (by rw [hv4]; exact hb)
    omega
  rw [hv4] at s4
  have s6 : SlM w6 (.slice a4 l.length c4) l := (s4.fr f5 fun b hb _ => hnn b hb).fr f6 fun b hb _ => hnn b hb
  have f46 : Fr (fun _ => False) w w6 := (((f1.trans f3').trans f4).trans' f5 fun y hy he => by subst he; omega).trans' f6 fun y hy he => by subst he; omega
  exact h w6 _ s6 f46
theorem alikeM_ok {w : World} {v v' : Value} {l : List Mem} (s1 : SlM w v l) (s2 : SlM w v' l) (hlen : l.length ≤ 1000000) {K : KV} (h : ∀ w', Fr (fun _ => False) w w' → K (.bool true) w') : fcallT P F.message_alike [.agg (pktC v).toArray, .agg (pktC v').toArray] w K := by
  rw [M.message_alike.fcall]
  apply M.message_alike.calls
  unfold M.message_alike
  have hb1 : (w.alloc (.cells (pktC v).toArray T.api_Packet)).heap[w.heap.size]? = some (.cells (pktC v).toArray T.api_Packet (0, 0)) := by rw [alloc_heap, if_pos rfl]
  have f1 : Fr (fun _ => False) w (w.alloc (.cells (pktC v).toArray T.api_Packet)) := (Fr.refl _ w).alloc _
  simp
  generalize hw1 : w.alloc (.cells (pktC v).toArray T.api_Packet) = w1 at *
  have hsz : w1.heap.size = w.heap.size + 1 := by rw [← hw1, alloc_size]
  have hb2 : (w1.alloc (.cells (pktC v').toArray T.api_Packet)).heap[w1.heap.size]? = some (.cells (pktC v').toArray T.api_Packet (0, 0)) := by rw [alloc_heap, if_pos rfl]
  have f2 : Fr (fun _ => False) w1 (w1.alloc (.cells (pktC v').toArray T.api_Packet)) := (Fr.refl _ w1).alloc _
  have hb1' := f2.heap hb1 fun h => h
  rw [hsz] at hb2
  generalize w1.alloc (.cells (pktC v').toArray T.api_Packet) = w2 at *
  have t1 : SlM w2 v l := (s1.fr f1 fun _ _ _ h => h).fr f2 fun _ _ _ h => h
  have t2 : SlM w2 v' l := (s2.fr f1 fun _ _ _ h => h).fr f2 fun _ _ _ h => h
  obtain ⟨a, c, hv, _⟩ := id t1
  obtain ⟨a', c', hv', _⟩ := id t2
  have p := pkt_at hb1'
  have q := pkt_at hb2
  have p0 := p 0 _ rfl
  have p1 := p 1 _ rfl
  have p2 := p 2 _ rfl
  have p3 := p 3 _ rfl
  have p4 := p 4 _ rfl
  have p5 := p 5 _ rfl
  have p6 := p 6 _ rfl
  have p7 := p 7 _ rfl
  have p8 := p 8 _ rfl
  have p9 := p 9 _ rfl
  have p10 := p 10 _ rfl
  have q0 := q 0 _ rfl
  have q1 := q 1 _ rfl
  have q2 := q 2 _ rfl
  have q3 := q 3 _ rfl
  have q4 := q 4 _ rfl
  have q5 := q 5 _ rfl
  have q6 := q 6 _ rfl
  have q7 := q 7 _ rfl
  have q8 := q 8 _ rfl
  have q9 := q 9 _ rfl
  have q10 := q 10 _ rfl
  have l2 : ∀ K, ldN P 2 w.heap.size 2 w2 K = K (.agg #[.int .u64 0, .int .u64 0]) w2 := fun K => ldN2 p2 p3 K
  have l4 : ∀ K, ldN P 2 w.heap.size 4 w2 K = K (.agg #[.int .u64 0, .int .u64 0]) w2 := fun K => ldN2 p4 p5 K
  have m2 : ∀ K, ldN P 2 (w.heap.size + 1) 2 w2 K = K (.agg #[.int .u64 0, .int .u64 0]) w2 := fun K => ldN2 q2 q3 K
  have m4 : ∀ K, ldN P 2 (w.heap.size + 1) 4 w2 K = K (.agg #[.int .u64 0, .int .u64 0]) w2 := fun K => ldN2 q4 q5 K
  have ebb : ∀ {rx ry : Operand} {w : World} {K : KV}, binT P .eql T.bool rx ry (.bool false) (.bool false) w K = K (.bool true) w := fun {rx ry w K} => by rw [bin_eqlB (by kernel_rfl)]; rfl
  rw [hv] at p9
  rw [hv'] at q9
  simp [p0, q0, p1, q1, l2, l4, m2, m4, eq_bal0, p6, q6, p7, q7, ebb, p8, q8]
  refine equalS_nil ?_
  simp [p9, q9]
  rw [← hv, ← hv']
  refine equalM_ok t1 t2 hlen fun w3 f3 => ?_
  have r10 := pkt_at (f3.heap hb1' fun h => h) 10 _ rfl
  have u10 := pkt_at (f3.heap hb2 fun h => h) 10 _ rfl
  simp [r10, u10]
  refine equalU_nil ?_
  exact h w3 ((f1.trans f2).trans f3)
theorem msgRight_ok {w : World} {v : Value} {l : List Mem} (hs : SlM w v l) (hlen : l.length ≤ 1000000) {K : KV} (h : ∀ w', Fr (fun _ => False) w w' → K (.int .i64 (if mright l = true then 0 else 6)) w') : fcallT P F.message_Right [.agg (pktC v).toArray] w K := by
  rw [M.message_Right.fcall]
  apply M.message_Right.calls
  unfold M.message_Right
  have hb : (w.alloc (.cells (pktC v).toArray T.api_Packet)).heap[w.heap.size]? = some (.cells (pktC v).toArray T.api_Packet (0, 0)) := by rw [alloc_heap, if_pos rfl]
  have f1 : Fr (fun _ => False) w (w.alloc (.cells (pktC v).toArray T.api_Packet)) := (Fr.refl _ w).alloc _
  simp
  generalize w.alloc (.cells (pktC v).toArray T.api_Packet) = w1 at *
  have s1 := hs.fr f1 fun _ _ _ h => h
  have hld : ∀ {w'}, Fr (fun _ => False) w1 w' → ∀ K, ldN P 11 w.heap.size 0 w' K = K (.agg (pktC v).toArray) w' := fun f K => ldPkt (f.heap hb fun h => h) K
  rw [hld (Fr.refl _ _)]
  refine thing_ok s1 hlen fun w2 v2 s2 f2 => ?_
  simp [eq_nilI]
  have fd : Fr (fun _ => False) w2 (Eng.dr w2 1) := (Fr.refl _ w2).dr 1
  refine mright_ok (s2.fr fd fun _ _ _ h => h) hlen fun w3 f3 => ?_
  have f13 : Fr (fun _ => False) w1 w3 := (f2.trans fd).trans f3
  cases hm : mright l with
  | false =>
    rw [hm] at h
    simp
    exact h w3 (f1.trans f13)
  | true =>
    rw [hm] at h
    simp
    rw [hld f13]
    simp
    refine packetM_ok (s2.fr (fd.trans f3) fun _ _ _ h => h) hlen fun w4 v4 s4 f4 => ?_
    rw [hld (f13.trans f4)]
    simp
    refine alikeM_ok (s1.fr (f13.trans f4) fun _ _ _ h => h) s4 hlen fun w5 f5 => ?_
    simp
    exact h w5 (((f1.trans f13).trans f4).trans f5)
def vright (l : List Mem) : Int := if l = [] then 0 else if mright l = true then 0 else 6
theorem vright_ok {w : World} {v : Value} {l : List Mem} (hs : SlM w v l) (hlen : l.length ≤ 1000000) {K : KV} (h : ∀ w', Fr (fun _ => False) w w' → K (.int .i64 (vright l)) w') : fcallT P F.view_Right [v] w K := by
  rw [M.view_Right.fcall]
  apply M.view_Right.calls
  unfold M.view_Right
  simp only [joinT_eq]
  rw [hs.len_ok (by kernel_rfl)]
  unfold vright at h
  by_cases h0 : l = []
  · subst h0
    simp at h ⊢
    exact h w (Fr.refl _ _)
  · rw [if_neg h0] at h
    have hl : ¬ (l.length : Int) = 0 := by
      intro h'
      exact h0 (List.length_eq_zero_iff.1 (by omega))
    simp [hl]
    obtain ⟨a, c, hv, _⟩ := id hs
    rw [hv]
    have e : Value.agg #[.int .i64 3, .int .u64 0, .int .u64 0, .int .u64 0, .int .u64 0, .int .u64 0, .int .i64 0, .bool false, .slice none 0 0, .slice a l.length c, .slice none 0 0] = .agg (pktC (.slice a l.length c)).toArray := rfl
    simp [h0]
    rw [e, ← hv]
    exact msgRight_ok hs hlen h
end Go.Proofs.Ytkjhekflgghbdaa
set_option maxRecDepth 100000
namespace Go.Proofs.Ytkjhekflgghbdaa.Suint64
open Go.Eng Go.Sort

/-- A row in block g, whose first cells are these. -/
def Rw (w : World) (g : Nat) (e : TypeId) (cap : Nat) (d : Array Int) : Prop := ∃ cur : Array Value, w.heap[g]? = some (.cells cur e (0, 0)) ∧ cur.size = cap ∧ d.size ≤ cap ∧ ∀ j, j < d.size → cur[j]? = some (.int .u64 d[j]!)
section
variable {w w' : World} {g cap : Nat} {e : TypeId} {d : Array Int} {S : Nat → Prop}
theorem Rw.at (h : Rw w g e cap d) {j : Nat} (hj : j < d.size) : cellOf w g j = some (.int .u64 d[j]!) := by
  obtain ⟨cur, h1, _, _, h4⟩ := h
  rw [cellOf_of h1]; exact h4 j hj
theorem Rw.frz (h : Rw w g e cap d) (j : Nat) : frzOf w g j = false := by
  obtain ⟨cur, h1, _⟩ := h
  exact frzOf_of h1 j
theorem Rw.lt (h : Rw w g e cap d) : g < w.heap.size := by
  obtain ⟨cur, h1, _⟩ := h
  exact heap_lt h1
theorem Rw.heap (h : Rw w g e cap d) (he : w'.heap[g]? = w.heap[g]?) : Rw w' g e cap d := by
  obtain ⟨cur, h1, h2⟩ := h
  exact ⟨cur, he.trans h1, h2⟩
theorem Rw.fr (h : Rw w g e cap d) (hf : Fr S w w') (hn : ¬ S g) : Rw w' g e cap d := h.heap (hf.keep g h.lt hn)
theorem getSet (d : Array Int) {i : Nat} (hi : i < d.size) (x : Int) (j : Nat) : (d.setIfInBounds i x)[j]! = if i = j then x else d[j]! := by
  by_cases h : i = j
  · subst h; simp [hi]
  · simp [h, getElem!_def, Array.getElem?_setIfInBounds]
theorem Rw.set (h : Rw w g e cap d) {i : Nat} (hi : i < d.size) (x : Int) : Rw (w.setCell ⟨g, i, none⟩ (.int .u64 x)) g e cap (d.setIfInBounds i x) := by
  obtain ⟨cur, h1, h2, h3, h4⟩ := h
  refine ⟨cur.setIfInBounds i (.int .u64 x), setCell_at h1, by simpa using h2, by simpa using h3, fun j hj => ?_⟩
  have hj' : j < d.size := by simpa using hj
  rw [getSet d hi, Array.getElem?_setIfInBounds]
  by_cases hij : i = j
  · subst hij; simp [h2]; omega
  · rw [if_neg hij, if_neg hij]; exact h4 j hj'
theorem Rw.swp (h : Rw w g e cap d) {i j : Nat} (hi : i < d.size) (hj : j < d.size) : Rw ((w.setCell ⟨g, i, none⟩ (.int .u64 d[j]!)).setCell ⟨g, j, none⟩ (.int .u64 d[i]!)) g e cap (Sort.swp d i j) := by
  have := (h.set hi d[j]!).set (i := j) (by simpa using hj) d[i]!
  exact this
theorem Rw.dr (h : Rw w g e cap d) (n : Nat) : Rw (Eng.dr w n) g e cap d := h.heap rfl
/-- Behind a step that turns the row alone. -/
structure Rf (w w' : World) (g : Nat) (e : TypeId) (cap : Nat) (d : Array Int) : Prop where
  row : Rw w' g e cap d
  fr : Fr (fun b => b = g) w w'
theorem Rw.self (h : Rw w g e cap d) : Rf w w g e cap d := ⟨h, Fr.refl _ _⟩
theorem Rf.dr (h : Rf w w' g e cap d) (n : Nat) : Rf w (Eng.dr w' n) g e cap d := ⟨h.row.dr n, h.fr.dr n⟩
theorem Rf.swp (h : Rf w w' g e cap d) {i j : Nat} (hi : i < d.size) (hj : j < d.size) : Rf w ((w'.setCell ⟨g, i, none⟩ (.int .u64 d[j]!)).setCell ⟨g, j, none⟩ (.int .u64 d[i]!)) g e cap (Sort.swp d i j) :=
  ⟨h.row.swp hi hj, (h.fr.setCell (.inl rfl) _ _).setCell (.inl rfl) _ _⟩
theorem Rf.trans {w'' : World} {d' : Array Int} (h : Rf w w' g e cap d) (h' : Rf w' w'' g e cap d') : Rf w w'' g e cap d' := ⟨h'.row, h.fr.trans h'.fr⟩
end

theorem less_ok {w : World} (x y : Int) {K : KV} (h : K (.bool (ltInt x y)) w) : fcallT P F.cmp_Less_uint64 [.int .u64 x, .int .u64 y] w K := by
  have nan : ∀ (z : Int) {K : KV}, K (.bool false) w → fcallT P F.cmp_isNaN_uint64 [.int .u64 z] w K := fun z K hK => by
    rw [M.cmp_isNaN_uint64.fcall]
    apply M.cmp_isNaN_uint64.calls
    unfold M.cmp_isNaN_uint64
    simp
    exact hK
  rw [M.cmp_Less_uint64.fcall]
  apply M.cmp_Less_uint64.calls
  unfold M.cmp_Less_uint64
  refine nan x ?_
  simp
  exact h

theorem wrapN {x : Nat} (h : x < 1000000) : IntKind.i64.wrap (x : Int) = x := wrap_id (by omega) (by omega)
theorem wrap1 {x : Nat} (h : x < 1000000) : IntKind.i64.wrap ((x : Int) + 1) = ((x + 1 : Nat) : Int) := by rw [wrap_id (by omega) (by omega)]; rfl
theorem wrapS {x y : Nat} (h : y ≤ x) (hx : x < 1000000) : IntKind.i64.wrap ((x : Int) - y) = ((x - y : Nat) : Int) := by rw [wrap_id (by omega) (by omega)]; omega

def InI (w : World) (g : Nat) (e : TypeId) (cap n a : Nat) (R : Array Int) : KL := fun x w1 => ∃ (j : Nat) (d : Array Int), x = [.int .i64 (j : Int)] ∧ Rf w w1 g e cap d ∧ d.size = n ∧ j < n ∧ insInner ltInt a j d = R
def InO (w : World) (g : Nat) (e : TypeId) (cap n a b : Nat) (R : Array Int) : KL := fun x w1 => ∃ (u : Value) (i : Nat) (d : Array Int), x = [u, .int .i64 (i : Int)] ∧ Rf w w1 g e cap d ∧ d.size = n ∧ insOuter ltInt a b i d = R
theorem size_insInner (a : Nat) : ∀ (j : Nat) (d : Array Int), (insInner ltInt a j d).size = d.size
  | 0, _ => rfl
  | j + 1, d => by
    unfold insInner
    split
    · rw [size_insInner a j, size_swp]
    · rfl
theorem insertion_ok {w : World} {g cap n : Nat} {e : TypeId} {d : Array Int} (H : Rw w g e cap d) (hn : d.size = n) (h6 : n < 100000) {a b : Nat} (hb : b ≤ n) (ha : a ≤ n) {K : KV}
    (h : ∀ w', Rf w w' g e cap (insertionSort ltInt d a b) → K (.tuple #[]) w') : callT P F.slices_insertionSortOrdered_uint64 [.slice (some ⟨g, 0, none⟩) n cap, .int .i64 a, .int .i64 b] w K := by
  apply M.slices_insertionSortOrdered_uint64.calls
  unfold M.slices_insertionSortOrdered_uint64
  simp only [bin_add, wrap1 (show a < 1000000 by omega)]
  refine ⟨InO w g e cap n a b (insertionSort ltInt d a b), fun x _ => b - ms x 1, ⟨_, a + 1, d, rfl, H.self, hn, rfl⟩, ?_⟩
  rintro x w1 ⟨u, i, d1, rfl, H1, hn1, hR⟩
  have g1 : ∀ u v : Value, gv [u, v] 1 = v := fun _ _ => rfl
  have g0 : ∀ u : Value, gv [u] 0 = u := fun _ => rfl
  unfold M.slices_insertionSortOrdered_uint64.j0
  simp only [joinT_eq, g1]
  unfold insOuter at hR
  by_cases hi : i < b
  · simp [hi] at hR ⊢
    generalize hT : insInner ltInt a i d1 = T at *
    refine ⟨InI w g e cap n a T, fun x _ => ms x 0, ⟨i, d1, rfl, H1, hn1, by omega, hT⟩, ?_⟩
    rintro x w2 ⟨j, d2, rfl, H2, hn2, hj, hR2⟩
    have done : d2 = T → ∀ v w2, Rf w w2 g e cap d2 → InO w g e cap n a b (insertionSort ltInt d a b) [v, .int .i64 (IntKind.i64.wrap ((i : Int) + 1))] w2 ∧ b - ms [v, .int .i64 (IntKind.i64.wrap ((i : Int) + 1))] 1 < b - ms [u, .int .i64 (i : Int)] 1 := by
      intro hd v w2 H2
      rw [wrap1 (by omega)]
      refine ⟨⟨v, i + 1, d2, rfl, H2, hn2, by rw [hd]; exact hR⟩, ?_⟩
      simp [ms, gv]; omega
    unfold M.slices_insertionSortOrdered_uint64.j3
    simp only [joinT_eq, g0]
    cases j with
    | zero =>
      simp [insInner] at hR2
      have := done hR2 (.int .i64 0) _ (H2.dr 1)
      have hz : ¬ (a : Int) < 0 := by omega
      simp [hz]
      simpa using this
    | succ j =>
      unfold insInner at hR2
      have hw := wrapN (show j < 1000000 by omega)
      by_cases hja : a < j + 1
      · have hja' : (a : Int) < (j : Int) + 1 := by omega
        have c1 := H2.row.at (show j + 1 < d2.size by omega)
        have c0 := H2.row.at (show j < d2.size by omega)
        have hjn : (j : Int) < n := by omega
        have hjn' : (j : Int) + 1 < n := by omega
        have z1 : (0 : Int) ≤ (j : Int) + 1 := by omega
        simp [hja, hja', hw, c0, c1, hjn, hjn', z1] at hR2 ⊢
        refine less_ok _ _ ?_
        cases hl : ltInt d2[j + 1]! d2[j]! with
        | true =>
          simp [hl] at hR2 ⊢
          unfold M.slices_insertionSortOrdered_uint64.j4
          have f1 := H2.row.frz (j + 1)
          have f0 := H2.row.frz j
          simp [hw, c0, c1, hjn, hjn', z1, f0, f1, cellOf_setCell, frzOf_setCell]
          refine ⟨⟨j, _, rfl, ((H2.dr 1).dr 1).swp (by omega) (by omega), by rw [size_swp]; exact hn2, by omega, hR2⟩, ?_⟩
          simp [ms, gv]
        | false =>
          simp [hl] at hR2 ⊢
          have := done hR2 (.int .i64 ((j : Int) + 1)) _ (H2.dr 1)
          simpa using this
      · have hja' : ¬ (a : Int) < (j : Int) + 1 := by omega
        simp [hja, hja'] at hR2 ⊢
        have := done hR2 (.int .i64 ((j : Int) + 1)) _ (H2.dr 1)
        simpa using this
  · simp [hi] at hR ⊢
    subst hR
    exact h w1 H1
end Go.Proofs.Ytkjhekflgghbdaa.Suint64
set_option maxRecDepth 100000
namespace Go.Proofs.Ytkjhekflgghbdaa.Suint64
open Go.Eng Go.Sort

theorem size_siftDown (hi first : Nat) : ∀ (n root : Nat) (d : Array Int), hi - root ≤ n → (siftDown ltInt hi first root d).size = d.size
  | 0, root, d, h => by
    unfold siftDown
    rw [dif_pos (by omega)]
  | n + 1, root, d, h => by
    unfold siftDown
    split
    · rfl
    split
    · split
      · rfl
      split
      · rw [size_siftDown hi first n _ _ (by omega), size_swp]
      · rfl
    · split
      · rfl
      · rw [size_siftDown hi first n _ _ (by omega), size_swp]

def SfI (w : World) (g : Nat) (e : TypeId) (cap n hi first : Nat) (R : Array Int) : KL := fun x w1 => ∃ (u : Value) (root : Nat) (d : Array Int), x = [u, .int .i64 (root : Int)] ∧ Rf w w1 g e cap d ∧ d.size = n ∧ root ≤ hi ∧ siftDown ltInt hi first root d = R
theorem sift_ok {w : World} {g cap n : Nat} {e : TypeId} {d : Array Int} (H : Rw w g e cap d) (hn : d.size = n) (h6 : n < 100000) {lo hi first : Nat} (hb : first + hi ≤ n) (hlo : lo ≤ hi) {K : KV}
    (h : ∀ w', Rf w w' g e cap (siftDown ltInt hi first lo d) → K (.tuple #[]) w') : callT P F.slices_siftDownOrdered_uint64 [.slice (some ⟨g, 0, none⟩) n cap, .int .i64 lo, .int .i64 hi, .int .i64 first] w K := by
  apply M.slices_siftDownOrdered_uint64.calls
  unfold M.slices_siftDownOrdered_uint64
  generalize hR0 : siftDown ltInt hi first lo d = R0 at *
  refine ⟨SfI w g e cap n hi first R0, fun x _ => hi - ms x 1, ⟨_, lo, d, rfl, H.self, hn, hlo, hR0⟩, ?_⟩
  clear hR0
  rintro x w1 ⟨u, root, d1, rfl, H1, hn1, hro, hR⟩
  have g1 : ∀ u v : Value, gv [u, v] 1 = v := fun _ _ => rfl
  have g0 : ∀ u : Value, gv [u] 0 = u := fun _ => rfl
  have w2 : IntKind.i64.wrap (2 * (root : Int)) = ((2 * root : Nat) : Int) := by rw [wrap_id (by omega) (by omega)]; omega
  have w3 : IntKind.i64.wrap (((2 * root : Nat) : Int) + 1) = ((2 * root + 1 : Nat) : Int) := wrap1 (by omega)
  have w4 : IntKind.i64.wrap (((2 * root + 1 : Nat) : Int) + 1) = ((2 * root + 2 : Nat) : Int) := wrap1 (by omega)
  unfold M.slices_siftDownOrdered_uint64.j0
  simp only [joinT_eq, g1, bin_mul, bin_add, bin_geq, w2, w3]
  unfold siftDown at hR
  by_cases h0 : 2 * root + 1 ≥ hi
  · have h0' : (hi : Int) ≤ ((2 * root + 1 : Nat) : Int) := by omega
    rw [dif_pos h0] at hR
    subst hR
    simp only [h0', decide_true, Eng.cond_true]
    exact h w1 H1
  rw [dif_neg h0] at hR
  have h0' : ¬ (hi : Int) ≤ ((2 * root + 1 : Nat) : Int) := by omega
  simp only [h0', decide_false, Eng.cond_false]
  unfold M.slices_siftDownOrdered_uint64.j1
  have wf : ∀ k : Nat, k < hi → IntKind.i64.wrap ((first : Int) + (k : Int)) = ((first + k : Nat) : Int) := fun k hk => by rw [wrap_id (by omega) (by omega)]; omega
  -- behind the choice of the child
  have tail : ∀ (c : Nat) (w2 : World), Rf w w2 g e cap d1 → c < hi → root < c → (if !ltInt d1[first + root]! d1[first + c]! then d1 else siftDown ltInt hi first c (Sort.swp d1 (first + root) (first + c))) = R0 →
      M.slices_siftDownOrdered_uint64.j2 (.int .i64 first) [u, .int .i64 root] (.slice (some ⟨g, 0, none⟩) n cap) [.int .i64 c] (fun x' w' => SfI w g e cap n hi first R0 x' w' ∧ hi - ms x' 1 < hi - ms [u, .int .i64 (root : Int)] 1) w2 K := by
    intro c w2 H2 hc hrc hR
    unfold M.slices_siftDownOrdered_uint64.j2
    have a1 := H2.row.at (show first + root < d1.size by omega)
    have a2 := H2.row.at (show first + c < d1.size by omega)
    have b1 : ((first + root : Nat) : Int) < n := by omega
    have b2 : ((first + c : Nat) : Int) < n := by omega
    have wr := wf root (by omega)
    have wc := wf c hc
    simp only [joinT_eq, drawT_eq, quietT_eq, g1, g0, bin_add, wr, wc, true_and, and_true]
    simp [b1, b2, a1, a2, -Int.natCast_add]
    refine less_ok _ _ ?_
    cases hl : ltInt d1[first + root]! d1[first + c]! with
    | false =>
      simp [hl] at hR ⊢
      subst hR
      exact h _ (H2.dr 1)
    | true =>
      simp [hl] at hR ⊢
      unfold M.slices_siftDownOrdered_uint64.j3
      have f1 := H2.row.frz (first + root)
      have f2 := H2.row.frz (first + c)
      simp only [joinT_eq, drawT_eq, quietT_eq, stabT_eq, g1, g0, bin_add, wr, wc, true_and, and_true]
      simp [b1, b2, a1, a2, f1, f2, cellOf_setCell, frzOf_setCell, -Int.natCast_add]
      refine ⟨⟨_, c, _, rfl, ((H2.dr 1).dr 1).swp (by omega) (by omega), by rw [size_swp]; exact hn1, by omega, hR⟩, ?_⟩
      simp [ms, gv]; omega
  have v1 : IntKind.i64.wrap ((first : Int) + ((2 * root + 1 : Nat) : Int)) = ((first + (2 * root + 1) : Nat) : Int) := wf _ (by omega)
  simp only [joinT_eq, drawT_eq, quietT_eq, bin_add, bin_lss, w4, true_and, and_true, isB_bool]
  by_cases h1 : 2 * root + 1 + 1 < hi
  · have h1' : ((2 * root + 2 : Nat) : Int) < hi := by omega
    have v2 : IntKind.i64.wrap (((first + (2 * root + 1) : Nat) : Int) + 1) = ((first + (2 * root + 2) : Nat) : Int) := by rw [wrap_id (by omega) (by omega)]; omega
    have a1 := H1.row.at (show first + (2 * root + 1) < d1.size by omega)
    have a2 := H1.row.at (show first + (2 * root + 2) < d1.size by omega)
    have b1 : ((first + (2 * root + 1) : Nat) : Int) < n := by omega
    have b2 : ((first + (2 * root + 2) : Nat) : Int) < n := by omega
    have e2 : first + (2 * root + 1) + 1 = first + (2 * root + 2) := by omega
    simp only [h1', decide_true, beq_self_eq_true, guard_true, bin_add, v1, v2]
    simp [b1, b2, a1, a2, -Int.natCast_add]
    refine less_ok _ _ ?_
    rw [e2] at hR
    cases hl : ltInt d1[first + (2 * root + 1)]! d1[first + (2 * root + 2)]! with
    | true =>
      simp only [h1, hl, decide_true, Bool.and_self, if_true] at hR
      have hx : 2 * root + 2 < hi := by omega
      simp only [hx, dif_pos] at hR
      simp [-Int.natCast_add]
      exact tail (2 * root + 2) _ (H1.dr 1) (by omega) (by omega) hR
    | false =>
      simp only [hl, Bool.and_false, Bool.false_eq_true, if_false] at hR
      simp [-Int.natCast_add]
      exact tail (2 * root + 1) _ (H1.dr 1) (by omega) (by omega) hR
  · have h1' : ¬ ((2 * root + 2 : Nat) : Int) < hi := by omega
    simp only [h1, decide_false, Bool.false_and, Bool.false_eq_true, if_false] at hR
    simp only [h1', decide_false]
    simp [-Int.natCast_add]
    exact tail (2 * root + 1) _ (H1.dr 1) (by omega) (by omega) hR

theorem size_heapBuild (hi first : Nat) : ∀ (k : Nat) (d : Array Int), (heapBuild ltInt hi first k d).size = d.size
  | 0, _ => rfl
  | k + 1, d => by unfold heapBuild; rw [size_heapBuild hi first k, size_siftDown _ _ _ _ _ (Nat.le_refl _)]
theorem size_heapPop (first : Nat) : ∀ (k : Nat) (d : Array Int), (heapPop ltInt first k d).size = d.size
  | 0, _ => rfl
  | k + 1, d => by unfold heapPop; rw [size_heapPop first k, size_siftDown _ _ _ _ _ (Nat.le_refl _), size_swp]
def HbI (w : World) (g : Nat) (e : TypeId) (cap n hi first : Nat) (R : Array Int) : KL := fun x w1 => ∃ (k : Nat) (d : Array Int), x = [.int .i64 ((k : Int) - 1)] ∧ Rf w w1 g e cap d ∧ d.size = n ∧ k ≤ hi + 1 ∧ (k ≤ hi ∨ hi = 0) ∧ heapBuild ltInt hi first k d = R
def HpI (w : World) (g : Nat) (e : TypeId) (cap n hi first : Nat) (R : Array Int) : KL := fun x w1 => ∃ (k : Nat) (d : Array Int), x = [.int .i64 ((k : Int) - 1)] ∧ Rf w w1 g e cap d ∧ d.size = n ∧ k ≤ hi ∧ heapPop ltInt first k d = R
def mp (x : List Value) (i : Nat) : Nat := match gv x i with
  | .int _ k => (k + 1).toNat
  | _ => 0
theorem heapSort_ok {w : World} {g cap n : Nat} {e : TypeId} {d : Array Int} (H : Rw w g e cap d) (hn : d.size = n) (h6 : n < 100000) {a b : Nat} (hb : b ≤ n) (hab : a < b) {K : KV}
    (h : ∀ w', Rf w w' g e cap (heapSort ltInt d a b) → K (.tuple #[]) w') : callT P F.slices_heapSortOrdered_uint64 [.slice (some ⟨g, 0, none⟩) n cap, .int .i64 a, .int .i64 b] w K := by
  apply M.slices_heapSortOrdered_uint64.calls
  unfold M.slices_heapSortOrdered_uint64
  have hw0 : IntKind.i64.wrap ((b : Int) - a) = ((b - a : Nat) : Int) := wrapS (by omega) (by omega)
  generalize hhi : b - a = hi at *
  have hw1 : IntKind.i64.wrap ((hi : Int) - 1) = ((hi - 1 : Nat) : Int) := by rw [wrap_id (by omega) (by omega)]; omega
  have hw2 : IntKind.i64.wrap (((hi - 1 : Nat) : Int).tdiv 2) = (((hi - 1) / 2 : Nat) : Int) := by
    rw [Int.tdiv_eq_ediv_of_nonneg (by omega), wrap_id (by omega) (by omega)]; omega
  have hw3 : (((hi - 1) / 2 : Nat) : Int) = (((hi - 1) / 2 + 1 : Nat) : Int) - 1 := by omega
  simp only [bin_sub, hw0, joinT_eq, hw1, bin_quo2, hw2]
  have g0 : ∀ u : Value, gv [u] 0 = u := fun _ => rfl
  generalize hZ : heapBuild ltInt hi a ((hi - 1) / 2 + 1) d = Z
  refine ⟨HbI w g e cap n hi a Z, fun x _ => mp x 0, ⟨(hi - 1) / 2 + 1, d, by rw [hw3], H.self, hn, by omega, by omega, hZ⟩, ?_⟩
  rintro x w1 ⟨k, d1, rfl, H1, hn1, hk, hk2, hR⟩
  unfold M.slices_heapSortOrdered_uint64.j1
  simp only [joinT_eq, g0, bin_geq]
  cases k with
  | succ k =>
    have hk0 : (0 : Int) ≤ ((k + 1 : Nat) : Int) - 1 := by omega
    have hk1 : ((k + 1 : Nat) : Int) - 1 = (k : Int) := by omega
    simp only [hk0, decide_true, Eng.cond_true, hk1]
    rw [M.slices_siftDownOrdered_uint64.fcall]
    refine sift_ok H1.row hn1 h6 (by omega) (by omega) fun w2 H2 => ?_
    have hw4 : IntKind.i64.wrap ((k : Int) - 1) = (k : Int) - 1 := wrap_id (by omega) (by omega)
    simp only [bin_sub, hw4]
    refine ⟨⟨k, _, rfl, H1.trans H2, by rw [size_siftDown _ _ _ _ _ (Nat.le_refl _)]; exact hn1, by omega, by omega, hR⟩, ?_⟩
    simp [mp, gv]
  | zero =>
    have hk0 : ¬ (0 : Int) ≤ ((0 : Nat) : Int) - 1 := by omega
    simp only [hk0, decide_false, Eng.cond_false]
    unfold heapBuild at hR
    unfold M.slices_heapSortOrdered_uint64.j0
    have hw5 : ((hi - 1 : Nat) : Int) = (hi : Int) - 1 := by omega
    simp only [bin_sub, hw1, hw5]
    have hR2 : heapPop ltInt a hi d1 = heapSort ltInt d a b := by
      unfold heapSort
      rw [hhi, hZ, ← hR]
    refine ⟨HpI w g e cap n hi a (heapSort ltInt d a b), fun x _ => mp x 0, ⟨hi, d1, rfl, H1, hn1, Nat.le_refl _, hR2⟩, ?_⟩
    rintro x w2 ⟨k, d2, rfl, H2, hn2, hk, hR3⟩
    simp only [joinT_eq, g0, bin_geq]
    cases k with
    | zero =>
      have hk0 : ¬ (0 : Int) ≤ ((0 : Nat) : Int) - 1 := by omega
      simp only [hk0, decide_false, Eng.cond_false]
      unfold heapPop at hR3
      subst hR3
      exact h w2 H2
    | succ k =>
      have hk0 : (0 : Int) ≤ ((k + 1 : Nat) : Int) - 1 := by omega
      have hk1 : ((k + 1 : Nat) : Int) - 1 = (k : Int) := by omega
      simp only [hk0, decide_true, Eng.cond_true, hk1]
      unfold heapPop at hR3
      unfold M.slices_heapSortOrdered_uint64.j5
      have wr : IntKind.i64.wrap ((a : Int) + (k : Int)) = ((a + k : Nat) : Int) := by rw [wrap_id (by omega) (by omega)]; omega
      have a1 := H2.row.at (show a < d2.size by omega)
      have a2 := H2.row.at (show a + k < d2.size by omega)
      have b1 : (a : Int) < n := by omega
      have b2 : ((a + k : Nat) : Int) < n := by omega
      have f1 := H2.row.frz a
      have f2 := H2.row.frz (a + k)
      have hw4 : IntKind.i64.wrap ((k : Int) - 1) = (k : Int) - 1 := wrap_id (by omega) (by omega)
      simp only [joinT_eq, drawT_eq, quietT_eq, stabT_eq, g0, bin_add, bin_sub, wr, hw4, true_and, and_true]
      simp [b1, b2, a1, a2, f1, f2, cellOf_setCell, frzOf_setCell, -Int.natCast_add]
      have H3 := (H2.dr 1).swp (i := a) (j := a + k) (by omega) (by omega)
      rw [M.slices_siftDownOrdered_uint64.fcall]
      refine sift_ok (lo := 0) H3.row (by rw [size_swp]; exact hn2) h6 (by omega) (by omega) fun w4 H4 => ?_
      refine ⟨⟨k, _, rfl, H3.trans H4, by rw [size_siftDown _ _ _ _ _ (Nat.le_refl _), size_swp]; exact hn2, by omega, hR3⟩, ?_⟩
      simp [mp, gv]
end Go.Proofs.Ytkjhekflgghbdaa.Suint64
set_option maxRecDepth 100000
namespace Go.Proofs.Ytkjhekflgghbdaa.Suint64
open Go.Eng Go.Sort

section
variable {w : World} {g cap n : Nat} {e : TypeId} {d : Array Int}
def UpI (w : World) (g : Nat) (e : TypeId) (cap : Nat) (d : Array Int) (p : Int → Bool) (j r : Nat) : KL := fun x w1 => ∃ i : Nat, x = [.int .i64 (i : Int)] ∧ Rf w w1 g e cap d ∧ i ≤ j + 2 ∧ scanUp p d j i = r
def DnI (w : World) (g : Nat) (e : TypeId) (cap : Nat) (d : Array Int) (p : Int → Bool) (i n r : Nat) : KL := fun x w1 => ∃ j : Nat, x = [.int .i64 (j : Int)] ∧ Rf w w1 g e cap d ∧ j < n ∧ scanDown p d i j = r
theorem scan_up {p : Int → Bool} {i j : Nat} (H : Rw w g e cap d) (hi : i ≤ j + 2) {K0 : KL} {body : KL → KL → KL}
    (hB : ∀ (k : Nat) w1 (Kn : KL), k ≤ j + 2 → Rf w w1 g e cap d → ((k ≤ j ∧ p d[k]! = true) → ∀ w2, Rf w w2 g e cap d → Kn [.int .i64 ((k + 1 : Nat) : Int)] w2) → (¬ (k ≤ j ∧ p d[k]! = true) → ∀ w2, Rf w w2 g e cap d → K0 [.int .i64 (k : Int)] w2) → body K0 Kn [.int .i64 (k : Int)] w1)
    (h : ∀ w', Rf w w' g e cap d → K0 [.int .i64 (scanUp p d j i : Nat)] w') : joinT (fun K0 => loopT [.int .i64 (i : Int)] w (body K0)) K0 := by
  rw [joinT_eq]
  generalize hr : scanUp p d j i = r at *
  refine ⟨UpI w g e cap d p j r, fun x _ => j + 2 - ms x 0, ⟨i, rfl, H.self, hi, hr⟩, ?_⟩
  clear hr
  rintro x w1 ⟨k, rfl, H1, hk, hR⟩
  unfold scanUp at hR
  refine hB k w1 _ hk H1 (fun hc w2 H2 => ?_) fun hc w2 H2 => ?_
  · rw [if_pos (by simpa using hc)] at hR
    refine ⟨⟨k + 1, rfl, H2, by omega, hR⟩, ?_⟩
    simp [ms, gv]; omega
  · rw [if_neg (by simpa using hc)] at hR
    rw [← hR] at h
    exact h w2 H2
theorem scan_down {p : Int → Bool} {i j : Nat} (H : Rw w g e cap d) (hj : j < n) (hi : 1 ≤ i) {K0 : KL} {body : KL → KL → KL}
    (hB : ∀ (k : Nat) w1 (Kn : KL), k < n → Rf w w1 g e cap d → ((i ≤ k ∧ p d[k]! = true) → ∀ w2, Rf w w2 g e cap d → Kn [.int .i64 ((k - 1 : Nat) : Int)] w2) → (¬ (i ≤ k ∧ p d[k]! = true) → ∀ w2, Rf w w2 g e cap d → K0 [.int .i64 (k : Int)] w2) → body K0 Kn [.int .i64 (k : Int)] w1)
    (h : ∀ w', Rf w w' g e cap d → K0 [.int .i64 (scanDown p d i j : Nat)] w') : joinT (fun K0 => loopT [.int .i64 (j : Int)] w (body K0)) K0 := by
  rw [joinT_eq]
  generalize hr : scanDown p d i j = r at *
  refine ⟨DnI w g e cap d p i n r, fun x _ => ms x 0, ⟨j, rfl, H.self, hj, hr⟩, ?_⟩
  clear hr
  rintro x w1 ⟨k, rfl, H1, hk, hR⟩
  refine hB k w1 _ hk H1 (fun hc w2 H2 => ?_) fun hc w2 H2 => ?_
  · cases k with
    | zero => omega
    | succ k =>
      unfold scanDown at hR
      rw [if_pos (by simpa using hc)] at hR
      refine ⟨⟨k, rfl, H2, by omega, hR⟩, ?_⟩
      simp [ms, gv]
  · have : scanDown p d i k = k := by
      cases k with
      | zero => rfl
      | succ k => unfold scanDown; rw [if_neg (by simpa using hc)]
    rw [this] at hR
    rw [← hR] at h
    exact h w2 H2
theorem scanUp_le (p : Int → Bool) (d : Array Int) (j i : Nat) : scanUp p d j i ≤ max i (j + 1) := by
  by_cases h : i ≤ j + 1
  · have := (scanUp_spec p d j _ i rfl).2.1 h
    omega
  · unfold scanUp
    rw [if_neg (by simp; omega)]
    omega
theorem g0 (u : Value) : gv [u] 0 = u := rfl
theorem g20 (u v : Value) : gv [u, v] 0 = u := rfl
theorem g21 (u v : Value) : gv [u, v] 1 = v := rfl
theorem part_j1 {w0 w1 : World} {a k j : Nat} {K0 Kn : KL} {K : KV} (H1 : Rf w0 w1 g e cap d) (hn : d.size = n) (h6 : n < 100000) (ha : a < n) (hj : j < n) (hk : k ≤ j + 2)
    (k1 : (k ≤ j ∧ ltInt d[k]! d[a]! = true) → ∀ w2, Rf w0 w2 g e cap d → Kn [.int .i64 ((k + 1 : Nat) : Int)] w2) (k2 : ¬ (k ≤ j ∧ ltInt d[k]! d[a]! = true) → ∀ w2, Rf w0 w2 g e cap d → K0 [.int .i64 (k : Int)] w2) :
    M.slices_partitionOrdered_uint64.j1 [.int .i64 (k : Int)] (.int .i64 (j : Int)) (.slice (some ⟨g, 0, none⟩) n cap) (.int .i64 (a : Int)) K0 Kn w1 K := by
  unfold M.slices_partitionOrdered_uint64.j1
  by_cases hkj : k ≤ j
  · have a1 := H1.row.at (show k < d.size by omega)
    have a2 := H1.row.at (show a < d.size by omega)
    have b1 : (k : Int) < n := by omega
    have b2 : (a : Int) < n := by omega
    have b3 : (k : Int) ≤ j := by omega
    simp [g0, g21, b1, b2, b3, a1, a2]
    refine less_ok _ _ ?_
    cases hl : ltInt d[k]! d[a]! with
    | true =>
      simp [wrap1 (show k < 1000000 by omega)]
      have := k1 ⟨hkj, hl⟩ _ (H1.dr 1)
      simpa using this
    | false =>
      simp [wrap1 (show k < 1000000 by omega)]
      have := k2 (fun h => by simp [hl] at h) _ (H1.dr 1)
      simpa using this
  · have b3 : ¬ (k : Int) ≤ j := by omega
    simp [g0, g21, b3]
    have := k2 (fun h => hkj h.1) _ (H1.dr 1)
    simpa using this
theorem part_j4 {w0 w1 : World} {a k i : Nat} {K0 Kn : KL} {K : KV} (H1 : Rf w0 w1 g e cap d) (hn : d.size = n) (h6 : n < 100000) (hai : a < n ∧ 1 ≤ i) (hk : k < n)
    (k1 : (i ≤ k ∧ (!ltInt d[k]! d[a]!) = true) → ∀ w2, Rf w0 w2 g e cap d → Kn [.int .i64 ((k - 1 : Nat) : Int)] w2) (k2 : ¬ (i ≤ k ∧ (!ltInt d[k]! d[a]!) = true) → ∀ w2, Rf w0 w2 g e cap d → K0 [.int .i64 (k : Int)] w2) :
    M.slices_partitionOrdered_uint64.j4 [.int .i64 (i : Int)] [.int .i64 (k : Int)] (.slice (some ⟨g, 0, none⟩) n cap) (.int .i64 (a : Int)) K0 Kn w1 K := by
  unfold M.slices_partitionOrdered_uint64.j4
  by_cases hik : i ≤ k
  · have a1 := H1.row.at (show k < d.size by omega)
    have a2 := H1.row.at (show a < d.size by omega)
    have b1 : (k : Int) < n := by omega
    have b2 : (a : Int) < n := by omega
    have b3 : (i : Int) ≤ k := by omega
    have hw : IntKind.i64.wrap ((k : Int) - 1) = ((k - 1 : Nat) : Int) := by rw [wrap_id (by omega) (by omega)]; omega
    simp [g0, b1, b2, b3, a1, a2]
    refine less_ok _ _ ?_
    cases hl : ltInt d[k]! d[a]! with
    | true =>
      simp [hw]
      have := k2 (fun h => by simp [hl] at h) _ (H1.dr 1)
      simpa using this
    | false =>
      simp [hw]
      have := k1 ⟨hik, by simp [hl]⟩ _ (H1.dr 1)
      simpa using this
  · have b3 : ¬ (i : Int) ≤ k := by omega
    simp [g0, b3]
    have := k2 (fun h => hik h.1) _ (H1.dr 1)
    simpa using this
theorem part_j10 {w0 w1 : World} {vi : Value} {a k j : Nat} {K0 Kn : KL} {K : KV} (H1 : Rf w0 w1 g e cap d) (hn : d.size = n) (h6 : n < 100000) (ha : a < n) (hj : j < n) (hk : k ≤ j + 2)
    (k1 : (k ≤ j ∧ ltInt d[k]! d[a]! = true) → ∀ w2, Rf w0 w2 g e cap d → Kn [.int .i64 ((k + 1 : Nat) : Int)] w2) (k2 : ¬ (k ≤ j ∧ ltInt d[k]! d[a]! = true) → ∀ w2, Rf w0 w2 g e cap d → K0 [.int .i64 (k : Int)] w2) :
    M.slices_partitionOrdered_uint64.j10 [.int .i64 (k : Int)] [vi, .int .i64 (j : Int)] (.slice (some ⟨g, 0, none⟩) n cap) (.int .i64 (a : Int)) K0 Kn w1 K := by
  unfold M.slices_partitionOrdered_uint64.j10
  by_cases hkj : k ≤ j
  · have a1 := H1.row.at (show k < d.size by omega)
    have a2 := H1.row.at (show a < d.size by omega)
    have b1 : (k : Int) < n := by omega
    have b2 : (a : Int) < n := by omega
    have b3 : (k : Int) ≤ j := by omega
    simp [g0, g21, b1, b2, b3, a1, a2]
    refine less_ok _ _ ?_
    cases hl : ltInt d[k]! d[a]! with
    | true =>
      simp [wrap1 (show k < 1000000 by omega)]
      have := k1 ⟨hkj, hl⟩ _ (H1.dr 1)
      simpa using this
    | false =>
      simp [wrap1 (show k < 1000000 by omega)]
      have := k2 (fun h => by simp [hl] at h) _ (H1.dr 1)
      simpa using this
  · have b3 : ¬ (k : Int) ≤ j := by omega
    simp [g0, g21, b3]
    have := k2 (fun h => hkj h.1) _ (H1.dr 1)
    simpa using this
theorem part_j13 {w0 w1 : World} {a k i : Nat} {K0 Kn : KL} {K : KV} (H1 : Rf w0 w1 g e cap d) (hn : d.size = n) (h6 : n < 100000) (hai : a < n ∧ 1 ≤ i) (hk : k < n)
    (k1 : (i ≤ k ∧ (!ltInt d[k]! d[a]!) = true) → ∀ w2, Rf w0 w2 g e cap d → Kn [.int .i64 ((k - 1 : Nat) : Int)] w2) (k2 : ¬ (i ≤ k ∧ (!ltInt d[k]! d[a]!) = true) → ∀ w2, Rf w0 w2 g e cap d → K0 [.int .i64 (k : Int)] w2) :
    M.slices_partitionOrdered_uint64.j13 [.int .i64 (i : Int)] [.int .i64 (k : Int)] (.slice (some ⟨g, 0, none⟩) n cap) (.int .i64 (a : Int)) K0 Kn w1 K := by
  unfold M.slices_partitionOrdered_uint64.j13
  by_cases hik : i ≤ k
  · have a1 := H1.row.at (show k < d.size by omega)
    have a2 := H1.row.at (show a < d.size by omega)
    have b1 : (k : Int) < n := by omega
    have b2 : (a : Int) < n := by omega
    have b3 : (i : Int) ≤ k := by omega
    have hw : IntKind.i64.wrap ((k : Int) - 1) = ((k - 1 : Nat) : Int) := by rw [wrap_id (by omega) (by omega)]; omega
    simp [g0, b1, b2, b3, a1, a2]
    refine less_ok _ _ ?_
    cases hl : ltInt d[k]! d[a]! with
    | true =>
      simp [hw]
      have := k2 (fun h => by simp [hl] at h) _ (H1.dr 1)
      simpa using this
    | false =>
      simp [hw]
      have := k1 ⟨hik, by simp [hl]⟩ _ (H1.dr 1)
      simpa using this
  · have b3 : ¬ (i : Int) ≤ k := by omega
    simp [g0, b3]
    have := k2 (fun h => hik h.1) _ (H1.dr 1)
    simpa using this
theorem part_e3 {w0 w1 : World} {vi : Value} {a k j : Nat} {K0 Kn : KL} {K : KV} (H1 : Rf w0 w1 g e cap d) (hn : d.size = n) (h6 : n < 100000) (ha : a < n) (hj : j < n) (hk : k ≤ j + 2)
    (k1 : (k ≤ j ∧ (!ltInt d[a]! d[k]!) = true) → ∀ w2, Rf w0 w2 g e cap d → Kn [.int .i64 ((k + 1 : Nat) : Int)] w2) (k2 : ¬ (k ≤ j ∧ (!ltInt d[a]! d[k]!) = true) → ∀ w2, Rf w0 w2 g e cap d → K0 [.int .i64 (k : Int)] w2) :
    M.slices_partitionEqualOrdered_uint64.j3 [.int .i64 (k : Int)] [vi, .int .i64 (j : Int)] (.slice (some ⟨g, 0, none⟩) n cap) (.int .i64 (a : Int)) K0 Kn w1 K := by
  unfold M.slices_partitionEqualOrdered_uint64.j3
  by_cases hkj : k ≤ j
  · have a1 := H1.row.at (show k < d.size by omega)
    have a2 := H1.row.at (show a < d.size by omega)
    have b1 : (k : Int) < n := by omega
    have b2 : (a : Int) < n := by omega
    have b3 : (k : Int) ≤ j := by omega
    simp [g0, g21, b1, b2, b3, a1, a2]
    refine less_ok _ _ ?_
    cases hl : ltInt d[a]! d[k]! with
    | true =>
      simp [wrap1 (show k < 1000000 by omega)]
      have := k2 (fun h => by simp [hl] at h) _ (H1.dr 1)
      simpa using this
    | false =>
      simp [wrap1 (show k < 1000000 by omega)]
      have := k1 ⟨hkj, by simp [hl]⟩ _ (H1.dr 1)
      simpa using this
  · have b3 : ¬ (k : Int) ≤ j := by omega
    simp [g0, g21, b3]
    have := k2 (fun h => hkj h.1) _ (H1.dr 1)
    simpa using this
theorem part_e6 {w0 w1 : World} {a k i : Nat} {K0 Kn : KL} {K : KV} (H1 : Rf w0 w1 g e cap d) (hn : d.size = n) (h6 : n < 100000) (hai : a < n ∧ 1 ≤ i) (hk : k < n)
    (k1 : (i ≤ k ∧ ltInt d[a]! d[k]! = true) → ∀ w2, Rf w0 w2 g e cap d → Kn [.int .i64 ((k - 1 : Nat) : Int)] w2) (k2 : ¬ (i ≤ k ∧ ltInt d[a]! d[k]! = true) → ∀ w2, Rf w0 w2 g e cap d → K0 [.int .i64 (k : Int)] w2) :
    M.slices_partitionEqualOrdered_uint64.j6 [.int .i64 (i : Int)] [.int .i64 (k : Int)] (.slice (some ⟨g, 0, none⟩) n cap) (.int .i64 (a : Int)) K0 Kn w1 K := by
  unfold M.slices_partitionEqualOrdered_uint64.j6
  by_cases hik : i ≤ k
  · have a1 := H1.row.at (show k < d.size by omega)
    have a2 := H1.row.at (show a < d.size by omega)
    have b1 : (k : Int) < n := by omega
    have b2 : (a : Int) < n := by omega
    have b3 : (i : Int) ≤ k := by omega
    have hw : IntKind.i64.wrap ((k : Int) - 1) = ((k - 1 : Nat) : Int) := by rw [wrap_id (by omega) (by omega)]; omega
    simp [g0, b1, b2, b3, a1, a2]
    refine less_ok _ _ ?_
    cases hl : ltInt d[a]! d[k]! with
    | true =>
      simp [hw]
      have := k1 ⟨hik, hl⟩ _ (H1.dr 1)
      simpa using this
    | false =>
      simp [hw]
      have := k2 (fun h => by simp [hl] at h) _ (H1.dr 1)
      simpa using this
  · have b3 : ¬ (i : Int) ≤ k := by omega
    simp [g0, b3]
    have := k2 (fun h => hik h.1) _ (H1.dr 1)
    simpa using this
end

/-! ### partitionOrdered -/
def PlI (w : World) (g : Nat) (e : TypeId) (cap n a b : Nat) (R : Nat × Array Int) : KL := fun x w1 => ∃ (i j : Nat) (d : Array Int), x = [.int .i64 (i : Int), .int .i64 (j : Int)] ∧ Rf w w1 g e cap d ∧ d.size = n ∧ a < i ∧ i ≤ j + 2 ∧ j < b ∧ partLoop ltInt a i j d = R
theorem partition_ok {w : World} {g cap n : Nat} {e : TypeId} {d : Array Int} (H : Rw w g e cap d) (hn : d.size = n) (h6 : n < 100000) {a b pv : Nat} (hb : b ≤ n) (ha : a ≤ pv) (hp : pv < b) {K : KV}
    (h : ∀ w', Rf w w' g e cap (partition ltInt d a b pv).2.2 → K (.tuple #[.int .i64 ((partition ltInt d a b pv).1 : Nat), .bool (partition ltInt d a b pv).2.1]) w') :
    callT P F.slices_partitionOrdered_uint64 [.slice (some ⟨g, 0, none⟩) n cap, .int .i64 a, .int .i64 b, .int .i64 pv] w K := by
  apply M.slices_partitionOrdered_uint64.calls
  unfold M.slices_partitionOrdered_uint64
  have a1 := H.at (show a < d.size by omega)
  have a2 := H.at (show pv < d.size by omega)
  have b1 : (a : Int) < n := by omega
  have b2 : (pv : Int) < n := by omega
  have f1 := H.frz a
  have f2 := H.frz pv
  have hw1 : IntKind.i64.wrap ((a : Int) + 1) = ((a + 1 : Nat) : Int) := wrap1 (by omega)
  have hw2 : IntKind.i64.wrap ((b : Int) - 1) = ((b - 1 : Nat) : Int) := by rw [wrap_id (by omega) (by omega)]; omega
  simp [b1, b2, a1, a2, f1, f2, cellOf_setCell, frzOf_setCell, hw1, hw2, -Int.natCast_add, -joinT_eq]
  have H1 := (H.self.dr 1).swp (i := a) (j := pv) (by omega) (by omega)
  generalize ((dr w 1).setCell ⟨g, a, none⟩ (.int .u64 d[pv]!)).setCell ⟨g, pv, none⟩ (.int .u64 d[a]!) = w1 at *
  clear a1 a2 f1 f2
  unfold partition at h
  have hn1 : (Sort.swp d a pv).size = n := by rw [size_swp]; exact hn
  generalize Sort.swp d a pv = d1 at *
  try simp only at h
  refine scan_up (p := fun x => ltInt x d1[a]!) (i := a + 1) (j := b - 1) H1.row (by omega) (fun k w2 Kn hk H2 k1 k2 => by refine part_j1 H2 hn1 h6 (by omega) (by omega) hk ?_ ?_ <;> first | exact k1 | exact k2) fun w2 H2 => ?_
  have hge := scanUp_ge (fun x => ltInt x d1[a]!) d1 (b - 1) (a + 1)
  have hle := scanUp_le (fun x => ltInt x d1[a]!) d1 (b - 1) (a + 1)
  generalize scanUp (fun x => ltInt x d1[a]!) d1 (b - 1) (a + 1) = i at *
  refine scan_down (n := n) (p := fun x => !ltInt x d1[a]!) H2.row (by omega) (i := i) (j := b - 1) (by omega) (fun k w3 Kn hk H3 k1 k2 => by refine part_j4 H3 hn1 h6 (by omega) hk ?_ ?_ <;> first | exact k1 | exact k2) fun w3 H3 => ?_
  have hdl := scanDown_le (fun x => !ltInt x d1[a]!) d1 i (b - 1)
  generalize scanDown (fun x => !ltInt x d1[a]!) d1 i (b - 1) = j at *
  have H3' := H1.trans (H2.trans H3)
  unfold M.slices_partitionOrdered_uint64.j3
  have c1 := H3.row.at (show a < d1.size by omega)
  have c2 := H3.row.at (show j < d1.size by omega)
  have e1 : (j : Int) < n := by omega
  have f1 := H3.row.frz a
  have f2 := H3.row.frz j
  simp only [joinT_eq, g0]
  by_cases hij : i > j
  · have hij' : (j : Int) < i := by omega
    rw [if_pos hij] at h
    simp [hij', b1, e1, c1, c2, f1, f2, cellOf_setCell, frzOf_setCell, -Int.natCast_add]
    exact h _ ((H3'.dr 1).swp (by omega) (by omega))
  · have hij' : ¬ (j : Int) < i := by omega
    rw [if_neg hij] at h
    simp only [bin_gtr, hij', decide_false, Eng.cond_false]
    unfold M.slices_partitionOrdered_uint64.j6
    have c3 := H3.row.at (show i < d1.size by omega)
    have e2 : (i : Int) < n := by omega
    have f3 := H3.row.frz i
    have hw3 : IntKind.i64.wrap ((i : Int) + 1) = ((i + 1 : Nat) : Int) := wrap1 (by omega)
    have hw4 : IntKind.i64.wrap ((j : Int) - 1) = ((j - 1 : Nat) : Int) := by rw [wrap_id (by omega) (by omega)]; omega
    simp [g0, e1, e2, c2, c3, f2, f3, cellOf_setCell, frzOf_setCell, hw3, hw4, -Int.natCast_add, -joinT_eq]
    rw [joinT_eq]
    have H4 := (H3'.dr 1).swp (i := i) (j := j) (by omega) (by omega)
    generalize ((dr w3 1).setCell ⟨g, i, none⟩ (.int .u64 d1[j]!)).setCell ⟨g, j, none⟩ (.int .u64 d1[i]!) = w4 at *
    have hn2 : (Sort.swp d1 i j).size = n := by rw [size_swp]; exact hn1
    generalize Sort.swp d1 i j = d2 at *
    generalize hr : partLoop ltInt a (i + 1) (j - 1) d2 = r at *
    refine ⟨PlI w g e cap n a b r, fun x _ => ms x 1 + 2 - ms x 0, ⟨i + 1, j - 1, d2, rfl, H4, hn2, by omega, by omega, by omega, hr⟩, ?_⟩
    rintro x w5 ⟨i5, j5, d5, rfl, H5, hn5, ha5, hij5, hj5, hR⟩
    rw [partLoop_eq] at hR
    refine scan_up (p := fun x => ltInt x d5[a]!) (i := i5) (j := j5) H5.row hij5 (fun k w6 Kn hk H6 k1 k2 => by refine part_j10 H6 hn5 h6 (by omega) (by omega) hk ?_ ?_ <;> first | exact k1 | exact k2) fun w6 H6 => ?_
    have hge := scanUp_ge (fun x => ltInt x d5[a]!) d5 j5 i5
    have hle := scanUp_le (fun x => ltInt x d5[a]!) d5 j5 i5
    generalize scanUp (fun x => ltInt x d5[a]!) d5 j5 i5 = i6 at *
    unfold M.slices_partitionOrdered_uint64.j9
    simp only [g21]
    refine scan_down (n := n) (p := fun x => !ltInt x d5[a]!) H6.row (by omega) (i := i6) (j := j5) (by omega) (fun k w7 Kn hk H7 k1 k2 => by refine part_j13 H7 hn5 h6 (by omega) hk ?_ ?_ <;> first | exact k1 | exact k2) fun w7 H7 => ?_
    have hdl := scanDown_le (fun x => !ltInt x d5[a]!) d5 i6 j5
    generalize scanDown (fun x => !ltInt x d5[a]!) d5 i6 j5 = j6 at *
    have H7' := H5.trans (H6.trans H7)
    try simp only at hR
    simp only [g0, joinT_eq]
    by_cases hgt : i6 > j6
    · have hgt' : (j6 : Int) < i6 := by omega
      rw [if_pos hgt] at hR
      simp only [bin_gtr, hgt', decide_true, Eng.cond_true]
      unfold M.slices_partitionOrdered_uint64.j7
      have c1 := H7.row.at (show a < d5.size by omega)
      have c2 := H7.row.at (show j6 < d5.size by omega)
      have e1 : (j6 : Int) < n := by omega
      have f1 := H7.row.frz a
      have f2 := H7.row.frz j6
      simp [g21, b1, e1, c1, c2, f1, f2, cellOf_setCell, frzOf_setCell, -Int.natCast_add]
      subst hR
      exact h _ ((H7'.dr 1).swp (by omega) (by omega))
    · have hgt' : ¬ (j6 : Int) < i6 := by omega
      rw [if_neg hgt] at hR
      simp only [bin_gtr, hgt', decide_false, Eng.cond_false]
      unfold M.slices_partitionOrdered_uint64.j15
      have c1 := H7.row.at (show i6 < d5.size by omega)
      have c2 := H7.row.at (show j6 < d5.size by omega)
      have e1 : (j6 : Int) < n := by omega
      have e2 : (i6 : Int) < n := by omega
      have f1 := H7.row.frz i6
      have f2 := H7.row.frz j6
      have hw3 : IntKind.i64.wrap ((i6 : Int) + 1) = ((i6 + 1 : Nat) : Int) := wrap1 (by omega)
      have hw4 : IntKind.i64.wrap ((j6 : Int) - 1) = ((j6 - 1 : Nat) : Int) := by rw [wrap_id (by omega) (by omega)]; omega
      simp [g0, e1, e2, c1, c2, f1, f2, cellOf_setCell, frzOf_setCell, hw3, hw4, -Int.natCast_add]
      refine ⟨⟨i6 + 1, j6 - 1, _, rfl, (H7'.dr 1).swp (by omega) (by omega), by rw [size_swp]; exact hn5, by omega, by omega, by omega, hR⟩, ?_⟩
      simp [ms, gv]; omega

/-! ### partitionEqualOrdered -/
def PeI (w : World) (g : Nat) (e : TypeId) (cap n a b : Nat) (R : Nat × Array Int) : KL := fun x w1 => ∃ (i j : Nat) (d : Array Int), x = [.int .i64 (i : Int), .int .i64 (j : Int)] ∧ Rf w w1 g e cap d ∧ d.size = n ∧ a < i ∧ i ≤ j + 2 ∧ j < b ∧ partEqLoop ltInt a i j d = R
theorem partitionEqual_ok {w : World} {g cap n : Nat} {e : TypeId} {d : Array Int} (H : Rw w g e cap d) (hn : d.size = n) (h6 : n < 100000) {a b pv : Nat} (hb : b ≤ n) (ha : a ≤ pv) (hp : pv < b) {K : KV}
    (h : ∀ w', Rf w w' g e cap (partitionEqual ltInt d a b pv).2 → K (.int .i64 ((partitionEqual ltInt d a b pv).1 : Nat)) w') :
    callT P F.slices_partitionEqualOrdered_uint64 [.slice (some ⟨g, 0, none⟩) n cap, .int .i64 a, .int .i64 b, .int .i64 pv] w K := by
  apply M.slices_partitionEqualOrdered_uint64.calls
  unfold M.slices_partitionEqualOrdered_uint64
  have a1 := H.at (show a < d.size by omega)
  have a2 := H.at (show pv < d.size by omega)
  have b1 : (a : Int) < n := by omega
  have b2 : (pv : Int) < n := by omega
  have f1 := H.frz a
  have f2 := H.frz pv
  have hw1 : IntKind.i64.wrap ((a : Int) + 1) = ((a + 1 : Nat) : Int) := wrap1 (by omega)
  have hw2 : IntKind.i64.wrap ((b : Int) - 1) = ((b - 1 : Nat) : Int) := by rw [wrap_id (by omega) (by omega)]; omega
  simp [b1, b2, a1, a2, f1, f2, cellOf_setCell, frzOf_setCell, hw1, hw2, -Int.natCast_add, -joinT_eq]
  have H1 := (H.self.dr 1).swp (i := a) (j := pv) (by omega) (by omega)
  generalize ((dr w 1).setCell ⟨g, a, none⟩ (.int .u64 d[pv]!)).setCell ⟨g, pv, none⟩ (.int .u64 d[a]!) = w1 at *
  clear a1 a2 f1 f2
  unfold partitionEqual at h
  have hn1 : (Sort.swp d a pv).size = n := by rw [size_swp]; exact hn
  generalize Sort.swp d a pv = d1 at *
  generalize hr : partEqLoop ltInt a (a + 1) (b - 1) d1 = r at *
  rw [joinT_eq]
  refine ⟨PeI w g e cap n a b r, fun x _ => ms x 1 + 2 - ms x 0, ⟨a + 1, b - 1, d1, rfl, H1, hn1, by omega, by omega, by omega, hr⟩, ?_⟩
  rintro x w5 ⟨i5, j5, d5, rfl, H5, hn5, ha5, hij5, hj5, hR⟩
  rw [partEqLoop_eq] at hR
  simp only [g20]
  refine scan_up (p := fun x => !ltInt d5[a]! x) (i := i5) (j := j5) H5.row hij5 (fun k w6 Kn hk H6 k1 k2 => by refine part_e3 H6 hn5 h6 (by omega) (by omega) hk ?_ ?_ <;> first | exact k1 | exact k2) fun w6 H6 => ?_
  have hge := scanUp_ge (fun x => !ltInt d5[a]! x) d5 j5 i5
  have hle := scanUp_le (fun x => !ltInt d5[a]! x) d5 j5 i5
  generalize scanUp (fun x => !ltInt d5[a]! x) d5 j5 i5 = i6 at *
  unfold M.slices_partitionEqualOrdered_uint64.j2
  simp only [g21]
  refine scan_down (n := n) (p := fun x => ltInt d5[a]! x) H6.row (by omega) (i := i6) (j := j5) (by omega) (fun k w7 Kn hk H7 k1 k2 => by refine part_e6 H7 hn5 h6 (by omega) hk ?_ ?_ <;> first | exact k1 | exact k2) fun w7 H7 => ?_
  have hdl := scanDown_le (fun x => ltInt d5[a]! x) d5 i6 j5
  generalize scanDown (fun x => ltInt d5[a]! x) d5 i6 j5 = j6 at *
  have H7' := H5.trans (H6.trans H7)
  try simp only at hR
  simp only [g0, joinT_eq]
  by_cases hgt : i6 > j6
  · have hgt' : (j6 : Int) < i6 := by omega
    rw [if_pos hgt] at hR
    simp only [bin_gtr, hgt', decide_true, Eng.cond_true, g20]
    subst hR
    exact h _ H7'
  · have hgt' : ¬ (j6 : Int) < i6 := by omega
    rw [if_neg hgt] at hR
    simp only [bin_gtr, hgt', decide_false, Eng.cond_false]
    unfold M.slices_partitionEqualOrdered_uint64.j8
    have c1 := H7.row.at (show i6 < d5.size by omega)
    have c2 := H7.row.at (show j6 < d5.size by omega)
    have e1 : (j6 : Int) < n := by omega
    have e2 : (i6 : Int) < n := by omega
    have f1 := H7.row.frz i6
    have f2 := H7.row.frz j6
    have hw3 : IntKind.i64.wrap ((i6 : Int) + 1) = ((i6 + 1 : Nat) : Int) := wrap1 (by omega)
    have hw4 : IntKind.i64.wrap ((j6 : Int) - 1) = ((j6 - 1 : Nat) : Int) := by rw [wrap_id (by omega) (by omega)]; omega
    simp [g0, e1, e2, c1, c2, f1, f2, cellOf_setCell, frzOf_setCell, hw3, hw4, -Int.natCast_add]
    refine ⟨⟨i6 + 1, j6 - 1, _, rfl, (H7'.dr 1).swp (by omega) (by omega), by rw [size_swp]; exact hn5, by omega, by omega, by omega, hR⟩, ?_⟩
    simp [ms, gv]; omega
end Go.Proofs.Ytkjhekflgghbdaa.Suint64
set_option maxRecDepth 100000
namespace Go.Proofs.Ytkjhekflgghbdaa.Suint64
open Go.Eng Go.Sort

/-! ### reverseRangeOrdered -/
def RvI (w : World) (g : Nat) (e : TypeId) (cap n : Nat) (R : Array Int) : KL := fun x w1 => ∃ (i j : Nat) (d : Array Int), x = [.int .i64 (i : Int), .int .i64 (j : Int)] ∧ Rf w w1 g e cap d ∧ d.size = n ∧ i ≤ n ∧ j < n ∧ reverseLoop i j d = R
theorem reverse_ok {w : World} {g cap n : Nat} {e : TypeId} {d : Array Int} (H : Rw w g e cap d) (hn : d.size = n) (h6 : n < 100000) {a b : Nat} (hb : b ≤ n) (hab : a < b) {K : KV}
    (h : ∀ w', Rf w w' g e cap (reverseRange d a b) → K (.tuple #[]) w') : callT P F.slices_reverseRangeOrdered_uint64 [.slice (some ⟨g, 0, none⟩) n cap, .int .i64 a, .int .i64 b] w K := by
  apply M.slices_reverseRangeOrdered_uint64.calls
  unfold M.slices_reverseRangeOrdered_uint64
  have hw2 : IntKind.i64.wrap ((b : Int) - 1) = ((b - 1 : Nat) : Int) := by rw [wrap_id (by omega) (by omega)]; omega
  simp only [bin_sub, hw2]
  unfold reverseRange at h
  generalize hR : reverseLoop a (b - 1) d = R at *
  refine ⟨RvI w g e cap n R, fun x _ => ms x 1 - ms x 0, ⟨a, b - 1, d, rfl, H.self, hn, by omega, by omega, hR⟩, ?_⟩
  clear hR
  rintro x w1 ⟨i, j, d1, rfl, H1, hn1, hi, hj, hR⟩
  simp only [joinT_eq, g20, g21]
  unfold reverseLoop at hR
  by_cases hij : i < j
  · have hij' : (i : Int) < j := by omega
    rw [if_pos hij] at hR
    simp only [bin_lss, hij', decide_true, Eng.cond_true]
    unfold M.slices_reverseRangeOrdered_uint64.j1
    have c1 := H1.row.at (show i < d1.size by omega)
    have c2 := H1.row.at (show j < d1.size by omega)
    have e1 : (i : Int) < n := by omega
    have e2 : (j : Int) < n := by omega
    have f1 := H1.row.frz i
    have f2 := H1.row.frz j
    have hw3 : IntKind.i64.wrap ((i : Int) + 1) = ((i + 1 : Nat) : Int) := wrap1 (by omega)
    have hw4 : IntKind.i64.wrap ((j : Int) - 1) = ((j - 1 : Nat) : Int) := by rw [wrap_id (by omega) (by omega)]; omega
    simp [g20, g21, e1, e2, c1, c2, f1, f2, cellOf_setCell, frzOf_setCell, hw3, hw4, -Int.natCast_add]
    refine ⟨⟨i + 1, j - 1, _, rfl, (H1.dr 1).swp (by omega) (by omega), by rw [size_swp]; exact hn1, by omega, by omega, hR⟩, ?_⟩
    simp [ms, gv]; omega
  · have hij' : ¬ (i : Int) < j := by omega
    rw [if_neg hij] at hR
    subst hR
    simp only [bin_lss, hij', decide_false, Eng.cond_false]
    exact h w1 H1

/-! ### partialInsertionSortOrdered -/
theorem scanSorted_le (d : Array Int) (b : Nat) : ∀ m i, b - i ≤ m → i ≤ b → i ≤ scanSorted ltInt d b i ∧ scanSorted ltInt d b i ≤ b := by
  intro m
  induction m with
  | zero =>
    intro i hm hi
    unfold scanSorted
    rw [if_neg (by simp; omega)]
    omega
  | succ m ih =>
    intro i hm hi
    unfold scanSorted
    split
    · rename_i h
      simp at h
      have := ih (i + 1) (by omega) (by omega)
      omega
    · omega
theorem size_shiftDown : ∀ (j : Nat) (d : Array Int), (shiftDown ltInt j d).size = d.size
  | 0, _ => rfl
  | j + 1, d => by
    unfold shiftDown
    split
    · rfl
    · rw [size_shiftDown j, size_swp]
theorem size_shiftUp (b : Nat) : ∀ (m j : Nat) (d : Array Int), b - j ≤ m → (shiftUp ltInt b j d).size = d.size := by
  intro m
  induction m with
  | zero =>
    intro j d hm
    unfold shiftUp
    rw [if_neg (by omega)]
  | succ m ih =>
    intro j d hm
    unfold shiftUp
    split
    · split
      · rfl
      · rw [ih _ _ (by omega), size_swp]
    · rfl
section
variable {w : World} {g cap n : Nat} {e : TypeId} {d : Array Int}
def SsI (w : World) (g : Nat) (e : TypeId) (cap : Nat) (d : Array Int) (a b r : Nat) : KL := fun x w1 => ∃ i : Nat, x = [.int .i64 (i : Int)] ∧ Rf w w1 g e cap d ∧ a < i ∧ i ≤ b ∧ scanSorted ltInt d b i = r
theorem ssort_ok (H : Rw w g e cap d) (hn : d.size = n) (h6 : n < 100000) {a b i : Nat} (hb : b ≤ n) (ha : a < i) (hi : i ≤ b) {K4 : KL} {K : KV}
    (h : ∀ w', Rf w w' g e cap d → K4 [.int .i64 (scanSorted ltInt d b i : Nat)] w') :
    joinT (fun K4 => loopT [.int .i64 (i : Int)] w fun K5 x5 w => M.slices_partialInsertionSortOrdered_uint64.j5 x5 (.int .i64 (b : Int)) (.slice (some ⟨g, 0, none⟩) n cap) K4 K5 w K) K4 := by
  rw [joinT_eq]
  generalize hr : scanSorted ltInt d b i = r at *
  refine ⟨SsI w g e cap d a b r, fun x _ => b - ms x 0, ⟨i, rfl, H.self, ha, hi, hr⟩, ?_⟩
  clear hr
  rintro x w1 ⟨k, rfl, H1, hak, hkb, hR⟩
  unfold M.slices_partialInsertionSortOrdered_uint64.j5
  unfold scanSorted at hR
  by_cases hk : k < b
  · have a1 := H1.row.at (show k < d.size by omega)
    have a2 := H1.row.at (show k - 1 < d.size by omega)
    have b1 : (k : Int) < n := by omega
    have b2 : ((k - 1 : Nat) : Int) < n := by omega
    have b3 : (k : Int) < b := by omega
    have hw : IntKind.i64.wrap ((k : Int) - 1) = ((k - 1 : Nat) : Int) := by rw [wrap_id (by omega) (by omega)]; omega
    simp [g0, b1, b2, b3, a1, a2, hw]
    refine less_ok _ _ ?_
    cases hl : ltInt d[k]! d[k - 1]! with
    | true =>
      rw [if_neg (by simp [hl])] at hR
      simp
      rw [← hR] at h
      exact h _ (H1.dr 1)
    | false =>
      rw [if_pos (by simp [hl, hk])] at hR
      simp [wrap1 (show k < 1000000 by omega)]
      refine ⟨⟨k + 1, by simp, H1.dr 1, by omega, by omega, hR⟩, ?_⟩
      simp [ms, gv]; omega
  · have b3 : ¬ (k : Int) < b := by omega
    rw [if_neg (by simp [hk])] at hR
    simp [g0, b3]
    rw [← hR] at h
    exact h _ (H1.dr 1)

def SdI (w : World) (g : Nat) (e : TypeId) (cap n : Nat) (R : Array Int) : KL := fun x w1 => ∃ (j : Nat) (d : Array Int), x = [.int .i64 (j : Int)] ∧ Rf w w1 g e cap d ∧ d.size = n ∧ j < n ∧ shiftDown ltInt j d = R
theorem sdown_ok (H : Rw w g e cap d) (hn : d.size = n) (h6 : n < 100000) {j : Nat} (hj : j < n) {K9 : KL} {K : KV}
    (h : ∀ w' v, Rf w w' g e cap (shiftDown ltInt j d) → K9 [v] w') :
    loopT [.int .i64 (j : Int)] w fun K10 x10 w => joinT (fun K11 => binT P .geq T.int (.tmp 64) (.const (.int .i64 1)) (gv x10 0) (.int .i64 1) w fun t65 w => condT t65 (K11 [] w) (K9 [(gv x10 0)] w)) fun x11 w => M.slices_partialInsertionSortOrdered_uint64.j11 (.slice (some ⟨g, 0, none⟩) n cap) x10 K9 K10 w K := by
  generalize hr : shiftDown ltInt j d = R at *
  refine ⟨SdI w g e cap n R, fun x _ => ms x 0, ⟨j, d, rfl, H.self, hn, hj, hr⟩, ?_⟩
  clear hr
  rintro x w1 ⟨k, d1, rfl, H1, hn1, hk, hR⟩
  simp only [joinT_eq, g0, bin_geq]
  cases k with
  | zero =>
    have hk0 : ¬ (1 : Int) ≤ ((0 : Nat) : Int) := by omega
    simp only [hk0, decide_false, Eng.cond_false]
    unfold shiftDown at hR
    subst hR
    exact h _ _ H1
  | succ k =>
    have hk0 : (1 : Int) ≤ ((k + 1 : Nat) : Int) := by omega
    simp only [hk0, decide_true, Eng.cond_true]
    unfold M.slices_partialInsertionSortOrdered_uint64.j11
    unfold shiftDown at hR
    have a1 := H1.row.at (show k + 1 < d1.size by omega)
    have a2 := H1.row.at (show k < d1.size by omega)
    have b1 : ((k + 1 : Nat) : Int) < n := by omega
    have b2 : (k : Int) < n := by omega
    have f1 := H1.row.frz (k + 1)
    have f2 := H1.row.frz k
    have hw : IntKind.i64.wrap (((k + 1 : Nat) : Int) - 1) = (k : Int) := by rw [wrap_id (by omega) (by omega)]; omega
    simp [g0, b1, b2, a1, a2, hw, -Int.natCast_add]
    refine less_ok _ _ ?_
    cases hl : ltInt d1[k + 1]! d1[k]! with
    | false =>
      rw [if_pos (by simp [hl])] at hR
      subst hR
      simp
      exact h _ _ (H1.dr 1)
    | true =>
      rw [if_neg (by simp [hl])] at hR
      simp [-Int.natCast_add]
      unfold M.slices_partialInsertionSortOrdered_uint64.j13
      simp [g0, b1, b2, a1, a2, f1, f2, hw, cellOf_setCell, frzOf_setCell, -Int.natCast_add]
      refine ⟨⟨k, _, rfl, ((H1.dr 1).dr 1).swp (by omega) (by omega), by rw [size_swp]; exact hn1, by omega, hR⟩, ?_⟩
      simp [ms, gv]

def SuI (w : World) (g : Nat) (e : TypeId) (cap n b : Nat) (R : Array Int) : KL := fun x w1 => ∃ (j : Nat) (d : Array Int), x = [.int .i64 (j : Int)] ∧ Rf w w1 g e cap d ∧ d.size = n ∧ 1 ≤ j ∧ j ≤ b ∧ shiftUp ltInt b j d = R
theorem sup_ok (H : Rw w g e cap d) (hn : d.size = n) (h6 : n < 100000) {j b : Nat} (hb : b ≤ n) (hj : 1 ≤ j) (hjb : j ≤ b) {K3 : KL} {x4 x8 x9 : List Value} {K : KV}
    (h : ∀ w' v, Rf w w' g e cap (shiftUp ltInt b j d) → K3 [gv x4 0, gv x8 0, gv x9 0, v] w') :
    loopT [.int .i64 (j : Int)] w fun K14 x14 w => M.slices_partialInsertionSortOrdered_uint64.j14 x14 (.int .i64 (b : Int)) K3 x4 x8 x9 (.slice (some ⟨g, 0, none⟩) n cap) K14 w K := by
  generalize hr : shiftUp ltInt b j d = R at *
  refine ⟨SuI w g e cap n b R, fun x _ => b - ms x 0, ⟨j, d, rfl, H.self, hn, hj, hjb, hr⟩, ?_⟩
  clear hr
  rintro x w1 ⟨k, d1, rfl, H1, hn1, hk1, hk, hR⟩
  unfold M.slices_partialInsertionSortOrdered_uint64.j14
  simp only [joinT_eq, g0, bin_lss]
  unfold shiftUp at hR
  by_cases hkb : k < b
  · have hkb' : (k : Int) < b := by omega
    rw [if_pos hkb] at hR
    simp only [hkb', decide_true, Eng.cond_true]
    unfold M.slices_partialInsertionSortOrdered_uint64.j15
    have a1 := H1.row.at (show k < d1.size by omega)
    have a2 := H1.row.at (show k - 1 < d1.size by omega)
    have b1 : (k : Int) < n := by omega
    have b2 : ((k - 1 : Nat) : Int) < n := by omega
    have f1 := H1.row.frz k
    have f2 := H1.row.frz (k - 1)
    have hw : IntKind.i64.wrap ((k : Int) - 1) = ((k - 1 : Nat) : Int) := by rw [wrap_id (by omega) (by omega)]; omega
    simp [g0, b1, b2, a1, a2, hw]
    refine less_ok _ _ ?_
    cases hl : ltInt d1[k]! d1[k - 1]! with
    | false =>
      rw [if_pos (by simp [hl])] at hR
      subst hR
      simp
      exact h _ _ (H1.dr 1)
    | true =>
      rw [if_neg (by simp [hl])] at hR
      simp
      unfold M.slices_partialInsertionSortOrdered_uint64.j17
      simp [g0, b1, b2, a1, a2, f1, f2, hw, cellOf_setCell, frzOf_setCell, wrap1 (show k < 1000000 by omega)]
      refine ⟨⟨k + 1, _, by simp, ((H1.dr 1).dr 1).swp (by omega) (by omega), by rw [size_swp]; exact hn1, by omega, by omega, hR⟩, ?_⟩
      simp [ms, gv]; omega
  · have hkb' : ¬ (k : Int) < b := by omega
    rw [if_neg hkb] at hR
    simp only [hkb', decide_false, Eng.cond_false]
    subst hR
    exact h _ _ H1
end
def PiI (w : World) (g : Nat) (e : TypeId) (cap n a b : Nat) (R : Array Int × Bool) : KL := fun x w1 => ∃ (u1 u2 u3 : Value) (i s : Nat) (d : Array Int), x = [.int .i64 (i : Int), u1, u2, u3, .int .i64 ((5 - s : Nat) : Int)] ∧ Rf w w1 g e cap d ∧ d.size = n ∧ s ≤ 5 ∧ a < i ∧ i ≤ b ∧ partialIns ltInt a b s i d = R
theorem partialIns_ok {w : World} {g cap n : Nat} {e : TypeId} {d : Array Int} (H : Rw w g e cap d) (hn : d.size = n) (h6 : n < 100000) {a b : Nat} (hb : b ≤ n) (hab : a < b) {K : KV}
    (h : ∀ w', Rf w w' g e cap (partialInsertionSort ltInt d a b).1 → K (.bool (partialInsertionSort ltInt d a b).2) w') : callT P F.slices_partialInsertionSortOrdered_uint64 [.slice (some ⟨g, 0, none⟩) n cap, .int .i64 a, .int .i64 b] w K := by
  apply M.slices_partialInsertionSortOrdered_uint64.calls
  unfold M.slices_partialInsertionSortOrdered_uint64
  simp only [bin_add, wrap1 (show a < 1000000 by omega), joinT_eq]
  unfold partialInsertionSort at h
  generalize hR : partialIns ltInt a b 5 (a + 1) d = R at *
  refine ⟨PiI w g e cap n a b R, fun x _ => 5 - ms x 4, ⟨_, _, _, a + 1, 5, d, rfl, H.self, hn, by omega, by omega, by omega, hR⟩, ?_⟩
  clear hR
  rintro x w1 ⟨u1, u2, u3, i, s, d1, rfl, H1, hn1, hs, hai, hib, hR⟩
  have q0 : ∀ a b c d e : Value, gv [a, b, c, d, e] 0 = a := fun _ _ _ _ _ => rfl
  have q1 : ∀ a b c d e : Value, gv [a, b, c, d, e] 1 = b := fun _ _ _ _ _ => rfl
  have q2 : ∀ a b c d e : Value, gv [a, b, c, d, e] 2 = c := fun _ _ _ _ _ => rfl
  have q3 : ∀ a b c d e : Value, gv [a, b, c, d, e] 3 = d := fun _ _ _ _ _ => rfl
  have q4 : ∀ a b c d e : Value, gv [a, b, c, d, e] 4 = e := fun _ _ _ _ _ => rfl
  unfold M.slices_partialInsertionSortOrdered_uint64.j1
  simp only [joinT_eq, q0, q1, q2, q3, q4, bin_lss]
  cases s with
  | zero =>
    simp
    unfold partialIns at hR
    subst hR
    exact h _ H1
  | succ s =>
    rw [show 5 - (s + 1) = 4 - s from by omega]
    have hs5 : ((4 - s : Nat) : Int) < 5 := by omega
    simp only [hs5, decide_true, Eng.cond_true]
    unfold M.slices_partialInsertionSortOrdered_uint64.j2
    unfold partialIns at hR
    simp only at hR
    rw [joinT_eq]
    simp only [q0, q1, q2, q3, q4]
    refine ssort_ok (a := a) H1.row hn1 h6 hb hai hib fun w2 H2 => ?_
    have hsc := scanSorted_le d1 b _ i (Nat.le_refl _) hib
    generalize scanSorted ltInt d1 b i = i2 at *
    have H2' := H1.trans H2
    simp only [joinT_eq, g0, bin_eql]
    by_cases hib2 : i2 = b
    · have : (i2 : Int) = b := by omega
      rw [if_pos hib2] at hR
      simp only [this, decide_true, Eng.cond_true]
      subst hR
      exact h _ H2'
    have hib2' : ¬ (i2 : Int) = b := by omega
    rw [if_neg hib2] at hR
    simp only [hib2', decide_false, Eng.cond_false]
    unfold M.slices_partialInsertionSortOrdered_uint64.j7
    have hw0 : IntKind.i64.wrap ((b : Int) - a) = ((b - a : Nat) : Int) := wrapS (by omega) (by omega)
    simp only [joinT_eq, bin_sub, hw0, bin_lss]
    by_cases h50 : b - a < 50
    · have : ((b - a : Nat) : Int) < 50 := by omega
      rw [if_pos h50] at hR
      simp only [this, decide_true, Eng.cond_true]
      subst hR
      exact h _ H2'
    have h50' : ¬ ((b - a : Nat) : Int) < 50 := by omega
    rw [if_neg h50] at hR
    simp only [h50', decide_false, Eng.cond_false]
    unfold M.slices_partialInsertionSortOrdered_uint64.j8
    have a1 := H2.row.at (show i2 < d1.size by omega)
    have a2 := H2.row.at (show i2 - 1 < d1.size by omega)
    have b1 : (i2 : Int) < n := by omega
    have b2 : ((i2 - 1 : Nat) : Int) < n := by omega
    have f1 := H2.row.frz i2
    have f2 := H2.row.frz (i2 - 1)
    have hw : IntKind.i64.wrap ((i2 : Int) - 1) = ((i2 - 1 : Nat) : Int) := by rw [wrap_id (by omega) (by omega)]; omega
    have hwa : IntKind.i64.wrap ((i2 : Int) - a) = ((i2 - a : Nat) : Int) := wrapS (by omega) (by omega)
    simp [g0, b1, b2, a1, a2, f1, f2, hw, hwa, cellOf_setCell, frzOf_setCell, -joinT_eq]
    have H3 := (H2'.dr 1).swp (i := i2) (j := i2 - 1) (by omega) (by omega)
    generalize ((dr w2 1).setCell ⟨g, i2, none⟩ (.int .u64 d1[i2 - 1]!)).setCell ⟨g, i2 - 1, none⟩ (.int .u64 d1[i2]!) = w3 at *
    have hn3 : (Sort.swp d1 i2 (i2 - 1)).size = n := by rw [size_swp]; exact hn1
    generalize Sort.swp d1 i2 (i2 - 1) = d3 at *
    -- behind the shift down
    have tail : ∀ (x9 : List Value) (w4 : World) (d4 : Array Int), Rf w w4 g e cap d4 → d4.size = n → partialIns ltInt a b s i2 (if b - i2 ≥ 2 then shiftUp ltInt b (i2 + 1) d4 else d4) = R → ∀ (K3 : KL) (x8 x1 : List Value),
        (∀ w' v, ∀ d5, Rf w w' g e cap d5 → d5.size = n → partialIns ltInt a b s i2 d5 = R → K3 [.int .i64 (i2 : Int), gv x8 0, gv x9 0, v] w') →
        M.slices_partialInsertionSortOrdered_uint64.j9 (.int .i64 b) [.int .i64 i2] K3 x8 x9 (.slice (some ⟨g, 0, none⟩) n cap) x1 w4 K := by
      intro x9 w4 d4 H4 hn4 hR4 K3 x8 x1 hK
      unfold M.slices_partialInsertionSortOrdered_uint64.j9
      have hwb : IntKind.i64.wrap ((b : Int) - i2) = ((b - i2 : Nat) : Int) := wrapS (by omega) (by omega)
      simp only [g0, bin_sub, hwb, bin_geq]
      by_cases h2 : b - i2 ≥ 2
      · have h2' : (2 : Int) ≤ ((b - i2 : Nat) : Int) := by omega
        rw [if_pos h2] at hR4
        simp only [h2', decide_true, Eng.cond_true, bin_add, wrap1 (show i2 < 1000000 by omega)]
        refine sup_ok H4.row hn4 h6 hb (by omega) (by omega) fun w5 v H5 => ?_
        exact hK _ v _ (H4.trans H5) (by rw [size_shiftUp _ _ _ _ (Nat.le_refl _)]; exact hn4) hR4
      · have h2' : ¬ (2 : Int) ≤ ((b - i2 : Nat) : Int) := by omega
        rw [if_neg h2] at hR4
        simp only [h2', decide_false, Eng.cond_false]
        exact hK _ _ _ H4 hn4 hR4
    have fin : ∀ w' (x : List Value) d5, gv x 0 = .int .i64 i2 → Rf w w' g e cap d5 → d5.size = n → partialIns ltInt a b s i2 d5 = R →
        PiI w g e cap n a b R [gv x 0, gv x 1, gv x 2, gv x 3, .int .i64 (IntKind.i64.wrap (((4 - s : Nat) : Int) + 1))] w' ∧ 5 - ms [gv x 0, gv x 1, gv x 2, gv x 3, .int .i64 (IntKind.i64.wrap (((4 - s : Nat) : Int) + 1))] 4 < 5 - ms [.int .i64 (i : Int), u1, u2, u3, .int .i64 ((4 - s : Nat) : Int)] 4 := by
      intro w' x d5 hx H5 hn5 hR5
      have : IntKind.i64.wrap (((4 - s : Nat) : Int) + 1) = ((5 - s : Nat) : Int) := by rw [wrap_id (by omega) (by omega)]; omega
      rw [this, hx]
      refine ⟨⟨_, _, _, i2, s, d5, rfl, H5, hn5, by omega, by omega, by omega, hR5⟩, ?_⟩
      simp only [ms, q4]; omega
    by_cases h2 : i2 - a ≥ 2
    · have h2' : (2 : Int) ≤ ((i2 - a : Nat) : Int) := by omega
      rw [if_pos h2] at hR
      simp only [joinT_eq, h2', decide_true, Eng.cond_true]
      refine sdown_ok H3.row hn3 h6 (by omega) fun w4 v H4 => ?_
      refine tail _ _ _ (H3.trans H4) (by rw [size_shiftDown]; exact hn3) hR _ _ _ fun w' v d5 H5 hn5 hR5 => ?_
      exact fin w' [.int .i64 (i2 : Int), _, _, v] d5 rfl H5 hn5 hR5
    · have h2' : ¬ (2 : Int) ≤ ((i2 - a : Nat) : Int) := by omega
      rw [if_neg h2] at hR
      simp only [joinT_eq, h2', decide_false, Eng.cond_false]
      refine tail _ _ _ H3 hn3 hR _ _ _ fun w' v d5 H5 hn5 hR5 => ?_
      exact fin w' [.int .i64 (i2 : Int), _, _, v] d5 rfl H5 hn5 hR5
end Go.Proofs.Ytkjhekflgghbdaa.Suint64
set_option maxRecDepth 100000
namespace Go.Proofs.Ytkjhekflgghbdaa
open Go.Eng

theorem tblLen : ∀ v : Fin 256, ((⟨#[0, 1, 2, 2, 3, 3, 3, 3, 4, 4, 4, 4, 4, 4, 4, 4, 5, 5, 5, 5, 5, 5, 5, 5, 5, 5, 5, 5, 5, 5, 5, 5, 6, 6, 6, 6, 6, 6, 6, 6, 6, 6, 6, 6, 6, 6, 6, 6, 6, 6, 6, 6, 6, 6, 6, 6, 6, 6, 6, 6, 6, 6, 6, 6, 7, 7, 7, 7, 7, 7, 7, 7, 7, 7, 7, 7, 7, 7, 7, 7, 7, 7, 7, 7, 7, 7, 7, 7, 7, 7, 7, 7, 7, 7, 7, 7, 7, 7, 7, 7, 7, 7, 7, 7, 7, 7, 7, 7, 7, 7, 7, 7, 7, 7, 7, 7, 7, 7, 7, 7, 7, 7, 7, 7, 7, 7, 7, 7, 8, 8, 8, 8, 8, 8, 8, 8, 8, 8, 8, 8, 8, 8, 8, 8, 8, 8, 8, 8, 8, 8, 8, 8, 8, 8, 8, 8, 8, 8, 8, 8, 8, 8, 8, 8, 8, 8, 8, 8, 8, 8, 8, 8, 8, 8, 8, 8, 8, 8, 8, 8, 8, 8, 8, 8, 8, 8, 8, 8, 8, 8, 8, 8, 8, 8, 8, 8, 8, 8, 8, 8, 8, 8, 8, 8, 8, 8, 8, 8, 8, 8, 8, 8, 8, 8, 8, 8, 8, 8, 8, 8, 8, 8, 8, 8, 8, 8, 8, 8, 8, 8, 8, 8, 8, 8, 8, 8, 8, 8, 8, 8, 8, 8, 8, 8, 8, 8, 8, 8, 8, 8, 8, 8, 8, 8, 8, 8]⟩ : ByteArray).get! v.val).toNat = Sort.bitsLen v.val := by decide +kernel
theorem strT' : isStrB P T.string = true := by refine Eq.trans ?_ rfl; kernel_rfl
theorem len64_ok {w : World} {x : Nat} (hx : x < 65536) {K : KV} (h : K (.int .i64 (Sort.bitsLen x : Nat)) w) : callT P F.math_bits_Len64 [.int .u64 x] w K := by
  apply M.math_bits_Len64.calls
  unfold M.math_bits_Len64
  have h1 : ¬ (4294967296 : Int) ≤ x := by omega
  simp only [joinT_eq, bin_geq, h1, decide_false, Eng.cond_false]
  unfold M.math_bits_Len64.j0
  have q0 : ∀ a b : Value, gv [a, b] 0 = a := fun _ _ => rfl
  have q1 : ∀ a b : Value, gv [a, b] 1 = b := fun _ _ => rfl
  have h2 : ¬ (65536 : Int) ≤ x := by omega
  simp only [joinT_eq, q0, q1, bin_geq, h2, decide_false, Eng.cond_false]
  unfold M.math_bits_Len64.j1
  have u64B : intB P T.uint64 .u64 = true := by kernel_rfl
  have u8B : intB P T.uint8 .u8 = true := by kernel_rfl
  have i64B : intB P T.int .i64 = true := by kernel_rfl
  have fin : ∀ (y z : Nat), y < 256 → z + Sort.bitsLen y = Sort.bitsLen x → z < 1000 → M.math_bits_Len64.j2 [.int .u64 y, .int .i64 z] w K := by
    intro y z hy hz hz1
    unfold M.math_bits_Len64.j2
    simp only [q0, q1]
    rw [cv_ints u64B u8B, wrap8 hy, ix_strs strT' (by exact hy)]
    have ht := tblLen ⟨y, hy⟩
    simp only at ht
    rw [ht, cv_ints u8B i64B]
    have hb : Sort.bitsLen y ≤ 16 := (Sort.bitsLen_le_iff y 16).2 (by omega)
    rw [wrapI (by omega), bin_add]
    have : ((z : Nat) : Int) + (Sort.bitsLen y : Nat) = ((Sort.bitsLen x : Nat) : Int) := by omega
    simp only [this]
    rw [wrapI (by omega)]
    exact h
  simp only [joinT_eq, q0, q1, bin_geq]
  by_cases h3 : 256 ≤ x
  · have h3' : (256 : Int) ≤ x := by omega
    have hs : binT P .shr T.uint64 (.tmp 15) (.const (.int .u64 8)) (.int .u64 (x : Int)) (.int .u64 8) w = fun K => K (.int .u64 ((x / 256 : Nat) : Int)) w := by
      funext K
      rw [bin_shr (by decide)]
      have : (min (8 : Int).toNat IntKind.u64.bits) = 8 := by decide
      rw [this, shr_nat]
    have ha : IntKind.i64.wrap (0 + 8) = ((8 : Nat) : Int) := by decide
    simp only [h3', decide_true, Eng.cond_true, hs, bin_add, ha]
    exact fin (x / 256) 8 (by omega) (bitsLen_big h3).symm (by decide)
  · have h3' : ¬ (256 : Int) ≤ x := by omega
    simp only [h3', decide_false, Eng.cond_false]
    exact fin x 0 (by omega) (by omega) (by decide)
theorem len_ok' {w : World} {x : Nat} (hx : x < 65536) {K : KV} (h : K (.int .i64 (Sort.bitsLen x : Nat)) w) : callT P F.math_bits_Len [.int .u64 x] w K := by
  apply M.math_bits_Len.calls
  unfold M.math_bits_Len
  simp only [joinT_eq, Eng.cond_false]
  rw [M.math_bits_Len64.fcall]
  exact len64_ok hx h
theorem pow2_ok {w : World} {x : Nat} (hx : x < 65536) {K : KV} (h : K (.int .u64 ((2 ^ Sort.bitsLen x : Nat) : Int)) w) : callT P F.slices_nextPowerOfTwo [.int .i64 x] w K := by
  apply M.slices_nextPowerOfTwo.calls
  unfold M.slices_nextPowerOfTwo
  have uB : intB P T.uint .u64 = true := by kernel_rfl
  have i64B : intB P T.int .i64 = true := by kernel_rfl
  rw [cv_ints i64B uB, wrapU (by omega), M.math_bits_Len.fcall]
  refine len_ok' hx ?_
  have hb : Sort.bitsLen x ≤ 16 := (Sort.bitsLen_le_iff x 16).2 (by omega)
  have hp : 2 ^ Sort.bitsLen x ≤ 2 ^ 16 := Nat.pow_le_pow_right (by decide) hb
  rw [bin_shl (by omega)]
  have e1 : (((Sort.bitsLen x : Nat) : Int)).toNat = Sort.bitsLen x := by omega
  have e2 : min (Sort.bitsLen x) IntKind.u64.bits = Sort.bitsLen x := by
    have : IntKind.u64.bits = 64 := rfl
    omega
  have e3 : (1 : Int) * 2 ^ Sort.bitsLen x = ((2 ^ Sort.bitsLen x : Nat) : Int) := by simp
  rw [e1, e2, e3, wrapU (by omega)]
  exact h
theorem setDr_at {w : World} {b : Nat} {x v : Value} {e : TypeId} (h : w.heap[b]? = some (.cells #[x] e (0, 0))) : ((dr w 1).setCell ⟨b, 0, none⟩ v).heap[b]? = some (.cells #[v] e (0, 0)) :=
  setCell_at (w := dr w 1) h
theorem xorNext_ok {w : World} {sb : Nat} {x : Int} {e : TypeId} (hb : w.heap[sb]? = some (.cells #[.int .u64 x] e (0, 0))) {K : KV}
    (h : ∀ w' (y : Int), 0 ≤ y → y < 18446744073709551616 → w'.heap[sb]? = some (.cells #[.int .u64 y] e (0, 0)) → Fr (fun b => b = sb) w w' → K (.int .u64 y) w') : callT P F.pslices_xorshift_Next [.pointer (some ⟨sb, 0, none⟩)] w K := by
  apply M.pslices_xorshift_Next.calls
  unfold M.pslices_xorshift_Next
  have s13 : ∀ (x : Int) (w : World) (K : KV) (t : TypeId) (rx ry : Operand), binT P .shl t rx ry (.int .u64 x) (.int .u64 13) w K = K (.int .u64 (IntKind.u64.wrap (x * 2 ^ min (13 : Int).toNat IntKind.u64.bits))) w := fun x w K t rx ry => bin_shl (by decide)
  have s7 : ∀ (x : Int) (w : World) (K : KV) (t : TypeId) (rx ry : Operand), binT P .shr t rx ry (.int .u64 x) (.int .u64 7) w K = K (.int .u64 (x.fdiv (2 ^ min (7 : Int).toNat IntKind.u64.bits))) w := fun x w K t rx ry => bin_shr (by decide)
  have s17 : ∀ (x : Int) (w : World) (K : KV) (t : TypeId) (rx ry : Operand), binT P .shl t rx ry (.int .u64 x) (.int .u64 17) w K = K (.int .u64 (IntKind.u64.wrap (x * 2 ^ min (17 : Int).toNat IntKind.u64.bits))) w := fun x w K t rx ry => bin_shl (by decide)
  have c0 := cellOf_of hb 0
  have f0 := frzOf_of hb 0
  simp only [List.size_toArray, List.getElem?_toArray, List.getElem?_cons_zero] at c0
  simp [c0, f0, s13, s7, s17, bin_xor, cellOf_setCell, frzOf_setCell]
  refine h _ _ (wrapU_range _).1 (wrapU_range _).2 ?_ ?_
  · exact setDr_at (setDr_at (setDr_at hb))
  · exact (((((((Fr.refl (fun b => b = sb) w).dr 1).setCell (.inl rfl) _ _).dr 1).setCell (.inl rfl) _ _).dr 1).setCell (.inl rfl) _ _)
end Go.Proofs.Ytkjhekflgghbdaa
set_option maxRecDepth 100000
namespace Go.Proofs.Ytkjhekflgghbdaa.Suint64
open Go.Eng Go.Sort

theorem Rf.side {w w' w'' : World} {g cap sb : Nat} {e : TypeId} {d : Array Int} (h : Rf w w' g e cap d) (f : Fr (fun b => b = sb) w' w'') (hs : w.heap.size ≤ sb) (hne : sb ≠ g) : Rf w w'' g e cap d :=
  ⟨h.row.fr f fun h => hne h.symm, h.fr.trans' f fun b hb he => by omega⟩
theorem Rf.new {w w' : World} {g cap : Nat} {e : TypeId} {d : Array Int} (h : Rf w w' g e cap d) (o : Obj) : Rf w (w'.alloc o) g e cap d :=
  ⟨h.row.fr ((Fr.refl (fun _ => False) w').alloc o) fun h => h, h.fr.alloc o⟩

def Sw (w : World) (sb : Nat) : Prop := ∃ x e, w.heap[sb]? = some (.cells #[.int .i64 x] e (0, 0))
theorem order2_ok {w : World} {g cap n sb : Nat} {e : TypeId} {d : Array Int} (H : Rw w g e cap d) (hn : d.size = n) (S : Sw w sb) (hne : sb ≠ g) {a b : Nat} (ha : a < n) (hb : b < n) {K : KV}
    (h : ∀ w' x y, (x = a ∧ y = b ∨ x = b ∧ y = a) → Sw w' sb → Fr (fun b => b = sb) w w' → K (.tuple #[.int .i64 (x : Nat), .int .i64 (y : Nat)]) w') :
    fcallT P F.slices_order2Ordered_uint64 [.slice (some ⟨g, 0, none⟩) n cap, .int .i64 a, .int .i64 b, .pointer (some ⟨sb, 0, none⟩)] w K := by
  rw [M.slices_order2Ordered_uint64.fcall]
  apply M.slices_order2Ordered_uint64.calls
  unfold M.slices_order2Ordered_uint64
  have a1 := H.at (show a < d.size by omega)
  have a2 := H.at (show b < d.size by omega)
  have b1 : (a : Int) < n := by omega
  have b2 : (b : Int) < n := by omega
  simp [b1, b2, a1, a2]
  refine less_ok _ _ ?_
  obtain ⟨x, e', hx⟩ := S
  cases hl : ltInt d[b]! d[a]! with
  | false =>
    simp
    exact h _ a b (.inl ⟨rfl, rfl⟩) ⟨x, e', hx⟩ ((Fr.refl _ _).dr 1)
  | true =>
    have c0 := cellOf_of hx 0
    have f0 := frzOf_of hx 0
    simp only [List.size_toArray, List.getElem?_toArray, List.getElem?_cons_zero] at c0
    simp [c0, f0]
    exact h _ b a (.inr ⟨rfl, rfl⟩) ⟨IntKind.i64.wrap (x + 1), e', setDr_at hx⟩ (((Fr.refl (fun b => b = sb) w).dr 1).setCell (.inl rfl) _ _)
theorem median_ok {w : World} {g cap n sb : Nat} {e : TypeId} {d : Array Int} (H : Rw w g e cap d) (hn : d.size = n) (S : Sw w sb) (hne : sb ≠ g) {a b c : Nat} (ha : a < n) (hb : b < n) (hc : c < n) {K : KV}
    (h : ∀ w' x, (x = a ∨ x = b ∨ x = c) → Sw w' sb → Fr (fun b => b = sb) w w' → K (.int .i64 (x : Nat)) w') :
    fcallT P F.slices_medianOrdered_uint64 [.slice (some ⟨g, 0, none⟩) n cap, .int .i64 a, .int .i64 b, .int .i64 c, .pointer (some ⟨sb, 0, none⟩)] w K := by
  rw [M.slices_medianOrdered_uint64.fcall]
  apply M.slices_medianOrdered_uint64.calls
  unfold M.slices_medianOrdered_uint64
  refine order2_ok H hn S hne ha hb fun w1 x1 y1 h1 S1 f1 => ?_
  simp
  have H1 := H.fr f1 fun h => hne h.symm
  refine order2_ok H1 hn S1 hne (a := y1) (b := c) (by omega) hc fun w2 x2 y2 h2 S2 f2 => ?_
  simp
  have H2 := H1.fr f2 fun h => hne h.symm
  refine order2_ok H2 hn S2 hne (a := x1) (b := x2) (by omega) (by omega) fun w3 x3 y3 h3 S3 f3 => ?_
  simp
  exact h w3 y3 (by omega) S3 ((f1.trans f2).trans f3)
theorem adj_ok {w : World} {g cap n sb : Nat} {e : TypeId} {d : Array Int} (H : Rw w g e cap d) (hn : d.size = n) (h6 : n < 100000) (S : Sw w sb) (hne : sb ≠ g) {a : Nat} (ha : 1 ≤ a) (hb : a + 1 < n) {K : KV}
    (h : ∀ w' x, (x = a - 1 ∨ x = a ∨ x = a + 1) → Sw w' sb → Fr (fun b => b = sb) w w' → K (.int .i64 (x : Nat)) w') :
    fcallT P F.slices_medianAdjacentOrdered_uint64 [.slice (some ⟨g, 0, none⟩) n cap, .int .i64 a, .pointer (some ⟨sb, 0, none⟩)] w K := by
  rw [M.slices_medianAdjacentOrdered_uint64.fcall]
  apply M.slices_medianAdjacentOrdered_uint64.calls
  unfold M.slices_medianAdjacentOrdered_uint64
  have hw1 : IntKind.i64.wrap ((a : Int) - 1) = ((a - 1 : Nat) : Int) := by rw [wrap_id (by omega) (by omega)]; omega
  have hw2 : IntKind.i64.wrap ((a : Int) + 1) = ((a + 1 : Nat) : Int) := wrap1 (by omega)
  simp only [bin_sub, bin_add, hw1, hw2]
  refine median_ok H hn S hne (by omega) (by omega) (by omega) fun w' x hx S' f' => ?_
  exact h w' x hx S' f'

theorem pivot_ok {w : World} {g cap n : Nat} {e : TypeId} {d : Array Int} (H : Rw w g e cap d) (hn : d.size = n) (h6 : n < 100000) {a b : Nat} (hb : b ≤ n) (hab : a + 12 < b) {K : KV}
    (h : ∀ w' (p hint : Nat), a ≤ p → p < b → hint ≤ 2 → Rf w w' g e cap d → K (.tuple #[.int .i64 (p : Nat), .int .i64 (hint : Nat)]) w') :
    callT P F.slices_choosePivotOrdered_uint64 [.slice (some ⟨g, 0, none⟩) n cap, .int .i64 a, .int .i64 b] w K := by
  apply M.slices_choosePivotOrdered_uint64.calls
  unfold M.slices_choosePivotOrdered_uint64
  have hw0 : IntKind.i64.wrap ((b : Int) - a) = ((b - a : Nat) : Int) := wrapS (by omega) (by omega)
  generalize hl : b - a = l at *
  have q4 : IntKind.i64.wrap (((l : Nat) : Int).tdiv 4) = ((l / 4 : Nat) : Int) := by rw [Int.tdiv_eq_ediv_of_nonneg (by omega), wrap_id (by omega) (by omega)]; omega
  have m1 : IntKind.i64.wrap (((l / 4 : Nat) : Int) * 1) = ((l / 4 : Nat) : Int) := by rw [wrap_id (by omega) (by omega)]; omega
  have m2 : IntKind.i64.wrap (((l / 4 : Nat) : Int) * 2) = ((l / 4 * 2 : Nat) : Int) := by rw [wrap_id (by omega) (by omega)]; omega
  have m3 : IntKind.i64.wrap (((l / 4 : Nat) : Int) * 3) = ((l / 4 * 3 : Nat) : Int) := by rw [wrap_id (by omega) (by omega)]; omega
  have s1 : IntKind.i64.wrap ((a : Int) + ((l / 4 : Nat) : Int)) = ((a + l / 4 : Nat) : Int) := by rw [wrap_id (by omega) (by omega)]; omega
  have s2 : IntKind.i64.wrap ((a : Int) + ((l / 4 * 2 : Nat) : Int)) = ((a + l / 4 * 2 : Nat) : Int) := by rw [wrap_id (by omega) (by omega)]; omega
  have s3 : IntKind.i64.wrap ((a : Int) + ((l / 4 * 3 : Nat) : Int)) = ((a + l / 4 * 3 : Nat) : Int) := by rw [wrap_id (by omega) (by omega)]; omega
  have bq : ∀ (x : Int) (t : TypeId) (rx ry : Operand) (w : World) (K : KV), binT P .quo t rx ry (.int .i64 x) (.int .i64 4) w K = K (.int .i64 (IntKind.i64.wrap (x.tdiv 4))) w := fun x t rx ry w K => bin_quo (by decide)
  have al : ∀ (w : World) (K : KV), alT P T.int w K = K (.pointer (some ⟨w.heap.size, 0, none⟩)) (w.alloc (.cells #[.int .i64 0] T.int)) := fun w K => by refine Eq.trans ?_ rfl; kernel_rfl
  have c8 : (8 : Int) ≤ (l : Int) := by omega
  simp only [bin_sub, bin_add, bin_mul, bq, hw0, q4, m1, m2, m3, s1, s2, s3, al, bin_geq, c8, decide_true, Eng.cond_true]
  clear q4 m1 m2 m3 s1 s2 s3 bq al c8 hw0
  have H0 := H.self.new (.cells #[.int .i64 0] T.int)
  have S0 : Sw (w.alloc (.cells #[.int .i64 0] T.int)) w.heap.size := ⟨0, T.int, by rw [alloc_heap, if_pos rfl]⟩
  have hne : w.heap.size ≠ g := by have := H.lt; omega
  generalize w.alloc (.cells #[.int .i64 0] T.int) = w0 at *
  have fin : ∀ (w1 : World) (p : Nat) (v1 v2 : Value), a ≤ p → p < b → Rf w w1 g e cap d → Sw w1 w.heap.size → M.slices_choosePivotOrdered_uint64.j0 (.pointer (some ⟨w.heap.size, 0, none⟩)) [v1, .int .i64 (p : Nat), v2] w1 K := by
    intro w1 p v1 v2 hp1 hp2 H1 S1
    obtain ⟨x, e', hx⟩ := S1
    unfold M.slices_choosePivotOrdered_uint64.j0
    have c0 := cellOf_of hx 0
    simp only [List.size_toArray, List.getElem?_toArray, List.getElem?_cons_zero] at c0
    have q1 : ∀ a b c : Value, gv [a, b, c] 1 = b := fun _ _ _ => rfl
    by_cases x0 : x = 0
    · simp [c0, q1, x0]
      exact h w1 p 1 hp1 hp2 (by decide) H1
    by_cases x12 : x = 12
    · simp [c0, q1, x12]
      exact h w1 p 2 hp1 hp2 (by decide) H1
    · simp [c0, q1, x0, x12]
      exact h w1 p 0 hp1 hp2 (by decide) H1
  simp only [joinT_eq]
  have last : ∀ (w1 : World) (x y z : Nat), a ≤ x → x < b → a ≤ y → y < b → a ≤ z → z < b → Rf w w1 g e cap d → Sw w1 w.heap.size →
      fcallT P F.slices_medianOrdered_uint64 [.slice (some ⟨g, 0, none⟩) n cap, gv [.int .i64 (x : Int), .int .i64 (y : Int), .int .i64 (z : Int)] 0, gv [.int .i64 (x : Int), .int .i64 (y : Int), .int .i64 (z : Int)] 1, gv [.int .i64 (x : Int), .int .i64 (y : Int), .int .i64 (z : Int)] 2, .pointer (some ⟨w.heap.size, 0, none⟩)] w1 fun t48 w' =>
        M.slices_choosePivotOrdered_uint64.j0 (.pointer (some ⟨w.heap.size, 0, none⟩)) [gv [.int .i64 (x : Int), .int .i64 (y : Int), .int .i64 (z : Int)] 0, t48, gv [.int .i64 (x : Int), .int .i64 (y : Int), .int .i64 (z : Int)] 2] w' K := by
    intro w1 x y z hx1 hx2 hy1 hy2 hz1 hz2 H1 S1
    refine median_ok H1.row hn S1 hne (a := x) (b := y) (c := z) (by omega) (by omega) (by omega) fun w2 p hp S2 f2 => ?_
    exact fin w2 p _ _ (by omega) (by omega) (H1.side f2 (Nat.le_refl _) hne) S2
  by_cases h50 : 50 ≤ l
  · have h50' : (50 : Int) ≤ (l : Int) := by omega
    simp only [h50', decide_true, Eng.cond_true]
    refine adj_ok H0.row hn h6 S0 hne (by omega) (by omega) fun w1 x hx S1 f1 => ?_
    have H1 := H0.side f1 (Nat.le_refl _) hne
    refine adj_ok H1.row hn h6 S1 hne (by omega) (by omega) fun w2 y hy S2 f2 => ?_
    have H2 := H1.side f2 (Nat.le_refl _) hne
    refine adj_ok H2.row hn h6 S2 hne (by omega) (by omega) fun w3 z hz S3 f3 => ?_
    have H3 := H2.side f3 (Nat.le_refl _) hne
    exact last w3 x y z (by omega) (by omega) (by omega) (by omega) (by omega) (by omega) H3 S3
  · have h50' : ¬ (50 : Int) ≤ (l : Int) := by omega
    simp only [h50', decide_false, Eng.cond_false]
    exact last w0 (a + l / 4) (a + l / 4 * 2) (a + l / 4 * 3) (by omega) (by omega) (by omega) (by omega) (by omega) (by omega) H0 S0

/-! ### breakPatternsOrdered: some places change -/
def BpI (w : World) (g : Nat) (e : TypeId) (cap n a b idx0 : Nat) (d : Array Int) : KL := fun x w1 => ∃ (u : Value) (k : Nat) (d1 : Array Int) (r : Int), x = [u, .int .i64 ((idx0 + k : Nat) : Int)] ∧ Rf w w1 g e cap d1 ∧ d1.size = n ∧ k ≤ 3 ∧ PermIn a b d d1 ∧ 0 ≤ r ∧ r < 18446744073709551616 ∧ w1.heap[w.heap.size]? = some (.cells #[.int .u64 r] T.slices_xorshift (0, 0))
theorem break_ok {w : World} {g cap n : Nat} {e : TypeId} {d : Array Int} (H : Rw w g e cap d) (hn : d.size = n) (h6 : n < 60000) {a b : Nat} (hb : b ≤ n) (hab : a + 12 < b) {K : KV}
    (h : ∀ w' d', PermIn a b d d' → Rf w w' g e cap d' → K (.tuple #[]) w') :
    callT P F.slices_breakPatternsOrdered_uint64 [.slice (some ⟨g, 0, none⟩) n cap, .int .i64 a, .int .i64 b] w K := by
  apply M.slices_breakPatternsOrdered_uint64.calls
  unfold M.slices_breakPatternsOrdered_uint64
  have hw0 : IntKind.i64.wrap ((b : Int) - a) = ((b - a : Nat) : Int) := wrapS (by omega) (by omega)
  have hlb : a + (b - a) = b := by omega
  generalize hl : b - a = l at *
  have bq : ∀ (x : Int) (t : TypeId) (rx ry : Operand) (w : World) (K : KV), binT P .quo t rx ry (.int .i64 x) (.int .i64 4) w K = K (.int .i64 (IntKind.i64.wrap (x.tdiv 4))) w := fun x t rx ry w K => bin_quo (by decide)
  have q4 : IntKind.i64.wrap (((l : Nat) : Int).tdiv 4) = ((l / 4 : Nat) : Int) := by rw [Int.tdiv_eq_ediv_of_nonneg (by omega), wrap_id (by omega) (by omega)]; omega
  have m2 : IntKind.i64.wrap (((l / 4 : Nat) : Int) * 2) = ((l / 4 * 2 : Nat) : Int) := by rw [wrap_id (by omega) (by omega)]; omega
  have s2 : IntKind.i64.wrap ((a : Int) + ((l / 4 * 2 : Nat) : Int)) = ((a + l / 4 * 2 : Nat) : Int) := by rw [wrap_id (by omega) (by omega)]; omega
  have s3 : IntKind.i64.wrap (((a + l / 4 * 2 : Nat) : Int) - 1) = ((a + l / 4 * 2 - 1 + 0 : Nat) : Int) := by rw [wrap_id (by omega) (by omega)]; omega
  have s4 : IntKind.i64.wrap (((a + l / 4 * 2 : Nat) : Int) + 1) = ((a + l / 4 * 2 + 1 : Nat) : Int) := wrap1 (by omega)
  have c8 : (8 : Int) ≤ (l : Int) := by omega
  have i64B : intB P T.int .i64 = true := by kernel_rfl
  have uB : intB P T.uint .u64 = true := by kernel_rfl
  have xB : intB P T.slices_xorshift .u64 = true := by kernel_rfl
  simp only [bin_sub, hw0, bin_geq, c8, decide_true, Eng.cond_true]
  rw [cv_ints i64B xB, wrapU (by omega)]
  have hx0 : (w.alloc (.cells #[.int .u64 0] T.slices_xorshift)).heap[w.heap.size]? = some (.cells #[.int .u64 0] T.slices_xorshift (0, 0)) := by rw [alloc_heap, if_pos rfl]
  have H0 := H.self.new (.cells #[.int .u64 0] T.slices_xorshift)
  have hne : w.heap.size ≠ g := by have := H.lt; omega
  have c0 := cellOf_of hx0 0
  have f0 := frzOf_of hx0 0
  simp only [List.size_toArray, List.getElem?_toArray, List.getElem?_cons_zero] at c0
  simp [c0, f0, -joinT_eq]
  have hx1 : ((w.alloc (.cells #[.int .u64 0] T.slices_xorshift)).setCell ⟨w.heap.size, 0, none⟩ (.int .u64 l)).heap[w.heap.size]? = some (.cells #[.int .u64 l] T.slices_xorshift (0, 0)) := setCell_at hx0
  have H1 := H0.side ((Fr.refl (fun b => b = w.heap.size) _).setCell (.inl rfl) 0 (.int .u64 (l : Int))) (Nat.le_refl _) hne
  generalize (w.alloc (.cells #[.int .u64 0] T.slices_xorshift)).setCell ⟨w.heap.size, 0, none⟩ (.int .u64 (l : Int)) = w1 at *
  rw [M.slices_nextPowerOfTwo.fcall]
  refine pow2_ok (by omega) ?_
  have hp2 : 2 ^ bitsLen l ≤ 2 * l := two_pow_bitsLen_le (by omega)
  have hp1 : 0 < 2 ^ bitsLen l := Nat.pow_pos (by decide)
  simp only [bq, q4, bin_mul, m2, bin_add, s2, bin_sub, s3]
  generalize 2 ^ bitsLen l = md at *
  generalize hi0 : a + l / 4 * 2 - 1 = i0 at *
  refine ⟨BpI w g e cap n a b i0 d, fun x _ => i0 + 3 - ms x 1, ⟨_, 0, d, l, rfl, H1, hn, by omega, permIn_refl d a b, by omega, by omega, hx1⟩, ?_⟩
  rintro x w2 ⟨u, k, d2, r, rfl, H2, hn2, hk, hP, hr0, hr1, hx2⟩
  unfold M.slices_breakPatternsOrdered_uint64.j0
  simp only [joinT_eq, bq, q4, bin_mul, m2, bin_add, s2, s4, g21, bin_leq]
  by_cases hk3 : k < 3
  · have hle : ((i0 + k : Nat) : Int) ≤ ((a + l / 4 * 2 + 1 : Nat) : Int) := by omega
    simp only [hle, decide_true, Eng.cond_true]
    unfold M.slices_breakPatternsOrdered_uint64.j1
    simp only [joinT_eq, g21]
    rw [M.pslices_xorshift_Next.fcall]
    refine xorNext_ok hx2 fun w3 y hy0 hy1 hx3 f3 => ?_
    have H3 := H2.side f3 (Nat.le_refl _) hne
    obtain ⟨z, rfl⟩ : ∃ z : Nat, y = z := ⟨y.toNat, by omega⟩
    have hm1 : IntKind.u64.wrap ((md : Int) - 1) = ((md - 1 : Nat) : Int) := by rw [wrap_u64 (by omega) (by omega)]; omega
    have hand : (BitVec.ofInt IntKind.u64.bits (z : Int) &&& BitVec.ofInt IntKind.u64.bits ((md - 1 : Nat) : Int)).toNat ≤ md - 1 := and_le (x := z) (y := md - 1) (by omega) (by omega)
    simp only [bin_sub, hm1, bin_and]
    generalize (BitVec.ofInt IntKind.u64.bits (z : Int) &&& BitVec.ofInt IntKind.u64.bits ((md - 1 : Nat) : Int)).toNat = o at *
    rw [wrapU (by omega), cv_ints uB i64B, wrapI (by omega)]
    have tail : ∀ (o : Nat), o < l → M.slices_breakPatternsOrdered_uint64.j3 (.int .i64 a) [.int .i64 (o : Nat)] (.slice (some ⟨g, 0, none⟩) n cap) [u, .int .i64 ((i0 + k : Nat) : Int)] (fun x2 w' => BpI w g e cap n a b i0 d [gv x2 0, .int .i64 (IntKind.i64.wrap (((i0 + k : Nat) : Int) + 1))] w' ∧ i0 + 3 - ms [gv x2 0, .int .i64 (IntKind.i64.wrap (((i0 + k : Nat) : Int) + 1))] 1 < i0 + 3 - ms [u, .int .i64 ((i0 + k : Nat) : Int)] 1) w3 K := by
      intro o ho
      unfold M.slices_breakPatternsOrdered_uint64.j3
      have wr : IntKind.i64.wrap ((a : Int) + (o : Int)) = ((a + o : Nat) : Int) := by rw [wrap_id (by omega) (by omega)]; omega
      have a1 := H3.row.at (show i0 + k < d2.size by omega)
      have a2 := H3.row.at (show a + o < d2.size by omega)
      have b1 : ((i0 + k : Nat) : Int) < n := by omega
      have b2 : ((a + o : Nat) : Int) < n := by omega
      have f1 := H3.row.frz (i0 + k)
      have f2 := H3.row.frz (a + o)
      simp [g0, g21, wr, b1, b2, a1, a2, f1, f2, cellOf_setCell, frzOf_setCell, -Int.natCast_add]
      have hw5 : IntKind.i64.wrap (((i0 + k : Nat) : Int) + 1) = ((i0 + (k + 1) : Nat) : Int) := by rw [wrap_id (by omega) (by omega)]; omega
      rw [hw5]
      refine ⟨⟨_, k + 1, _, z, rfl, (H3.dr 1).swp (by omega) (by omega), by rw [size_swp]; exact hn2, by omega, permIn_trans _ _ _ a b hP (swp_permIn _ a b _ _ (by omega) (by omega) (by omega) (by omega) (by omega)), by omega, by omega, ?_⟩, ?_⟩
      · rw [setCell_ne (by omega), setCell_ne (by omega)]; exact hx3
      · simp only [ms, g21]; omega
    simp only [joinT_eq, bin_geq, bin_add]
    by_cases hol : l ≤ o
    · have hol' : (l : Int) ≤ o := by omega
      have hwo : IntKind.i64.wrap ((o : Int) - l) = ((o - l : Nat) : Int) := wrapS (by omega) (by omega)
      simp only [hol', decide_true, Eng.cond_true, bin_sub, hwo]
      exact tail (o - l) (by omega)
    · have hol' : ¬ (l : Int) ≤ o := by omega
      simp only [hol', decide_false, Eng.cond_false]
      exact tail o (by omega)
  · have hle : ¬ ((i0 + k : Nat) : Int) ≤ ((a + l / 4 * 2 + 1 : Nat) : Int) := by omega
    simp only [hle, decide_false, Eng.cond_false]
    exact h w2 d2 hP H2
end Go.Proofs.Ytkjhekflgghbdaa.Suint64
