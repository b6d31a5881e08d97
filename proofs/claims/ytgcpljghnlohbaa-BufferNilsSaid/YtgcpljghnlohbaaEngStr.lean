/-
  Strings: their length, parts and runes. Laws over any program. No condition.
-/
import Derived.Test.YtgcpljghnlohbaaEngIter
namespace Go.Eng
section
variable {P : Program}
def isStrB (P : Program) (t : TypeId) : Bool := match P.underlying t with
  | some .string => true
  | _ => false
theorem isStrB_spec {t : TypeId} (h : isStrB P t = true) : P.underlying t = some .string := by
  unfold isStrB at h
  split at h
  · assumption
  · cases h
theorem len_str {t ty : TypeId} (h : isStrB P t = true) (cs : List Bool) (s : ByteArray) (w : World) (K : KV) : biT P .len #[t] ty cs [.string s] w K = K (.int .i64 s.size) w := by
  have hu := isStrB_spec h
  simp [biT, nextT, builtin, Builtin.len_, Sem.run_bind, run_underlying' hu, Result.andThen, Sem.run_pure, goInt]
theorem sl_str {t : TypeId} (h : isStrB P t = true) {s : ByteArray} {lo hi : Option Value} {i j : Nat} (hlo : lo = none ∧ i = 0 ∨ ∃ k, lo = some (.int k (i : Int))) (hhi : hi = none ∧ j = s.size ∨ ∃ k, hi = some (.int k (j : Int))) (h0 : i ≤ j) (h1 : j ≤ s.size) (w : World) (K : KV) :
    slT P t (.string s) lo hi none w K = K (.string (s.extract i j)) w := by
  have hu := isStrB_spec h
  rcases hlo with ⟨rfl, rfl⟩ | ⟨k, rfl⟩ <;> rcases hhi with ⟨rfl, rfl⟩ | ⟨k', rfl⟩ <;>
    simp [slT, semT, Instr.sliceAt, Instr.slice, Instr.sliceBounds, Instr.sliceBound, asIntOf, Sem.run_bind, run_underlying' hu, Result.andThen, Sem.run_pure, h0, h1]
theorem decode_width (s : ByteArray) (i : Nat) : 1 ≤ (Utf8.decode s i).2 := by
  unfold Utf8.decode
  simp only
  repeat' split
  all_goals simp
/-! ### A function's value -/
theorem mkf_eq (fn : Fn) (f c : List Value) (w : World) (K : KV) : mkfT P fn f c w K = K (.func fn f.toArray c.toArray) w := Eq.trans rfl rfl
theorem callV_eq (f : FuncId) (a c : List Value) (args : List Value) (w : World) (K : KV) : callVT P (.func (.func f) a.toArray c.toArray) args w K = fcallT P f (a ++ args ++ c) w K := by
  simp [callVT, fcallT, nextT, Deferred.ofValue, invoke]
end
end Go.Eng
