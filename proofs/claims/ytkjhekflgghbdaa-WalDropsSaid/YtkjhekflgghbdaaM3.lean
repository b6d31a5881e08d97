/-
  Printed by wip/Shallow.lean: functions of the program, read shallow; each is what its code does. No condition.
-/
import Derived.Test.YtkjhekflgghbdaaN
set_option maxRecDepth 1000000
namespace Go.Proofs.Ytkjhekflgghbdaa
open Go.Eng

/-- slices.medianOrdered[int] -/
def M.slices_medianOrdered_int (a0 a1 a2 a3 a4 : Value) (w : World) (K : KV) : Prop :=
  fcallT P F.slices_order2Ordered_int [a0, a1, a2, a4] w fun t16 w =>
  exT P t16 0 w fun t17 w =>
  exT P t16 1 w fun t18 w =>
  fcallT P F.slices_order2Ordered_int [a0, t18, a3, a4] w fun t24 w =>
  exT P t24 0 w fun t25 w =>
  exT P t24 1 w fun t26 w =>
  fcallT P F.slices_order2Ordered_int [a0, t17, t25, a4] w fun t32 w =>
  exT P t32 0 w fun t33 w =>
  exT P t32 1 w fun t34 w =>
  K t34 w
def M.slices_medianOrdered_int.L : List Nat := [0, 1, 2, 3, 4, 10]
def M.slices_medianOrdered_int.pl : Nat → Plan := fun id => ⟨.nil, [], false, []⟩
theorem M.slices_medianOrdered_int.eq (a0 a1 a2 a3 a4 : Value) (w : World) (K : KV) : M.slices_medianOrdered_int a0 a1 a2 a3 a4 w K = den P M.slices_medianOrdered_int.L M.slices_medianOrdered_int.pl (Try.f195.body.getD .skip) (argE [a0, a1, a2, a3, a4]) w (bodyQ P Try.f195.results.toList K) := by kernel_rfl
theorem M.slices_medianOrdered_int.ok : okFn M.slices_medianOrdered_int.L M.slices_medianOrdered_int.pl Try.f195 (Try.f195.body.getD .skip) 5 = true := by kernel_rfl
theorem M.slices_medianOrdered_int.calls (a0 a1 a2 a3 a4 : Value) {w : World} {K : KV} (h : M.slices_medianOrdered_int a0 a1 a2 a3 a4 w K) : callT P F.slices_medianOrdered_int [a0, a1, a2, a3, a4] w K :=
  callT_of_den (by kernel_rfl) Try.func195 (by kernel_rfl) M.slices_medianOrdered_int.ok (M.slices_medianOrdered_int.eq a0 a1 a2 a3 a4 w K ▸ h)
theorem M.slices_medianOrdered_int.fcall (args : List Value) (w : World) (K : KV) : fcallT P F.slices_medianOrdered_int args w K = callT P F.slices_medianOrdered_int args w K := fcallT_eq Try.func195 (by kernel_rfl) (by kernel_rfl) args w K
theorem M.slices_medianOrdered_int.rcall (a c args : List Value) (w : World) (K : KV) : callRT P (.func (.func F.slices_medianOrdered_int) a.toArray c.toArray) args w K = callT P F.slices_medianOrdered_int (a ++ args ++ c) w K := callR_fn Try.func195 (by kernel_rfl) (by kernel_rfl) a c args w K

/-- slices.order2Ordered[int] -/
def M.slices_order2Ordered_int (a0 a1 a2 a3 : Value) (w : World) (K : KV) : Prop :=
  joinT (fun K0 =>
  drawT w fun w =>
  w = w ∧ w = w ∧ quietT (fun K' => iaT P T.sl_int a0 a2 w K') w fun t12 =>
  quietT (fun K' => ldT P T.int t12 w K') w fun t13 =>
  w = w ∧ w = w ∧ quietT (fun K' => iaT P T.sl_int a0 a1 w K') w fun t16 =>
  quietT (fun K' => ldT P T.int t16 w K') w fun t17 =>
  fcallT P F.cmp_Less_int [t13, t17] w fun t18 w =>
  condT t18 (
  nilT a3 w fun t20 w =>
  ldT P T.int t20 w fun t21 w =>
  binT P .add T.int (.tmp 21) (.const (.int .i64 1)) t21 (.int .i64 1) w fun t22 w =>
  nilT a3 w fun t23 w =>
  stT P T.int t23 t22 w fun _ w =>
  K (.tuple #[a2, a1]) w) (
  K0 [(.int .i64 0), (.int .i64 0)] w)) fun x0 w =>
  K (.tuple #[a1, a2]) w
def M.slices_order2Ordered_int.L : List Nat := [0, 1, 2, 3, 8, 9]
def M.slices_order2Ordered_int.pl : Nat → Plan := fun id => cond (Nat.beq id 1) ⟨(.go 0 (.go 1 (.go 2 (.go 3 (.go 4 (.go 5 (.go 6 (.go 7 (.eff 8 .nil .stop))))))))), [8], false, [0, 0, 3, 7, 0, 0, 48, 112, 255]⟩ (⟨.nil, [], false, []⟩)
theorem M.slices_order2Ordered_int.eq (a0 a1 a2 a3 : Value) (w : World) (K : KV) : M.slices_order2Ordered_int a0 a1 a2 a3 w K = den P M.slices_order2Ordered_int.L M.slices_order2Ordered_int.pl (Try.f196.body.getD .skip) (argE [a0, a1, a2, a3]) w (bodyQ P Try.f196.results.toList K) := by kernel_rfl
theorem M.slices_order2Ordered_int.ok : okFn M.slices_order2Ordered_int.L M.slices_order2Ordered_int.pl Try.f196 (Try.f196.body.getD .skip) 4 = true := by kernel_rfl
theorem M.slices_order2Ordered_int.calls (a0 a1 a2 a3 : Value) {w : World} {K : KV} (h : M.slices_order2Ordered_int a0 a1 a2 a3 w K) : callT P F.slices_order2Ordered_int [a0, a1, a2, a3] w K :=
  callT_of_den (by kernel_rfl) Try.func196 (by kernel_rfl) M.slices_order2Ordered_int.ok (M.slices_order2Ordered_int.eq a0 a1 a2 a3 w K ▸ h)
theorem M.slices_order2Ordered_int.fcall (args : List Value) (w : World) (K : KV) : fcallT P F.slices_order2Ordered_int args w K = callT P F.slices_order2Ordered_int args w K := fcallT_eq Try.func196 (by kernel_rfl) (by kernel_rfl) args w K
theorem M.slices_order2Ordered_int.rcall (a c args : List Value) (w : World) (K : KV) : callRT P (.func (.func F.slices_order2Ordered_int) a.toArray c.toArray) args w K = callT P F.slices_order2Ordered_int (a ++ args ++ c) w K := callR_fn Try.func196 (by kernel_rfl) (by kernel_rfl) a c args w K

end Go.Proofs.Ytkjhekflgghbdaa
