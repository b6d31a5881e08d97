/-
  Printed by wip/Shallow.lean: functions of the program, read shallow; each is what its code does. No condition.
-/
import Derived.Test.YtgcpljghnlohbaaN
set_option maxRecDepth 1000000
namespace Go.Proofs.Ytgcpljghnlohbaa
open Go.Eng

/-- (winnow/timers.line).Swap -/
def M.timers_line_Swap (a0 a1 a2 : Value) (w : World) (K : KV) : Prop :=
  drawT w fun w =>
  w = w ∧ w = w ∧ w = w ∧ w = w ∧ w = w ∧ w = w ∧ quietT (fun K' => iaT P T.timers_line a0 a2 w K') w fun t12 =>
  quietT (fun K' => ldT P T.p_timers_item t12 w K') w fun t13 =>
  w = w ∧ w = w ∧ quietT (fun K' => iaT P T.timers_line a0 a1 w K') w fun t16 =>
  quietT (fun K' => ldT P T.p_timers_item t16 w K') w fun t17 =>
  quietT (fun K' => iaT P T.timers_line a0 a1 w K') w fun t18 =>
  stT P T.p_timers_item t18 t13 w fun _ w =>
  stabT (fun K' => K' a2 w) w a2 ∧ stabT (fun K' => K' a0 w) w a0 ∧ quietT (fun K' => iaT P T.timers_line a0 a2 w K') w fun t19 =>
  stT P T.p_timers_item t19 t17 w fun _ w =>
  drawT w fun w =>
  w = w ∧ w = w ∧ quietT (fun K' => iaT P T.timers_line a0 a1 w K') w fun t22 =>
  quietT (fun K' => ldT P T.p_timers_item t22 w K') w fun t23 =>
  w = w ∧ w = w ∧ quietT (fun K' => iaT P T.timers_line a0 a2 w K') w fun t26 =>
  quietT (fun K' => ldT P T.p_timers_item t26 w K') w fun t27 =>
  w = w ∧ w = w ∧ quietT (fun K' => nilT t23 w K') w fun t30 =>
  quietT (fun K' => faT P T.timers_item t30 2 w K') w fun t31 =>
  stT P T.int t31 a1 w fun _ w =>
  stabT (fun K' => K' a2 w) w a2 ∧ quietT (fun K' => nilT t27 w K') w fun t32 =>
  quietT (fun K' => faT P T.timers_item t32 2 w K') w fun t33 =>
  stT P T.int t33 a2 w fun _ w =>
  K (.tuple #[]) w
def M.timers_line_Swap.L : List Nat := [0, 1, 2]
def M.timers_line_Swap.pl : Nat → Plan := fun id => cond (Nat.beq id 0) ⟨(.go 0 (.go 1 (.go 2 (.go 3 (.go 4 (.go 5 (.go 6 (.go 7 (.go 8 (.go 9 (.go 10 (.go 11 (.go 12 (.eff 13 (.go 14 (.eff 15 .nil .stop)) .stop)))))))))))))), [13, 15], false⟩ (cond (Nat.beq id 1) ⟨(.go 0 (.go 1 (.go 2 (.go 3 (.go 4 (.go 5 (.go 6 (.go 7 (.go 8 (.go 9 (.go 10 (.go 11 (.eff 12 (.go 13 (.go 14 (.eff 15 .nil .stop))) .stop))))))))))))), [12, 15], false⟩ (⟨.nil, [], false⟩))
theorem M.timers_line_Swap.eq (a0 a1 a2 : Value) (w : World) (K : KV) : M.timers_line_Swap a0 a1 a2 w K = den P M.timers_line_Swap.L M.timers_line_Swap.pl (Try.f193.body.getD .skip) (argE [a0, a1, a2]) w (bodyQ P Try.f193.results.toList K) := by kernel_rfl
theorem M.timers_line_Swap.ok : okFn M.timers_line_Swap.L M.timers_line_Swap.pl Try.f193 (Try.f193.body.getD .skip) 3 = true := by kernel_rfl
theorem M.timers_line_Swap.calls (a0 a1 a2 : Value) {w : World} {K : KV} (h : M.timers_line_Swap a0 a1 a2 w K) : callT P F.timers_line_Swap [a0, a1, a2] w K :=
  callT_of_den (by kernel_rfl) Try.func193 (by kernel_rfl) M.timers_line_Swap.ok (M.timers_line_Swap.eq a0 a1 a2 w K ▸ h)
theorem M.timers_line_Swap.fcall (args : List Value) (w : World) (K : KV) : fcallT P F.timers_line_Swap args w K = callT P F.timers_line_Swap args w K := fcallT_eq Try.func193 (by kernel_rfl) (by kernel_rfl) args w K
theorem M.timers_line_Swap.rcall (a c args : List Value) (w : World) (K : KV) : callRT P (.func (.func F.timers_line_Swap) a.toArray c.toArray) args w K = callT P F.timers_line_Swap (a ++ args ++ c) w K := callR_fn Try.func193 (by kernel_rfl) (by kernel_rfl) a c args w K

/-- (*winnow/timers.line).Pop -/
def M.ptimers_line_Pop (a0 : Value) (w : World) (K : KV) : Prop :=
  nilT a0 w fun t6 w =>
  ldT P T.timers_line t6 w fun t7 w =>
  biT P .len #[T.timers_line] T.int [false] [t7] w fun t8 w =>
  binT P .sub T.int (.tmp 8) (.const (.int .i64 1)) t8 (.int .i64 1) w fun t9 w =>
  nilT a0 w fun t11 w =>
  ldT P T.timers_line t11 w fun t12 w =>
  iaT P T.timers_line t12 t9 w fun t14 w =>
  ldT P T.p_timers_item t14 w fun t15 w =>
  nilT a0 w fun t18 w =>
  ldT P T.timers_line t18 w fun t19 w =>
  slT P T.timers_line t19 none (some t9) none w fun t21 w =>
  nilT a0 w fun t22 w =>
  stT P T.timers_line t22 t21 w fun _ w =>
  mkiT P T.p_timers_item t15 w fun t24 w =>
  K t24 w
def M.ptimers_line_Pop.L : List Nat := [0, 2, 3, 4]
def M.ptimers_line_Pop.pl : Nat → Plan := fun id => ⟨.nil, [], false⟩
theorem M.ptimers_line_Pop.eq (a0 : Value) (w : World) (K : KV) : M.ptimers_line_Pop a0 w K = den P M.ptimers_line_Pop.L M.ptimers_line_Pop.pl (Try.f194.body.getD .skip) (argE [a0]) w (bodyQ P Try.f194.results.toList K) := by kernel_rfl
theorem M.ptimers_line_Pop.ok : okFn M.ptimers_line_Pop.L M.ptimers_line_Pop.pl Try.f194 (Try.f194.body.getD .skip) 1 = true := by kernel_rfl
theorem M.ptimers_line_Pop.calls (a0 : Value) {w : World} {K : KV} (h : M.ptimers_line_Pop a0 w K) : callT P F.ptimers_line_Pop [a0] w K :=
  callT_of_den (by kernel_rfl) Try.func194 (by kernel_rfl) M.ptimers_line_Pop.ok (M.ptimers_line_Pop.eq a0 w K ▸ h)
theorem M.ptimers_line_Pop.fcall (args : List Value) (w : World) (K : KV) : fcallT P F.ptimers_line_Pop args w K = callT P F.ptimers_line_Pop args w K := fcallT_eq Try.func194 (by kernel_rfl) (by kernel_rfl) args w K
theorem M.ptimers_line_Pop.rcall (a c args : List Value) (w : World) (K : KV) : callRT P (.func (.func F.ptimers_line_Pop) a.toArray c.toArray) args w K = callT P F.ptimers_line_Pop (a ++ args ++ c) w K := callR_fn Try.func194 (by kernel_rfl) (by kernel_rfl) a c args w K

/-- (*winnow/timers.line).Push -/
def M.ptimers_line_Push (a0 a1 : Value) (w : World) (K : KV) : Prop :=
  taT P a1 T.any T.p_timers_item false w fun t6 w =>
  nilT a0 w fun t9 w =>
  ldT P T.timers_line t9 w fun t10 w =>
  biT P .len #[T.timers_line] T.int [false] [t10] w fun t11 w =>
  nilT t6 w fun t12 w =>
  faT P T.timers_item t12 2 w fun t13 w =>
  stT P T.int t13 t11 w fun _ w =>
  nilT a0 w fun t16 w =>
  ldT P T.timers_line t16 w fun t17 w =>
  bsT P T.timers_line 1 #[(0, t6)] w fun t19 w =>
  biT P .append #[T.timers_line, T.timers_line] T.timers_line [false, false] [t17, t19] w fun t20 w =>
  nilT a0 w fun t21 w =>
  stT P T.timers_line t21 t20 w fun _ w =>
  K (.tuple #[]) w
def M.ptimers_line_Push.L : List Nat := [0, 1, 4]
def M.ptimers_line_Push.pl : Nat → Plan := fun id => ⟨.nil, [], false⟩
theorem M.ptimers_line_Push.eq (a0 a1 : Value) (w : World) (K : KV) : M.ptimers_line_Push a0 a1 w K = den P M.ptimers_line_Push.L M.ptimers_line_Push.pl (Try.f195.body.getD .skip) (argE [a0, a1]) w (bodyQ P Try.f195.results.toList K) := by kernel_rfl
theorem M.ptimers_line_Push.ok : okFn M.ptimers_line_Push.L M.ptimers_line_Push.pl Try.f195 (Try.f195.body.getD .skip) 2 = true := by kernel_rfl
theorem M.ptimers_line_Push.calls (a0 a1 : Value) {w : World} {K : KV} (h : M.ptimers_line_Push a0 a1 w K) : callT P F.ptimers_line_Push [a0, a1] w K :=
  callT_of_den (by kernel_rfl) Try.func195 (by kernel_rfl) M.ptimers_line_Push.ok (M.ptimers_line_Push.eq a0 a1 w K ▸ h)
theorem M.ptimers_line_Push.fcall (args : List Value) (w : World) (K : KV) : fcallT P F.ptimers_line_Push args w K = callT P F.ptimers_line_Push args w K := fcallT_eq Try.func195 (by kernel_rfl) (by kernel_rfl) args w K
theorem M.ptimers_line_Push.rcall (a c args : List Value) (w : World) (K : KV) : callRT P (.func (.func F.ptimers_line_Push) a.toArray c.toArray) args w K = callT P F.ptimers_line_Push (a ++ args ++ c) w K := callR_fn Try.func195 (by kernel_rfl) (by kernel_rfl) a c args w K

end Go.Proofs.Ytgcpljghnlohbaa
