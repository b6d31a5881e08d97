/-
  Printed by wip/Shallow.lean: functions of the program, read shallow; each is what its code does. No condition.
-/
import Derived.Test.YtiolnbhnahlphaaN
set_option maxRecDepth 1000000
namespace Go.Proofs.Ytiolnbhnahlphaa
open Go.Eng

def M.winnowref15_Set.j1 (t12 : Value) (x1 : List Value) (a2 : Value) (a1 : Value) (K0 : KL) (K1 : KL) (w : World) (K : KV) : Prop :=
  joinT (fun K2 =>
  biT P .len #[T.sl_winnowref15_Due] T.int [false] [t12] w fun t16 w =>
  binT P .lss T.int (.tmp 14) (.tmp 16) (gv x1 0) t16 w fun t17 w =>
  guardT (isB t17 true) (fun K' => K' t12 w) w fun t19 w =>
  guardT (isB t17 true) (fun K' => K' (gv x1 0) w) w fun t20 w =>
  guardT (isB t17 true) (fun K' => iaT P T.sl_winnowref15_Due t19 t20 w K') w fun t21 w =>
  guardT (isB t17 true) (fun K' => faT P T.winnowref15_Due t21 1 w K') w fun t22 w =>
  guardT (isB t17 true) (fun K' => ldT P T.uint64 t22 w K') w fun t23 w =>
  guardT (isB t17 true) (fun K' => K' a2 w) w fun t24 w =>
  guardT (isB t17 true) (fun K' => binT P .lss T.uint64 (.tmp 23) (.tmp 24) t23 t24 w K') w fun t25 w =>
  guardT (isB t17 true) (fun K' => K' t25 w) w fun t26 w =>
  guardT (isB t26 false) (fun K' => K' t12 w) w fun t27 w =>
  guardT (isB t26 false) (fun K' => K' (gv x1 0) w) w fun t28 w =>
  guardT (isB t26 false) (fun K' => iaT P T.sl_winnowref15_Due t27 t28 w K') w fun t29 w =>
  guardT (isB t26 false) (fun K' => faT P T.winnowref15_Due t29 1 w K') w fun t30 w =>
  guardT (isB t26 false) (fun K' => ldT P T.uint64 t30 w K') w fun t31 w =>
  guardT (isB t26 false) (fun K' => K' a2 w) w fun t32 w =>
  guardT (isB t26 false) (fun K' => binT P .eql T.uint64 (.tmp 31) (.tmp 32) t31 t32 w K') w fun t33 w =>
  guardT (isB t26 false) (fun K' => K' t33 w) w fun t34 w =>
  guardT (isB t34 true) (fun K' => K' t12 w) w fun t35 w =>
  guardT (isB t34 true) (fun K' => K' (gv x1 0) w) w fun t36 w =>
  guardT (isB t34 true) (fun K' => iaT P T.sl_winnowref15_Due t35 t36 w K') w fun t37 w =>
  guardT (isB t34 true) (fun K' => faT P T.winnowref15_Due t37 0 w K') w fun t38 w =>
  guardT (isB t34 true) (fun K' => ldT P T.uint64 t38 w K') w fun t39 w =>
  guardT (isB t34 true) (fun K' => K' a1 w) w fun t40 w =>
  guardT (isB t34 true) (fun K' => binT P .lss T.uint64 (.tmp 39) (.tmp 40) t39 t40 w K') w fun t41 w =>
  guardT (isB t26 false) (fun K' => pickT t34 t41 (.bool false) w K') w fun t42 w =>
  guardT (isB t17 true) (fun K' => pickT t26 (.bool true) t42 w K') w fun t43 w =>
  pickT t17 t43 (.bool false) w fun t44 w =>
  condT t44 (
  K2 [] w) (
  K0 [(gv x1 0)] w)) fun x2 w =>
  binT P .add T.int (.tmp 45) (.const (.int .i64 1)) (gv x1 0) (.int .i64 1) w fun t46 w =>
  K1 [t46] w
def M.winnowref15_Set.j0 (t12 : Value) (x0 : List Value) (a1 : Value) (a2 : Value) (w : World) (K : KV) : Prop :=
  drawT w fun w =>
  joinT (fun K3 =>
  w = w ∧ w = w ∧ quietT (fun K' => slT P T.sl_winnowref15_Due t12 none (some (gv x0 0)) none w K') w fun t50 =>
  w = w ∧ w = w ∧ quietT (fun K' => bldT P T.winnowref15_Due #[(0, a1), (1, a2)] w K') w fun t54 =>
  w = w ∧ w = w ∧ quietT (fun K' => slT P T.sl_winnowref15_Due t12 (some (gv x0 0)) none none w K') w fun t59 =>
  (bsT P T.sl_winnowref15_Due 0 #[] w fun t47 w =>
  stabT (fun K' => slT P T.sl_winnowref15_Due t12 (some (gv x0 0)) none none w K') w t59 ∧ stabT (fun K' => K' (gv x0 0) w) w (gv x0 0) ∧ stabT (fun K' => K' t12 w) w t12 ∧ stabT (fun K' => bldT P T.winnowref15_Due #[(0, a1), (1, a2)] w K') w t54 ∧ stabT (fun K' => K' a2 w) w a2 ∧ stabT (fun K' => K' a1 w) w a1 ∧ stabT (fun K' => slT P T.sl_winnowref15_Due t12 none (some (gv x0 0)) none w K') w t50 ∧ stabT (fun K' => K' (gv x0 0) w) w (gv x0 0) ∧ stabT (fun K' => K' t12 w) w t12 ∧ (biT P .append #[T.sl_winnowref15_Due, T.sl_winnowref15_Due] T.sl_winnowref15_Due [false, false] [t47, t50] w fun t51 w =>
  stabT (fun K' => slT P T.sl_winnowref15_Due t12 (some (gv x0 0)) none none w K') w t59 ∧ stabT (fun K' => K' (gv x0 0) w) w (gv x0 0) ∧ stabT (fun K' => K' t12 w) w t12 ∧ stabT (fun K' => bldT P T.winnowref15_Due #[(0, a1), (1, a2)] w K') w t54 ∧ stabT (fun K' => K' a2 w) w a2 ∧ stabT (fun K' => K' a1 w) w a1 ∧ bsT P T.sl_winnowref15_Due 1 #[(0, t54)] w fun t55 w =>
  stabT (fun K' => slT P T.sl_winnowref15_Due t12 (some (gv x0 0)) none none w K') w t59 ∧ stabT (fun K' => K' (gv x0 0) w) w (gv x0 0) ∧ stabT (fun K' => K' t12 w) w t12 ∧ stabT (fun K' => slT P T.sl_winnowref15_Due t12 none (some (gv x0 0)) none w K') w t50 ∧ stabT (fun K' => K' (gv x0 0) w) w (gv x0 0) ∧ stabT (fun K' => K' t12 w) w t12 ∧ biT P .append #[T.sl_winnowref15_Due, T.sl_winnowref15_Due] T.sl_winnowref15_Due [false, false] [t51, t55] w fun t56 w =>
  stabT (fun K' => slT P T.sl_winnowref15_Due t12 (some (gv x0 0)) none none w K') w t59 ∧ stabT (fun K' => K' (gv x0 0) w) w (gv x0 0) ∧ stabT (fun K' => K' t12 w) w t12 ∧ biT P .append #[T.sl_winnowref15_Due, T.sl_winnowref15_Due] T.sl_winnowref15_Due [false, false] [t56, t59] w fun t60 w =>
  K3 [t47, t12, (gv x0 0), t50, t51, a1, a2, t54, t55, t56, t12, (gv x0 0), t59, t60, t60] w) ∧
  (bsT P T.sl_winnowref15_Due 1 #[(0, t54)] w fun t55 w =>
  stabT (fun K' => slT P T.sl_winnowref15_Due t12 (some (gv x0 0)) none none w K') w t59 ∧ stabT (fun K' => K' (gv x0 0) w) w (gv x0 0) ∧ stabT (fun K' => K' t12 w) w t12 ∧ stabT (fun K' => slT P T.sl_winnowref15_Due t12 none (some (gv x0 0)) none w K') w t50 ∧ stabT (fun K' => K' (gv x0 0) w) w (gv x0 0) ∧ stabT (fun K' => K' t12 w) w t12 ∧ biT P .append #[T.sl_winnowref15_Due, T.sl_winnowref15_Due] T.sl_winnowref15_Due [false, false] [t47, t50] w fun t51 w =>
  stabT (fun K' => slT P T.sl_winnowref15_Due t12 (some (gv x0 0)) none none w K') w t59 ∧ stabT (fun K' => K' (gv x0 0) w) w (gv x0 0) ∧ stabT (fun K' => K' t12 w) w t12 ∧ stabT (fun K' => bldT P T.winnowref15_Due #[(0, a1), (1, a2)] w K') w t54 ∧ stabT (fun K' => K' a2 w) w a2 ∧ stabT (fun K' => K' a1 w) w a1 ∧ biT P .append #[T.sl_winnowref15_Due, T.sl_winnowref15_Due] T.sl_winnowref15_Due [false, false] [t51, t55] w fun t56 w =>
  stabT (fun K' => slT P T.sl_winnowref15_Due t12 (some (gv x0 0)) none none w K') w t59 ∧ stabT (fun K' => K' (gv x0 0) w) w (gv x0 0) ∧ stabT (fun K' => K' t12 w) w t12 ∧ biT P .append #[T.sl_winnowref15_Due, T.sl_winnowref15_Due] T.sl_winnowref15_Due [false, false] [t56, t59] w fun t60 w =>
  K3 [t47, t12, (gv x0 0), t50, t51, a1, a2, t54, t55, t56, t12, (gv x0 0), t59, t60, t60] w)) ∧
  (bsT P T.sl_winnowref15_Due 1 #[(0, t54)] w fun t55 w =>
  stabT (fun K' => slT P T.sl_winnowref15_Due t12 (some (gv x0 0)) none none w K') w t59 ∧ stabT (fun K' => K' (gv x0 0) w) w (gv x0 0) ∧ stabT (fun K' => K' t12 w) w t12 ∧ stabT (fun K' => slT P T.sl_winnowref15_Due t12 none (some (gv x0 0)) none w K') w t50 ∧ stabT (fun K' => K' (gv x0 0) w) w (gv x0 0) ∧ stabT (fun K' => K' t12 w) w t12 ∧ bsT P T.sl_winnowref15_Due 0 #[] w fun t47 w =>
  stabT (fun K' => slT P T.sl_winnowref15_Due t12 (some (gv x0 0)) none none w K') w t59 ∧ stabT (fun K' => K' (gv x0 0) w) w (gv x0 0) ∧ stabT (fun K' => K' t12 w) w t12 ∧ stabT (fun K' => bldT P T.winnowref15_Due #[(0, a1), (1, a2)] w K') w t54 ∧ stabT (fun K' => K' a2 w) w a2 ∧ stabT (fun K' => K' a1 w) w a1 ∧ stabT (fun K' => slT P T.sl_winnowref15_Due t12 none (some (gv x0 0)) none w K') w t50 ∧ stabT (fun K' => K' (gv x0 0) w) w (gv x0 0) ∧ stabT (fun K' => K' t12 w) w t12 ∧ biT P .append #[T.sl_winnowref15_Due, T.sl_winnowref15_Due] T.sl_winnowref15_Due [false, false] [t47, t50] w fun t51 w =>
  stabT (fun K' => slT P T.sl_winnowref15_Due t12 (some (gv x0 0)) none none w K') w t59 ∧ stabT (fun K' => K' (gv x0 0) w) w (gv x0 0) ∧ stabT (fun K' => K' t12 w) w t12 ∧ stabT (fun K' => bldT P T.winnowref15_Due #[(0, a1), (1, a2)] w K') w t54 ∧ stabT (fun K' => K' a2 w) w a2 ∧ stabT (fun K' => K' a1 w) w a1 ∧ biT P .append #[T.sl_winnowref15_Due, T.sl_winnowref15_Due] T.sl_winnowref15_Due [false, false] [t51, t55] w fun t56 w =>
  stabT (fun K' => slT P T.sl_winnowref15_Due t12 (some (gv x0 0)) none none w K') w t59 ∧ stabT (fun K' => K' (gv x0 0) w) w (gv x0 0) ∧ stabT (fun K' => K' t12 w) w t12 ∧ biT P .append #[T.sl_winnowref15_Due, T.sl_winnowref15_Due] T.sl_winnowref15_Due [false, false] [t56, t59] w fun t60 w =>
  K3 [t47, t12, (gv x0 0), t50, t51, a1, a2, t54, t55, t56, t12, (gv x0 0), t59, t60, t60] w)) fun x3 w =>
  K (gv x3 14) w
/-- winnow/winnowref15.Set -/
def M.winnowref15_Set (a0 a1 a2 : Value) (w : World) (K : KV) : Prop :=
  fcallT P F.winnowref15_Del [a0, a1] w fun t11 w =>
  exT P t11 0 w fun t12 w =>
  exT P t11 1 w fun t13 w =>
  joinT (fun K0 =>
  loopT [(.int .i64 0)] w fun K1 x1 w =>
  M.winnowref15_Set.j1 t12 x1 a2 a1 K0 K1 w K) fun x0 w =>
  M.winnowref15_Set.j0 t12 x0 a1 a2 w K
def M.winnowref15_Set.L : List Nat := [0, 1, 2, 6, 7]
def M.winnowref15_Set.pl : Nat → Plan := fun id => cond (Nat.beq id 5) ⟨(.go 1 (.go 2 (.go 3 (.go 5 (.go 6 (.go 7 (.go 10 (.go 11 (.go 12 (.eff 0 (.eff 4 (.eff 8 (.eff 9 (.eff 13 (.eff 14 .nil .stop) .stop) .stop) .stop) (.eff 8 (.eff 4 (.eff 9 (.eff 13 (.eff 14 .nil .stop) .stop) .stop) .stop) .stop)) (.eff 8 (.eff 0 (.eff 4 (.eff 9 (.eff 13 (.eff 14 .nil .stop) .stop) .stop) .stop) .stop) .stop))))))))))), [0, 4, 8, 9, 13, 14], true⟩ (⟨.nil, [], false⟩)
theorem M.winnowref15_Set.eq (a0 a1 a2 : Value) (w : World) (K : KV) : M.winnowref15_Set a0 a1 a2 w K = den P M.winnowref15_Set.L M.winnowref15_Set.pl (Try.f15.body.getD .skip) (argE [a0, a1, a2]) w (bodyQ P Try.f15.results.toList K) := by kernel_rfl
theorem M.winnowref15_Set.ok : okFn M.winnowref15_Set.L M.winnowref15_Set.pl Try.f15 (Try.f15.body.getD .skip) 3 = true := by kernel_rfl
theorem M.winnowref15_Set.calls (a0 a1 a2 : Value) {w : World} {K : KV} (h : M.winnowref15_Set a0 a1 a2 w K) : callT P F.winnowref15_Set [a0, a1, a2] w K :=
  callT_of_den (by kernel_rfl) Try.func15 (by kernel_rfl) M.winnowref15_Set.ok (M.winnowref15_Set.eq a0 a1 a2 w K ▸ h)
theorem M.winnowref15_Set.fcall (args : List Value) (w : World) (K : KV) : fcallT P F.winnowref15_Set args w K = callT P F.winnowref15_Set args w K := fcallT_eq Try.func15 (by kernel_rfl) (by kernel_rfl) args w K

def M.winnowref15_Pop.j2 (x1 : List Value) (K1 : KL) (w : World) (K : KV) : Prop :=
  iaT P T.sl_winnowref15_Due (gv x1 1) (.int .i64 0) w fun t20 w =>
  faT P T.winnowref15_Due t20 0 w fun t21 w =>
  ldT P T.uint64 t21 w fun t22 w =>
  bsT P T.sl_uint64 1 #[(0, t22)] w fun t23 w =>
  biT P .append #[T.sl_uint64, T.sl_uint64] T.sl_uint64 [false, false] [(gv x1 0), t23] w fun t24 w =>
  slT P T.sl_winnowref15_Due (gv x1 1) (some (.int .i64 1)) none none w fun t26 w =>
  K1 [t24, t26] w
def M.winnowref15_Pop.j1 (x1 : List Value) (a1 : Value) (K0 : KL) (K1 : KL) (w : World) (K : KV) : Prop :=
  joinT (fun K2 =>
  biT P .len #[T.sl_winnowref15_Due] T.int [false] [(gv x1 1)] w fun t8 w =>
  binT P .gtr T.int (.tmp 8) (.const (.int .i64 0)) t8 (.int .i64 0) w fun t9 w =>
  guardT (isB t9 true) (fun K' => K' (gv x1 1) w) w fun t11 w =>
  guardT (isB t9 true) (fun K' => iaT P T.sl_winnowref15_Due t11 (.int .i64 0) w K') w fun t12 w =>
  guardT (isB t9 true) (fun K' => faT P T.winnowref15_Due t12 1 w K') w fun t13 w =>
  guardT (isB t9 true) (fun K' => ldT P T.uint64 t13 w K') w fun t14 w =>
  guardT (isB t9 true) (fun K' => K' a1 w) w fun t15 w =>
  guardT (isB t9 true) (fun K' => binT P .leq T.uint64 (.tmp 14) (.tmp 15) t14 t15 w K') w fun t16 w =>
  pickT t9 t16 (.bool false) w fun t17 w =>
  condT t17 (
  K2 [] w) (
  K0 [(gv x1 0), (gv x1 1)] w)) fun x2 w =>
  M.winnowref15_Pop.j2 x1 K1 w K
/-- winnow/winnowref15.Pop -/
def M.winnowref15_Pop (a0 a1 : Value) (w : World) (K : KV) : Prop :=
  joinT (fun K0 =>
  loopT [(.slice none 0 0), a0] w fun K1 x1 w =>
  M.winnowref15_Pop.j1 x1 a1 K0 K1 w K) fun x0 w =>
  K (.tuple #[(gv x0 0), (gv x0 1)]) w
def M.winnowref15_Pop.L : List Nat := [0, 1, 4, 5, 6]
def M.winnowref15_Pop.pl : Nat → Plan := fun id => ⟨.nil, [], false⟩
theorem M.winnowref15_Pop.eq (a0 a1 : Value) (w : World) (K : KV) : M.winnowref15_Pop a0 a1 w K = den P M.winnowref15_Pop.L M.winnowref15_Pop.pl (Try.f16.body.getD .skip) (argE [a0, a1]) w (bodyQ P Try.f16.results.toList K) := by kernel_rfl
theorem M.winnowref15_Pop.ok : okFn M.winnowref15_Pop.L M.winnowref15_Pop.pl Try.f16 (Try.f16.body.getD .skip) 2 = true := by kernel_rfl
theorem M.winnowref15_Pop.calls (a0 a1 : Value) {w : World} {K : KV} (h : M.winnowref15_Pop a0 a1 w K) : callT P F.winnowref15_Pop [a0, a1] w K :=
  callT_of_den (by kernel_rfl) Try.func16 (by kernel_rfl) M.winnowref15_Pop.ok (M.winnowref15_Pop.eq a0 a1 w K ▸ h)
theorem M.winnowref15_Pop.fcall (args : List Value) (w : World) (K : KV) : fcallT P F.winnowref15_Pop args w K = callT P F.winnowref15_Pop args w K := fcallT_eq Try.func16 (by kernel_rfl) (by kernel_rfl) args w K

def M.winnowlaw15_uints.j3 (a0 : Value) (x2 : List Value) (a1 : Value) (K2 : KL) (w : World) (K : KV) : Prop :=
  joinT (fun K4 =>
  drawT w fun w =>
  w = w ∧ w = w ∧ quietT (fun K' => iaT P T.sl_uint64 a0 (gv x2 1) w K') w fun t19 =>
  quietT (fun K' => ldT P T.uint64 t19 w K') w fun t20 =>
  w = w ∧ w = w ∧ quietT (fun K' => iaT P T.sl_uint64 a1 (gv x2 1) w K') w fun t23 =>
  quietT (fun K' => ldT P T.uint64 t23 w K') w fun t24 =>
  quietT (fun K' => binT P .neq T.uint64 (.tmp 20) (.tmp 24) t20 t24 w K') w fun t25 =>
  condT t25 (
  K (.bool false) w) (
  K4 [(gv x2 0)] w)) fun x4 w =>
  binT P .add T.int (.tmp 15) (.const (.int .i64 1)) (gv x2 1) (.int .i64 1) w fun t16 w =>
  K2 [(gv x4 0), t16] w
def M.winnowlaw15_uints.j0 (x0 : List Value) (a0 : Value) (a1 : Value) (w : World) (K : KV) : Prop :=
  joinT (fun K1 =>
  loopT [(gv x0 0), (.int .i64 0)] w fun K2 x2 w =>
  joinT (fun K3 =>
  biT P .len #[T.sl_uint64] T.int [false] [a0] w fun t13 w =>
  binT P .lss T.int (.tmp 11) (.tmp 13) (gv x2 1) t13 w fun t14 w =>
  condT t14 (
  K3 [] w) (
  K1 [(gv x2 1), (gv x2 0)] w)) fun x3 w =>
  M.winnowlaw15_uints.j3 a0 x2 a1 K2 w K) fun x1 w =>
  K (.bool true) w
/-- winnow/winnowlaw15.uints -/
def M.winnowlaw15_uints (a0 a1 : Value) (w : World) (K : KV) : Prop :=
  joinT (fun K0 =>
  biT P .len #[T.sl_uint64] T.int [false] [a0] w fun t7 w =>
  biT P .len #[T.sl_uint64] T.int [false] [a1] w fun t9 w =>
  binT P .neq T.int (.tmp 7) (.tmp 9) t7 t9 w fun t10 w =>
  condT t10 (
  K (.bool false) w) (
  K0 [(.bool false)] w)) fun x0 w =>
  M.winnowlaw15_uints.j0 x0 a0 a1 w K
def M.winnowlaw15_uints.L : List Nat := [0, 1, 4, 5]
def M.winnowlaw15_uints.pl : Nat → Plan := fun id => cond (Nat.beq id 6) ⟨(.go 0 (.go 1 (.go 2 (.go 3 (.go 4 (.go 5 (.go 6 (.go 7 (.go 8 .nil))))))))), [], false⟩ (⟨.nil, [], false⟩)
theorem M.winnowlaw15_uints.eq (a0 a1 : Value) (w : World) (K : KV) : M.winnowlaw15_uints a0 a1 w K = den P M.winnowlaw15_uints.L M.winnowlaw15_uints.pl (Try.f17.body.getD .skip) (argE [a0, a1]) w (bodyQ P Try.f17.results.toList K) := by kernel_rfl
theorem M.winnowlaw15_uints.ok : okFn M.winnowlaw15_uints.L M.winnowlaw15_uints.pl Try.f17 (Try.f17.body.getD .skip) 2 = true := by kernel_rfl
theorem M.winnowlaw15_uints.calls (a0 a1 : Value) {w : World} {K : KV} (h : M.winnowlaw15_uints a0 a1 w K) : callT P F.winnowlaw15_uints [a0, a1] w K :=
  callT_of_den (by kernel_rfl) Try.func17 (by kernel_rfl) M.winnowlaw15_uints.ok (M.winnowlaw15_uints.eq a0 a1 w K ▸ h)
theorem M.winnowlaw15_uints.fcall (args : List Value) (w : World) (K : KV) : fcallT P F.winnowlaw15_uints args w K = callT P F.winnowlaw15_uints args w K := fcallT_eq Try.func17 (by kernel_rfl) (by kernel_rfl) args w K

def M.ptimers_Heap_At.j0 (a0 : Value) (a1 : Value) (w : World) (K : KV) : Prop :=
  nilT a0 w fun t18 w =>
  faT P T.timers_Heap t18 1 w fun t19 w =>
  ldT P T.map_uint64_p_timers_item t19 w fun t20 w =>
  luT P T.map_uint64_p_timers_item t20 a1 false w fun t22 w =>
  nilT t22 w fun t23 w =>
  faT P T.timers_item t23 1 w fun t24 w =>
  ldT P T.uint64 t24 w fun t25 w =>
  K (.tuple #[t25, (.bool true)]) w
/-- (*winnow/timers.Heap).At -/
def M.ptimers_Heap_At (a0 a1 : Value) (w : World) (K : KV) : Prop :=
  joinT (fun K0 =>
  binT P .eql T.p_timers_Heap (.tmp 6) (.const (.pointer none)) a0 (.pointer none) w fun t7 w =>
  guardT (isB t7 false) (fun K' => K' a0 w) w fun t9 w =>
  guardT (isB t7 false) (fun K' => nilT t9 w K') w fun t10 w =>
  guardT (isB t7 false) (fun K' => faT P T.timers_Heap t10 1 w K') w fun t11 w =>
  guardT (isB t7 false) (fun K' => ldT P T.map_uint64_p_timers_item t11 w K') w fun t12 w =>
  guardT (isB t7 false) (fun K' => K' a1 w) w fun t13 w =>
  guardT (isB t7 false) (fun K' => luT P T.map_uint64_p_timers_item t12 t13 false w K') w fun t14 w =>
  guardT (isB t7 false) (fun K' => binT P .eql T.p_timers_item (.tmp 14) (.const (.pointer none)) t14 (.pointer none) w K') w fun t15 w =>
  pickT t7 (.bool true) t15 w fun t16 w =>
  condT t16 (
  K (.tuple #[(.int .u64 0), (.bool false)]) w) (
  K0 [(.int .u64 0), (.bool false)] w)) fun x0 w =>
  M.ptimers_Heap_At.j0 a0 a1 w K
def M.ptimers_Heap_At.L : List Nat := [0, 1, 4, 5]
def M.ptimers_Heap_At.pl : Nat → Plan := fun id => ⟨.nil, [], false⟩
theorem M.ptimers_Heap_At.eq (a0 a1 : Value) (w : World) (K : KV) : M.ptimers_Heap_At a0 a1 w K = den P M.ptimers_Heap_At.L M.ptimers_Heap_At.pl (Try.f18.body.getD .skip) (argE [a0, a1]) w (bodyQ P Try.f18.results.toList K) := by kernel_rfl
theorem M.ptimers_Heap_At.ok : okFn M.ptimers_Heap_At.L M.ptimers_Heap_At.pl Try.f18 (Try.f18.body.getD .skip) 2 = true := by kernel_rfl
theorem M.ptimers_Heap_At.calls (a0 a1 : Value) {w : World} {K : KV} (h : M.ptimers_Heap_At a0 a1 w K) : callT P F.ptimers_Heap_At [a0, a1] w K :=
  callT_of_den (by kernel_rfl) Try.func18 (by kernel_rfl) M.ptimers_Heap_At.ok (M.ptimers_Heap_At.eq a0 a1 w K ▸ h)
theorem M.ptimers_Heap_At.fcall (args : List Value) (w : World) (K : KV) : fcallT P F.ptimers_Heap_At args w K = callT P F.ptimers_Heap_At args w K := fcallT_eq Try.func18 (by kernel_rfl) (by kernel_rfl) args w K

/-- container/heap.Fix -/
def M.heap_Fix (a0 a1 : Value) (w : World) (K : KV) : Prop :=
  invokeT P a0 "Len" [] w fun t7 w =>
  fcallT P F.heap_down [a0, a1, t7] w fun t8 w =>
  unT P .not t8 w fun t9 w =>
  condT t9 (
  fcallT P F.heap_up [a0, a1] w fun t12 w =>
  K (.tuple #[]) w) (
  K (.tuple #[]) w)
def M.heap_Fix.L : List Nat := [0, 1]
def M.heap_Fix.pl : Nat → Plan := fun id => ⟨.nil, [], false⟩
theorem M.heap_Fix.eq (a0 a1 : Value) (w : World) (K : KV) : M.heap_Fix a0 a1 w K = den P M.heap_Fix.L M.heap_Fix.pl (Try.f19.body.getD .skip) (argE [a0, a1]) w (bodyQ P Try.f19.results.toList K) := by kernel_rfl
theorem M.heap_Fix.ok : okFn M.heap_Fix.L M.heap_Fix.pl Try.f19 (Try.f19.body.getD .skip) 2 = true := by kernel_rfl
theorem M.heap_Fix.calls (a0 a1 : Value) {w : World} {K : KV} (h : M.heap_Fix a0 a1 w K) : callT P F.heap_Fix [a0, a1] w K :=
  callT_of_den (by kernel_rfl) Try.func19 (by kernel_rfl) M.heap_Fix.ok (M.heap_Fix.eq a0 a1 w K ▸ h)
theorem M.heap_Fix.fcall (args : List Value) (w : World) (K : KV) : fcallT P F.heap_Fix args w K = callT P F.heap_Fix args w K := fcallT_eq Try.func19 (by kernel_rfl) (by kernel_rfl) args w K

/-- container/heap.Push -/
def M.heap_Push (a0 a1 : Value) (w : World) (K : KV) : Prop :=
  invokeT P a0 "Push" [a1] w fun t6 w =>
  invokeT P a0 "Len" [] w fun t9 w =>
  binT P .sub T.int (.tmp 9) (.const (.int .i64 1)) t9 (.int .i64 1) w fun t10 w =>
  fcallT P F.heap_up [a0, t10] w fun t11 w =>
  K (.tuple #[]) w
def M.heap_Push.L : List Nat := [0, 1]
def M.heap_Push.pl : Nat → Plan := fun id => ⟨.nil, [], false⟩
theorem M.heap_Push.eq (a0 a1 : Value) (w : World) (K : KV) : M.heap_Push a0 a1 w K = den P M.heap_Push.L M.heap_Push.pl (Try.f20.body.getD .skip) (argE [a0, a1]) w (bodyQ P Try.f20.results.toList K) := by kernel_rfl
theorem M.heap_Push.ok : okFn M.heap_Push.L M.heap_Push.pl Try.f20 (Try.f20.body.getD .skip) 2 = true := by kernel_rfl
theorem M.heap_Push.calls (a0 a1 : Value) {w : World} {K : KV} (h : M.heap_Push a0 a1 w K) : callT P F.heap_Push [a0, a1] w K :=
  callT_of_den (by kernel_rfl) Try.func20 (by kernel_rfl) M.heap_Push.ok (M.heap_Push.eq a0 a1 w K ▸ h)
theorem M.heap_Push.fcall (args : List Value) (w : World) (K : KV) : fcallT P F.heap_Push args w K = callT P F.heap_Push args w K := fcallT_eq Try.func20 (by kernel_rfl) (by kernel_rfl) args w K

/-- container/heap.Remove -/
def M.heap_Remove (a0 a1 : Value) (w : World) (K : KV) : Prop :=
  invokeT P a0 "Len" [] w fun t7 w =>
  binT P .sub T.int (.tmp 7) (.const (.int .i64 1)) t7 (.int .i64 1) w fun t8 w =>
  joinT (fun K0 =>
  binT P .neq T.int (.tmp 9) (.tmp 10) t8 a1 w fun t11 w =>
  condT t11 (
  invokeT P a0 "Swap" [a1, t8] w fun t15 w =>
  fcallT P F.heap_down [a0, a1, t8] w fun t19 w =>
  unT P .not t19 w fun t20 w =>
  condT t20 (
  fcallT P F.heap_up [a0, a1] w fun t23 w =>
  K0 [] w) (
  K0 [] w)) (
  K0 [] w)) fun x0 w =>
  invokeT P a0 "Pop" [] w fun t25 w =>
  K t25 w
def M.heap_Remove.L : List Nat := [0, 1, 4, 5]
def M.heap_Remove.pl : Nat → Plan := fun id => ⟨.nil, [], false⟩
theorem M.heap_Remove.eq (a0 a1 : Value) (w : World) (K : KV) : M.heap_Remove a0 a1 w K = den P M.heap_Remove.L M.heap_Remove.pl (Try.f21.body.getD .skip) (argE [a0, a1]) w (bodyQ P Try.f21.results.toList K) := by kernel_rfl
theorem M.heap_Remove.ok : okFn M.heap_Remove.L M.heap_Remove.pl Try.f21 (Try.f21.body.getD .skip) 2 = true := by kernel_rfl
theorem M.heap_Remove.calls (a0 a1 : Value) {w : World} {K : KV} (h : M.heap_Remove a0 a1 w K) : callT P F.heap_Remove [a0, a1] w K :=
  callT_of_den (by kernel_rfl) Try.func21 (by kernel_rfl) M.heap_Remove.ok (M.heap_Remove.eq a0 a1 w K ▸ h)
theorem M.heap_Remove.fcall (args : List Value) (w : World) (K : KV) : fcallT P F.heap_Remove args w K = callT P F.heap_Remove args w K := fcallT_eq Try.func21 (by kernel_rfl) (by kernel_rfl) args w K

def M.heap_down.j3 (a0 : Value) (x3 : List Value) (x1 : List Value) (K0 : KL) (t14 : Value) (K1 : KL) (w : World) (K : KV) : Prop :=
  joinT (fun K4 =>
  invokeT P a0 "Less" [(gv x3 1), (gv x1 3)] w fun t38 w =>
  unT P .not t38 w fun t39 w =>
  condT t39 (
  K0 [t14, (gv x3 1), (gv x3 0), (gv x1 3)] w) (
  K4 [] w)) fun x4 w =>
  invokeT P a0 "Swap" [(gv x1 3), (gv x3 1)] w fun t43 w =>
  K1 [t14, (gv x3 1), (gv x3 0), (gv x3 1)] w
def M.heap_down.j2 (t14 : Value) (a2 : Value) (a0 : Value) (x1 : List Value) (K0 : KL) (K1 : KL) (w : World) (K : KV) : Prop :=
  joinT (fun K3 =>
  binT P .add T.int (.tmp 23) (.const (.int .i64 1)) t14 (.int .i64 1) w fun t24 w =>
  binT P .lss T.int (.tmp 25) (.tmp 26) t24 a2 w fun t27 w =>
  guardT (isB t27 true) (fun K' => K' a0 w) w fun t29 w =>
  guardT (isB t27 true) (fun K' => K' t24 w) w fun t30 w =>
  guardT (isB t27 true) (fun K' => K' t14 w) w fun t31 w =>
  guardT (isB t27 true) (fun K' => invokeT P t29 "Less" [t30, t31] w K') w fun t32 w =>
  pickT t27 t32 (.bool false) w fun t33 w =>
  condT t33 (
  K3 [t24, t24] w) (
  K3 [t24, t14] w)) fun x3 w =>
  M.heap_down.j3 a0 x3 x1 K0 t14 K1 w K
def M.heap_down.j1 (x1 : List Value) (a2 : Value) (K0 : KL) (a0 : Value) (K1 : KL) (w : World) (K : KV) : Prop :=
  binT P .mul T.int (.const (.int .i64 2)) (.tmp 12) (.int .i64 2) (gv x1 3) w fun t13 w =>
  binT P .add T.int (.tmp 13) (.const (.int .i64 1)) t13 (.int .i64 1) w fun t14 w =>
  joinT (fun K2 =>
  binT P .geq T.int (.tmp 15) (.tmp 16) t14 a2 w fun t17 w =>
  guardT (isB t17 false) (fun K' => K' t14 w) w fun t19 w =>
  guardT (isB t17 false) (fun K' => binT P .lss T.int (.tmp 19) (.const (.int .i64 0)) t19 (.int .i64 0) w K') w fun t20 w =>
  pickT t17 (.bool true) t20 w fun t21 w =>
  condT t21 (
  K0 [t14, (gv x1 1), (gv x1 2), (gv x1 3)] w) (
  K2 [] w)) fun x2 w =>
  M.heap_down.j2 t14 a2 a0 x1 K0 K1 w K
/-- container/heap.down -/
def M.heap_down (a0 a1 a2 : Value) (w : World) (K : KV) : Prop :=
  joinT (fun K0 =>
  loopT [undef, undef, undef, a1] w fun K1 x1 w =>
  M.heap_down.j1 x1 a2 K0 a0 K1 w K) fun x0 w =>
  binT P .gtr T.int (.tmp 45) (.tmp 46) (gv x0 3) a1 w fun t47 w =>
  K t47 w
def M.heap_down.L : List Nat := [0, 1, 2, 6, 7, 8, 9, 10]
def M.heap_down.pl : Nat → Plan := fun id => ⟨.nil, [], false⟩
theorem M.heap_down.eq (a0 a1 a2 : Value) (w : World) (K : KV) : M.heap_down a0 a1 a2 w K = den P M.heap_down.L M.heap_down.pl (Try.f22.body.getD .skip) (argE [a0, a1, a2]) w (bodyQ P Try.f22.results.toList K) := by kernel_rfl
theorem M.heap_down.ok : okFn M.heap_down.L M.heap_down.pl Try.f22 (Try.f22.body.getD .skip) 3 = true := by kernel_rfl
theorem M.heap_down.calls (a0 a1 a2 : Value) {w : World} {K : KV} (h : M.heap_down a0 a1 a2 w K) : callT P F.heap_down [a0, a1, a2] w K :=
  callT_of_den (by kernel_rfl) Try.func22 (by kernel_rfl) M.heap_down.ok (M.heap_down.eq a0 a1 a2 w K ▸ h)
theorem M.heap_down.fcall (args : List Value) (w : World) (K : KV) : fcallT P F.heap_down args w K = callT P F.heap_down args w K := fcallT_eq Try.func22 (by kernel_rfl) (by kernel_rfl) args w K

def M.heap_up.j0 (x0 : List Value) (a0 : Value) (K0 : KL) (w : World) (K : KV) : Prop :=
  binT P .sub T.int (.tmp 5) (.const (.int .i64 1)) (gv x0 1) (.int .i64 1) w fun t6 w =>
  binT P .quo T.int (.tmp 6) (.const (.int .i64 2)) t6 (.int .i64 2) w fun t7 w =>
  joinT (fun K1 =>
  binT P .eql T.int (.tmp 8) (.tmp 9) t7 (gv x0 1) w fun t10 w =>
  guardT (isB t10 false) (fun K' => K' a0 w) w fun t12 w =>
  guardT (isB t10 false) (fun K' => K' (gv x0 1) w) w fun t13 w =>
  guardT (isB t10 false) (fun K' => K' t7 w) w fun t14 w =>
  guardT (isB t10 false) (fun K' => invokeT P t12 "Less" [t13, t14] w K') w fun t15 w =>
  guardT (isB t10 false) (fun K' => unT P .not t15 w K') w fun t16 w =>
  pickT t10 (.bool true) t16 w fun t17 w =>
  condT t17 (
  K (.tuple #[]) w) (
  K1 [] w)) fun x1 w =>
  invokeT P a0 "Swap" [t7, (gv x0 1)] w fun t21 w =>
  K0 [t7, t7] w
/-- container/heap.up -/
def M.heap_up (a0 a1 : Value) (w : World) (K : KV) : Prop :=
  loopT [undef, a1] w fun K0 x0 w =>
  M.heap_up.j0 x0 a0 K0 w K
def M.heap_up.L : List Nat := [0, 1, 4]
def M.heap_up.pl : Nat → Plan := fun id => ⟨.nil, [], false⟩
theorem M.heap_up.eq (a0 a1 : Value) (w : World) (K : KV) : M.heap_up a0 a1 w K = den P M.heap_up.L M.heap_up.pl (Try.f23.body.getD .skip) (argE [a0, a1]) w (bodyQ P Try.f23.results.toList K) := by kernel_rfl
theorem M.heap_up.ok : okFn M.heap_up.L M.heap_up.pl Try.f23 (Try.f23.body.getD .skip) 2 = true := by kernel_rfl
theorem M.heap_up.calls (a0 a1 : Value) {w : World} {K : KV} (h : M.heap_up a0 a1 w K) : callT P F.heap_up [a0, a1] w K :=
  callT_of_den (by kernel_rfl) Try.func23 (by kernel_rfl) M.heap_up.ok (M.heap_up.eq a0 a1 w K ▸ h)
theorem M.heap_up.fcall (args : List Value) (w : World) (K : KV) : fcallT P F.heap_up args w K = callT P F.heap_up args w K := fcallT_eq Try.func23 (by kernel_rfl) (by kernel_rfl) args w K

/-- (winnow/timers.line).Len -/
def M.timers_line_Len (a0 : Value) (w : World) (K : KV) : Prop :=
  biT P .len #[T.timers_line] T.int [false] [a0] w fun t4 w =>
  K t4 w
def M.timers_line_Len.L : List Nat := [0, 2]
def M.timers_line_Len.pl : Nat → Plan := fun id => ⟨.nil, [], false⟩
theorem M.timers_line_Len.eq (a0 : Value) (w : World) (K : KV) : M.timers_line_Len a0 w K = den P M.timers_line_Len.L M.timers_line_Len.pl (Try.f40.body.getD .skip) (argE [a0]) w (bodyQ P Try.f40.results.toList K) := by kernel_rfl
theorem M.timers_line_Len.ok : okFn M.timers_line_Len.L M.timers_line_Len.pl Try.f40 (Try.f40.body.getD .skip) 1 = true := by kernel_rfl
theorem M.timers_line_Len.calls (a0 : Value) {w : World} {K : KV} (h : M.timers_line_Len a0 w K) : callT P F.timers_line_Len [a0] w K :=
  callT_of_den (by kernel_rfl) Try.func40 (by kernel_rfl) M.timers_line_Len.ok (M.timers_line_Len.eq a0 w K ▸ h)
theorem M.timers_line_Len.fcall (args : List Value) (w : World) (K : KV) : fcallT P F.timers_line_Len args w K = callT P F.timers_line_Len args w K := fcallT_eq Try.func40 (by kernel_rfl) (by kernel_rfl) args w K

/-- (winnow/timers.line).Less -/
def M.timers_line_Less (a0 a1 a2 : Value) (w : World) (K : KV) : Prop :=
  drawT w fun w =>
  w = w ∧ w = w ∧ quietT (fun K' => iaT P T.timers_line a0 a1 w K') w fun t9 =>
  quietT (fun K' => ldT P T.p_timers_item t9 w K') w fun t10 =>
  quietT (fun K' => nilT t10 w K') w fun t11 =>
  quietT (fun K' => faT P T.timers_item t11 1 w K') w fun t12 =>
  quietT (fun K' => ldT P T.uint64 t12 w K') w fun t13 =>
  w = w ∧ w = w ∧ quietT (fun K' => iaT P T.timers_line a0 a2 w K') w fun t16 =>
  quietT (fun K' => ldT P T.p_timers_item t16 w K') w fun t17 =>
  quietT (fun K' => nilT t17 w K') w fun t18 =>
  quietT (fun K' => faT P T.timers_item t18 1 w K') w fun t19 =>
  quietT (fun K' => ldT P T.uint64 t19 w K') w fun t20 =>
  quietT (fun K' => binT P .lss T.uint64 (.tmp 13) (.tmp 20) t13 t20 w K') w fun t21 =>
  w = w ∧ quietT (fun K' => guardT (isB t21 false) (fun K' => K' a0 w) w K') w fun t23 =>
  quietT (fun K' => guardT (isB t21 false) (fun K' => K' a1 w) w K') w fun t24 =>
  quietT (fun K' => guardT (isB t21 false) (fun K' => iaT P T.timers_line t23 t24 w K') w K') w fun t25 =>
  quietT (fun K' => guardT (isB t21 false) (fun K' => ldT P T.p_timers_item t25 w K') w K') w fun t26 =>
  quietT (fun K' => guardT (isB t21 false) (fun K' => nilT t26 w K') w K') w fun t27 =>
  quietT (fun K' => guardT (isB t21 false) (fun K' => faT P T.timers_item t27 1 w K') w K') w fun t28 =>
  quietT (fun K' => guardT (isB t21 false) (fun K' => ldT P T.uint64 t28 w K') w K') w fun t29 =>
  quietT (fun K' => guardT (isB t21 false) (fun K' => K' a0 w) w K') w fun t30 =>
  quietT (fun K' => guardT (isB t21 false) (fun K' => K' a2 w) w K') w fun t31 =>
  quietT (fun K' => guardT (isB t21 false) (fun K' => iaT P T.timers_line t30 t31 w K') w K') w fun t32 =>
  quietT (fun K' => guardT (isB t21 false) (fun K' => ldT P T.p_timers_item t32 w K') w K') w fun t33 =>
  quietT (fun K' => guardT (isB t21 false) (fun K' => nilT t33 w K') w K') w fun t34 =>
  quietT (fun K' => guardT (isB t21 false) (fun K' => faT P T.timers_item t34 1 w K') w K') w fun t35 =>
  quietT (fun K' => guardT (isB t21 false) (fun K' => ldT P T.uint64 t35 w K') w K') w fun t36 =>
  quietT (fun K' => guardT (isB t21 false) (fun K' => binT P .eql T.uint64 (.tmp 29) (.tmp 36) t29 t36 w K') w K') w fun t37 =>
  quietT (fun K' => guardT (isB t21 false) (fun K' => K' t37 w) w K') w fun t38 =>
  quietT (fun K' => guardT (isB t38 true) (fun K' => K' a0 w) w K') w fun t39 =>
  quietT (fun K' => guardT (isB t38 true) (fun K' => K' a1 w) w K') w fun t40 =>
  quietT (fun K' => guardT (isB t38 true) (fun K' => iaT P T.timers_line t39 t40 w K') w K') w fun t41 =>
  quietT (fun K' => guardT (isB t38 true) (fun K' => ldT P T.p_timers_item t41 w K') w K') w fun t42 =>
  quietT (fun K' => guardT (isB t38 true) (fun K' => nilT t42 w K') w K') w fun t43 =>
  quietT (fun K' => guardT (isB t38 true) (fun K' => faT P T.timers_item t43 0 w K') w K') w fun t44 =>
  quietT (fun K' => guardT (isB t38 true) (fun K' => ldT P T.uint64 t44 w K') w K') w fun t45 =>
  quietT (fun K' => guardT (isB t38 true) (fun K' => K' a0 w) w K') w fun t46 =>
  quietT (fun K' => guardT (isB t38 true) (fun K' => K' a2 w) w K') w fun t47 =>
  quietT (fun K' => guardT (isB t38 true) (fun K' => iaT P T.timers_line t46 t47 w K') w K') w fun t48 =>
  quietT (fun K' => guardT (isB t38 true) (fun K' => ldT P T.p_timers_item t48 w K') w K') w fun t49 =>
  quietT (fun K' => guardT (isB t38 true) (fun K' => nilT t49 w K') w K') w fun t50 =>
  quietT (fun K' => guardT (isB t38 true) (fun K' => faT P T.timers_item t50 0 w K') w K') w fun t51 =>
  quietT (fun K' => guardT (isB t38 true) (fun K' => ldT P T.uint64 t51 w K') w K') w fun t52 =>
  quietT (fun K' => guardT (isB t38 true) (fun K' => binT P .lss T.uint64 (.tmp 45) (.tmp 52) t45 t52 w K') w K') w fun t53 =>
  quietT (fun K' => guardT (isB t21 false) (fun K' => pickT t38 t53 (.bool false) w K') w K') w fun t54 =>
  quietT (fun K' => pickT t21 (.bool true) t54 w K') w fun t55 =>
  K t55 w
def M.timers_line_Less.L : List Nat := [0, 1, 2, 6]
def M.timers_line_Less.pl : Nat → Plan := fun id => cond (Nat.beq id 1) ⟨(.go 0 (.go 1 (.go 2 (.go 3 (.go 4 (.go 5 (.go 6 (.go 7 (.go 8 (.go 9 (.go 10 (.go 11 (.go 12 (.go 13 (.go 14 (.go 15 (.go 16 (.go 17 (.go 18 (.go 19 (.go 20 (.go 21 (.go 22 (.go 23 (.go 24 (.go 25 (.go 26 (.go 27 (.go 28 (.go 29 (.go 30 (.go 31 (.go 32 (.go 33 (.go 34 (.go 35 (.go 36 (.go 37 (.go 38 (.go 39 (.go 40 (.go 41 (.go 42 (.go 43 (.go 44 (.go 45 (.go 46 (.go 47 (.go 48 (.eff 49 .nil .stop)))))))))))))))))))))))))))))))))))))))))))))))))), [49], false⟩ (⟨.nil, [], false⟩)
theorem M.timers_line_Less.eq (a0 a1 a2 : Value) (w : World) (K : KV) : M.timers_line_Less a0 a1 a2 w K = den P M.timers_line_Less.L M.timers_line_Less.pl (Try.f41.body.getD .skip) (argE [a0, a1, a2]) w (bodyQ P Try.f41.results.toList K) := by kernel_rfl
theorem M.timers_line_Less.ok : okFn M.timers_line_Less.L M.timers_line_Less.pl Try.f41 (Try.f41.body.getD .skip) 3 = true := by kernel_rfl
theorem M.timers_line_Less.calls (a0 a1 a2 : Value) {w : World} {K : KV} (h : M.timers_line_Less a0 a1 a2 w K) : callT P F.timers_line_Less [a0, a1, a2] w K :=
  callT_of_den (by kernel_rfl) Try.func41 (by kernel_rfl) M.timers_line_Less.ok (M.timers_line_Less.eq a0 a1 a2 w K ▸ h)
theorem M.timers_line_Less.fcall (args : List Value) (w : World) (K : KV) : fcallT P F.timers_line_Less args w K = callT P F.timers_line_Less args w K := fcallT_eq Try.func41 (by kernel_rfl) (by kernel_rfl) args w K

/-- (winnow/timers.line).Swap -/
def M.timers_line_Swap (a0 a1 a2 : Value) (w : World) (K : KV) : Prop :=
  drawT w fun w =>
  w = w ∧ w = w ∧ w = w ∧ w = w ∧ w = w ∧ w = w ∧ quietT (fun K' => iaT P T.timers_line a0 a2 w K') w fun t12 =>
  quietT (fun K' => ldT P T.p_timers_item t12 w K') w fun t13 =>
  w = w ∧ w = w ∧ quietT (fun K' => iaT P T.timers_line a0 a1 w K') w fun t16 =>
  quietT (fun K' => ldT P T.p_timers_item t16 w K') w fun t17 =>
  quietT (fun K' => iaT P T.timers_line a0 a1 w K') w fun t18 =>
  stT P T.p_timers_item t18 t13 w fun _ w =>
  stabT (fun K' => K' a2 w) w a2 ∧ stabT (fun K' => K' a0 w) w a0 ∧ quietT (fun K' => iaT P T.timers_line a0 a2 w K') w fun t19 =>
  stT P T.p_timers_item t19 t17 w fun _ w =>
  drawT w fun w =>
  w = w ∧ w = w ∧ quietT (fun K' => iaT P T.timers_line a0 a1 w K') w fun t22 =>
  quietT (fun K' => ldT P T.p_timers_item t22 w K') w fun t23 =>
  w = w ∧ w = w ∧ quietT (fun K' => iaT P T.timers_line a0 a2 w K') w fun t26 =>
  quietT (fun K' => ldT P T.p_timers_item t26 w K') w fun t27 =>
  w = w ∧ w = w ∧ quietT (fun K' => nilT t23 w K') w fun t30 =>
  quietT (fun K' => faT P T.timers_item t30 2 w K') w fun t31 =>
  stT P T.int t31 a1 w fun _ w =>
  stabT (fun K' => K' a2 w) w a2 ∧ quietT (fun K' => nilT t27 w K') w fun t32 =>
  quietT (fun K' => faT P T.timers_item t32 2 w K') w fun t33 =>
  stT P T.int t33 a2 w fun _ w =>
  K (.tuple #[]) w
def M.timers_line_Swap.L : List Nat := [0, 1, 2]
def M.timers_line_Swap.pl : Nat → Plan := fun id => cond (Nat.beq id 0) ⟨(.go 0 (.go 1 (.go 2 (.go 3 (.go 4 (.go 5 (.go 6 (.go 7 (.go 8 (.go 9 (.go 10 (.go 11 (.go 12 (.eff 13 (.go 14 (.eff 15 .nil .stop)) .stop)))))))))))))), [13, 15], false⟩ (cond (Nat.beq id 1) ⟨(.go 0 (.go 1 (.go 2 (.go 3 (.go 4 (.go 5 (.go 6 (.go 7 (.go 8 (.go 9 (.go 10 (.go 11 (.eff 12 (.go 13 (.go 14 (.eff 15 .nil .stop))) .stop))))))))))))), [12, 15], false⟩ (⟨.nil, [], false⟩))
theorem M.timers_line_Swap.eq (a0 a1 a2 : Value) (w : World) (K : KV) : M.timers_line_Swap a0 a1 a2 w K = den P M.timers_line_Swap.L M.timers_line_Swap.pl (Try.f42.body.getD .skip) (argE [a0, a1, a2]) w (bodyQ P Try.f42.results.toList K) := by kernel_rfl
theorem M.timers_line_Swap.ok : okFn M.timers_line_Swap.L M.timers_line_Swap.pl Try.f42 (Try.f42.body.getD .skip) 3 = true := by kernel_rfl
theorem M.timers_line_Swap.calls (a0 a1 a2 : Value) {w : World} {K : KV} (h : M.timers_line_Swap a0 a1 a2 w K) : callT P F.timers_line_Swap [a0, a1, a2] w K :=
  callT_of_den (by kernel_rfl) Try.func42 (by kernel_rfl) M.timers_line_Swap.ok (M.timers_line_Swap.eq a0 a1 a2 w K ▸ h)
theorem M.timers_line_Swap.fcall (args : List Value) (w : World) (K : KV) : fcallT P F.timers_line_Swap args w K = callT P F.timers_line_Swap args w K := fcallT_eq Try.func42 (by kernel_rfl) (by kernel_rfl) args w K

/-- (*winnow/timers.line).Pop -/
def M.ptimers_line_Pop (a0 : Value) (w : World) (K : KV) : Prop :=
  nilT a0 w fun t6 w =>
  ldT P T.timers_line t6 w fun t7 w =>
  biT P .len #[T.timers_line] T.int [false] [t7] w fun t8 w =>
  binT P .sub T.int (.tmp 8) (.const (.int .i64 1)) t8 (.int .i64 1) w fun t9 w =>
  nilT a0 w fun t11 w =>
  ldT P T.timers_line t11 w fun t12 w =>
  iaT P T.timers_line t12 t9 w fun t14 w =>
  ldT P T.p_timers_item t14 w fun t15 w =>
  nilT a0 w fun t18 w =>
  ldT P T.timers_line t18 w fun t19 w =>
  slT P T.timers_line t19 none (some t9) none w fun t21 w =>
  nilT a0 w fun t22 w =>
  stT P T.timers_line t22 t21 w fun _ w =>
  mkiT P T.p_timers_item t15 w fun t24 w =>
  K t24 w
def M.ptimers_line_Pop.L : List Nat := [0, 2, 3, 4]
def M.ptimers_line_Pop.pl : Nat → Plan := fun id => ⟨.nil, [], false⟩
theorem M.ptimers_line_Pop.eq (a0 : Value) (w : World) (K : KV) : M.ptimers_line_Pop a0 w K = den P M.ptimers_line_Pop.L M.ptimers_line_Pop.pl (Try.f43.body.getD .skip) (argE [a0]) w (bodyQ P Try.f43.results.toList K) := by kernel_rfl
theorem M.ptimers_line_Pop.ok : okFn M.ptimers_line_Pop.L M.ptimers_line_Pop.pl Try.f43 (Try.f43.body.getD .skip) 1 = true := by kernel_rfl
theorem M.ptimers_line_Pop.calls (a0 : Value) {w : World} {K : KV} (h : M.ptimers_line_Pop a0 w K) : callT P F.ptimers_line_Pop [a0] w K :=
  callT_of_den (by kernel_rfl) Try.func43 (by kernel_rfl) M.ptimers_line_Pop.ok (M.ptimers_line_Pop.eq a0 w K ▸ h)
theorem M.ptimers_line_Pop.fcall (args : List Value) (w : World) (K : KV) : fcallT P F.ptimers_line_Pop args w K = callT P F.ptimers_line_Pop args w K := fcallT_eq Try.func43 (by kernel_rfl) (by kernel_rfl) args w K

/-- (*winnow/timers.line).Push -/
def M.ptimers_line_Push (a0 a1 : Value) (w : World) (K : KV) : Prop :=
  taT P a1 T.any T.p_timers_item false w fun t6 w =>
  nilT a0 w fun t9 w =>
  ldT P T.timers_line t9 w fun t10 w =>
  biT P .len #[T.timers_line] T.int [false] [t10] w fun t11 w =>
  nilT t6 w fun t12 w =>
  faT P T.timers_item t12 2 w fun t13 w =>
  stT P T.int t13 t11 w fun _ w =>
  nilT a0 w fun t16 w =>
  ldT P T.timers_line t16 w fun t17 w =>
  bsT P T.timers_line 1 #[(0, t6)] w fun t19 w =>
  biT P .append #[T.timers_line, T.timers_line] T.timers_line [false, false] [t17, t19] w fun t20 w =>
  nilT a0 w fun t21 w =>
  stT P T.timers_line t21 t20 w fun _ w =>
  K (.tuple #[]) w
def M.ptimers_line_Push.L : List Nat := [0, 1, 4]
def M.ptimers_line_Push.pl : Nat → Plan := fun id => ⟨.nil, [], false⟩
theorem M.ptimers_line_Push.eq (a0 a1 : Value) (w : World) (K : KV) : M.ptimers_line_Push a0 a1 w K = den P M.ptimers_line_Push.L M.ptimers_line_Push.pl (Try.f44.body.getD .skip) (argE [a0, a1]) w (bodyQ P Try.f44.results.toList K) := by kernel_rfl
theorem M.ptimers_line_Push.ok : okFn M.ptimers_line_Push.L M.ptimers_line_Push.pl Try.f44 (Try.f44.body.getD .skip) 2 = true := by kernel_rfl
theorem M.ptimers_line_Push.calls (a0 a1 : Value) {w : World} {K : KV} (h : M.ptimers_line_Push a0 a1 w K) : callT P F.ptimers_line_Push [a0, a1] w K :=
  callT_of_den (by kernel_rfl) Try.func44 (by kernel_rfl) M.ptimers_line_Push.ok (M.ptimers_line_Push.eq a0 a1 w K ▸ h)
theorem M.ptimers_line_Push.fcall (args : List Value) (w : World) (K : KV) : fcallT P F.ptimers_line_Push args w K = callT P F.ptimers_line_Push args w K := fcallT_eq Try.func44 (by kernel_rfl) (by kernel_rfl) args w K

end Go.Proofs.Ytiolnbhnahlphaa
