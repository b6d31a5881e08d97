/-
  Printed by wip/Shallow.lean: functions of the program, read shallow; each is what its code does. No condition.
-/
import Derived.Test.YtkjhekflgghbdaaN
set_option maxRecDepth 1000000
namespace Go.Proofs.Ytkjhekflgghbdaa
open Go.Eng

def M.slices_partitionOrdered_int.j1 (x1 : List Value) (t29 : Value) (a0 : Value) (a1 : Value) (K0 : KL) (K1 : KL) (w : World) (K : KV) : Prop :=
  joinT (fun K2 =>
  drawT w fun w =>
  w = w ∧ w = w ∧ quietT (fun K' => binT P .leq T.int (.tmp 30) (.tmp 31) (gv x1 0) t29 w K') w fun t32 =>
  w = w ∧ quietT (fun K' => guardT (isB t32 true) (fun K' => K' a0 w) w K') w fun t34 =>
  quietT (fun K' => guardT (isB t32 true) (fun K' => K' (gv x1 0) w) w K') w fun t35 =>
  quietT (fun K' => guardT (isB t32 true) (fun K' => iaT P T.sl_int t34 t35 w K') w K') w fun t36 =>
  quietT (fun K' => guardT (isB t32 true) (fun K' => ldT P T.int t36 w K') w K') w fun t37 =>
  quietT (fun K' => guardT (isB t32 true) (fun K' => K' a0 w) w K') w fun t38 =>
  quietT (fun K' => guardT (isB t32 true) (fun K' => K' a1 w) w K') w fun t39 =>
  quietT (fun K' => guardT (isB t32 true) (fun K' => iaT P T.sl_int t38 t39 w K') w K') w fun t40 =>
  quietT (fun K' => guardT (isB t32 true) (fun K' => ldT P T.int t40 w K') w K') w fun t41 =>
  guardT (isB t32 true) (fun K' => fcallT P F.cmp_Less_int [t37, t41] w K') w fun t42 w =>
  quietT (fun K' => pickT t32 t42 (.bool false) w K') w fun t43 =>
  condT t43 (
  K2 [] w) (
  K0 [(gv x1 0)] w)) fun x2 w =>
  binT P .add T.int (.tmp 44) (.const (.int .i64 1)) (gv x1 0) (.int .i64 1) w fun t45 w =>
  K1 [t45] w
def M.slices_partitionOrdered_int.j4 (x0 : List Value) (x4 : List Value) (a0 : Value) (a1 : Value) (K3 : KL) (K4 : KL) (w : World) (K : KV) : Prop :=
  joinT (fun K5 =>
  drawT w fun w =>
  w = w ∧ w = w ∧ quietT (fun K' => binT P .leq T.int (.tmp 46) (.tmp 47) (gv x0 0) (gv x4 0) w K') w fun t48 =>
  w = w ∧ quietT (fun K' => guardT (isB t48 true) (fun K' => K' a0 w) w K') w fun t50 =>
  quietT (fun K' => guardT (isB t48 true) (fun K' => K' (gv x4 0) w) w K') w fun t51 =>
  quietT (fun K' => guardT (isB t48 true) (fun K' => iaT P T.sl_int t50 t51 w K') w K') w fun t52 =>
  quietT (fun K' => guardT (isB t48 true) (fun K' => ldT P T.int t52 w K') w K') w fun t53 =>
  quietT (fun K' => guardT (isB t48 true) (fun K' => K' a0 w) w K') w fun t54 =>
  quietT (fun K' => guardT (isB t48 true) (fun K' => K' a1 w) w K') w fun t55 =>
  quietT (fun K' => guardT (isB t48 true) (fun K' => iaT P T.sl_int t54 t55 w K') w K') w fun t56 =>
  quietT (fun K' => guardT (isB t48 true) (fun K' => ldT P T.int t56 w K') w K') w fun t57 =>
  guardT (isB t48 true) (fun K' => fcallT P F.cmp_Less_int [t53, t57] w K') w fun t58 w =>
  quietT (fun K' => guardT (isB t48 true) (fun K' => unT P .not t58 w K') w K') w fun t59 =>
  quietT (fun K' => pickT t48 t59 (.bool false) w K') w fun t60 =>
  condT t60 (
  K5 [] w) (
  K3 [(gv x4 0)] w)) fun x5 w =>
  binT P .sub T.int (.tmp 61) (.const (.int .i64 1)) (gv x4 0) (.int .i64 1) w fun t62 w =>
  K4 [t62] w
def M.slices_partitionOrdered_int.j10 (x10 : List Value) (x8 : List Value) (a0 : Value) (a1 : Value) (K9 : KL) (K10 : KL) (w : World) (K : KV) : Prop :=
  joinT (fun K11 =>
  drawT w fun w =>
  w = w ∧ w = w ∧ quietT (fun K' => binT P .leq T.int (.tmp 99) (.tmp 100) (gv x10 0) (gv x8 1) w K') w fun t101 =>
  w = w ∧ quietT (fun K' => guardT (isB t101 true) (fun K' => K' a0 w) w K') w fun t103 =>
  quietT (fun K' => guardT (isB t101 true) (fun K' => K' (gv x10 0) w) w K') w fun t104 =>
  quietT (fun K' => guardT (isB t101 true) (fun K' => iaT P T.sl_int t103 t104 w K') w K') w fun t105 =>
  quietT (fun K' => guardT (isB t101 true) (fun K' => ldT P T.int t105 w K') w K') w fun t106 =>
  quietT (fun K' => guardT (isB t101 true) (fun K' => K' a0 w) w K') w fun t107 =>
  quietT (fun K' => guardT (isB t101 true) (fun K' => K' a1 w) w K') w fun t108 =>
  quietT (fun K' => guardT (isB t101 true) (fun K' => iaT P T.sl_int t107 t108 w K') w K') w fun t109 =>
  quietT (fun K' => guardT (isB t101 true) (fun K' => ldT P T.int t109 w K') w K') w fun t110 =>
  guardT (isB t101 true) (fun K' => fcallT P F.cmp_Less_int [t106, t110] w K') w fun t111 w =>
  quietT (fun K' => pickT t101 t111 (.bool false) w K') w fun t112 =>
  condT t112 (
  K11 [] w) (
  K9 [(gv x10 0)] w)) fun x11 w =>
  binT P .add T.int (.tmp 113) (.const (.int .i64 1)) (gv x10 0) (.int .i64 1) w fun t114 w =>
  K10 [t114] w
def M.slices_partitionOrdered_int.j13 (x9 : List Value) (x13 : List Value) (a0 : Value) (a1 : Value) (K12 : KL) (K13 : KL) (w : World) (K : KV) : Prop :=
  joinT (fun K14 =>
  drawT w fun w =>
  w = w ∧ w = w ∧ quietT (fun K' => binT P .leq T.int (.tmp 115) (.tmp 116) (gv x9 0) (gv x13 0) w K') w fun t117 =>
  w = w ∧ quietT (fun K' => guardT (isB t117 true) (fun K' => K' a0 w) w K') w fun t119 =>
  quietT (fun K' => guardT (isB t117 true) (fun K' => K' (gv x13 0) w) w K') w fun t120 =>
  quietT (fun K' => guardT (isB t117 true) (fun K' => iaT P T.sl_int t119 t120 w K') w K') w fun t121 =>
  quietT (fun K' => guardT (isB t117 true) (fun K' => ldT P T.int t121 w K') w K') w fun t122 =>
  quietT (fun K' => guardT (isB t117 true) (fun K' => K' a0 w) w K') w fun t123 =>
  quietT (fun K' => guardT (isB t117 true) (fun K' => K' a1 w) w K') w fun t124 =>
  quietT (fun K' => guardT (isB t117 true) (fun K' => iaT P T.sl_int t123 t124 w K') w K') w fun t125 =>
  quietT (fun K' => guardT (isB t117 true) (fun K' => ldT P T.int t125 w K') w K') w fun t126 =>
  guardT (isB t117 true) (fun K' => fcallT P F.cmp_Less_int [t122, t126] w K') w fun t127 w =>
  quietT (fun K' => guardT (isB t117 true) (fun K' => unT P .not t127 w K') w K') w fun t128 =>
  quietT (fun K' => pickT t117 t128 (.bool false) w K') w fun t129 =>
  condT t129 (
  K14 [] w) (
  K12 [(gv x13 0)] w)) fun x14 w =>
  binT P .sub T.int (.tmp 130) (.const (.int .i64 1)) (gv x13 0) (.int .i64 1) w fun t131 w =>
  K13 [t131] w
def M.slices_partitionOrdered_int.j15 (a0 : Value) (x12 : List Value) (x9 : List Value) (K8 : KL) (w : World) (K : KV) : Prop :=
  drawT w fun w =>
  w = w ∧ w = w ∧ w = w ∧ w = w ∧ w = w ∧ w = w ∧ quietT (fun K' => iaT P T.sl_int a0 (gv x12 0) w K') w fun t141 =>
  quietT (fun K' => ldT P T.int t141 w K') w fun t142 =>
  w = w ∧ w = w ∧ quietT (fun K' => iaT P T.sl_int a0 (gv x9 0) w K') w fun t145 =>
  quietT (fun K' => ldT P T.int t145 w K') w fun t146 =>
  quietT (fun K' => iaT P T.sl_int a0 (gv x9 0) w K') w fun t147 =>
  stT P T.int t147 t142 w fun _ w =>
  stabT (fun K' => K' (gv x12 0) w) w (gv x12 0) ∧ stabT (fun K' => K' a0 w) w a0 ∧ quietT (fun K' => iaT P T.sl_int a0 (gv x12 0) w K') w fun t148 =>
  stT P T.int t148 t146 w fun _ w =>
  binT P .add T.int (.tmp 149) (.const (.int .i64 1)) (gv x9 0) (.int .i64 1) w fun t150 w =>
  binT P .sub T.int (.tmp 151) (.const (.int .i64 1)) (gv x12 0) (.int .i64 1) w fun t152 w =>
  K8 [t150, t152] w
def M.slices_partitionOrdered_int.j9 (x8 : List Value) (x9 : List Value) (a0 : Value) (a1 : Value) (K7 : KL) (K8 : KL) (w : World) (K : KV) : Prop :=
  joinT (fun K12 =>
  loopT [(gv x8 1)] w fun K13 x13 w =>
  M.slices_partitionOrdered_int.j13 x9 x13 a0 a1 K12 K13 w K) fun x12 w =>
  joinT (fun K15 =>
  binT P .gtr T.int (.tmp 132) (.tmp 133) (gv x9 0) (gv x12 0) w fun t134 w =>
  condT t134 (
  K7 [(gv x9 0), (gv x12 0)] w) (
  K15 [] w)) fun x15 w =>
  M.slices_partitionOrdered_int.j15 a0 x12 x9 K8 w K
def M.slices_partitionOrdered_int.j7 (a0 : Value) (a1 : Value) (x7 : List Value) (w : World) (K : KV) : Prop :=
  drawT w fun w =>
  w = w ∧ w = w ∧ w = w ∧ w = w ∧ w = w ∧ w = w ∧ quietT (fun K' => iaT P T.sl_int a0 a1 w K') w fun t159 =>
  quietT (fun K' => ldT P T.int t159 w K') w fun t160 =>
  w = w ∧ w = w ∧ quietT (fun K' => iaT P T.sl_int a0 (gv x7 1) w K') w fun t163 =>
  quietT (fun K' => ldT P T.int t163 w K') w fun t164 =>
  quietT (fun K' => iaT P T.sl_int a0 (gv x7 1) w K') w fun t165 =>
  stT P T.int t165 t160 w fun _ w =>
  stabT (fun K' => K' a1 w) w a1 ∧ stabT (fun K' => K' a0 w) w a0 ∧ quietT (fun K' => iaT P T.sl_int a0 a1 w K') w fun t166 =>
  stT P T.int t166 t164 w fun _ w =>
  K (.tuple #[(gv x7 1), (.bool false)]) w
def M.slices_partitionOrdered_int.j6 (a0 : Value) (x3 : List Value) (x0 : List Value) (a1 : Value) (w : World) (K : KV) : Prop :=
  drawT w fun w =>
  w = w ∧ w = w ∧ w = w ∧ w = w ∧ w = w ∧ w = w ∧ quietT (fun K' => iaT P T.sl_int a0 (gv x3 0) w K') w fun t87 =>
  quietT (fun K' => ldT P T.int t87 w K') w fun t88 =>
  w = w ∧ w = w ∧ quietT (fun K' => iaT P T.sl_int a0 (gv x0 0) w K') w fun t91 =>
  quietT (fun K' => ldT P T.int t91 w K') w fun t92 =>
  quietT (fun K' => iaT P T.sl_int a0 (gv x0 0) w K') w fun t93 =>
  stT P T.int t93 t88 w fun _ w =>
  stabT (fun K' => K' (gv x3 0) w) w (gv x3 0) ∧ stabT (fun K' => K' a0 w) w a0 ∧ quietT (fun K' => iaT P T.sl_int a0 (gv x3 0) w K') w fun t94 =>
  stT P T.int t94 t92 w fun _ w =>
  binT P .add T.int (.tmp 95) (.const (.int .i64 1)) (gv x0 0) (.int .i64 1) w fun t96 w =>
  binT P .sub T.int (.tmp 97) (.const (.int .i64 1)) (gv x3 0) (.int .i64 1) w fun t98 w =>
  joinT (fun K7 =>
  loopT [t96, t98] w fun K8 x8 w =>
  joinT (fun K9 =>
  loopT [(gv x8 0)] w fun K10 x10 w =>
  M.slices_partitionOrdered_int.j10 x10 x8 a0 a1 K9 K10 w K) fun x9 w =>
  M.slices_partitionOrdered_int.j9 x8 x9 a0 a1 K7 K8 w K) fun x7 w =>
  M.slices_partitionOrdered_int.j7 a0 a1 x7 w K
def M.slices_partitionOrdered_int.j3 (x0 : List Value) (x3 : List Value) (a0 : Value) (a1 : Value) (w : World) (K : KV) : Prop :=
  joinT (fun K6 =>
  binT P .gtr T.int (.tmp 63) (.tmp 64) (gv x0 0) (gv x3 0) w fun t65 w =>
  condT t65 (
  drawT w fun w =>
  w = w ∧ w = w ∧ w = w ∧ w = w ∧ w = w ∧ w = w ∧ quietT (fun K' => iaT P T.sl_int a0 a1 w K') w fun t72 =>
  quietT (fun K' => ldT P T.int t72 w K') w fun t73 =>
  w = w ∧ w = w ∧ quietT (fun K' => iaT P T.sl_int a0 (gv x3 0) w K') w fun t76 =>
  quietT (fun K' => ldT P T.int t76 w K') w fun t77 =>
  quietT (fun K' => iaT P T.sl_int a0 (gv x3 0) w K') w fun t78 =>
  stT P T.int t78 t73 w fun _ w =>
  stabT (fun K' => K' a1 w) w a1 ∧ stabT (fun K' => K' a0 w) w a0 ∧ quietT (fun K' => iaT P T.sl_int a0 a1 w K') w fun t79 =>
  stT P T.int t79 t77 w fun _ w =>
  K (.tuple #[(gv x3 0), (.bool true)]) w) (
  K6 [(.int .i64 0), (.bool false)] w)) fun x6 w =>
  M.slices_partitionOrdered_int.j6 a0 x3 x0 a1 w K
/-- slices.partitionOrdered[int] -/
def M.slices_partitionOrdered_int (a0 a1 a2 a3 : Value) (w : World) (K : KV) : Prop :=
  drawT w fun w =>
  w = w ∧ w = w ∧ w = w ∧ w = w ∧ w = w ∧ w = w ∧ quietT (fun K' => iaT P T.sl_int a0 a3 w K') w fun t18 =>
  quietT (fun K' => ldT P T.int t18 w K') w fun t19 =>
  w = w ∧ w = w ∧ quietT (fun K' => iaT P T.sl_int a0 a1 w K') w fun t22 =>
  quietT (fun K' => ldT P T.int t22 w K') w fun t23 =>
  quietT (fun K' => iaT P T.sl_int a0 a1 w K') w fun t24 =>
  stT P T.int t24 t19 w fun _ w =>
  stabT (fun K' => K' a3 w) w a3 ∧ stabT (fun K' => K' a0 w) w a0 ∧ quietT (fun K' => iaT P T.sl_int a0 a3 w K') w fun t25 =>
  stT P T.int t25 t23 w fun _ w =>
  binT P .add T.int (.tmp 26) (.const (.int .i64 1)) a1 (.int .i64 1) w fun t27 w =>
  binT P .sub T.int (.tmp 28) (.const (.int .i64 1)) a2 (.int .i64 1) w fun t29 w =>
  joinT (fun K0 =>
  loopT [t27] w fun K1 x1 w =>
  M.slices_partitionOrdered_int.j1 x1 t29 a0 a1 K0 K1 w K) fun x0 w =>
  joinT (fun K3 =>
  loopT [t29] w fun K4 x4 w =>
  M.slices_partitionOrdered_int.j4 x0 x4 a0 a1 K3 K4 w K) fun x3 w =>
  M.slices_partitionOrdered_int.j3 x0 x3 a0 a1 w K
def M.slices_partitionOrdered_int.L : List Nat := [0, 1, 2, 3, 8, 9, 10, 11]
def M.slices_partitionOrdered_int.pl : Nat → Plan := fun id => cond (Nat.beq id 1) ⟨(.go 0 (.go 1 (.go 2 (.go 3 (.go 4 (.go 5 (.go 6 (.go 7 (.go 8 (.go 9 (.go 10 (.go 11 (.go 12 (.eff 13 (.go 14 (.eff 15 .nil .stop)) .stop)))))))))))))), [13, 15], false, [0, 0, 0, 0, 0, 0, 48, 112, 0, 0, 768, 1792, 4083, 8179, 16383, 32767]⟩ (cond (Nat.beq id 3) ⟨(.go 0 (.go 1 (.go 2 (.go 3 (.go 4 (.go 5 (.go 6 (.go 7 (.go 8 (.go 9 (.go 10 (.go 11 (.eff 12 (.go 13 .nil) .stop))))))))))))), [12], false, [0, 0, 3, 7, 15, 15, 63, 127, 15, 15, 783, 1807, 4095, 8191]⟩ (cond (Nat.beq id 5) ⟨(.go 0 (.go 1 (.go 2 (.go 3 (.go 4 (.go 5 (.go 6 (.go 7 (.go 8 (.go 9 (.go 10 (.go 11 (.eff 12 (.go 13 (.go 14 .nil)) .stop))))))))))))), [12], false, [0, 0, 3, 7, 15, 15, 63, 127, 15, 15, 783, 1807, 4095, 8191, 16383]⟩ (cond (Nat.beq id 8) ⟨(.go 0 (.go 1 (.go 2 (.go 3 (.go 4 (.go 5 (.go 6 (.go 7 (.go 8 (.go 9 (.go 10 (.go 11 (.go 12 (.eff 13 (.go 14 (.eff 15 .nil .stop)) .stop)))))))))))))), [13, 15], false, [0, 0, 0, 0, 0, 0, 48, 112, 0, 0, 768, 1792, 4083, 8179, 16383, 32767]⟩ (cond (Nat.beq id 10) ⟨(.go 0 (.go 1 (.go 2 (.go 3 (.go 4 (.go 5 (.go 6 (.go 7 (.go 8 (.go 9 (.go 10 (.go 11 (.go 12 (.eff 13 (.go 14 (.eff 15 .nil .stop)) .stop)))))))))))))), [13, 15], false, [0, 0, 0, 0, 0, 0, 48, 112, 0, 0, 768, 1792, 4083, 8179, 16383, 32767]⟩ (cond (Nat.beq id 13) ⟨(.go 0 (.go 1 (.go 2 (.go 3 (.go 4 (.go 5 (.go 6 (.go 7 (.go 8 (.go 9 (.go 10 (.go 11 (.eff 12 (.go 13 .nil) .stop))))))))))))), [12], false, [0, 0, 3, 7, 15, 15, 63, 127, 15, 15, 783, 1807, 4095, 8191]⟩ (cond (Nat.beq id 15) ⟨(.go 0 (.go 1 (.go 2 (.go 3 (.go 4 (.go 5 (.go 6 (.go 7 (.go 8 (.go 9 (.go 10 (.go 11 (.eff 12 (.go 13 (.go 14 .nil)) .stop))))))))))))), [12], false, [0, 0, 3, 7, 15, 15, 63, 127, 15, 15, 783, 1807, 4095, 8191, 16383]⟩ (cond (Nat.beq id 18) ⟨(.go 0 (.go 1 (.go 2 (.go 3 (.go 4 (.go 5 (.go 6 (.go 7 (.go 8 (.go 9 (.go 10 (.go 11 (.go 12 (.eff 13 (.go 14 (.eff 15 .nil .stop)) .stop)))))))))))))), [13, 15], false, [0, 0, 0, 0, 0, 0, 48, 112, 0, 0, 768, 1792, 4083, 8179, 16383, 32767]⟩ (cond (Nat.beq id 21) ⟨(.go 0 (.go 1 (.go 2 (.go 3 (.go 4 (.go 5 (.go 6 (.go 7 (.go 8 (.go 9 (.go 10 (.go 11 (.go 12 (.eff 13 (.go 14 (.eff 15 .nil .stop)) .stop)))))))))))))), [13, 15], false, [0, 0, 0, 0, 0, 0, 48, 112, 0, 0, 768, 1792, 4083, 8179, 16383, 32767]⟩ (⟨.nil, [], false, []⟩)))))))))
theorem M.slices_partitionOrdered_int.eq (a0 a1 a2 a3 : Value) (w : World) (K : KV) : M.slices_partitionOrdered_int a0 a1 a2 a3 w K = den P M.slices_partitionOrdered_int.L M.slices_partitionOrdered_int.pl (Try.f191.body.getD .skip) (argE [a0, a1, a2, a3]) w (bodyQ P Try.f191.results.toList K) := by kernel_rfl
theorem M.slices_partitionOrdered_int.ok : okFn M.slices_partitionOrdered_int.L M.slices_partitionOrdered_int.pl Try.f191 (Try.f191.body.getD .skip) 4 = true := by kernel_rfl
theorem M.slices_partitionOrdered_int.calls (a0 a1 a2 a3 : Value) {w : World} {K : KV} (h : M.slices_partitionOrdered_int a0 a1 a2 a3 w K) : callT P F.slices_partitionOrdered_int [a0, a1, a2, a3] w K :=
  callT_of_den (by kernel_rfl) Try.func191 (by kernel_rfl) M.slices_partitionOrdered_int.ok (M.slices_partitionOrdered_int.eq a0 a1 a2 a3 w K ▸ h)
theorem M.slices_partitionOrdered_int.fcall (args : List Value) (w : World) (K : KV) : fcallT P F.slices_partitionOrdered_int args w K = callT P F.slices_partitionOrdered_int args w K := fcallT_eq Try.func191 (by kernel_rfl) (by kernel_rfl) args w K
theorem M.slices_partitionOrdered_int.rcall (a c args : List Value) (w : World) (K : KV) : callRT P (.func (.func F.slices_partitionOrdered_int) a.toArray c.toArray) args w K = callT P F.slices_partitionOrdered_int (a ++ args ++ c) w K := callR_fn Try.func191 (by kernel_rfl) (by kernel_rfl) a c args w K

def M.slices_siftDownOrdered_int.j3 (a3 : Value) (x0 : List Value) (x2 : List Value) (a0 : Value) (K0 : KL) (w : World) (K : KV) : Prop :=
  drawT w fun w =>
  w = w ∧ w = w ∧ w = w ∧ quietT (fun K' => binT P .add T.int (.tmp 54) (.tmp 55) a3 (gv x0 1) w K') w fun t56 =>
  w = w ∧ w = w ∧ w = w ∧ quietT (fun K' => binT P .add T.int (.tmp 58) (.tmp 59) a3 (gv x2 0) w K') w fun t60 =>
  w = w ∧ w = w ∧ w = w ∧ quietT (fun K' => binT P .add T.int (.tmp 62) (.tmp 63) a3 (gv x2 0) w K') w fun t64 =>
  quietT (fun K' => iaT P T.sl_int a0 t64 w K') w fun t65 =>
  quietT (fun K' => ldT P T.int t65 w K') w fun t66 =>
  w = w ∧ w = w ∧ w = w ∧ quietT (fun K' => binT P .add T.int (.tmp 68) (.tmp 69) a3 (gv x0 1) w K') w fun t70 =>
  quietT (fun K' => iaT P T.sl_int a0 t70 w K') w fun t71 =>
  quietT (fun K' => ldT P T.int t71 w K') w fun t72 =>
  quietT (fun K' => iaT P T.sl_int a0 t56 w K') w fun t73 =>
  stT P T.int t73 t66 w fun _ w =>
  stabT (fun K' => binT P .add T.int (.tmp 58) (.tmp 59) a3 (gv x2 0) w K') w t60 ∧ stabT (fun K' => K' (gv x2 0) w) w (gv x2 0) ∧ stabT (fun K' => K' a3 w) w a3 ∧ stabT (fun K' => K' a0 w) w a0 ∧ quietT (fun K' => iaT P T.sl_int a0 t60 w K') w fun t74 =>
  stT P T.int t74 t72 w fun _ w =>
  K0 [(gv x2 0), (gv x2 0)] w
def M.slices_siftDownOrdered_int.j2 (a3 : Value) (x0 : List Value) (a0 : Value) (x2 : List Value) (K0 : KL) (w : World) (K : KV) : Prop :=
  joinT (fun K3 =>
  drawT w fun w =>
  w = w ∧ w = w ∧ w = w ∧ quietT (fun K' => binT P .add T.int (.tmp 40) (.tmp 41) a3 (gv x0 1) w K') w fun t42 =>
  quietT (fun K' => iaT P T.sl_int a0 t42 w K') w fun t43 =>
  quietT (fun K' => ldT P T.int t43 w K') w fun t44 =>
  w = w ∧ w = w ∧ w = w ∧ quietT (fun K' => binT P .add T.int (.tmp 46) (.tmp 47) a3 (gv x2 0) w K') w fun t48 =>
  quietT (fun K' => iaT P T.sl_int a0 t48 w K') w fun t49 =>
  quietT (fun K' => ldT P T.int t49 w K') w fun t50 =>
  fcallT P F.cmp_Less_int [t44, t50] w fun t51 w =>
  quietT (fun K' => unT P .not t51 w K') w fun t52 =>
  condT t52 (
  K (.tuple #[]) w) (
  K3 [] w)) fun x3 w =>
  M.slices_siftDownOrdered_int.j3 a3 x0 x2 a0 K0 w K
def M.slices_siftDownOrdered_int.j1 (t13 : Value) (a2 : Value) (a0 : Value) (a3 : Value) (x0 : List Value) (K0 : KL) (w : World) (K : KV) : Prop :=
  joinT (fun K2 =>
  drawT w fun w =>
  w = w ∧ quietT (fun K' => binT P .add T.int (.tmp 17) (.const (.int .i64 1)) t13 (.int .i64 1) w K') w fun t18 =>
  w = w ∧ quietT (fun K' => binT P .lss T.int (.tmp 18) (.tmp 19) t18 a2 w K') w fun t20 =>
  w = w ∧ quietT (fun K' => guardT (isB t20 true) (fun K' => K' a0 w) w K') w fun t22 =>
  quietT (fun K' => guardT (isB t20 true) (fun K' => K' a3 w) w K') w fun t23 =>
  quietT (fun K' => guardT (isB t20 true) (fun K' => K' t13 w) w K') w fun t24 =>
  quietT (fun K' => guardT (isB t20 true) (fun K' => binT P .add T.int (.tmp 23) (.tmp 24) t23 t24 w K') w K') w fun t25 =>
  quietT (fun K' => guardT (isB t20 true) (fun K' => iaT P T.sl_int t22 t25 w K') w K') w fun t26 =>
  quietT (fun K' => guardT (isB t20 true) (fun K' => ldT P T.int t26 w K') w K') w fun t27 =>
  quietT (fun K' => guardT (isB t20 true) (fun K' => K' a0 w) w K') w fun t28 =>
  quietT (fun K' => guardT (isB t20 true) (fun K' => K' a3 w) w K') w fun t29 =>
  quietT (fun K' => guardT (isB t20 true) (fun K' => K' t13 w) w K') w fun t30 =>
  quietT (fun K' => guardT (isB t20 true) (fun K' => binT P .add T.int (.tmp 29) (.tmp 30) t29 t30 w K') w K') w fun t31 =>
  quietT (fun K' => guardT (isB t20 true) (fun K' => binT P .add T.int (.tmp 31) (.const (.int .i64 1)) t31 (.int .i64 1) w K') w K') w fun t32 =>
  quietT (fun K' => guardT (isB t20 true) (fun K' => iaT P T.sl_int t28 t32 w K') w K') w fun t33 =>
  quietT (fun K' => guardT (isB t20 true) (fun K' => ldT P T.int t33 w K') w K') w fun t34 =>
  guardT (isB t20 true) (fun K' => fcallT P F.cmp_Less_int [t27, t34] w K') w fun t35 w =>
  quietT (fun K' => pickT t20 t35 (.bool false) w K') w fun t36 =>
  condT t36 (
  binT P .add T.int (.tmp 37) (.const (.int .i64 1)) t13 (.int .i64 1) w fun t38 w =>
  K2 [t38] w) (
  K2 [t13] w)) fun x2 w =>
  M.slices_siftDownOrdered_int.j2 a3 x0 a0 x2 K0 w K
def M.slices_siftDownOrdered_int.j0 (x0 : List Value) (a2 : Value) (a0 : Value) (a3 : Value) (K0 : KL) (w : World) (K : KV) : Prop :=
  binT P .mul T.int (.const (.int .i64 2)) (.tmp 11) (.int .i64 2) (gv x0 1) w fun t12 w =>
  binT P .add T.int (.tmp 12) (.const (.int .i64 1)) t12 (.int .i64 1) w fun t13 w =>
  joinT (fun K1 =>
  binT P .geq T.int (.tmp 14) (.tmp 15) t13 a2 w fun t16 w =>
  condT t16 (
  K (.tuple #[]) w) (
  K1 [] w)) fun x1 w =>
  M.slices_siftDownOrdered_int.j1 t13 a2 a0 a3 x0 K0 w K
/-- slices.siftDownOrdered[int] -/
def M.slices_siftDownOrdered_int (a0 a1 a2 a3 : Value) (w : World) (K : KV) : Prop :=
  loopT [undef, a1] w fun K0 x0 w =>
  M.slices_siftDownOrdered_int.j0 x0 a2 a0 a3 K0 w K
def M.slices_siftDownOrdered_int.L : List Nat := [0, 1, 2, 3, 8, 9]
def M.slices_siftDownOrdered_int.pl : Nat → Plan := fun id => cond (Nat.beq id 3) ⟨(.go 0 (.go 1 (.go 2 (.go 3 (.go 4 (.go 5 (.go 6 (.go 7 (.go 8 (.go 9 (.go 10 (.go 11 (.go 12 (.go 13 (.go 14 (.go 15 (.go 16 (.go 17 (.eff 18 (.go 19 .nil) .stop))))))))))))))))))), [18], false, [0, 1, 0, 7, 15, 31, 31, 31, 223, 511, 1023, 31, 31, 31, 12319, 28703, 63519, 129055, 262143, 524287]⟩ (cond (Nat.beq id 5) ⟨(.go 0 (.go 1 (.go 2 (.go 3 (.go 4 (.go 5 (.go 6 (.go 7 (.go 8 (.go 9 (.go 10 (.go 11 (.eff 12 (.go 13 .nil) .stop))))))))))))), [12], false, [0, 0, 0, 6, 15, 31, 0, 0, 0, 384, 960, 1984, 4095, 8191]⟩ (cond (Nat.beq id 6) ⟨(.go 0 (.go 1 (.go 2 (.go 3 (.go 4 (.go 5 (.go 6 (.go 7 (.go 8 (.go 9 (.go 10 (.go 11 (.go 12 (.go 13 (.go 14 (.go 15 (.go 16 (.go 17 (.go 18 (.go 19 (.go 20 (.eff 21 (.go 22 (.eff 23 .nil .stop)) .stop)))))))))))))))))))))), [21, 23], false, [0, 0, 0, 6, 0, 0, 0, 96, 0, 0, 0, 1536, 3840, 7936, 0, 0, 0, 98304, 245760, 507904, 1048335, 2096911, 4194303, 8388607]⟩ (⟨.nil, [], false, []⟩)))
theorem M.slices_siftDownOrdered_int.eq (a0 a1 a2 a3 : Value) (w : World) (K : KV) : M.slices_siftDownOrdered_int a0 a1 a2 a3 w K = den P M.slices_siftDownOrdered_int.L M.slices_siftDownOrdered_int.pl (Try.f193.body.getD .skip) (argE [a0, a1, a2, a3]) w (bodyQ P Try.f193.results.toList K) := by kernel_rfl
theorem M.slices_siftDownOrdered_int.ok : okFn M.slices_siftDownOrdered_int.L M.slices_siftDownOrdered_int.pl Try.f193 (Try.f193.body.getD .skip) 4 = true := by kernel_rfl
theorem M.slices_siftDownOrdered_int.calls (a0 a1 a2 a3 : Value) {w : World} {K : KV} (h : M.slices_siftDownOrdered_int a0 a1 a2 a3 w K) : callT P F.slices_siftDownOrdered_int [a0, a1, a2, a3] w K :=
  callT_of_den (by kernel_rfl) Try.func193 (by kernel_rfl) M.slices_siftDownOrdered_int.ok (M.slices_siftDownOrdered_int.eq a0 a1 a2 a3 w K ▸ h)
theorem M.slices_siftDownOrdered_int.fcall (args : List Value) (w : World) (K : KV) : fcallT P F.slices_siftDownOrdered_int args w K = callT P F.slices_siftDownOrdered_int args w K := fcallT_eq Try.func193 (by kernel_rfl) (by kernel_rfl) args w K
theorem M.slices_siftDownOrdered_int.rcall (a c args : List Value) (w : World) (K : KV) : callRT P (.func (.func F.slices_siftDownOrdered_int) a.toArray c.toArray) args w K = callT P F.slices_siftDownOrdered_int (a ++ args ++ c) w K := callR_fn Try.func193 (by kernel_rfl) (by kernel_rfl) a c args w K

/-- slices.medianAdjacentOrdered[int] -/
def M.slices_medianAdjacentOrdered_int (a0 a1 a2 : Value) (w : World) (K : KV) : Prop :=
  binT P .sub T.int (.tmp 8) (.const (.int .i64 1)) a1 (.int .i64 1) w fun t9 w =>
  binT P .add T.int (.tmp 11) (.const (.int .i64 1)) a1 (.int .i64 1) w fun t12 w =>
  fcallT P F.slices_medianOrdered_int [a0, t9, a1, t12, a2] w fun t14 w =>
  K t14 w
def M.slices_medianAdjacentOrdered_int.L : List Nat := [0, 1, 2, 6]
def M.slices_medianAdjacentOrdered_int.pl : Nat → Plan := fun id => ⟨.nil, [], false, []⟩
theorem M.slices_medianAdjacentOrdered_int.eq (a0 a1 a2 : Value) (w : World) (K : KV) : M.slices_medianAdjacentOrdered_int a0 a1 a2 w K = den P M.slices_medianAdjacentOrdered_int.L M.slices_medianAdjacentOrdered_int.pl (Try.f194.body.getD .skip) (argE [a0, a1, a2]) w (bodyQ P Try.f194.results.toList K) := by kernel_rfl
theorem M.slices_medianAdjacentOrdered_int.ok : okFn M.slices_medianAdjacentOrdered_int.L M.slices_medianAdjacentOrdered_int.pl Try.f194 (Try.f194.body.getD .skip) 3 = true := by kernel_rfl
theorem M.slices_medianAdjacentOrdered_int.calls (a0 a1 a2 : Value) {w : World} {K : KV} (h : M.slices_medianAdjacentOrdered_int a0 a1 a2 w K) : callT P F.slices_medianAdjacentOrdered_int [a0, a1, a2] w K :=
  callT_of_den (by kernel_rfl) Try.func194 (by kernel_rfl) M.slices_medianAdjacentOrdered_int.ok (M.slices_medianAdjacentOrdered_int.eq a0 a1 a2 w K ▸ h)
theorem M.slices_medianAdjacentOrdered_int.fcall (args : List Value) (w : World) (K : KV) : fcallT P F.slices_medianAdjacentOrdered_int args w K = callT P F.slices_medianAdjacentOrdered_int args w K := fcallT_eq Try.func194 (by kernel_rfl) (by kernel_rfl) args w K
theorem M.slices_medianAdjacentOrdered_int.rcall (a c args : List Value) (w : World) (K : KV) : callRT P (.func (.func F.slices_medianAdjacentOrdered_int) a.toArray c.toArray) args w K = callT P F.slices_medianAdjacentOrdered_int (a ++ args ++ c) w K := callR_fn Try.func194 (by kernel_rfl) (by kernel_rfl) a c args w K

/-- slices.medianOrdered[int] -/
def M.slices_medianOrdered_int (a0 a1 a2 a3 a4 : Value) (w : World) (K : KV) : Prop :=
  fcallT P F.slices_order2Ordered_int [a0, a1, a2, a4] w fun t16 w =>
  exT P t16 0 w fun t17 w =>
  exT P t16 1 w fun t18 w =>
  fcallT P F.slices_order2Ordered_int [a0, t18, a3, a4] w fun t24 w =>
  exT P t24 0 w fun t25 w =>
  exT P t24 1 w fun t26 w =>
  fcallT P F.slices_order2Ordered_int [a0, t17, t25, a4] w fun t32 w =>
  exT P t32 0 w fun t33 w =>
  exT P t32 1 w fun t34 w =>
  K t34 w
def M.slices_medianOrdered_int.L : List Nat := [0, 1, 2, 3, 4, 10]
def M.slices_medianOrdered_int.pl : Nat → Plan := fun id => ⟨.nil, [], false, []⟩
theorem M.slices_medianOrdered_int.eq (a0 a1 a2 a3 a4 : Value) (w : World) (K : KV) : M.slices_medianOrdered_int a0 a1 a2 a3 a4 w K = den P M.slices_medianOrdered_int.L M.slices_medianOrdered_int.pl (Try.f195.body.getD .skip) (argE [a0, a1, a2, a3, a4]) w (bodyQ P Try.f195.results.toList K) := by kernel_rfl
theorem M.slices_medianOrdered_int.ok : okFn M.slices_medianOrdered_int.L M.slices_medianOrdered_int.pl Try.f195 (Try.f195.body.getD .skip) 5 = true := by kernel_rfl
theorem M.slices_medianOrdered_int.calls (a0 a1 a2 a3 a4 : Value) {w : World} {K : KV} (h : M.slices_medianOrdered_int a0 a1 a2 a3 a4 w K) : callT P F.slices_medianOrdered_int [a0, a1, a2, a3, a4] w K :=
  callT_of_den (by kernel_rfl) Try.func195 (by kernel_rfl) M.slices_medianOrdered_int.ok (M.slices_medianOrdered_int.eq a0 a1 a2 a3 a4 w K ▸ h)
theorem M.slices_medianOrdered_int.fcall (args : List Value) (w : World) (K : KV) : fcallT P F.slices_medianOrdered_int args w K = callT P F.slices_medianOrdered_int args w K := fcallT_eq Try.func195 (by kernel_rfl) (by kernel_rfl) args w K
theorem M.slices_medianOrdered_int.rcall (a c args : List Value) (w : World) (K : KV) : callRT P (.func (.func F.slices_medianOrdered_int) a.toArray c.toArray) args w K = callT P F.slices_medianOrdered_int (a ++ args ++ c) w K := callR_fn Try.func195 (by kernel_rfl) (by kernel_rfl) a c args w K

/-- slices.order2Ordered[int] -/
def M.slices_order2Ordered_int (a0 a1 a2 a3 : Value) (w : World) (K : KV) : Prop :=
  joinT (fun K0 =>
  drawT w fun w =>
  w = w ∧ w = w ∧ quietT (fun K' => iaT P T.sl_int a0 a2 w K') w fun t12 =>
  quietT (fun K' => ldT P T.int t12 w K') w fun t13 =>
  w = w ∧ w = w ∧ quietT (fun K' => iaT P T.sl_int a0 a1 w K') w fun t16 =>
  quietT (fun K' => ldT P T.int t16 w K') w fun t17 =>
  fcallT P F.cmp_Less_int [t13, t17] w fun t18 w =>
  condT t18 (
  nilT a3 w fun t20 w =>
  ldT P T.int t20 w fun t21 w =>
  binT P .add T.int (.tmp 21) (.const (.int .i64 1)) t21 (.int .i64 1) w fun t22 w =>
  nilT a3 w fun t23 w =>
  stT P T.int t23 t22 w fun _ w =>
  K (.tuple #[a2, a1]) w) (
  K0 [(.int .i64 0), (.int .i64 0)] w)) fun x0 w =>
  K (.tuple #[a1, a2]) w
def M.slices_order2Ordered_int.L : List Nat := [0, 1, 2, 3, 8, 9]
def M.slices_order2Ordered_int.pl : Nat → Plan := fun id => cond (Nat.beq id 1) ⟨(.go 0 (.go 1 (.go 2 (.go 3 (.go 4 (.go 5 (.go 6 (.go 7 (.eff 8 .nil .stop))))))))), [8], false, [0, 0, 3, 7, 0, 0, 48, 112, 255]⟩ (⟨.nil, [], false, []⟩)
theorem M.slices_order2Ordered_int.eq (a0 a1 a2 a3 : Value) (w : World) (K : KV) : M.slices_order2Ordered_int a0 a1 a2 a3 w K = den P M.slices_order2Ordered_int.L M.slices_order2Ordered_int.pl (Try.f196.body.getD .skip) (argE [a0, a1, a2, a3]) w (bodyQ P Try.f196.results.toList K) := by kernel_rfl
theorem M.slices_order2Ordered_int.ok : okFn M.slices_order2Ordered_int.L M.slices_order2Ordered_int.pl Try.f196 (Try.f196.body.getD .skip) 4 = true := by kernel_rfl
theorem M.slices_order2Ordered_int.calls (a0 a1 a2 a3 : Value) {w : World} {K : KV} (h : M.slices_order2Ordered_int a0 a1 a2 a3 w K) : callT P F.slices_order2Ordered_int [a0, a1, a2, a3] w K :=
  callT_of_den (by kernel_rfl) Try.func196 (by kernel_rfl) M.slices_order2Ordered_int.ok (M.slices_order2Ordered_int.eq a0 a1 a2 a3 w K ▸ h)
theorem M.slices_order2Ordered_int.fcall (args : List Value) (w : World) (K : KV) : fcallT P F.slices_order2Ordered_int args w K = callT P F.slices_order2Ordered_int args w K := fcallT_eq Try.func196 (by kernel_rfl) (by kernel_rfl) args w K
theorem M.slices_order2Ordered_int.rcall (a c args : List Value) (w : World) (K : KV) : callRT P (.func (.func F.slices_order2Ordered_int) a.toArray c.toArray) args w K = callT P F.slices_order2Ordered_int (a ++ args ++ c) w K := callR_fn Try.func196 (by kernel_rfl) (by kernel_rfl) a c args w K

end Go.Proofs.Ytkjhekflgghbdaa
