/-
  Printed by wip/Shallow.lean: functions of the program, read shallow; each is what its code does. No condition.
-/
import Derived.Test.YtgcpljghnlohbaaN
set_option maxRecDepth 1000000
namespace Go.Proofs.Ytgcpljghnlohbaa
open Go.Eng

def M.slices_partitionEqualOrdered_uint64.j3 (x3 : List Value) (x1 : List Value) (a0 : Value) (a1 : Value) (K2 : KL) (K3 : KL) (w : World) (K : KV) : Prop :=
  joinT (fun K4 =>
  drawT w fun w =>
  w = w ∧ w = w ∧ quietT (fun K' => binT P .leq T.int (.tmp 29) (.tmp 30) (gv x3 0) (gv x1 1) w K') w fun t31 =>
  w = w ∧ quietT (fun K' => guardT (isB t31 true) (fun K' => K' a0 w) w K') w fun t33 =>
  quietT (fun K' => guardT (isB t31 true) (fun K' => K' a1 w) w K') w fun t34 =>
  quietT (fun K' => guardT (isB t31 true) (fun K' => iaT P T.sl_uint64 t33 t34 w K') w K') w fun t35 =>
  quietT (fun K' => guardT (isB t31 true) (fun K' => ldT P T.uint64 t35 w K') w K') w fun t36 =>
  quietT (fun K' => guardT (isB t31 true) (fun K' => K' a0 w) w K') w fun t37 =>
  quietT (fun K' => guardT (isB t31 true) (fun K' => K' (gv x3 0) w) w K') w fun t38 =>
  quietT (fun K' => guardT (isB t31 true) (fun K' => iaT P T.sl_uint64 t37 t38 w K') w K') w fun t39 =>
  quietT (fun K' => guardT (isB t31 true) (fun K' => ldT P T.uint64 t39 w K') w K') w fun t40 =>
  guardT (isB t31 true) (fun K' => fcallT P F.cmp_Less_uint64 [t36, t40] w K') w fun t41 w =>
  quietT (fun K' => guardT (isB t31 true) (fun K' => unT P .not t41 w K') w K') w fun t42 =>
  quietT (fun K' => pickT t31 t42 (.bool false) w K') w fun t43 =>
  condT t43 (
  K4 [] w) (
  K2 [(gv x3 0)] w)) fun x4 w =>
  binT P .add T.int (.tmp 44) (.const (.int .i64 1)) (gv x3 0) (.int .i64 1) w fun t45 w =>
  K3 [t45] w
def M.slices_partitionEqualOrdered_uint64.j6 (x2 : List Value) (x6 : List Value) (a0 : Value) (a1 : Value) (K5 : KL) (K6 : KL) (w : World) (K : KV) : Prop :=
  joinT (fun K7 =>
  drawT w fun w =>
  w = w ∧ w = w ∧ quietT (fun K' => binT P .leq T.int (.tmp 46) (.tmp 47) (gv x2 0) (gv x6 0) w K') w fun t48 =>
  w = w ∧ quietT (fun K' => guardT (isB t48 true) (fun K' => K' a0 w) w K') w fun t50 =>
  quietT (fun K' => guardT (isB t48 true) (fun K' => K' a1 w) w K') w fun t51 =>
  quietT (fun K' => guardT (isB t48 true) (fun K' => iaT P T.sl_uint64 t50 t51 w K') w K') w fun t52 =>
  quietT (fun K' => guardT (isB t48 true) (fun K' => ldT P T.uint64 t52 w K') w K') w fun t53 =>
  quietT (fun K' => guardT (isB t48 true) (fun K' => K' a0 w) w K') w fun t54 =>
  quietT (fun K' => guardT (isB t48 true) (fun K' => K' (gv x6 0) w) w K') w fun t55 =>
  quietT (fun K' => guardT (isB t48 true) (fun K' => iaT P T.sl_uint64 t54 t55 w K') w K') w fun t56 =>
  quietT (fun K' => guardT (isB t48 true) (fun K' => ldT P T.uint64 t56 w K') w K') w fun t57 =>
  guardT (isB t48 true) (fun K' => fcallT P F.cmp_Less_uint64 [t53, t57] w K') w fun t58 w =>
  quietT (fun K' => pickT t48 t58 (.bool false) w K') w fun t59 =>
  condT t59 (
  K7 [] w) (
  K5 [(gv x6 0)] w)) fun x7 w =>
  binT P .sub T.int (.tmp 60) (.const (.int .i64 1)) (gv x6 0) (.int .i64 1) w fun t61 w =>
  K6 [t61] w
def M.slices_partitionEqualOrdered_uint64.j8 (a0 : Value) (x5 : List Value) (x2 : List Value) (K1 : KL) (w : World) (K : KV) : Prop :=
  drawT w fun w =>
  w = w ∧ w = w ∧ w = w ∧ w = w ∧ w = w ∧ w = w ∧ quietT (fun K' => iaT P T.sl_uint64 a0 (gv x5 0) w K') w fun t71 =>
  quietT (fun K' => ldT P T.uint64 t71 w K') w fun t72 =>
  w = w ∧ w = w ∧ quietT (fun K' => iaT P T.sl_uint64 a0 (gv x2 0) w K') w fun t75 =>
  quietT (fun K' => ldT P T.uint64 t75 w K') w fun t76 =>
  quietT (fun K' => iaT P T.sl_uint64 a0 (gv x2 0) w K') w fun t77 =>
  stT P T.uint64 t77 t72 w fun _ w =>
  stabT (fun K' => K' (gv x5 0) w) w (gv x5 0) ∧ stabT (fun K' => K' a0 w) w a0 ∧ quietT (fun K' => iaT P T.sl_uint64 a0 (gv x5 0) w K') w fun t78 =>
  stT P T.uint64 t78 t76 w fun _ w =>
  binT P .add T.int (.tmp 79) (.const (.int .i64 1)) (gv x2 0) (.int .i64 1) w fun t80 w =>
  binT P .sub T.int (.tmp 81) (.const (.int .i64 1)) (gv x5 0) (.int .i64 1) w fun t82 w =>
  K1 [t80, t82] w
def M.slices_partitionEqualOrdered_uint64.j2 (x1 : List Value) (x2 : List Value) (a0 : Value) (a1 : Value) (K0 : KL) (K1 : KL) (w : World) (K : KV) : Prop :=
  joinT (fun K5 =>
  loopT [(gv x1 1)] w fun K6 x6 w =>
  M.slices_partitionEqualOrdered_uint64.j6 x2 x6 a0 a1 K5 K6 w K) fun x5 w =>
  joinT (fun K8 =>
  binT P .gtr T.int (.tmp 62) (.tmp 63) (gv x2 0) (gv x5 0) w fun t64 w =>
  condT t64 (
  K0 [(gv x2 0), (gv x5 0)] w) (
  K8 [] w)) fun x8 w =>
  M.slices_partitionEqualOrdered_uint64.j8 a0 x5 x2 K1 w K
/-- slices.partitionEqualOrdered[uint64] -/
def M.slices_partitionEqualOrdered_uint64 (a0 a1 a2 a3 : Value) (w : World) (K : KV) : Prop :=
  drawT w fun w =>
  w = w ∧ w = w ∧ w = w ∧ w = w ∧ w = w ∧ w = w ∧ quietT (fun K' => iaT P T.sl_uint64 a0 a3 w K') w fun t17 =>
  quietT (fun K' => ldT P T.uint64 t17 w K') w fun t18 =>
  w = w ∧ w = w ∧ quietT (fun K' => iaT P T.sl_uint64 a0 a1 w K') w fun t21 =>
  quietT (fun K' => ldT P T.uint64 t21 w K') w fun t22 =>
  quietT (fun K' => iaT P T.sl_uint64 a0 a1 w K') w fun t23 =>
  stT P T.uint64 t23 t18 w fun _ w =>
  stabT (fun K' => K' a3 w) w a3 ∧ stabT (fun K' => K' a0 w) w a0 ∧ quietT (fun K' => iaT P T.sl_uint64 a0 a3 w K') w fun t24 =>
  stT P T.uint64 t24 t22 w fun _ w =>
  binT P .add T.int (.tmp 25) (.const (.int .i64 1)) a1 (.int .i64 1) w fun t26 w =>
  binT P .sub T.int (.tmp 27) (.const (.int .i64 1)) a2 (.int .i64 1) w fun t28 w =>
  joinT (fun K0 =>
  loopT [t26, t28] w fun K1 x1 w =>
  joinT (fun K2 =>
  loopT [(gv x1 0)] w fun K3 x3 w =>
  M.slices_partitionEqualOrdered_uint64.j3 x3 x1 a0 a1 K2 K3 w K) fun x2 w =>
  M.slices_partitionEqualOrdered_uint64.j2 x1 x2 a0 a1 K0 K1 w K) fun x0 w =>
  K (gv x0 0) w
def M.slices_partitionEqualOrdered_uint64.L : List Nat := [0, 1, 2, 3, 8, 9, 10]
def M.slices_partitionEqualOrdered_uint64.pl : Nat → Plan := fun id => cond (Nat.beq id 1) ⟨(.go 0 (.go 1 (.go 2 (.go 3 (.go 4 (.go 5 (.go 6 (.go 7 (.go 8 (.go 9 (.go 10 (.go 11 (.go 12 (.eff 13 (.go 14 (.eff 15 .nil .stop)) .stop)))))))))))))), [13, 15], false⟩ (cond (Nat.beq id 3) ⟨(.go 0 (.go 1 (.go 2 (.go 3 (.go 4 (.go 5 (.go 6 (.go 7 (.go 8 (.go 9 (.go 10 (.go 11 (.eff 12 (.go 13 (.go 14 .nil)) .stop))))))))))))), [12], false⟩ (cond (Nat.beq id 5) ⟨(.go 0 (.go 1 (.go 2 (.go 3 (.go 4 (.go 5 (.go 6 (.go 7 (.go 8 (.go 9 (.go 10 (.go 11 (.eff 12 (.go 13 .nil) .stop))))))))))))), [12], false⟩ (cond (Nat.beq id 8) ⟨(.go 0 (.go 1 (.go 2 (.go 3 (.go 4 (.go 5 (.go 6 (.go 7 (.go 8 (.go 9 (.go 10 (.go 11 (.go 12 (.eff 13 (.go 14 (.eff 15 .nil .stop)) .stop)))))))))))))), [13, 15], false⟩ (⟨.nil, [], false⟩))))
theorem M.slices_partitionEqualOrdered_uint64.eq (a0 a1 a2 a3 : Value) (w : World) (K : KV) : M.slices_partitionEqualOrdered_uint64 a0 a1 a2 a3 w K = den P M.slices_partitionEqualOrdered_uint64.L M.slices_partitionEqualOrdered_uint64.pl (Try.f149.body.getD .skip) (argE [a0, a1, a2, a3]) w (bodyQ P Try.f149.results.toList K) := by kernel_rfl
theorem M.slices_partitionEqualOrdered_uint64.ok : okFn M.slices_partitionEqualOrdered_uint64.L M.slices_partitionEqualOrdered_uint64.pl Try.f149 (Try.f149.body.getD .skip) 4 = true := by kernel_rfl
theorem M.slices_partitionEqualOrdered_uint64.calls (a0 a1 a2 a3 : Value) {w : World} {K : KV} (h : M.slices_partitionEqualOrdered_uint64 a0 a1 a2 a3 w K) : callT P F.slices_partitionEqualOrdered_uint64 [a0, a1, a2, a3] w K :=
  callT_of_den (by kernel_rfl) Try.func149 (by kernel_rfl) M.slices_partitionEqualOrdered_uint64.ok (M.slices_partitionEqualOrdered_uint64.eq a0 a1 a2 a3 w K ▸ h)
theorem M.slices_partitionEqualOrdered_uint64.fcall (args : List Value) (w : World) (K : KV) : fcallT P F.slices_partitionEqualOrdered_uint64 args w K = callT P F.slices_partitionEqualOrdered_uint64 args w K := fcallT_eq Try.func149 (by kernel_rfl) (by kernel_rfl) args w K

def M.slices_partitionOrdered_uint64.j1 (x1 : List Value) (t29 : Value) (a0 : Value) (a1 : Value) (K0 : KL) (K1 : KL) (w : World) (K : KV) : Prop :=
  joinT (fun K2 =>
  drawT w fun w =>
  w = w ∧ w = w ∧ quietT (fun K' => binT P .leq T.int (.tmp 30) (.tmp 31) (gv x1 0) t29 w K') w fun t32 =>
  w = w ∧ quietT (fun K' => guardT (isB t32 true) (fun K' => K' a0 w) w K') w fun t34 =>
  quietT (fun K' => guardT (isB t32 true) (fun K' => K' (gv x1 0) w) w K') w fun t35 =>
  quietT (fun K' => guardT (isB t32 true) (fun K' => iaT P T.sl_uint64 t34 t35 w K') w K') w fun t36 =>
  quietT (fun K' => guardT (isB t32 true) (fun K' => ldT P T.uint64 t36 w K') w K') w fun t37 =>
  quietT (fun K' => guardT (isB t32 true) (fun K' => K' a0 w) w K') w fun t38 =>
  quietT (fun K' => guardT (isB t32 true) (fun K' => K' a1 w) w K') w fun t39 =>
  quietT (fun K' => guardT (isB t32 true) (fun K' => iaT P T.sl_uint64 t38 t39 w K') w K') w fun t40 =>
  quietT (fun K' => guardT (isB t32 true) (fun K' => ldT P T.uint64 t40 w K') w K') w fun t41 =>
  guardT (isB t32 true) (fun K' => fcallT P F.cmp_Less_uint64 [t37, t41] w K') w fun t42 w =>
  quietT (fun K' => pickT t32 t42 (.bool false) w K') w fun t43 =>
  condT t43 (
  K2 [] w) (
  K0 [(gv x1 0)] w)) fun x2 w =>
  binT P .add T.int (.tmp 44) (.const (.int .i64 1)) (gv x1 0) (.int .i64 1) w fun t45 w =>
  K1 [t45] w
def M.slices_partitionOrdered_uint64.j4 (x0 : List Value) (x4 : List Value) (a0 : Value) (a1 : Value) (K3 : KL) (K4 : KL) (w : World) (K : KV) : Prop :=
  joinT (fun K5 =>
  drawT w fun w =>
  w = w ∧ w = w ∧ quietT (fun K' => binT P .leq T.int (.tmp 46) (.tmp 47) (gv x0 0) (gv x4 0) w K') w fun t48 =>
  w = w ∧ quietT (fun K' => guardT (isB t48 true) (fun K' => K' a0 w) w K') w fun t50 =>
  quietT (fun K' => guardT (isB t48 true) (fun K' => K' (gv x4 0) w) w K') w fun t51 =>
  quietT (fun K' => guardT (isB t48 true) (fun K' => iaT P T.sl_uint64 t50 t51 w K') w K') w fun t52 =>
  quietT (fun K' => guardT (isB t48 true) (fun K' => ldT P T.uint64 t52 w K') w K') w fun t53 =>
  quietT (fun K' => guardT (isB t48 true) (fun K' => K' a0 w) w K') w fun t54 =>
  quietT (fun K' => guardT (isB t48 true) (fun K' => K' a1 w) w K') w fun t55 =>
  quietT (fun K' => guardT (isB t48 true) (fun K' => iaT P T.sl_uint64 t54 t55 w K') w K') w fun t56 =>
  quietT (fun K' => guardT (isB t48 true) (fun K' => ldT P T.uint64 t56 w K') w K') w fun t57 =>
  guardT (isB t48 true) (fun K' => fcallT P F.cmp_Less_uint64 [t53, t57] w K') w fun t58 w =>
  quietT (fun K' => guardT (isB t48 true) (fun K' => unT P .not t58 w K') w K') w fun t59 =>
  quietT (fun K' => pickT t48 t59 (.bool false) w K') w fun t60 =>
  condT t60 (
  K5 [] w) (
  K3 [(gv x4 0)] w)) fun x5 w =>
  binT P .sub T.int (.tmp 61) (.const (.int .i64 1)) (gv x4 0) (.int .i64 1) w fun t62 w =>
  K4 [t62] w
def M.slices_partitionOrdered_uint64.j10 (x10 : List Value) (x8 : List Value) (a0 : Value) (a1 : Value) (K9 : KL) (K10 : KL) (w : World) (K : KV) : Prop :=
  joinT (fun K11 =>
  drawT w fun w =>
  w = w ∧ w = w ∧ quietT (fun K' => binT P .leq T.int (.tmp 99) (.tmp 100) (gv x10 0) (gv x8 1) w K') w fun t101 =>
  w = w ∧ quietT (fun K' => guardT (isB t101 true) (fun K' => K' a0 w) w K') w fun t103 =>
  quietT (fun K' => guardT (isB t101 true) (fun K' => K' (gv x10 0) w) w K') w fun t104 =>
  quietT (fun K' => guardT (isB t101 true) (fun K' => iaT P T.sl_uint64 t103 t104 w K') w K') w fun t105 =>
  quietT (fun K' => guardT (isB t101 true) (fun K' => ldT P T.uint64 t105 w K') w K') w fun t106 =>
  quietT (fun K' => guardT (isB t101 true) (fun K' => K' a0 w) w K') w fun t107 =>
  quietT (fun K' => guardT (isB t101 true) (fun K' => K' a1 w) w K') w fun t108 =>
  quietT (fun K' => guardT (isB t101 true) (fun K' => iaT P T.sl_uint64 t107 t108 w K') w K') w fun t109 =>
  quietT (fun K' => guardT (isB t101 true) (fun K' => ldT P T.uint64 t109 w K') w K') w fun t110 =>
  guardT (isB t101 true) (fun K' => fcallT P F.cmp_Less_uint64 [t106, t110] w K') w fun t111 w =>
  quietT (fun K' => pickT t101 t111 (.bool false) w K') w fun t112 =>
  condT t112 (
  K11 [] w) (
  K9 [(gv x10 0)] w)) fun x11 w =>
  binT P .add T.int (.tmp 113) (.const (.int .i64 1)) (gv x10 0) (.int .i64 1) w fun t114 w =>
  K10 [t114] w
def M.slices_partitionOrdered_uint64.j13 (x9 : List Value) (x13 : List Value) (a0 : Value) (a1 : Value) (K12 : KL) (K13 : KL) (w : World) (K : KV) : Prop :=
  joinT (fun K14 =>
  drawT w fun w =>
  w = w ∧ w = w ∧ quietT (fun K' => binT P .leq T.int (.tmp 115) (.tmp 116) (gv x9 0) (gv x13 0) w K') w fun t117 =>
  w = w ∧ quietT (fun K' => guardT (isB t117 true) (fun K' => K' a0 w) w K') w fun t119 =>
  quietT (fun K' => guardT (isB t117 true) (fun K' => K' (gv x13 0) w) w K') w fun t120 =>
  quietT (fun K' => guardT (isB t117 true) (fun K' => iaT P T.sl_uint64 t119 t120 w K') w K') w fun t121 =>
  quietT (fun K' => guardT (isB t117 true) (fun K' => ldT P T.uint64 t121 w K') w K') w fun t122 =>
  quietT (fun K' => guardT (isB t117 true) (fun K' => K' a0 w) w K') w fun t123 =>
  quietT (fun K' => guardT (isB t117 true) (fun K' => K' a1 w) w K') w fun t124 =>
  quietT (fun K' => guardT (isB t117 true) (fun K' => iaT P T.sl_uint64 t123 t124 w K') w K') w fun t125 =>
  quietT (fun K' => guardT (isB t117 true) (fun K' => ldT P T.uint64 t125 w K') w K') w fun t126 =>
  guardT (isB t117 true) (fun K' => fcallT P F.cmp_Less_uint64 [t122, t126] w K') w fun t127 w =>
  quietT (fun K' => guardT (isB t117 true) (fun K' => unT P .not t127 w K') w K') w fun t128 =>
  quietT (fun K' => pickT t117 t128 (.bool false) w K') w fun t129 =>
  condT t129 (
  K14 [] w) (
  K12 [(gv x13 0)] w)) fun x14 w =>
  binT P .sub T.int (.tmp 130) (.const (.int .i64 1)) (gv x13 0) (.int .i64 1) w fun t131 w =>
  K13 [t131] w
def M.slices_partitionOrdered_uint64.j15 (a0 : Value) (x12 : List Value) (x9 : List Value) (K8 : KL) (w : World) (K : KV) : Prop :=
  drawT w fun w =>
  w = w ∧ w = w ∧ w = w ∧ w = w ∧ w = w ∧ w = w ∧ quietT (fun K' => iaT P T.sl_uint64 a0 (gv x12 0) w K') w fun t141 =>
  quietT (fun K' => ldT P T.uint64 t141 w K') w fun t142 =>
  w = w ∧ w = w ∧ quietT (fun K' => iaT P T.sl_uint64 a0 (gv x9 0) w K') w fun t145 =>
  quietT (fun K' => ldT P T.uint64 t145 w K') w fun t146 =>
  quietT (fun K' => iaT P T.sl_uint64 a0 (gv x9 0) w K') w fun t147 =>
  stT P T.uint64 t147 t142 w fun _ w =>
  stabT (fun K' => K' (gv x12 0) w) w (gv x12 0) ∧ stabT (fun K' => K' a0 w) w a0 ∧ quietT (fun K' => iaT P T.sl_uint64 a0 (gv x12 0) w K') w fun t148 =>
  stT P T.uint64 t148 t146 w fun _ w =>
  binT P .add T.int (.tmp 149) (.const (.int .i64 1)) (gv x9 0) (.int .i64 1) w fun t150 w =>
  binT P .sub T.int (.tmp 151) (.const (.int .i64 1)) (gv x12 0) (.int .i64 1) w fun t152 w =>
  K8 [t150, t152] w
def M.slices_partitionOrdered_uint64.j9 (x8 : List Value) (x9 : List Value) (a0 : Value) (a1 : Value) (K7 : KL) (K8 : KL) (w : World) (K : KV) : Prop :=
  joinT (fun K12 =>
  loopT [(gv x8 1)] w fun K13 x13 w =>
  M.slices_partitionOrdered_uint64.j13 x9 x13 a0 a1 K12 K13 w K) fun x12 w =>
  joinT (fun K15 =>
  binT P .gtr T.int (.tmp 132) (.tmp 133) (gv x9 0) (gv x12 0) w fun t134 w =>
  condT t134 (
  K7 [(gv x9 0), (gv x12 0)] w) (
  K15 [] w)) fun x15 w =>
  M.slices_partitionOrdered_uint64.j15 a0 x12 x9 K8 w K
def M.slices_partitionOrdered_uint64.j7 (a0 : Value) (a1 : Value) (x7 : List Value) (w : World) (K : KV) : Prop :=
  drawT w fun w =>
  w = w ∧ w = w ∧ w = w ∧ w = w ∧ w = w ∧ w = w ∧ quietT (fun K' => iaT P T.sl_uint64 a0 a1 w K') w fun t159 =>
  quietT (fun K' => ldT P T.uint64 t159 w K') w fun t160 =>
  w = w ∧ w = w ∧ quietT (fun K' => iaT P T.sl_uint64 a0 (gv x7 1) w K') w fun t163 =>
  quietT (fun K' => ldT P T.uint64 t163 w K') w fun t164 =>
  quietT (fun K' => iaT P T.sl_uint64 a0 (gv x7 1) w K') w fun t165 =>
  stT P T.uint64 t165 t160 w fun _ w =>
  stabT (fun K' => K' a1 w) w a1 ∧ stabT (fun K' => K' a0 w) w a0 ∧ quietT (fun K' => iaT P T.sl_uint64 a0 a1 w K') w fun t166 =>
  stT P T.uint64 t166 t164 w fun _ w =>
  K (.tuple #[(gv x7 1), (.bool false)]) w
def M.slices_partitionOrdered_uint64.j6 (a0 : Value) (x3 : List Value) (x0 : List Value) (a1 : Value) (w : World) (K : KV) : Prop :=
  drawT w fun w =>
  w = w ∧ w = w ∧ w = w ∧ w = w ∧ w = w ∧ w = w ∧ quietT (fun K' => iaT P T.sl_uint64 a0 (gv x3 0) w K') w fun t87 =>
  quietT (fun K' => ldT P T.uint64 t87 w K') w fun t88 =>
  w = w ∧ w = w ∧ quietT (fun K' => iaT P T.sl_uint64 a0 (gv x0 0) w K') w fun t91 =>
  quietT (fun K' => ldT P T.uint64 t91 w K') w fun t92 =>
  quietT (fun K' => iaT P T.sl_uint64 a0 (gv x0 0) w K') w fun t93 =>
  stT P T.uint64 t93 t88 w fun _ w =>
  stabT (fun K' => K' (gv x3 0) w) w (gv x3 0) ∧ stabT (fun K' => K' a0 w) w a0 ∧ quietT (fun K' => iaT P T.sl_uint64 a0 (gv x3 0) w K') w fun t94 =>
  stT P T.uint64 t94 t92 w fun _ w =>
  binT P .add T.int (.tmp 95) (.const (.int .i64 1)) (gv x0 0) (.int .i64 1) w fun t96 w =>
  binT P .sub T.int (.tmp 97) (.const (.int .i64 1)) (gv x3 0) (.int .i64 1) w fun t98 w =>
  joinT (fun K7 =>
  loopT [t96, t98] w fun K8 x8 w =>
  joinT (fun K9 =>
  loopT [(gv x8 0)] w fun K10 x10 w =>
  M.slices_partitionOrdered_uint64.j10 x10 x8 a0 a1 K9 K10 w K) fun x9 w =>
  M.slices_partitionOrdered_uint64.j9 x8 x9 a0 a1 K7 K8 w K) fun x7 w =>
  M.slices_partitionOrdered_uint64.j7 a0 a1 x7 w K
def M.slices_partitionOrdered_uint64.j3 (x0 : List Value) (x3 : List Value) (a0 : Value) (a1 : Value) (w : World) (K : KV) : Prop :=
  joinT (fun K6 =>
  binT P .gtr T.int (.tmp 63) (.tmp 64) (gv x0 0) (gv x3 0) w fun t65 w =>
  condT t65 (
  drawT w fun w =>
  w = w ∧ w = w ∧ w = w ∧ w = w ∧ w = w ∧ w = w ∧ quietT (fun K' => iaT P T.sl_uint64 a0 a1 w K') w fun t72 =>
  quietT (fun K' => ldT P T.uint64 t72 w K') w fun t73 =>
  w = w ∧ w = w ∧ quietT (fun K' => iaT P T.sl_uint64 a0 (gv x3 0) w K') w fun t76 =>
  quietT (fun K' => ldT P T.uint64 t76 w K') w fun t77 =>
  quietT (fun K' => iaT P T.sl_uint64 a0 (gv x3 0) w K') w fun t78 =>
  stT P T.uint64 t78 t73 w fun _ w =>
  stabT (fun K' => K' a1 w) w a1 ∧ stabT (fun K' => K' a0 w) w a0 ∧ quietT (fun K' => iaT P T.sl_uint64 a0 a1 w K') w fun t79 =>
  stT P T.uint64 t79 t77 w fun _ w =>
  K (.tuple #[(gv x3 0), (.bool true)]) w) (
  K6 [(.int .i64 0), (.bool false)] w)) fun x6 w =>
  M.slices_partitionOrdered_uint64.j6 a0 x3 x0 a1 w K
/-- slices.partitionOrdered[uint64] -/
def M.slices_partitionOrdered_uint64 (a0 a1 a2 a3 : Value) (w : World) (K : KV) : Prop :=
  drawT w fun w =>
  w = w ∧ w = w ∧ w = w ∧ w = w ∧ w = w ∧ w = w ∧ quietT (fun K' => iaT P T.sl_uint64 a0 a3 w K') w fun t18 =>
  quietT (fun K' => ldT P T.uint64 t18 w K') w fun t19 =>
  w = w ∧ w = w ∧ quietT (fun K' => iaT P T.sl_uint64 a0 a1 w K') w fun t22 =>
  quietT (fun K' => ldT P T.uint64 t22 w K') w fun t23 =>
  quietT (fun K' => iaT P T.sl_uint64 a0 a1 w K') w fun t24 =>
  stT P T.uint64 t24 t19 w fun _ w =>
  stabT (fun K' => K' a3 w) w a3 ∧ stabT (fun K' => K' a0 w) w a0 ∧ quietT (fun K' => iaT P T.sl_uint64 a0 a3 w K') w fun t25 =>
  stT P T.uint64 t25 t23 w fun _ w =>
  binT P .add T.int (.tmp 26) (.const (.int .i64 1)) a1 (.int .i64 1) w fun t27 w =>
  binT P .sub T.int (.tmp 28) (.const (.int .i64 1)) a2 (.int .i64 1) w fun t29 w =>
  joinT (fun K0 =>
  loopT [t27] w fun K1 x1 w =>
  M.slices_partitionOrdered_uint64.j1 x1 t29 a0 a1 K0 K1 w K) fun x0 w =>
  joinT (fun K3 =>
  loopT [t29] w fun K4 x4 w =>
  M.slices_partitionOrdered_uint64.j4 x0 x4 a0 a1 K3 K4 w K) fun x3 w =>
  M.slices_partitionOrdered_uint64.j3 x0 x3 a0 a1 w K
def M.slices_partitionOrdered_uint64.L : List Nat := [0, 1, 2, 3, 8, 9, 10, 11]
def M.slices_partitionOrdered_uint64.pl : Nat → Plan := fun id => cond (Nat.beq id 1) ⟨(.go 0 (.go 1 (.go 2 (.go 3 (.go 4 (.go 5 (.go 6 (.go 7 (.go 8 (.go 9 (.go 10 (.go 11 (.go 12 (.eff 13 (.go 14 (.eff 15 .nil .stop)) .stop)))))))))))))), [13, 15], false⟩ (cond (Nat.beq id 3) ⟨(.go 0 (.go 1 (.go 2 (.go 3 (.go 4 (.go 5 (.go 6 (.go 7 (.go 8 (.go 9 (.go 10 (.go 11 (.eff 12 (.go 13 .nil) .stop))))))))))))), [12], false⟩ (cond (Nat.beq id 5) ⟨(.go 0 (.go 1 (.go 2 (.go 3 (.go 4 (.go 5 (.go 6 (.go 7 (.go 8 (.go 9 (.go 10 (.go 11 (.eff 12 (.go 13 (.go 14 .nil)) .stop))))))))))))), [12], false⟩ (cond (Nat.beq id 8) ⟨(.go 0 (.go 1 (.go 2 (.go 3 (.go 4 (.go 5 (.go 6 (.go 7 (.go 8 (.go 9 (.go 10 (.go 11 (.go 12 (.eff 13 (.go 14 (.eff 15 .nil .stop)) .stop)))))))))))))), [13, 15], false⟩ (cond (Nat.beq id 10) ⟨(.go 0 (.go 1 (.go 2 (.go 3 (.go 4 (.go 5 (.go 6 (.go 7 (.go 8 (.go 9 (.go 10 (.go 11 (.go 12 (.eff 13 (.go 14 (.eff 15 .nil .stop)) .stop)))))))))))))), [13, 15], false⟩ (cond (Nat.beq id 13) ⟨(.go 0 (.go 1 (.go 2 (.go 3 (.go 4 (.go 5 (.go 6 (.go 7 (.go 8 (.go 9 (.go 10 (.go 11 (.eff 12 (.go 13 .nil) .stop))))))))))))), [12], false⟩ (cond (Nat.beq id 15) ⟨(.go 0 (.go 1 (.go 2 (.go 3 (.go 4 (.go 5 (.go 6 (.go 7 (.go 8 (.go 9 (.go 10 (.go 11 (.eff 12 (.go 13 (.go 14 .nil)) .stop))))))))))))), [12], false⟩ (cond (Nat.beq id 18) ⟨(.go 0 (.go 1 (.go 2 (.go 3 (.go 4 (.go 5 (.go 6 (.go 7 (.go 8 (.go 9 (.go 10 (.go 11 (.go 12 (.eff 13 (.go 14 (.eff 15 .nil .stop)) .stop)))))))))))))), [13, 15], false⟩ (cond (Nat.beq id 21) ⟨(.go 0 (.go 1 (.go 2 (.go 3 (.go 4 (.go 5 (.go 6 (.go 7 (.go 8 (.go 9 (.go 10 (.go 11 (.go 12 (.eff 13 (.go 14 (.eff 15 .nil .stop)) .stop)))))))))))))), [13, 15], false⟩ (⟨.nil, [], false⟩)))))))))
theorem M.slices_partitionOrdered_uint64.eq (a0 a1 a2 a3 : Value) (w : World) (K : KV) : M.slices_partitionOrdered_uint64 a0 a1 a2 a3 w K = den P M.slices_partitionOrdered_uint64.L M.slices_partitionOrdered_uint64.pl (Try.f150.body.getD .skip) (argE [a0, a1, a2, a3]) w (bodyQ P Try.f150.results.toList K) := by kernel_rfl
theorem M.slices_partitionOrdered_uint64.ok : okFn M.slices_partitionOrdered_uint64.L M.slices_partitionOrdered_uint64.pl Try.f150 (Try.f150.body.getD .skip) 4 = true := by kernel_rfl
theorem M.slices_partitionOrdered_uint64.calls (a0 a1 a2 a3 : Value) {w : World} {K : KV} (h : M.slices_partitionOrdered_uint64 a0 a1 a2 a3 w K) : callT P F.slices_partitionOrdered_uint64 [a0, a1, a2, a3] w K :=
  callT_of_den (by kernel_rfl) Try.func150 (by kernel_rfl) M.slices_partitionOrdered_uint64.ok (M.slices_partitionOrdered_uint64.eq a0 a1 a2 a3 w K ▸ h)
theorem M.slices_partitionOrdered_uint64.fcall (args : List Value) (w : World) (K : KV) : fcallT P F.slices_partitionOrdered_uint64 args w K = callT P F.slices_partitionOrdered_uint64 args w K := fcallT_eq Try.func150 (by kernel_rfl) (by kernel_rfl) args w K

/-- slices.Clone[[]winnow/api.Member,winnow/api.Member] -/
def M.slices_Clone_api_Member_api_Member (a0 : Value) (w : World) (K : KV) : Prop :=
  joinT (fun K0 =>
  binT P .eql T.sl_api_Member (.tmp 3) (.const (.slice none 0 0)) a0 (.slice none 0 0) w fun t4 w =>
  condT t4 (
  K (.slice none 0 0) w) (
  K0 [(.slice none 0 0)] w)) fun x0 w =>
  bsT P T.sl_api_Member 0 #[] w fun t5 w =>
  biT P .append #[T.sl_api_Member, T.sl_api_Member] T.sl_api_Member [false, false] [t5, a0] w fun t7 w =>
  K t7 w
def M.slices_Clone_api_Member_api_Member.L : List Nat := [0, 2]
def M.slices_Clone_api_Member_api_Member.pl : Nat → Plan := fun id => ⟨.nil, [], false⟩
theorem M.slices_Clone_api_Member_api_Member.eq (a0 : Value) (w : World) (K : KV) : M.slices_Clone_api_Member_api_Member a0 w K = den P M.slices_Clone_api_Member_api_Member.L M.slices_Clone_api_Member_api_Member.pl (Try.f151.body.getD .skip) (argE [a0]) w (bodyQ P Try.f151.results.toList K) := by kernel_rfl
theorem M.slices_Clone_api_Member_api_Member.ok : okFn M.slices_Clone_api_Member_api_Member.L M.slices_Clone_api_Member_api_Member.pl Try.f151 (Try.f151.body.getD .skip) 1 = true := by kernel_rfl
theorem M.slices_Clone_api_Member_api_Member.calls (a0 : Value) {w : World} {K : KV} (h : M.slices_Clone_api_Member_api_Member a0 w K) : callT P F.slices_Clone_api_Member_api_Member [a0] w K :=
  callT_of_den (by kernel_rfl) Try.func151 (by kernel_rfl) M.slices_Clone_api_Member_api_Member.ok (M.slices_Clone_api_Member_api_Member.eq a0 w K ▸ h)
theorem M.slices_Clone_api_Member_api_Member.fcall (args : List Value) (w : World) (K : KV) : fcallT P F.slices_Clone_api_Member_api_Member args w K = callT P F.slices_Clone_api_Member_api_Member args w K := fcallT_eq Try.func151 (by kernel_rfl) (by kernel_rfl) args w K

/-- slices.Clone[[]uint64,uint64] -/
def M.slices_Clone_uint64_uint64 (a0 : Value) (w : World) (K : KV) : Prop :=
  joinT (fun K0 =>
  binT P .eql T.sl_uint64 (.tmp 3) (.const (.slice none 0 0)) a0 (.slice none 0 0) w fun t4 w =>
  condT t4 (
  K (.slice none 0 0) w) (
  K0 [(.slice none 0 0)] w)) fun x0 w =>
  bsT P T.sl_uint64 0 #[] w fun t5 w =>
  biT P .append #[T.sl_uint64, T.sl_uint64] T.sl_uint64 [false, false] [t5, a0] w fun t7 w =>
  K t7 w
def M.slices_Clone_uint64_uint64.L : List Nat := [0, 2]
def M.slices_Clone_uint64_uint64.pl : Nat → Plan := fun id => ⟨.nil, [], false⟩
theorem M.slices_Clone_uint64_uint64.eq (a0 : Value) (w : World) (K : KV) : M.slices_Clone_uint64_uint64 a0 w K = den P M.slices_Clone_uint64_uint64.L M.slices_Clone_uint64_uint64.pl (Try.f152.body.getD .skip) (argE [a0]) w (bodyQ P Try.f152.results.toList K) := by kernel_rfl
theorem M.slices_Clone_uint64_uint64.ok : okFn M.slices_Clone_uint64_uint64.L M.slices_Clone_uint64_uint64.pl Try.f152 (Try.f152.body.getD .skip) 1 = true := by kernel_rfl
theorem M.slices_Clone_uint64_uint64.calls (a0 : Value) {w : World} {K : KV} (h : M.slices_Clone_uint64_uint64 a0 w K) : callT P F.slices_Clone_uint64_uint64 [a0] w K :=
  callT_of_den (by kernel_rfl) Try.func152 (by kernel_rfl) M.slices_Clone_uint64_uint64.ok (M.slices_Clone_uint64_uint64.eq a0 w K ▸ h)
theorem M.slices_Clone_uint64_uint64.fcall (args : List Value) (w : World) (K : KV) : fcallT P F.slices_Clone_uint64_uint64 args w K = callT P F.slices_Clone_uint64_uint64 args w K := fcallT_eq Try.func152 (by kernel_rfl) (by kernel_rfl) args w K

def M.message_spans.j2 (a1 : Value) (x1 : List Value) (a0 : Value) (t8 : Value) (K1 : KL) (w : World) (K : KV) : Prop :=
  joinT (fun K3 =>
  iaT P T.sl_api_Span a1 (gv x1 2) w fun t13 w =>
  ldT P T.api_Span t13 w fun t14 w =>
  alT P T.api_Span w fun t7 w =>
  stT P T.api_Span t7 t14 w fun _ w =>
  joinT (fun K4 =>
  ldT P T.api_Span t7 w fun t15 w =>
  fcallT P F.span_Right [t15] w fun t16 w =>
  binT P .neq T.api_Kind (.tmp 16) (.const (.int .i64 0)) t16 (.int .i64 0) w fun t17 w =>
  guardT (isB t17 false) (fun K' => faT P T.api_Span t7 0 w K') w fun t19 w =>
  guardT (isB t17 false) (fun K' => ldT P T.uint64 t19 w K') w fun t20 w =>
  guardT (isB t17 false) (fun K' => K' a0 w) w fun t21 w =>
  guardT (isB t17 false) (fun K' => binT P .neq T.uint64 (.tmp 20) (.tmp 21) t20 t21 w K') w fun t22 w =>
  pickT t17 (.bool true) t22 w fun t23 w =>
  guardT (isB t23 false) (fun K' => K' t8 w) w fun t25 w =>
  guardT (isB t23 false) (fun K' => faT P T.api_Span t7 1 w K') w fun t26 w =>
  guardT (isB t23 false) (fun K' => ldT P T.uint64 t26 w K') w fun t27 w =>
  guardT (isB t23 false) (fun K' => luT P T.map_uint64_bool t25 t27 false w K') w fun t28 w =>
  pickT t23 (.bool true) t28 w fun t29 w =>
  condT t29 (
  K (.bool false) w) (
  K4 [(gv x1 1)] w)) fun x4 w =>
  faT P T.api_Span t7 1 w fun t31 w =>
  ldT P T.uint64 t31 w fun t32 w =>
  muT P T.map_uint64_bool t8 t32 (.bool true) w fun _ w =>
  K3 [t7, (gv x4 0)] w) fun x3 w =>
  binT P .add T.int (.tmp 11) (.const (.int .i64 1)) (gv x1 2) (.int .i64 1) w fun t33 w =>
  K1 [(gv x3 0), (gv x3 1), t33] w
def M.message_spans.j0 (a1 : Value) (w : World) (K : KV) : Prop :=
  biT P .len #[T.sl_api_Span] T.int [false] [a1] w fun t35 w =>
  binT P .gtr T.int (.tmp 35) (.const (.int .i64 0)) t35 (.int .i64 0) w fun t36 w =>
  guardT (isB t36 true) (fun K' => K' a1 w) w fun t38 w =>
  guardT (isB t36 true) (fun K' => biT P .len #[T.sl_api_Span] T.int [false] [t38] w K') w fun t39 w =>
  guardT (isB t36 true) (fun K' => binT P .leq T.int (.tmp 39) (.const (.int .i64 16)) t39 (.int .i64 16) w K') w fun t40 w =>
  pickT t36 t40 (.bool false) w fun t41 w =>
  K t41 w
/-- winnow/message.spans -/
def M.message_spans (a0 a1 : Value) (w : World) (K : KV) : Prop :=
  mkmT P T.map_uint64_bool none w fun t8 w =>
  joinT (fun K0 =>
  biT P .len #[T.sl_api_Span] T.int [false] [a1] w fun t10 w =>
  loopT [undef, (.bool false), (.int .i64 0)] w fun K1 x1 w =>
  binT P .lss T.int (.tmp 11) (.tmp 10) (gv x1 2) t10 w fun t12 w =>
  joinT (fun K2 =>
  condT t12 (
  K2 [] w) (
  K0 [a1, t10, (gv x1 2), (gv x1 0), (gv x1 1)] w)) fun x2 w =>
  M.message_spans.j2 a1 x1 a0 t8 K1 w K) fun x0 w =>
  M.message_spans.j0 a1 w K
def M.message_spans.L : List Nat := [0, 1, 4, 5, 11, 10, 9, 7]
def M.message_spans.pl : Nat → Plan := fun id => ⟨.nil, [], false⟩
theorem M.message_spans.eq (a0 a1 : Value) (w : World) (K : KV) : M.message_spans a0 a1 w K = den P M.message_spans.L M.message_spans.pl (Try.f153.body.getD .skip) (argE [a0, a1]) w (bodyQ P Try.f153.results.toList K) := by kernel_rfl
theorem M.message_spans.ok : okFn M.message_spans.L M.message_spans.pl Try.f153 (Try.f153.body.getD .skip) 2 = true := by kernel_rfl
theorem M.message_spans.calls (a0 a1 : Value) {w : World} {K : KV} (h : M.message_spans a0 a1 w K) : callT P F.message_spans [a0, a1] w K :=
  callT_of_den (by kernel_rfl) Try.func153 (by kernel_rfl) M.message_spans.ok (M.message_spans.eq a0 a1 w K ▸ h)
theorem M.message_spans.fcall (args : List Value) (w : World) (K : KV) : fcallT P F.message_spans args w K = callT P F.message_spans args w K := fcallT_eq Try.func153 (by kernel_rfl) (by kernel_rfl) args w K

/-- winnow/message.right$1 -/
def M.message_right_1 (a0 : Value) (w : World) (K : KV) : Prop :=
  boxT P T.api_Member a0 w fun t1 w =>
  faT P T.api_Member t1 1 w fun t3 w =>
  ldT P T.uint64 t3 w fun t4 w =>
  binT P .eql T.uint64 (.tmp 4) (.const (.int .u64 0)) t4 (.int .u64 0) w fun t5 w =>
  guardT (isB t5 false) (fun K' => faT P T.api_Member t1 2 w K') w fun t7 w =>
  guardT (isB t5 false) (fun K' => ldT P T.int t7 w K') w fun t8 w =>
  guardT (isB t5 false) (fun K' => binT P .lss T.int (.tmp 8) (.const (.int .i64 0)) t8 (.int .i64 0) w K') w fun t9 w =>
  pickT t5 (.bool true) t9 w fun t10 w =>
  guardT (isB t10 false) (fun K' => faT P T.api_Member t1 2 w K') w fun t12 w =>
  guardT (isB t10 false) (fun K' => ldT P T.int t12 w K') w fun t13 w =>
  guardT (isB t10 false) (fun K' => binT P .gtr T.int (.tmp 13) (.const (.int .i64 2)) t13 (.int .i64 2) w K') w fun t14 w =>
  pickT t10 (.bool true) t14 w fun t15 w =>
  K t15 w
def M.message_right_1.L : List Nat := [0, 2]
def M.message_right_1.pl : Nat → Plan := fun id => ⟨.nil, [], false⟩
theorem M.message_right_1.eq (a0 : Value) (w : World) (K : KV) : M.message_right_1 a0 w K = den P M.message_right_1.L M.message_right_1.pl (Try.f154.body.getD .skip) (argE [a0]) w (bodyQ P Try.f154.results.toList K) := by kernel_rfl
theorem M.message_right_1.ok : okFn M.message_right_1.L M.message_right_1.pl Try.f154 (Try.f154.body.getD .skip) 1 = true := by kernel_rfl
theorem M.message_right_1.calls (a0 : Value) {w : World} {K : KV} (h : M.message_right_1 a0 w K) : callT P F.message_right_1 [a0] w K :=
  callT_of_den (by kernel_rfl) Try.func154 (by kernel_rfl) M.message_right_1.ok (M.message_right_1.eq a0 w K ▸ h)
theorem M.message_right_1.fcall (args : List Value) (w : World) (K : KV) : fcallT P F.message_right_1 args w K = callT P F.message_right_1 args w K := fcallT_eq Try.func154 (by kernel_rfl) (by kernel_rfl) args w K

def M.message_rise_api_Member.j2 (a0 : Value) (x1 : List Value) (a2 : Value) (K1 : KL) (w : World) (K : KV) : Prop :=
  joinT (fun K3 =>
  iaT P T.sl_api_Member a0 (gv x1 3) w fun t14 w =>
  ldT P T.api_Member t14 w fun t15 w =>
  alT P T.api_Member w fun t9 w =>
  stT P T.api_Member t9 t15 w fun _ w =>
  joinT (fun K4 =>
  ldT P T.api_Member t9 w fun t17 w =>
  callVT P a2 [t17] w fun t18 w =>
  binT P .leq T.uint64 (.tmp 18) (.tmp 19) t18 (gv x1 2) w fun t20 w =>
  condT t20 (
  K (.bool false) w) (
  K4 [(gv x1 1)] w)) fun x4 w =>
  ldT P T.api_Member t9 w fun t22 w =>
  callVT P a2 [t22] w fun t23 w =>
  K3 [t9, (gv x4 0), t23] w) fun x3 w =>
  binT P .add T.int (.tmp 12) (.const (.int .i64 1)) (gv x1 3) (.int .i64 1) w fun t24 w =>
  K1 [(gv x3 0), (gv x3 1), (gv x3 2), t24] w
def M.message_rise_api_Member.j0 (a0 : Value) (a1 : Value) (w : World) (K : KV) : Prop :=
  biT P .len #[T.sl_api_Member] T.int [false] [a0] w fun t26 w =>
  binT P .gtr T.int (.tmp 26) (.const (.int .i64 0)) t26 (.int .i64 0) w fun t27 w =>
  guardT (isB t27 true) (fun K' => K' a0 w) w fun t29 w =>
  guardT (isB t27 true) (fun K' => biT P .len #[T.sl_api_Member] T.int [false] [t29] w K') w fun t30 w =>
  guardT (isB t27 true) (fun K' => K' a1 w) w fun t31 w =>
  guardT (isB t27 true) (fun K' => binT P .leq T.int (.tmp 30) (.tmp 31) t30 t31 w K') w fun t32 w =>
  pickT t27 t32 (.bool false) w fun t33 w =>
  K t33 w
/-- winnow/message.rise[winnow/api.Member] -/
def M.message_rise_api_Member (a0 a1 a2 : Value) (w : World) (K : KV) : Prop :=
  joinT (fun K0 =>
  biT P .len #[T.sl_api_Member] T.int [false] [a0] w fun t11 w =>
  loopT [undef, (.bool false), (.int .u64 0), (.int .i64 0)] w fun K1 x1 w =>
  binT P .lss T.int (.tmp 12) (.tmp 11) (gv x1 3) t11 w fun t13 w =>
  joinT (fun K2 =>
  condT t13 (
  K2 [] w) (
  K0 [a0, t11, (gv x1 3), (gv x1 0), (gv x1 1), (gv x1 2)] w)) fun x2 w =>
  M.message_rise_api_Member.j2 a0 x1 a2 K1 w K) fun x0 w =>
  M.message_rise_api_Member.j0 a0 a1 w K
def M.message_rise_api_Member.L : List Nat := [0, 1, 2, 6, 7, 12, 11, 10, 9]
def M.message_rise_api_Member.pl : Nat → Plan := fun id => ⟨.nil, [], false⟩
theorem M.message_rise_api_Member.eq (a0 a1 a2 : Value) (w : World) (K : KV) : M.message_rise_api_Member a0 a1 a2 w K = den P M.message_rise_api_Member.L M.message_rise_api_Member.pl (Try.f155.body.getD .skip) (argE [a0, a1, a2]) w (bodyQ P Try.f155.results.toList K) := by kernel_rfl
theorem M.message_rise_api_Member.ok : okFn M.message_rise_api_Member.L M.message_rise_api_Member.pl Try.f155 (Try.f155.body.getD .skip) 3 = true := by kernel_rfl
theorem M.message_rise_api_Member.calls (a0 a1 a2 : Value) {w : World} {K : KV} (h : M.message_rise_api_Member a0 a1 a2 w K) : callT P F.message_rise_api_Member [a0, a1, a2] w K :=
  callT_of_den (by kernel_rfl) Try.func155 (by kernel_rfl) M.message_rise_api_Member.ok (M.message_rise_api_Member.eq a0 a1 a2 w K ▸ h)
theorem M.message_rise_api_Member.fcall (args : List Value) (w : World) (K : KV) : fcallT P F.message_rise_api_Member args w K = callT P F.message_rise_api_Member args w K := fcallT_eq Try.func155 (by kernel_rfl) (by kernel_rfl) args w K

/-- winnow/message.right$2 -/
def M.message_right_2 (a0 : Value) (w : World) (K : KV) : Prop :=
  boxT P T.api_Member a0 w fun t1 w =>
  faT P T.api_Member t1 0 w fun t3 w =>
  ldT P T.uint64 t3 w fun t4 w =>
  K t4 w
def M.message_right_2.L : List Nat := [0, 2]
def M.message_right_2.pl : Nat → Plan := fun id => ⟨.nil, [], false⟩
theorem M.message_right_2.eq (a0 : Value) (w : World) (K : KV) : M.message_right_2 a0 w K = den P M.message_right_2.L M.message_right_2.pl (Try.f156.body.getD .skip) (argE [a0]) w (bodyQ P Try.f156.results.toList K) := by kernel_rfl
theorem M.message_right_2.ok : okFn M.message_right_2.L M.message_right_2.pl Try.f156 (Try.f156.body.getD .skip) 1 = true := by kernel_rfl
theorem M.message_right_2.calls (a0 : Value) {w : World} {K : KV} (h : M.message_right_2 a0 w K) : callT P F.message_right_2 [a0] w K :=
  callT_of_den (by kernel_rfl) Try.func156 (by kernel_rfl) M.message_right_2.ok (M.message_right_2.eq a0 w K ▸ h)
theorem M.message_right_2.fcall (args : List Value) (w : World) (K : KV) : fcallT P F.message_right_2 args w K = callT P F.message_right_2 args w K := fcallT_eq Try.func156 (by kernel_rfl) (by kernel_rfl) args w K

/-- slices.ContainsFunc[[]winnow/api.Member,winnow/api.Member] -/
def M.slices_ContainsFunc_api_Member_api_Member (a0 a1 : Value) (w : World) (K : KV) : Prop :=
  fcallT P F.slices_IndexFunc_api_Member_api_Member [a0, a1] w fun t7 w =>
  binT P .geq T.int (.tmp 7) (.const (.int .i64 0)) t7 (.int .i64 0) w fun t8 w =>
  K t8 w
def M.slices_ContainsFunc_api_Member_api_Member.L : List Nat := [0, 1, 4]
def M.slices_ContainsFunc_api_Member_api_Member.pl : Nat → Plan := fun id => ⟨.nil, [], false⟩
theorem M.slices_ContainsFunc_api_Member_api_Member.eq (a0 a1 : Value) (w : World) (K : KV) : M.slices_ContainsFunc_api_Member_api_Member a0 a1 w K = den P M.slices_ContainsFunc_api_Member_api_Member.L M.slices_ContainsFunc_api_Member_api_Member.pl (Try.f157.body.getD .skip) (argE [a0, a1]) w (bodyQ P Try.f157.results.toList K) := by kernel_rfl
theorem M.slices_ContainsFunc_api_Member_api_Member.ok : okFn M.slices_ContainsFunc_api_Member_api_Member.L M.slices_ContainsFunc_api_Member_api_Member.pl Try.f157 (Try.f157.body.getD .skip) 2 = true := by kernel_rfl
theorem M.slices_ContainsFunc_api_Member_api_Member.calls (a0 a1 : Value) {w : World} {K : KV} (h : M.slices_ContainsFunc_api_Member_api_Member a0 a1 w K) : callT P F.slices_ContainsFunc_api_Member_api_Member [a0, a1] w K :=
  callT_of_den (by kernel_rfl) Try.func157 (by kernel_rfl) M.slices_ContainsFunc_api_Member_api_Member.ok (M.slices_ContainsFunc_api_Member_api_Member.eq a0 a1 w K ▸ h)
theorem M.slices_ContainsFunc_api_Member_api_Member.fcall (args : List Value) (w : World) (K : KV) : fcallT P F.slices_ContainsFunc_api_Member_api_Member args w K = callT P F.slices_ContainsFunc_api_Member_api_Member args w K := fcallT_eq Try.func157 (by kernel_rfl) (by kernel_rfl) args w K

/-- winnow/message.told -/
def M.message_told (a0 : Value) (w : World) (K : KV) : Prop :=
  binT P .leq T.api_Verdict (.const (.int .i64 1)) (.tmp 3) (.int .i64 1) a0 w fun t4 w =>
  guardT (isB t4 true) (fun K' => K' a0 w) w fun t6 w =>
  guardT (isB t4 true) (fun K' => binT P .leq T.api_Verdict (.tmp 6) (.const (.int .i64 3)) t6 (.int .i64 3) w K') w fun t7 w =>
  pickT t4 t7 (.bool false) w fun t8 w =>
  K t8 w
def M.message_told.L : List Nat := [0, 2]
def M.message_told.pl : Nat → Plan := fun id => ⟨.nil, [], false⟩
theorem M.message_told.eq (a0 : Value) (w : World) (K : KV) : M.message_told a0 w K = den P M.message_told.L M.message_told.pl (Try.f158.body.getD .skip) (argE [a0]) w (bodyQ P Try.f158.results.toList K) := by kernel_rfl
theorem M.message_told.ok : okFn M.message_told.L M.message_told.pl Try.f158 (Try.f158.body.getD .skip) 1 = true := by kernel_rfl
theorem M.message_told.calls (a0 : Value) {w : World} {K : KV} (h : M.message_told a0 w K) : callT P F.message_told [a0] w K :=
  callT_of_den (by kernel_rfl) Try.func158 (by kernel_rfl) M.message_told.ok (M.message_told.eq a0 w K ▸ h)
theorem M.message_told.fcall (args : List Value) (w : World) (K : KV) : fcallT P F.message_told args w K = callT P F.message_told args w K := fcallT_eq Try.func158 (by kernel_rfl) (by kernel_rfl) args w K

def M.message_rise_uint64.j2 (a0 : Value) (x1 : List Value) (a2 : Value) (K1 : KL) (w : World) (K : KV) : Prop :=
  joinT (fun K3 =>
  iaT P T.sl_uint64 a0 (gv x1 3) w fun t14 w =>
  ldT P T.uint64 t14 w fun t15 w =>
  joinT (fun K4 =>
  callVT P a2 [t15] w fun t18 w =>
  binT P .leq T.uint64 (.tmp 18) (.tmp 19) t18 (gv x1 2) w fun t20 w =>
  condT t20 (
  K (.bool false) w) (
  K4 [(gv x1 1)] w)) fun x4 w =>
  callVT P a2 [t15] w fun t23 w =>
  K3 [t15, (gv x4 0), t23] w) fun x3 w =>
  binT P .add T.int (.tmp 12) (.const (.int .i64 1)) (gv x1 3) (.int .i64 1) w fun t24 w =>
  K1 [(gv x3 0), (gv x3 1), (gv x3 2), t24] w
def M.message_rise_uint64.j0 (a0 : Value) (a1 : Value) (w : World) (K : KV) : Prop :=
  biT P .len #[T.sl_uint64] T.int [false] [a0] w fun t26 w =>
  binT P .gtr T.int (.tmp 26) (.const (.int .i64 0)) t26 (.int .i64 0) w fun t27 w =>
  guardT (isB t27 true) (fun K' => K' a0 w) w fun t29 w =>
  guardT (isB t27 true) (fun K' => biT P .len #[T.sl_uint64] T.int [false] [t29] w K') w fun t30 w =>
  guardT (isB t27 true) (fun K' => K' a1 w) w fun t31 w =>
  guardT (isB t27 true) (fun K' => binT P .leq T.int (.tmp 30) (.tmp 31) t30 t31 w K') w fun t32 w =>
  pickT t27 t32 (.bool false) w fun t33 w =>
  K t33 w
/-- winnow/message.rise[uint64] -/
def M.message_rise_uint64 (a0 a1 a2 : Value) (w : World) (K : KV) : Prop :=
  joinT (fun K0 =>
  biT P .len #[T.sl_uint64] T.int [false] [a0] w fun t11 w =>
  loopT [undef, (.bool false), (.int .u64 0), (.int .i64 0)] w fun K1 x1 w =>
  binT P .lss T.int (.tmp 12) (.tmp 11) (gv x1 3) t11 w fun t13 w =>
  joinT (fun K2 =>
  condT t13 (
  K2 [] w) (
  K0 [a0, t11, (gv x1 3), (gv x1 0), (gv x1 1), (gv x1 2)] w)) fun x2 w =>
  M.message_rise_uint64.j2 a0 x1 a2 K1 w K) fun x0 w =>
  M.message_rise_uint64.j0 a0 a1 w K
def M.message_rise_uint64.L : List Nat := [0, 1, 2, 6, 7, 9, 12, 11, 10]
def M.message_rise_uint64.pl : Nat → Plan := fun id => ⟨.nil, [], false⟩
theorem M.message_rise_uint64.eq (a0 a1 a2 : Value) (w : World) (K : KV) : M.message_rise_uint64 a0 a1 a2 w K = den P M.message_rise_uint64.L M.message_rise_uint64.pl (Try.f159.body.getD .skip) (argE [a0, a1, a2]) w (bodyQ P Try.f159.results.toList K) := by kernel_rfl
theorem M.message_rise_uint64.ok : okFn M.message_rise_uint64.L M.message_rise_uint64.pl Try.f159 (Try.f159.body.getD .skip) 3 = true := by kernel_rfl
theorem M.message_rise_uint64.calls (a0 a1 a2 : Value) {w : World} {K : KV} (h : M.message_rise_uint64 a0 a1 a2 w K) : callT P F.message_rise_uint64 [a0, a1, a2] w K :=
  callT_of_den (by kernel_rfl) Try.func159 (by kernel_rfl) M.message_rise_uint64.ok (M.message_rise_uint64.eq a0 a1 a2 w K ▸ h)
theorem M.message_rise_uint64.fcall (args : List Value) (w : World) (K : KV) : fcallT P F.message_rise_uint64 args w K = callT P F.message_rise_uint64 args w K := fcallT_eq Try.func159 (by kernel_rfl) (by kernel_rfl) args w K

/-- winnow/message.right$3 -/
def M.message_right_3 (a0 : Value) (w : World) (K : KV) : Prop :=
  K a0 w
def M.message_right_3.L : List Nat := [0, 2]
def M.message_right_3.pl : Nat → Plan := fun id => ⟨.nil, [], false⟩
theorem M.message_right_3.eq (a0 : Value) (w : World) (K : KV) : M.message_right_3 a0 w K = den P M.message_right_3.L M.message_right_3.pl (Try.f160.body.getD .skip) (argE [a0]) w (bodyQ P Try.f160.results.toList K) := by kernel_rfl
theorem M.message_right_3.ok : okFn M.message_right_3.L M.message_right_3.pl Try.f160 (Try.f160.body.getD .skip) 1 = true := by kernel_rfl
theorem M.message_right_3.calls (a0 : Value) {w : World} {K : KV} (h : M.message_right_3 a0 w K) : callT P F.message_right_3 [a0] w K :=
  callT_of_den (by kernel_rfl) Try.func160 (by kernel_rfl) M.message_right_3.ok (M.message_right_3.eq a0 w K ▸ h)
theorem M.message_right_3.fcall (args : List Value) (w : World) (K : KV) : fcallT P F.message_right_3 args w K = callT P F.message_right_3 args w K := fcallT_eq Try.func160 (by kernel_rfl) (by kernel_rfl) args w K

def M.slices_Equal_api_Span_api_Span.j3 (a0 : Value) (x2 : List Value) (a1 : Value) (K2 : KL) (w : World) (K : KV) : Prop :=
  joinT (fun K4 =>
  drawT w fun w =>
  w = w ∧ w = w ∧ quietT (fun K' => iaT P T.sl_api_Span a0 (gv x2 2) w K') w fun t18 =>
  quietT (fun K' => ldT P T.api_Span t18 w K') w fun t19 =>
  w = w ∧ w = w ∧ quietT (fun K' => iaT P T.sl_api_Span a1 (gv x2 2) w K') w fun t22 =>
  quietT (fun K' => ldT P T.api_Span t22 w K') w fun t23 =>
  quietT (fun K' => binT P .neq T.api_Span (.tmp 19) (.tmp 23) t19 t23 w K') w fun t24 =>
  condT t24 (
  K (.bool false) w) (
  K4 [(gv x2 2), (gv x2 1)] w)) fun x4 w =>
  binT P .add T.int (.tmp 13) (.const (.int .i64 1)) (gv x2 2) (.int .i64 1) w fun t25 w =>
  K2 [(gv x4 0), (gv x4 1), t25] w
def M.slices_Equal_api_Span_api_Span.j0 (a0 : Value) (x0 : List Value) (a1 : Value) (w : World) (K : KV) : Prop :=
  joinT (fun K1 =>
  biT P .len #[T.sl_api_Span] T.int [false] [a0] w fun t12 w =>
  loopT [undef, (gv x0 0), (.int .i64 0)] w fun K2 x2 w =>
  binT P .lss T.int (.tmp 13) (.tmp 12) (gv x2 2) t12 w fun t14 w =>
  joinT (fun K3 =>
  condT t14 (
  K3 [] w) (
  K1 [t12, (gv x2 2), (gv x2 0), (gv x2 1)] w)) fun x3 w =>
  M.slices_Equal_api_Span_api_Span.j3 a0 x2 a1 K2 w K) fun x1 w =>
  K (.bool true) w
/-- slices.Equal[[]winnow/api.Span,winnow/api.Span] -/
def M.slices_Equal_api_Span_api_Span (a0 a1 : Value) (w : World) (K : KV) : Prop :=
  joinT (fun K0 =>
  biT P .len #[T.sl_api_Span] T.int [false] [a0] w fun t7 w =>
  biT P .len #[T.sl_api_Span] T.int [false] [a1] w fun t9 w =>
  binT P .neq T.int (.tmp 7) (.tmp 9) t7 t9 w fun t10 w =>
  condT t10 (
  K (.bool false) w) (
  K0 [(.bool false)] w)) fun x0 w =>
  M.slices_Equal_api_Span_api_Span.j0 a0 x0 a1 w K
def M.slices_Equal_api_Span_api_Span.L : List Nat := [0, 1, 4, 5, 13, 12]
def M.slices_Equal_api_Span_api_Span.pl : Nat → Plan := fun id => cond (Nat.beq id 6) ⟨(.go 0 (.go 1 (.go 2 (.go 3 (.go 4 (.go 5 (.go 6 (.go 7 (.go 8 .nil))))))))), [], false⟩ (⟨.nil, [], false⟩)
theorem M.slices_Equal_api_Span_api_Span.eq (a0 a1 : Value) (w : World) (K : KV) : M.slices_Equal_api_Span_api_Span a0 a1 w K = den P M.slices_Equal_api_Span_api_Span.L M.slices_Equal_api_Span_api_Span.pl (Try.f161.body.getD .skip) (argE [a0, a1]) w (bodyQ P Try.f161.results.toList K) := by kernel_rfl
theorem M.slices_Equal_api_Span_api_Span.ok : okFn M.slices_Equal_api_Span_api_Span.L M.slices_Equal_api_Span_api_Span.pl Try.f161 (Try.f161.body.getD .skip) 2 = true := by kernel_rfl
theorem M.slices_Equal_api_Span_api_Span.calls (a0 a1 : Value) {w : World} {K : KV} (h : M.slices_Equal_api_Span_api_Span a0 a1 w K) : callT P F.slices_Equal_api_Span_api_Span [a0, a1] w K :=
  callT_of_den (by kernel_rfl) Try.func161 (by kernel_rfl) M.slices_Equal_api_Span_api_Span.ok (M.slices_Equal_api_Span_api_Span.eq a0 a1 w K ▸ h)
theorem M.slices_Equal_api_Span_api_Span.fcall (args : List Value) (w : World) (K : KV) : fcallT P F.slices_Equal_api_Span_api_Span args w K = callT P F.slices_Equal_api_Span_api_Span args w K := fcallT_eq Try.func161 (by kernel_rfl) (by kernel_rfl) args w K

def M.slices_Equal_uint64_uint64.j3 (a0 : Value) (x2 : List Value) (a1 : Value) (K2 : KL) (w : World) (K : KV) : Prop :=
  joinT (fun K4 =>
  drawT w fun w =>
  w = w ∧ w = w ∧ quietT (fun K' => iaT P T.sl_uint64 a0 (gv x2 2) w K') w fun t18 =>
  quietT (fun K' => ldT P T.uint64 t18 w K') w fun t19 =>
  w = w ∧ w = w ∧ quietT (fun K' => iaT P T.sl_uint64 a1 (gv x2 2) w K') w fun t22 =>
  quietT (fun K' => ldT P T.uint64 t22 w K') w fun t23 =>
  quietT (fun K' => binT P .neq T.uint64 (.tmp 19) (.tmp 23) t19 t23 w K') w fun t24 =>
  condT t24 (
  K (.bool false) w) (
  K4 [(gv x2 2), (gv x2 1)] w)) fun x4 w =>
  binT P .add T.int (.tmp 13) (.const (.int .i64 1)) (gv x2 2) (.int .i64 1) w fun t25 w =>
  K2 [(gv x4 0), (gv x4 1), t25] w
def M.slices_Equal_uint64_uint64.j0 (a0 : Value) (x0 : List Value) (a1 : Value) (w : World) (K : KV) : Prop :=
  joinT (fun K1 =>
  biT P .len #[T.sl_uint64] T.int [false] [a0] w fun t12 w =>
  loopT [undef, (gv x0 0), (.int .i64 0)] w fun K2 x2 w =>
  binT P .lss T.int (.tmp 13) (.tmp 12) (gv x2 2) t12 w fun t14 w =>
  joinT (fun K3 =>
  condT t14 (
  K3 [] w) (
  K1 [t12, (gv x2 2), (gv x2 0), (gv x2 1)] w)) fun x3 w =>
  M.slices_Equal_uint64_uint64.j3 a0 x2 a1 K2 w K) fun x1 w =>
  K (.bool true) w
/-- slices.Equal[[]uint64,uint64] -/
def M.slices_Equal_uint64_uint64 (a0 a1 : Value) (w : World) (K : KV) : Prop :=
  joinT (fun K0 =>
  biT P .len #[T.sl_uint64] T.int [false] [a0] w fun t7 w =>
  biT P .len #[T.sl_uint64] T.int [false] [a1] w fun t9 w =>
  binT P .neq T.int (.tmp 7) (.tmp 9) t7 t9 w fun t10 w =>
  condT t10 (
  K (.bool false) w) (
  K0 [(.bool false)] w)) fun x0 w =>
  M.slices_Equal_uint64_uint64.j0 a0 x0 a1 w K
def M.slices_Equal_uint64_uint64.L : List Nat := [0, 1, 4, 5, 13, 12]
def M.slices_Equal_uint64_uint64.pl : Nat → Plan := fun id => cond (Nat.beq id 6) ⟨(.go 0 (.go 1 (.go 2 (.go 3 (.go 4 (.go 5 (.go 6 (.go 7 (.go 8 .nil))))))))), [], false⟩ (⟨.nil, [], false⟩)
theorem M.slices_Equal_uint64_uint64.eq (a0 a1 : Value) (w : World) (K : KV) : M.slices_Equal_uint64_uint64 a0 a1 w K = den P M.slices_Equal_uint64_uint64.L M.slices_Equal_uint64_uint64.pl (Try.f162.body.getD .skip) (argE [a0, a1]) w (bodyQ P Try.f162.results.toList K) := by kernel_rfl
theorem M.slices_Equal_uint64_uint64.ok : okFn M.slices_Equal_uint64_uint64.L M.slices_Equal_uint64_uint64.pl Try.f162 (Try.f162.body.getD .skip) 2 = true := by kernel_rfl
theorem M.slices_Equal_uint64_uint64.calls (a0 a1 : Value) {w : World} {K : KV} (h : M.slices_Equal_uint64_uint64 a0 a1 w K) : callT P F.slices_Equal_uint64_uint64 [a0, a1] w K :=
  callT_of_den (by kernel_rfl) Try.func162 (by kernel_rfl) M.slices_Equal_uint64_uint64.ok (M.slices_Equal_uint64_uint64.eq a0 a1 w K ▸ h)
theorem M.slices_Equal_uint64_uint64.fcall (args : List Value) (w : World) (K : KV) : fcallT P F.slices_Equal_uint64_uint64 args w K = callT P F.slices_Equal_uint64_uint64 args w K := fcallT_eq Try.func162 (by kernel_rfl) (by kernel_rfl) args w K

def M.slices_siftDownOrdered_int.j3 (a3 : Value) (x0 : List Value) (x2 : List Value) (a0 : Value) (K0 : KL) (w : World) (K : KV) : Prop :=
  drawT w fun w =>
  w = w ∧ w = w ∧ w = w ∧ quietT (fun K' => binT P .add T.int (.tmp 54) (.tmp 55) a3 (gv x0 1) w K') w fun t56 =>
  w = w ∧ w = w ∧ w = w ∧ quietT (fun K' => binT P .add T.int (.tmp 58) (.tmp 59) a3 (gv x2 0) w K') w fun t60 =>
  w = w ∧ w = w ∧ w = w ∧ quietT (fun K' => binT P .add T.int (.tmp 62) (.tmp 63) a3 (gv x2 0) w K') w fun t64 =>
  quietT (fun K' => iaT P T.sl_int a0 t64 w K') w fun t65 =>
  quietT (fun K' => ldT P T.int t65 w K') w fun t66 =>
  w = w ∧ w = w ∧ w = w ∧ quietT (fun K' => binT P .add T.int (.tmp 68) (.tmp 69) a3 (gv x0 1) w K') w fun t70 =>
  quietT (fun K' => iaT P T.sl_int a0 t70 w K') w fun t71 =>
  quietT (fun K' => ldT P T.int t71 w K') w fun t72 =>
  quietT (fun K' => iaT P T.sl_int a0 t56 w K') w fun t73 =>
  stT P T.int t73 t66 w fun _ w =>
  stabT (fun K' => binT P .add T.int (.tmp 58) (.tmp 59) a3 (gv x2 0) w K') w t60 ∧ stabT (fun K' => K' (gv x2 0) w) w (gv x2 0) ∧ stabT (fun K' => K' a3 w) w a3 ∧ stabT (fun K' => K' a0 w) w a0 ∧ quietT (fun K' => iaT P T.sl_int a0 t60 w K') w fun t74 =>
  stT P T.int t74 t72 w fun _ w =>
  K0 [(gv x2 0), (gv x2 0)] w
def M.slices_siftDownOrdered_int.j2 (a3 : Value) (x0 : List Value) (a0 : Value) (x2 : List Value) (K0 : KL) (w : World) (K : KV) : Prop :=
  joinT (fun K3 =>
  drawT w fun w =>
  w = w ∧ w = w ∧ w = w ∧ quietT (fun K' => binT P .add T.int (.tmp 40) (.tmp 41) a3 (gv x0 1) w K') w fun t42 =>
  quietT (fun K' => iaT P T.sl_int a0 t42 w K') w fun t43 =>
  quietT (fun K' => ldT P T.int t43 w K') w fun t44 =>
  w = w ∧ w = w ∧ w = w ∧ quietT (fun K' => binT P .add T.int (.tmp 46) (.tmp 47) a3 (gv x2 0) w K') w fun t48 =>
  quietT (fun K' => iaT P T.sl_int a0 t48 w K') w fun t49 =>
  quietT (fun K' => ldT P T.int t49 w K') w fun t50 =>
  fcallT P F.cmp_Less_int [t44, t50] w fun t51 w =>
  quietT (fun K' => unT P .not t51 w K') w fun t52 =>
  condT t52 (
  K (.tuple #[]) w) (
  K3 [] w)) fun x3 w =>
  M.slices_siftDownOrdered_int.j3 a3 x0 x2 a0 K0 w K
def M.slices_siftDownOrdered_int.j1 (t13 : Value) (a2 : Value) (a0 : Value) (a3 : Value) (x0 : List Value) (K0 : KL) (w : World) (K : KV) : Prop :=
  joinT (fun K2 =>
  drawT w fun w =>
  w = w ∧ quietT (fun K' => binT P .add T.int (.tmp 17) (.const (.int .i64 1)) t13 (.int .i64 1) w K') w fun t18 =>
  w = w ∧ quietT (fun K' => binT P .lss T.int (.tmp 18) (.tmp 19) t18 a2 w K') w fun t20 =>
  w = w ∧ quietT (fun K' => guardT (isB t20 true) (fun K' => K' a0 w) w K') w fun t22 =>
  quietT (fun K' => guardT (isB t20 true) (fun K' => K' a3 w) w K') w fun t23 =>
  quietT (fun K' => guardT (isB t20 true) (fun K' => K' t13 w) w K') w fun t24 =>
  quietT (fun K' => guardT (isB t20 true) (fun K' => binT P .add T.int (.tmp 23) (.tmp 24) t23 t24 w K') w K') w fun t25 =>
  quietT (fun K' => guardT (isB t20 true) (fun K' => iaT P T.sl_int t22 t25 w K') w K') w fun t26 =>
  quietT (fun K' => guardT (isB t20 true) (fun K' => ldT P T.int t26 w K') w K') w fun t27 =>
  quietT (fun K' => guardT (isB t20 true) (fun K' => K' a0 w) w K') w fun t28 =>
  quietT (fun K' => guardT (isB t20 true) (fun K' => K' a3 w) w K') w fun t29 =>
  quietT (fun K' => guardT (isB t20 true) (fun K' => K' t13 w) w K') w fun t30 =>
  quietT (fun K' => guardT (isB t20 true) (fun K' => binT P .add T.int (.tmp 29) (.tmp 30) t29 t30 w K') w K') w fun t31 =>
  quietT (fun K' => guardT (isB t20 true) (fun K' => binT P .add T.int (.tmp 31) (.const (.int .i64 1)) t31 (.int .i64 1) w K') w K') w fun t32 =>
  quietT (fun K' => guardT (isB t20 true) (fun K' => iaT P T.sl_int t28 t32 w K') w K') w fun t33 =>
  quietT (fun K' => guardT (isB t20 true) (fun K' => ldT P T.int t33 w K') w K') w fun t34 =>
  guardT (isB t20 true) (fun K' => fcallT P F.cmp_Less_int [t27, t34] w K') w fun t35 w =>
  quietT (fun K' => pickT t20 t35 (.bool false) w K') w fun t36 =>
  condT t36 (
  binT P .add T.int (.tmp 37) (.const (.int .i64 1)) t13 (.int .i64 1) w fun t38 w =>
  K2 [t38] w) (
  K2 [t13] w)) fun x2 w =>
  M.slices_siftDownOrdered_int.j2 a3 x0 a0 x2 K0 w K
def M.slices_siftDownOrdered_int.j0 (x0 : List Value) (a2 : Value) (a0 : Value) (a3 : Value) (K0 : KL) (w : World) (K : KV) : Prop :=
  binT P .mul T.int (.const (.int .i64 2)) (.tmp 11) (.int .i64 2) (gv x0 1) w fun t12 w =>
  binT P .add T.int (.tmp 12) (.const (.int .i64 1)) t12 (.int .i64 1) w fun t13 w =>
  joinT (fun K1 =>
  binT P .geq T.int (.tmp 14) (.tmp 15) t13 a2 w fun t16 w =>
  condT t16 (
  K (.tuple #[]) w) (
  K1 [] w)) fun x1 w =>
  M.slices_siftDownOrdered_int.j1 t13 a2 a0 a3 x0 K0 w K
/-- slices.siftDownOrdered[int] -/
def M.slices_siftDownOrdered_int (a0 a1 a2 a3 : Value) (w : World) (K : KV) : Prop :=
  loopT [undef, a1] w fun K0 x0 w =>
  M.slices_siftDownOrdered_int.j0 x0 a2 a0 a3 K0 w K
def M.slices_siftDownOrdered_int.L : List Nat := [0, 1, 2, 3, 8, 9]
def M.slices_siftDownOrdered_int.pl : Nat → Plan := fun id => cond (Nat.beq id 3) ⟨(.go 0 (.go 1 (.go 2 (.go 3 (.go 4 (.go 5 (.go 6 (.go 7 (.go 8 (.go 9 (.go 10 (.go 11 (.go 12 (.go 13 (.go 14 (.go 15 (.go 16 (.go 17 (.eff 18 (.go 19 .nil) .stop))))))))))))))))))), [18], false⟩ (cond (Nat.beq id 5) ⟨(.go 0 (.go 1 (.go 2 (.go 3 (.go 4 (.go 5 (.go 6 (.go 7 (.go 8 (.go 9 (.go 10 (.go 11 (.eff 12 (.go 13 .nil) .stop))))))))))))), [12], false⟩ (cond (Nat.beq id 6) ⟨(.go 0 (.go 1 (.go 2 (.go 3 (.go 4 (.go 5 (.go 6 (.go 7 (.go 8 (.go 9 (.go 10 (.go 11 (.go 12 (.go 13 (.go 14 (.go 15 (.go 16 (.go 17 (.go 18 (.go 19 (.go 20 (.eff 21 (.go 22 (.eff 23 .nil .stop)) .stop)))))))))))))))))))))), [21, 23], false⟩ (⟨.nil, [], false⟩)))
theorem M.slices_siftDownOrdered_int.eq (a0 a1 a2 a3 : Value) (w : World) (K : KV) : M.slices_siftDownOrdered_int a0 a1 a2 a3 w K = den P M.slices_siftDownOrdered_int.L M.slices_siftDownOrdered_int.pl (Try.f163.body.getD .skip) (argE [a0, a1, a2, a3]) w (bodyQ P Try.f163.results.toList K) := by kernel_rfl
theorem M.slices_siftDownOrdered_int.ok : okFn M.slices_siftDownOrdered_int.L M.slices_siftDownOrdered_int.pl Try.f163 (Try.f163.body.getD .skip) 4 = true := by kernel_rfl
theorem M.slices_siftDownOrdered_int.calls (a0 a1 a2 a3 : Value) {w : World} {K : KV} (h : M.slices_siftDownOrdered_int a0 a1 a2 a3 w K) : callT P F.slices_siftDownOrdered_int [a0, a1, a2, a3] w K :=
  callT_of_den (by kernel_rfl) Try.func163 (by kernel_rfl) M.slices_siftDownOrdered_int.ok (M.slices_siftDownOrdered_int.eq a0 a1 a2 a3 w K ▸ h)
theorem M.slices_siftDownOrdered_int.fcall (args : List Value) (w : World) (K : KV) : fcallT P F.slices_siftDownOrdered_int args w K = callT P F.slices_siftDownOrdered_int args w K := fcallT_eq Try.func163 (by kernel_rfl) (by kernel_rfl) args w K

/-- slices.nextPowerOfTwo -/
def M.slices_nextPowerOfTwo (a0 : Value) (w : World) (K : KV) : Prop :=
  cvT P T.int T.uint a0 w fun t4 w =>
  fcallT P F.math_bits_Len [t4] w fun t5 w =>
  binT P .shl T.uint (.const (.int .u64 1)) (.tmp 5) (.int .u64 1) t5 w fun t6 w =>
  K t6 w
def M.slices_nextPowerOfTwo.L : List Nat := [0, 2]
def M.slices_nextPowerOfTwo.pl : Nat → Plan := fun id => ⟨.nil, [], false⟩
theorem M.slices_nextPowerOfTwo.eq (a0 : Value) (w : World) (K : KV) : M.slices_nextPowerOfTwo a0 w K = den P M.slices_nextPowerOfTwo.L M.slices_nextPowerOfTwo.pl (Try.f164.body.getD .skip) (argE [a0]) w (bodyQ P Try.f164.results.toList K) := by kernel_rfl
theorem M.slices_nextPowerOfTwo.ok : okFn M.slices_nextPowerOfTwo.L M.slices_nextPowerOfTwo.pl Try.f164 (Try.f164.body.getD .skip) 1 = true := by kernel_rfl
theorem M.slices_nextPowerOfTwo.calls (a0 : Value) {w : World} {K : KV} (h : M.slices_nextPowerOfTwo a0 w K) : callT P F.slices_nextPowerOfTwo [a0] w K :=
  callT_of_den (by kernel_rfl) Try.func164 (by kernel_rfl) M.slices_nextPowerOfTwo.ok (M.slices_nextPowerOfTwo.eq a0 w K ▸ h)
theorem M.slices_nextPowerOfTwo.fcall (args : List Value) (w : World) (K : KV) : fcallT P F.slices_nextPowerOfTwo args w K = callT P F.slices_nextPowerOfTwo args w K := fcallT_eq Try.func164 (by kernel_rfl) (by kernel_rfl) args w K

/-- (*slices.xorshift).Next -/
def M.pslices_xorshift_Next (a0 : Value) (w : World) (K : KV) : Prop :=
  drawT w fun w =>
  w = w ∧ quietT (fun K' => nilT a0 w K') w fun t4 =>
  quietT (fun K' => ldT P T.slices_xorshift t4 w K') w fun t5 =>
  w = w ∧ quietT (fun K' => nilT a0 w K') w fun t7 =>
  quietT (fun K' => ldT P T.slices_xorshift t7 w K') w fun t8 =>
  quietT (fun K' => binT P .shl T.slices_xorshift (.tmp 8) (.const (.int .u64 13)) t8 (.int .u64 13) w K') w fun t9 =>
  quietT (fun K' => binT P .xor T.slices_xorshift (.tmp 5) (.tmp 9) t5 t9 w K') w fun t10 =>
  quietT (fun K' => nilT a0 w K') w fun t11 =>
  stT P T.slices_xorshift t11 t10 w fun _ w =>
  drawT w fun w =>
  w = w ∧ quietT (fun K' => nilT a0 w K') w fun t13 =>
  quietT (fun K' => ldT P T.slices_xorshift t13 w K') w fun t14 =>
  w = w ∧ quietT (fun K' => nilT a0 w K') w fun t16 =>
  quietT (fun K' => ldT P T.slices_xorshift t16 w K') w fun t17 =>
  quietT (fun K' => binT P .shr T.slices_xorshift (.tmp 17) (.const (.int .u64 7)) t17 (.int .u64 7) w K') w fun t18 =>
  quietT (fun K' => binT P .xor T.slices_xorshift (.tmp 14) (.tmp 18) t14 t18 w K') w fun t19 =>
  quietT (fun K' => nilT a0 w K') w fun t20 =>
  stT P T.slices_xorshift t20 t19 w fun _ w =>
  drawT w fun w =>
  w = w ∧ quietT (fun K' => nilT a0 w K') w fun t22 =>
  quietT (fun K' => ldT P T.slices_xorshift t22 w K') w fun t23 =>
  w = w ∧ quietT (fun K' => nilT a0 w K') w fun t25 =>
  quietT (fun K' => ldT P T.slices_xorshift t25 w K') w fun t26 =>
  quietT (fun K' => binT P .shl T.slices_xorshift (.tmp 26) (.const (.int .u64 17)) t26 (.int .u64 17) w K') w fun t27 =>
  quietT (fun K' => binT P .xor T.slices_xorshift (.tmp 23) (.tmp 27) t23 t27 w K') w fun t28 =>
  quietT (fun K' => nilT a0 w K') w fun t29 =>
  stT P T.slices_xorshift t29 t28 w fun _ w =>
  nilT a0 w fun t31 w =>
  ldT P T.slices_xorshift t31 w fun t32 w =>
  K t32 w
def M.pslices_xorshift_Next.L : List Nat := [0, 2]
def M.pslices_xorshift_Next.pl : Nat → Plan := fun id => cond (Nat.beq id 1) ⟨(.go 0 (.go 1 (.go 2 (.go 3 (.go 4 (.go 5 (.go 6 (.go 7 (.go 8 (.eff 9 .nil .stop)))))))))), [9], false⟩ (cond (Nat.beq id 2) ⟨(.go 0 (.go 1 (.go 2 (.go 3 (.go 4 (.go 5 (.go 6 (.go 7 (.go 8 (.eff 9 .nil .stop)))))))))), [9], false⟩ (cond (Nat.beq id 3) ⟨(.go 0 (.go 1 (.go 2 (.go 3 (.go 4 (.go 5 (.go 6 (.go 7 (.go 8 (.eff 9 .nil .stop)))))))))), [9], false⟩ (⟨.nil, [], false⟩)))
theorem M.pslices_xorshift_Next.eq (a0 : Value) (w : World) (K : KV) : M.pslices_xorshift_Next a0 w K = den P M.pslices_xorshift_Next.L M.pslices_xorshift_Next.pl (Try.f165.body.getD .skip) (argE [a0]) w (bodyQ P Try.f165.results.toList K) := by kernel_rfl
theorem M.pslices_xorshift_Next.ok : okFn M.pslices_xorshift_Next.L M.pslices_xorshift_Next.pl Try.f165 (Try.f165.body.getD .skip) 1 = true := by kernel_rfl
theorem M.pslices_xorshift_Next.calls (a0 : Value) {w : World} {K : KV} (h : M.pslices_xorshift_Next a0 w K) : callT P F.pslices_xorshift_Next [a0] w K :=
  callT_of_den (by kernel_rfl) Try.func165 (by kernel_rfl) M.pslices_xorshift_Next.ok (M.pslices_xorshift_Next.eq a0 w K ▸ h)
theorem M.pslices_xorshift_Next.fcall (args : List Value) (w : World) (K : KV) : fcallT P F.pslices_xorshift_Next args w K = callT P F.pslices_xorshift_Next args w K := fcallT_eq Try.func165 (by kernel_rfl) (by kernel_rfl) args w K

end Go.Proofs.Ytgcpljghnlohbaa
