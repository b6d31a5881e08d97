/-
  Printed by wip/Shallow.lean: functions of the program, read shallow; each is what its code does. No condition.
-/
import Derived.Test.YtkjhekflgghbdaaN
set_option maxRecDepth 1000000
namespace Go.Proofs.Ytkjhekflgghbdaa
open Go.Eng

def M.slices_partitionOrdered_uint64.j1 (x1 : List Value) (t29 : Value) (a0 : Value) (a1 : Value) (K0 : KL) (K1 : KL) (w : World) (K : KV) : Prop :=
  joinT (fun K2 =>
  drawT w fun w =>
  w = w ∧ w = w ∧ quietT (fun K' => binT P .leq T.int (.tmp 30) (.tmp 31) (gv x1 0) t29 w K') w fun t32 =>
  w = w ∧ quietT (fun K' => guardT (isB t32 true) (fun K' => K' a0 w) w K') w fun t34 =>
  quietT (fun K' => guardT (isB t32 true) (fun K' => K' (gv x1 0) w) w K') w fun t35 =>
  quietT (fun K' => guardT (isB t32 true) (fun K' => iaT P T.sl_uint64 t34 t35 w K') w K') w fun t36 =>
  quietT (fun K' => guardT (isB t32 true) (fun K' => ldT P T.uint64 t36 w K') w K') w fun t37 =>
  quietT (fun K' => guardT (isB t32 true) (fun K' => K' a0 w) w K') w fun t38 =>
  quietT (fun K' => guardT (isB t32 true) (fun K' => K' a1 w) w K') w fun t39 =>
  quietT (fun K' => guardT (isB t32 true) (fun K' => iaT P T.sl_uint64 t38 t39 w K') w K') w fun t40 =>
  quietT (fun K' => guardT (isB t32 true) (fun K' => ldT P T.uint64 t40 w K') w K') w fun t41 =>
  guardT (isB t32 true) (fun K' => fcallT P F.cmp_Less_uint64 [t37, t41] w K') w fun t42 w =>
  quietT (fun K' => pickT t32 t42 (.bool false) w K') w fun t43 =>
  condT t43 (
  K2 [] w) (
  K0 [(gv x1 0)] w)) fun x2 w =>
  binT P .add T.int (.tmp 44) (.const (.int .i64 1)) (gv x1 0) (.int .i64 1) w fun t45 w =>
  K1 [t45] w
def M.slices_partitionOrdered_uint64.j4 (x0 : List Value) (x4 : List Value) (a0 : Value) (a1 : Value) (K3 : KL) (K4 : KL) (w : World) (K : KV) : Prop :=
  joinT (fun K5 =>
  drawT w fun w =>
  w = w ∧ w = w ∧ quietT (fun K' => binT P .leq T.int (.tmp 46) (.tmp 47) (gv x0 0) (gv x4 0) w K') w fun t48 =>
  w = w ∧ quietT (fun K' => guardT (isB t48 true) (fun K' => K' a0 w) w K') w fun t50 =>
  quietT (fun K' => guardT (isB t48 true) (fun K' => K' (gv x4 0) w) w K') w fun t51 =>
  quietT (fun K' => guardT (isB t48 true) (fun K' => iaT P T.sl_uint64 t50 t51 w K') w K') w fun t52 =>
  quietT (fun K' => guardT (isB t48 true) (fun K' => ldT P T.uint64 t52 w K') w K') w fun t53 =>
  quietT (fun K' => guardT (isB t48 true) (fun K' => K' a0 w) w K') w fun t54 =>
  quietT (fun K' => guardT (isB t48 true) (fun K' => K' a1 w) w K') w fun t55 =>
  quietT (fun K' => guardT (isB t48 true) (fun K' => iaT P T.sl_uint64 t54 t55 w K') w K') w fun t56 =>
  quietT (fun K' => guardT (isB t48 true) (fun K' => ldT P T.uint64 t56 w K') w K') w fun t57 =>
  guardT (isB t48 true) (fun K' => fcallT P F.cmp_Less_uint64 [t53, t57] w K') w fun t58 w =>
  quietT (fun K' => guardT (isB t48 true) (fun K' => unT P .not t58 w K') w K') w fun t59 =>
  quietT (fun K' => pickT t48 t59 (.bool false) w K') w fun t60 =>
  condT t60 (
  K5 [] w) (
  K3 [(gv x4 0)] w)) fun x5 w =>
  binT P .sub T.int (.tmp 61) (.const (.int .i64 1)) (gv x4 0) (.int .i64 1) w fun t62 w =>
  K4 [t62] w
def M.slices_partitionOrdered_uint64.j10 (x10 : List Value) (x8 : List Value) (a0 : Value) (a1 : Value) (K9 : KL) (K10 : KL) (w : World) (K : KV) : Prop :=
  joinT (fun K11 =>
  drawT w fun w =>
  w = w ∧ w = w ∧ quietT (fun K' => binT P .leq T.int (.tmp 99) (.tmp 100) (gv x10 0) (gv x8 1) w K') w fun t101 =>
  w = w ∧ quietT (fun K' => guardT (isB t101 true) (fun K' => K' a0 w) w K') w fun t103 =>
  quietT (fun K' => guardT (isB t101 true) (fun K' => K' (gv x10 0) w) w K') w fun t104 =>
  quietT (fun K' => guardT (isB t101 true) (fun K' => iaT P T.sl_uint64 t103 t104 w K') w K') w fun t105 =>
  quietT (fun K' => guardT (isB t101 true) (fun K' => ldT P T.uint64 t105 w K') w K') w fun t106 =>
  quietT (fun K' => guardT (isB t101 true) (fun K' => K' a0 w) w K') w fun t107 =>
  quietT (fun K' => guardT (isB t101 true) (fun K' => K' a1 w) w K') w fun t108 =>
  quietT (fun K' => guardT (isB t101 true) (fun K' => iaT P T.sl_uint64 t107 t108 w K') w K') w fun t109 =>
  quietT (fun K' => guardT (isB t101 true) (fun K' => ldT P T.uint64 t109 w K') w K') w fun t110 =>
  guardT (isB t101 true) (fun K' => fcallT P F.cmp_Less_uint64 [t106, t110] w K') w fun t111 w =>
  quietT (fun K' => pickT t101 t111 (.bool false) w K') w fun t112 =>
  condT t112 (
  K11 [] w) (
  K9 [(gv x10 0)] w)) fun x11 w =>
  binT P .add T.int (.tmp 113) (.const (.int .i64 1)) (gv x10 0) (.int .i64 1) w fun t114 w =>
  K10 [t114] w
def M.slices_partitionOrdered_uint64.j13 (x9 : List Value) (x13 : List Value) (a0 : Value) (a1 : Value) (K12 : KL) (K13 : KL) (w : World) (K : KV) : Prop :=
  joinT (fun K14 =>
  drawT w fun w =>
  w = w ∧ w = w ∧ quietT (fun K' => binT P .leq T.int (.tmp 115) (.tmp 116) (gv x9 0) (gv x13 0) w K') w fun t117 =>
  w = w ∧ quietT (fun K' => guardT (isB t117 true) (fun K' => K' a0 w) w K') w fun t119 =>
  quietT (fun K' => guardT (isB t117 true) (fun K' => K' (gv x13 0) w) w K') w fun t120 =>
  quietT (fun K' => guardT (isB t117 true) (fun K' => iaT P T.sl_uint64 t119 t120 w K') w K') w fun t121 =>
  quietT (fun K' => guardT (isB t117 true) (fun K' => ldT P T.uint64 t121 w K') w K') w fun t122 =>
  quietT (fun K' => guardT (isB t117 true) (fun K' => K' a0 w) w K') w fun t123 =>
  quietT (fun K' => guardT (isB t117 true) (fun K' => K' a1 w) w K') w fun t124 =>
  quietT (fun K' => guardT (isB t117 true) (fun K' => iaT P T.sl_uint64 t123 t124 w K') w K') w fun t125 =>
  quietT (fun K' => guardT (isB t117 true) (fun K' => ldT P T.uint64 t125 w K') w K') w fun t126 =>
  guardT (isB t117 true) (fun K' => fcallT P F.cmp_Less_uint64 [t122, t126] w K') w fun t127 w =>
  quietT (fun K' => guardT (isB t117 true) (fun K' => unT P .not t127 w K') w K') w fun t128 =>
  quietT (fun K' => pickT t117 t128 (.bool false) w K') w fun t129 =>
  condT t129 (
  K14 [] w) (
  K12 [(gv x13 0)] w)) fun x14 w =>
  binT P .sub T.int (.tmp 130) (.const (.int .i64 1)) (gv x13 0) (.int .i64 1) w fun t131 w =>
  K13 [t131] w
def M.slices_partitionOrdered_uint64.j15 (a0 : Value) (x12 : List Value) (x9 : List Value) (K8 : KL) (w : World) (K : KV) : Prop :=
  drawT w fun w =>
  w = w ∧ w = w ∧ w = w ∧ w = w ∧ w = w ∧ w = w ∧ quietT (fun K' => iaT P T.sl_uint64 a0 (gv x12 0) w K') w fun t141 =>
  quietT (fun K' => ldT P T.uint64 t141 w K') w fun t142 =>
  w = w ∧ w = w ∧ quietT (fun K' => iaT P T.sl_uint64 a0 (gv x9 0) w K') w fun t145 =>
  quietT (fun K' => ldT P T.uint64 t145 w K') w fun t146 =>
  quietT (fun K' => iaT P T.sl_uint64 a0 (gv x9 0) w K') w fun t147 =>
  stT P T.uint64 t147 t142 w fun _ w =>
  stabT (fun K' => K' (gv x12 0) w) w (gv x12 0) ∧ stabT (fun K' => K' a0 w) w a0 ∧ quietT (fun K' => iaT P T.sl_uint64 a0 (gv x12 0) w K') w fun t148 =>
  stT P T.uint64 t148 t146 w fun _ w =>
  binT P .add T.int (.tmp 149) (.const (.int .i64 1)) (gv x9 0) (.int .i64 1) w fun t150 w =>
  binT P .sub T.int (.tmp 151) (.const (.int .i64 1)) (gv x12 0) (.int .i64 1) w fun t152 w =>
  K8 [t150, t152] w
def M.slices_partitionOrdered_uint64.j9 (x8 : List Value) (x9 : List Value) (a0 : Value) (a1 : Value) (K7 : KL) (K8 : KL) (w : World) (K : KV) : Prop :=
  joinT (fun K12 =>
  loopT [(gv x8 1)] w fun K13 x13 w =>
  M.slices_partitionOrdered_uint64.j13 x9 x13 a0 a1 K12 K13 w K) fun x12 w =>
  joinT (fun K15 =>
  binT P .gtr T.int (.tmp 132) (.tmp 133) (gv x9 0) (gv x12 0) w fun t134 w =>
  condT t134 (
  K7 [(gv x9 0), (gv x12 0)] w) (
  K15 [] w)) fun x15 w =>
  M.slices_partitionOrdered_uint64.j15 a0 x12 x9 K8 w K
def M.slices_partitionOrdered_uint64.j7 (a0 : Value) (a1 : Value) (x7 : List Value) (w : World) (K : KV) : Prop :=
  drawT w fun w =>
  w = w ∧ w = w ∧ w = w ∧ w = w ∧ w = w ∧ w = w ∧ quietT (fun K' => iaT P T.sl_uint64 a0 a1 w K') w fun t159 =>
  quietT (fun K' => ldT P T.uint64 t159 w K') w fun t160 =>
  w = w ∧ w = w ∧ quietT (fun K' => iaT P T.sl_uint64 a0 (gv x7 1) w K') w fun t163 =>
  quietT (fun K' => ldT P T.uint64 t163 w K') w fun t164 =>
  quietT (fun K' => iaT P T.sl_uint64 a0 (gv x7 1) w K') w fun t165 =>
  stT P T.uint64 t165 t160 w fun _ w =>
  stabT (fun K' => K' a1 w) w a1 ∧ stabT (fun K' => K' a0 w) w a0 ∧ quietT (fun K' => iaT P T.sl_uint64 a0 a1 w K') w fun t166 =>
  stT P T.uint64 t166 t164 w fun _ w =>
  K (.tuple #[(gv x7 1), (.bool false)]) w
def M.slices_partitionOrdered_uint64.j6 (a0 : Value) (x3 : List Value) (x0 : List Value) (a1 : Value) (w : World) (K : KV) : Prop :=
  drawT w fun w =>
  w = w ∧ w = w ∧ w = w ∧ w = w ∧ w = w ∧ w = w ∧ quietT (fun K' => iaT P T.sl_uint64 a0 (gv x3 0) w K') w fun t87 =>
  quietT (fun K' => ldT P T.uint64 t87 w K') w fun t88 =>
  w = w ∧ w = w ∧ quietT (fun K' => iaT P T.sl_uint64 a0 (gv x0 0) w K') w fun t91 =>
  quietT (fun K' => ldT P T.uint64 t91 w K') w fun t92 =>
  quietT (fun K' => iaT P T.sl_uint64 a0 (gv x0 0) w K') w fun t93 =>
  stT P T.uint64 t93 t88 w fun _ w =>
  stabT (fun K' => K' (gv x3 0) w) w (gv x3 0) ∧ stabT (fun K' => K' a0 w) w a0 ∧ quietT (fun K' => iaT P T.sl_uint64 a0 (gv x3 0) w K') w fun t94 =>
  stT P T.uint64 t94 t92 w fun _ w =>
  binT P .add T.int (.tmp 95) (.const (.int .i64 1)) (gv x0 0) (.int .i64 1) w fun t96 w =>
  binT P .sub T.int (.tmp 97) (.const (.int .i64 1)) (gv x3 0) (.int .i64 1) w fun t98 w =>
  joinT (fun K7 =>
  loopT [t96, t98] w fun K8 x8 w =>
  joinT (fun K9 =>
  loopT [(gv x8 0)] w fun K10 x10 w =>
  M.slices_partitionOrdered_uint64.j10 x10 x8 a0 a1 K9 K10 w K) fun x9 w =>
  M.slices_partitionOrdered_uint64.j9 x8 x9 a0 a1 K7 K8 w K) fun x7 w =>
  M.slices_partitionOrdered_uint64.j7 a0 a1 x7 w K
def M.slices_partitionOrdered_uint64.j3 (x0 : List Value) (x3 : List Value) (a0 : Value) (a1 : Value) (w : World) (K : KV) : Prop :=
  joinT (fun K6 =>
  binT P .gtr T.int (.tmp 63) (.tmp 64) (gv x0 0) (gv x3 0) w fun t65 w =>
  condT t65 (
  drawT w fun w =>
  w = w ∧ w = w ∧ w = w ∧ w = w ∧ w = w ∧ w = w ∧ quietT (fun K' => iaT P T.sl_uint64 a0 a1 w K') w fun t72 =>
  quietT (fun K' => ldT P T.uint64 t72 w K') w fun t73 =>
  w = w ∧ w = w ∧ quietT (fun K' => iaT P T.sl_uint64 a0 (gv x3 0) w K') w fun t76 =>
  quietT (fun K' => ldT P T.uint64 t76 w K') w fun t77 =>
  quietT (fun K' => iaT P T.sl_uint64 a0 (gv x3 0) w K') w fun t78 =>
  stT P T.uint64 t78 t73 w fun _ w =>
  stabT (fun K' => K' a1 w) w a1 ∧ stabT (fun K' => K' a0 w) w a0 ∧ quietT (fun K' => iaT P T.sl_uint64 a0 a1 w K') w fun t79 =>
  stT P T.uint64 t79 t77 w fun _ w =>
  K (.tuple #[(gv x3 0), (.bool true)]) w) (
  K6 [(.int .i64 0), (.bool false)] w)) fun x6 w =>
  M.slices_partitionOrdered_uint64.j6 a0 x3 x0 a1 w K
/-- slices.partitionOrdered[uint64] -/
def M.slices_partitionOrdered_uint64 (a0 a1 a2 a3 : Value) (w : World) (K : KV) : Prop :=
  drawT w fun w =>
  w = w ∧ w = w ∧ w = w ∧ w = w ∧ w = w ∧ w = w ∧ quietT (fun K' => iaT P T.sl_uint64 a0 a3 w K') w fun t18 =>
  quietT (fun K' => ldT P T.uint64 t18 w K') w fun t19 =>
  w = w ∧ w = w ∧ quietT (fun K' => iaT P T.sl_uint64 a0 a1 w K') w fun t22 =>
  quietT (fun K' => ldT P T.uint64 t22 w K') w fun t23 =>
  quietT (fun K' => iaT P T.sl_uint64 a0 a1 w K') w fun t24 =>
  stT P T.uint64 t24 t19 w fun _ w =>
  stabT (fun K' => K' a3 w) w a3 ∧ stabT (fun K' => K' a0 w) w a0 ∧ quietT (fun K' => iaT P T.sl_uint64 a0 a3 w K') w fun t25 =>
  stT P T.uint64 t25 t23 w fun _ w =>
  binT P .add T.int (.tmp 26) (.const (.int .i64 1)) a1 (.int .i64 1) w fun t27 w =>
  binT P .sub T.int (.tmp 28) (.const (.int .i64 1)) a2 (.int .i64 1) w fun t29 w =>
  joinT (fun K0 =>
  loopT [t27] w fun K1 x1 w =>
  M.slices_partitionOrdered_uint64.j1 x1 t29 a0 a1 K0 K1 w K) fun x0 w =>
  joinT (fun K3 =>
  loopT [t29] w fun K4 x4 w =>
  M.slices_partitionOrdered_uint64.j4 x0 x4 a0 a1 K3 K4 w K) fun x3 w =>
  M.slices_partitionOrdered_uint64.j3 x0 x3 a0 a1 w K
def M.slices_partitionOrdered_uint64.L : List Nat := [0, 1, 2, 3, 8, 9, 10, 11]
def M.slices_partitionOrdered_uint64.pl : Nat → Plan := fun id => cond (Nat.beq id 1) ⟨(.go 0 (.go 1 (.go 2 (.go 3 (.go 4 (.go 5 (.go 6 (.go 7 (.go 8 (.go 9 (.go 10 (.go 11 (.go 12 (.eff 13 (.go 14 (.eff 15 .nil .stop)) .stop)))))))))))))), [13, 15], false, [0, 0, 0, 0, 0, 0, 48, 112, 0, 0, 768, 1792, 4083, 8179, 16383, 32767]⟩ (cond (Nat.beq id 3) ⟨(.go 0 (.go 1 (.go 2 (.go 3 (.go 4 (.go 5 (.go 6 (.go 7 (.go 8 (.go 9 (.go 10 (.go 11 (.eff 12 (.go 13 .nil) .stop))))))))))))), [12], false, [0, 0, 3, 7, 15, 15, 63, 127, 15, 15, 783, 1807, 4095, 8191]⟩ (cond (Nat.beq id 5) ⟨(.go 0 (.go 1 (.go 2 (.go 3 (.go 4 (.go 5 (.go 6 (.go 7 (.go 8 (.go 9 (.go 10 (.go 11 (.eff 12 (.go 13 (.go 14 .nil)) .stop))))))))))))), [12], false, [0, 0, 3, 7, 15, 15, 63, 127, 15, 15, 783, 1807, 4095, 8191, 16383]⟩ (cond (Nat.beq id 8) ⟨(.go 0 (.go 1 (.go 2 (.go 3 (.go 4 (.go 5 (.go 6 (.go 7 (.go 8 (.go 9 (.go 10 (.go 11 (.go 12 (.eff 13 (.go 14 (.eff 15 .nil .stop)) .stop)))))))))))))), [13, 15], false, [0, 0, 0, 0, 0, 0, 48, 112, 0, 0, 768, 1792, 4083, 8179, 16383, 32767]⟩ (cond (Nat.beq id 10) ⟨(.go 0 (.go 1 (.go 2 (.go 3 (.go 4 (.go 5 (.go 6 (.go 7 (.go 8 (.go 9 (.go 10 (.go 11 (.go 12 (.eff 13 (.go 14 (.eff 15 .nil .stop)) .stop)))))))))))))), [13, 15], false, [0, 0, 0, 0, 0, 0, 48, 112, 0, 0, 768, 1792, 4083, 8179, 16383, 32767]⟩ (cond (Nat.beq id 13) ⟨(.go 0 (.go 1 (.go 2 (.go 3 (.go 4 (.go 5 (.go 6 (.go 7 (.go 8 (.go 9 (.go 10 (.go 11 (.eff 12 (.go 13 .nil) .stop))))))))))))), [12], false, [0, 0, 3, 7, 15, 15, 63, 127, 15, 15, 783, 1807, 4095, 8191]⟩ (cond (Nat.beq id 15) ⟨(.go 0 (.go 1 (.go 2 (.go 3 (.go 4 (.go 5 (.go 6 (.go 7 (.go 8 (.go 9 (.go 10 (.go 11 (.eff 12 (.go 13 (.go 14 .nil)) .stop))))))))))))), [12], false, [0, 0, 3, 7, 15, 15, 63, 127, 15, 15, 783, 1807, 4095, 8191, 16383]⟩ (cond (Nat.beq id 18) ⟨(.go 0 (.go 1 (.go 2 (.go 3 (.go 4 (.go 5 (.go 6 (.go 7 (.go 8 (.go 9 (.go 10 (.go 11 (.go 12 (.eff 13 (.go 14 (.eff 15 .nil .stop)) .stop)))))))))))))), [13, 15], false, [0, 0, 0, 0, 0, 0, 48, 112, 0, 0, 768, 1792, 4083, 8179, 16383, 32767]⟩ (cond (Nat.beq id 21) ⟨(.go 0 (.go 1 (.go 2 (.go 3 (.go 4 (.go 5 (.go 6 (.go 7 (.go 8 (.go 9 (.go 10 (.go 11 (.go 12 (.eff 13 (.go 14 (.eff 15 .nil .stop)) .stop)))))))))))))), [13, 15], false, [0, 0, 0, 0, 0, 0, 48, 112, 0, 0, 768, 1792, 4083, 8179, 16383, 32767]⟩ (⟨.nil, [], false, []⟩)))))))))
theorem M.slices_partitionOrdered_uint64.eq (a0 a1 a2 a3 : Value) (w : World) (K : KV) : M.slices_partitionOrdered_uint64 a0 a1 a2 a3 w K = den P M.slices_partitionOrdered_uint64.L M.slices_partitionOrdered_uint64.pl (Try.f171.body.getD .skip) (argE [a0, a1, a2, a3]) w (bodyQ P Try.f171.results.toList K) := by kernel_rfl
theorem M.slices_partitionOrdered_uint64.ok : okFn M.slices_partitionOrdered_uint64.L M.slices_partitionOrdered_uint64.pl Try.f171 (Try.f171.body.getD .skip) 4 = true := by kernel_rfl
theorem M.slices_partitionOrdered_uint64.calls (a0 a1 a2 a3 : Value) {w : World} {K : KV} (h : M.slices_partitionOrdered_uint64 a0 a1 a2 a3 w K) : callT P F.slices_partitionOrdered_uint64 [a0, a1, a2, a3] w K :=
  callT_of_den (by kernel_rfl) Try.func171 (by kernel_rfl) M.slices_partitionOrdered_uint64.ok (M.slices_partitionOrdered_uint64.eq a0 a1 a2 a3 w K ▸ h)
theorem M.slices_partitionOrdered_uint64.fcall (args : List Value) (w : World) (K : KV) : fcallT P F.slices_partitionOrdered_uint64 args w K = callT P F.slices_partitionOrdered_uint64 args w K := fcallT_eq Try.func171 (by kernel_rfl) (by kernel_rfl) args w K
theorem M.slices_partitionOrdered_uint64.rcall (a c args : List Value) (w : World) (K : KV) : callRT P (.func (.func F.slices_partitionOrdered_uint64) a.toArray c.toArray) args w K = callT P F.slices_partitionOrdered_uint64 (a ++ args ++ c) w K := callR_fn Try.func171 (by kernel_rfl) (by kernel_rfl) a c args w K

def M.math_bits_Len64.j2 (x2 : List Value) (w : World) (K : KV) : Prop :=
  cvT P T.uint64 T.uint8 (gv x2 0) w fun t21 w =>
  ixT P T.string (.string ⟨#[0, 1, 2, 2, 3, 3, 3, 3, 4, 4, 4, 4, 4, 4, 4, 4, 5, 5, 5, 5, 5, 5, 5, 5, 5, 5, 5, 5, 5, 5, 5, 5, 6, 6, 6, 6, 6, 6, 6, 6, 6, 6, 6, 6, 6, 6, 6, 6, 6, 6, 6, 6, 6, 6, 6, 6, 6, 6, 6, 6, 6, 6, 6, 6, 7, 7, 7, 7, 7, 7, 7, 7, 7, 7, 7, 7, 7, 7, 7, 7, 7, 7, 7, 7, 7, 7, 7, 7, 7, 7, 7, 7, 7, 7, 7, 7, 7, 7, 7, 7, 7, 7, 7, 7, 7, 7, 7, 7, 7, 7, 7, 7, 7, 7, 7, 7, 7, 7, 7, 7, 7, 7, 7, 7, 7, 7, 7, 7, 8, 8, 8, 8, 8, 8, 8, 8, 8, 8, 8, 8, 8, 8, 8, 8, 8, 8, 8, 8, 8, 8, 8, 8, 8, 8, 8, 8, 8, 8, 8, 8, 8, 8, 8, 8, 8, 8, 8, 8, 8, 8, 8, 8, 8, 8, 8, 8, 8, 8, 8, 8, 8, 8, 8, 8, 8, 8, 8, 8, 8, 8, 8, 8, 8, 8, 8, 8, 8, 8, 8, 8, 8, 8, 8, 8, 8, 8, 8, 8, 8, 8, 8, 8, 8, 8, 8, 8, 8, 8, 8, 8, 8, 8, 8, 8, 8, 8, 8, 8, 8, 8, 8, 8, 8, 8, 8, 8, 8, 8, 8, 8, 8, 8, 8, 8, 8, 8, 8, 8, 8, 8, 8, 8, 8, 8, 8, 8]⟩) t21 w fun t22 w =>
  cvT P T.uint8 T.int t22 w fun t23 w =>
  binT P .add T.int (.tmp 19) (.tmp 23) (gv x2 1) t23 w fun t24 w =>
  K t24 w
def M.math_bits_Len64.j1 (x1 : List Value) (w : World) (K : KV) : Prop :=
  joinT (fun K2 =>
  binT P .geq T.uint64 (.tmp 13) (.const (.int .u64 256)) (gv x1 0) (.int .u64 256) w fun t14 w =>
  condT t14 (
  binT P .shr T.uint64 (.tmp 15) (.const (.int .u64 8)) (gv x1 0) (.int .u64 8) w fun t16 w =>
  binT P .add T.int (.tmp 17) (.const (.int .i64 8)) (gv x1 1) (.int .i64 8) w fun t18 w =>
  K2 [t16, t18] w) (
  K2 [(gv x1 0), (gv x1 1)] w)) fun x2 w =>
  M.math_bits_Len64.j2 x2 w K
def M.math_bits_Len64.j0 (x0 : List Value) (w : World) (K : KV) : Prop :=
  joinT (fun K1 =>
  binT P .geq T.uint64 (.tmp 7) (.const (.int .u64 65536)) (gv x0 0) (.int .u64 65536) w fun t8 w =>
  condT t8 (
  binT P .shr T.uint64 (.tmp 9) (.const (.int .u64 16)) (gv x0 0) (.int .u64 16) w fun t10 w =>
  binT P .add T.int (.tmp 11) (.const (.int .i64 16)) (gv x0 1) (.int .i64 16) w fun t12 w =>
  K1 [t10, t12] w) (
  K1 [(gv x0 0), (gv x0 1)] w)) fun x1 w =>
  M.math_bits_Len64.j1 x1 w K
/-- math/bits.Len64 -/
def M.math_bits_Len64 (a0 : Value) (w : World) (K : KV) : Prop :=
  joinT (fun K0 =>
  binT P .geq T.uint64 (.tmp 3) (.const (.int .u64 4294967296)) a0 (.int .u64 4294967296) w fun t4 w =>
  condT t4 (
  binT P .shr T.uint64 (.tmp 5) (.const (.int .u64 32)) a0 (.int .u64 32) w fun t6 w =>
  K0 [t6, (.int .i64 32)] w) (
  K0 [a0, (.int .i64 0)] w)) fun x0 w =>
  M.math_bits_Len64.j0 x0 w K
def M.math_bits_Len64.L : List Nat := [0, 2]
def M.math_bits_Len64.pl : Nat → Plan := fun id => ⟨.nil, [], false, []⟩
theorem M.math_bits_Len64.eq (a0 : Value) (w : World) (K : KV) : M.math_bits_Len64 a0 w K = den P M.math_bits_Len64.L M.math_bits_Len64.pl (Try.f173.body.getD .skip) (argE [a0]) w (bodyQ P Try.f173.results.toList K) := by kernel_rfl
theorem M.math_bits_Len64.ok : okFn M.math_bits_Len64.L M.math_bits_Len64.pl Try.f173 (Try.f173.body.getD .skip) 1 = true := by kernel_rfl
theorem M.math_bits_Len64.calls (a0 : Value) {w : World} {K : KV} (h : M.math_bits_Len64 a0 w K) : callT P F.math_bits_Len64 [a0] w K :=
  callT_of_den (by kernel_rfl) Try.func173 (by kernel_rfl) M.math_bits_Len64.ok (M.math_bits_Len64.eq a0 w K ▸ h)
theorem M.math_bits_Len64.fcall (args : List Value) (w : World) (K : KV) : fcallT P F.math_bits_Len64 args w K = callT P F.math_bits_Len64 args w K := fcallT_eq Try.func173 (by kernel_rfl) (by kernel_rfl) args w K
theorem M.math_bits_Len64.rcall (a c args : List Value) (w : World) (K : KV) : callRT P (.func (.func F.math_bits_Len64) a.toArray c.toArray) args w K = callT P F.math_bits_Len64 (a ++ args ++ c) w K := callR_fn Try.func173 (by kernel_rfl) (by kernel_rfl) a c args w K

def M.slices_siftDownOrdered_uint64.j3 (a3 : Value) (x0 : List Value) (x2 : List Value) (a0 : Value) (K0 : KL) (w : World) (K : KV) : Prop :=
  drawT w fun w =>
  w = w ∧ w = w ∧ w = w ∧ quietT (fun K' => binT P .add T.int (.tmp 54) (.tmp 55) a3 (gv x0 1) w K') w fun t56 =>
  w = w ∧ w = w ∧ w = w ∧ quietT (fun K' => binT P .add T.int (.tmp 58) (.tmp 59) a3 (gv x2 0) w K') w fun t60 =>
  w = w ∧ w = w ∧ w = w ∧ quietT (fun K' => binT P .add T.int (.tmp 62) (.tmp 63) a3 (gv x2 0) w K') w fun t64 =>
  quietT (fun K' => iaT P T.sl_uint64 a0 t64 w K') w fun t65 =>
  quietT (fun K' => ldT P T.uint64 t65 w K') w fun t66 =>
  w = w ∧ w = w ∧ w = w ∧ quietT (fun K' => binT P .add T.int (.tmp 68) (.tmp 69) a3 (gv x0 1) w K') w fun t70 =>
  quietT (fun K' => iaT P T.sl_uint64 a0 t70 w K') w fun t71 =>
  quietT (fun K' => ldT P T.uint64 t71 w K') w fun t72 =>
  quietT (fun K' => iaT P T.sl_uint64 a0 t56 w K') w fun t73 =>
  stT P T.uint64 t73 t66 w fun _ w =>
  stabT (fun K' => binT P .add T.int (.tmp 58) (.tmp 59) a3 (gv x2 0) w K') w t60 ∧ stabT (fun K' => K' (gv x2 0) w) w (gv x2 0) ∧ stabT (fun K' => K' a3 w) w a3 ∧ stabT (fun K' => K' a0 w) w a0 ∧ quietT (fun K' => iaT P T.sl_uint64 a0 t60 w K') w fun t74 =>
  stT P T.uint64 t74 t72 w fun _ w =>
  K0 [(gv x2 0), (gv x2 0)] w
def M.slices_siftDownOrdered_uint64.j2 (a3 : Value) (x0 : List Value) (a0 : Value) (x2 : List Value) (K0 : KL) (w : World) (K : KV) : Prop :=
  joinT (fun K3 =>
  drawT w fun w =>
  w = w ∧ w = w ∧ w = w ∧ quietT (fun K' => binT P .add T.int (.tmp 40) (.tmp 41) a3 (gv x0 1) w K') w fun t42 =>
  quietT (fun K' => iaT P T.sl_uint64 a0 t42 w K') w fun t43 =>
  quietT (fun K' => ldT P T.uint64 t43 w K') w fun t44 =>
  w = w ∧ w = w ∧ w = w ∧ quietT (fun K' => binT P .add T.int (.tmp 46) (.tmp 47) a3 (gv x2 0) w K') w fun t48 =>
  quietT (fun K' => iaT P T.sl_uint64 a0 t48 w K') w fun t49 =>
  quietT (fun K' => ldT P T.uint64 t49 w K') w fun t50 =>
  fcallT P F.cmp_Less_uint64 [t44, t50] w fun t51 w =>
  quietT (fun K' => unT P .not t51 w K') w fun t52 =>
  condT t52 (
  K (.tuple #[]) w) (
  K3 [] w)) fun x3 w =>
  M.slices_siftDownOrdered_uint64.j3 a3 x0 x2 a0 K0 w K
def M.slices_siftDownOrdered_uint64.j1 (t13 : Value) (a2 : Value) (a0 : Value) (a3 : Value) (x0 : List Value) (K0 : KL) (w : World) (K : KV) : Prop :=
  joinT (fun K2 =>
  drawT w fun w =>
  w = w ∧ quietT (fun K' => binT P .add T.int (.tmp 17) (.const (.int .i64 1)) t13 (.int .i64 1) w K') w fun t18 =>
  w = w ∧ quietT (fun K' => binT P .lss T.int (.tmp 18) (.tmp 19) t18 a2 w K') w fun t20 =>
  w = w ∧ quietT (fun K' => guardT (isB t20 true) (fun K' => K' a0 w) w K') w fun t22 =>
  quietT (fun K' => guardT (isB t20 true) (fun K' => K' a3 w) w K') w fun t23 =>
  quietT (fun K' => guardT (isB t20 true) (fun K' => K' t13 w) w K') w fun t24 =>
  quietT (fun K' => guardT (isB t20 true) (fun K' => binT P .add T.int (.tmp 23) (.tmp 24) t23 t24 w K') w K') w fun t25 =>
  quietT (fun K' => guardT (isB t20 true) (fun K' => iaT P T.sl_uint64 t22 t25 w K') w K') w fun t26 =>
  quietT (fun K' => guardT (isB t20 true) (fun K' => ldT P T.uint64 t26 w K') w K') w fun t27 =>
  quietT (fun K' => guardT (isB t20 true) (fun K' => K' a0 w) w K') w fun t28 =>
  quietT (fun K' => guardT (isB t20 true) (fun K' => K' a3 w) w K') w fun t29 =>
  quietT (fun K' => guardT (isB t20 true) (fun K' => K' t13 w) w K') w fun t30 =>
  quietT (fun K' => guardT (isB t20 true) (fun K' => binT P .add T.int (.tmp 29) (.tmp 30) t29 t30 w K') w K') w fun t31 =>
  quietT (fun K' => guardT (isB t20 true) (fun K' => binT P .add T.int (.tmp 31) (.const (.int .i64 1)) t31 (.int .i64 1) w K') w K') w fun t32 =>
  quietT (fun K' => guardT (isB t20 true) (fun K' => iaT P T.sl_uint64 t28 t32 w K') w K') w fun t33 =>
  quietT (fun K' => guardT (isB t20 true) (fun K' => ldT P T.uint64 t33 w K') w K') w fun t34 =>
  guardT (isB t20 true) (fun K' => fcallT P F.cmp_Less_uint64 [t27, t34] w K') w fun t35 w =>
  quietT (fun K' => pickT t20 t35 (.bool false) w K') w fun t36 =>
  condT t36 (
  binT P .add T.int (.tmp 37) (.const (.int .i64 1)) t13 (.int .i64 1) w fun t38 w =>
  K2 [t38] w) (
  K2 [t13] w)) fun x2 w =>
  M.slices_siftDownOrdered_uint64.j2 a3 x0 a0 x2 K0 w K
def M.slices_siftDownOrdered_uint64.j0 (x0 : List Value) (a2 : Value) (a0 : Value) (a3 : Value) (K0 : KL) (w : World) (K : KV) : Prop :=
  binT P .mul T.int (.const (.int .i64 2)) (.tmp 11) (.int .i64 2) (gv x0 1) w fun t12 w =>
  binT P .add T.int (.tmp 12) (.const (.int .i64 1)) t12 (.int .i64 1) w fun t13 w =>
  joinT (fun K1 =>
  binT P .geq T.int (.tmp 14) (.tmp 15) t13 a2 w fun t16 w =>
  condT t16 (
  K (.tuple #[]) w) (
  K1 [] w)) fun x1 w =>
  M.slices_siftDownOrdered_uint64.j1 t13 a2 a0 a3 x0 K0 w K
/-- slices.siftDownOrdered[uint64] -/
def M.slices_siftDownOrdered_uint64 (a0 a1 a2 a3 : Value) (w : World) (K : KV) : Prop :=
  loopT [undef, a1] w fun K0 x0 w =>
  M.slices_siftDownOrdered_uint64.j0 x0 a2 a0 a3 K0 w K
def M.slices_siftDownOrdered_uint64.L : List Nat := [0, 1, 2, 3, 8, 9]
def M.slices_siftDownOrdered_uint64.pl : Nat → Plan := fun id => cond (Nat.beq id 3) ⟨(.go 0 (.go 1 (.go 2 (.go 3 (.go 4 (.go 5 (.go 6 (.go 7 (.go 8 (.go 9 (.go 10 (.go 11 (.go 12 (.go 13 (.go 14 (.go 15 (.go 16 (.go 17 (.eff 18 (.go 19 .nil) .stop))))))))))))))))))), [18], false, [0, 1, 0, 7, 15, 31, 31, 31, 223, 511, 1023, 31, 31, 31, 12319, 28703, 63519, 129055, 262143, 524287]⟩ (cond (Nat.beq id 5) ⟨(.go 0 (.go 1 (.go 2 (.go 3 (.go 4 (.go 5 (.go 6 (.go 7 (.go 8 (.go 9 (.go 10 (.go 11 (.eff 12 (.go 13 .nil) .stop))))))))))))), [12], false, [0, 0, 0, 6, 15, 31, 0, 0, 0, 384, 960, 1984, 4095, 8191]⟩ (cond (Nat.beq id 6) ⟨(.go 0 (.go 1 (.go 2 (.go 3 (.go 4 (.go 5 (.go 6 (.go 7 (.go 8 (.go 9 (.go 10 (.go 11 (.go 12 (.go 13 (.go 14 (.go 15 (.go 16 (.go 17 (.go 18 (.go 19 (.go 20 (.eff 21 (.go 22 (.eff 23 .nil .stop)) .stop)))))))))))))))))))))), [21, 23], false, [0, 0, 0, 6, 0, 0, 0, 96, 0, 0, 0, 1536, 3840, 7936, 0, 0, 0, 98304, 245760, 507904, 1048335, 2096911, 4194303, 8388607]⟩ (⟨.nil, [], false, []⟩)))
theorem M.slices_siftDownOrdered_uint64.eq (a0 a1 a2 a3 : Value) (w : World) (K : KV) : M.slices_siftDownOrdered_uint64 a0 a1 a2 a3 w K = den P M.slices_siftDownOrdered_uint64.L M.slices_siftDownOrdered_uint64.pl (Try.f178.body.getD .skip) (argE [a0, a1, a2, a3]) w (bodyQ P Try.f178.results.toList K) := by kernel_rfl
theorem M.slices_siftDownOrdered_uint64.ok : okFn M.slices_siftDownOrdered_uint64.L M.slices_siftDownOrdered_uint64.pl Try.f178 (Try.f178.body.getD .skip) 4 = true := by kernel_rfl
theorem M.slices_siftDownOrdered_uint64.calls (a0 a1 a2 a3 : Value) {w : World} {K : KV} (h : M.slices_siftDownOrdered_uint64 a0 a1 a2 a3 w K) : callT P F.slices_siftDownOrdered_uint64 [a0, a1, a2, a3] w K :=
  callT_of_den (by kernel_rfl) Try.func178 (by kernel_rfl) M.slices_siftDownOrdered_uint64.ok (M.slices_siftDownOrdered_uint64.eq a0 a1 a2 a3 w K ▸ h)
theorem M.slices_siftDownOrdered_uint64.fcall (args : List Value) (w : World) (K : KV) : fcallT P F.slices_siftDownOrdered_uint64 args w K = callT P F.slices_siftDownOrdered_uint64 args w K := fcallT_eq Try.func178 (by kernel_rfl) (by kernel_rfl) args w K
theorem M.slices_siftDownOrdered_uint64.rcall (a c args : List Value) (w : World) (K : KV) : callRT P (.func (.func F.slices_siftDownOrdered_uint64) a.toArray c.toArray) args w K = callT P F.slices_siftDownOrdered_uint64 (a ++ args ++ c) w K := callR_fn Try.func178 (by kernel_rfl) (by kernel_rfl) a c args w K

/-- slices.nextPowerOfTwo -/
def M.slices_nextPowerOfTwo (a0 : Value) (w : World) (K : KV) : Prop :=
  cvT P T.int T.uint a0 w fun t4 w =>
  fcallT P F.math_bits_Len [t4] w fun t5 w =>
  binT P .shl T.uint (.const (.int .u64 1)) (.tmp 5) (.int .u64 1) t5 w fun t6 w =>
  K t6 w
def M.slices_nextPowerOfTwo.L : List Nat := [0, 2]
def M.slices_nextPowerOfTwo.pl : Nat → Plan := fun id => ⟨.nil, [], false, []⟩
theorem M.slices_nextPowerOfTwo.eq (a0 : Value) (w : World) (K : KV) : M.slices_nextPowerOfTwo a0 w K = den P M.slices_nextPowerOfTwo.L M.slices_nextPowerOfTwo.pl (Try.f179.body.getD .skip) (argE [a0]) w (bodyQ P Try.f179.results.toList K) := by kernel_rfl
theorem M.slices_nextPowerOfTwo.ok : okFn M.slices_nextPowerOfTwo.L M.slices_nextPowerOfTwo.pl Try.f179 (Try.f179.body.getD .skip) 1 = true := by kernel_rfl
theorem M.slices_nextPowerOfTwo.calls (a0 : Value) {w : World} {K : KV} (h : M.slices_nextPowerOfTwo a0 w K) : callT P F.slices_nextPowerOfTwo [a0] w K :=
  callT_of_den (by kernel_rfl) Try.func179 (by kernel_rfl) M.slices_nextPowerOfTwo.ok (M.slices_nextPowerOfTwo.eq a0 w K ▸ h)
theorem M.slices_nextPowerOfTwo.fcall (args : List Value) (w : World) (K : KV) : fcallT P F.slices_nextPowerOfTwo args w K = callT P F.slices_nextPowerOfTwo args w K := fcallT_eq Try.func179 (by kernel_rfl) (by kernel_rfl) args w K
theorem M.slices_nextPowerOfTwo.rcall (a c args : List Value) (w : World) (K : KV) : callRT P (.func (.func F.slices_nextPowerOfTwo) a.toArray c.toArray) args w K = callT P F.slices_nextPowerOfTwo (a ++ args ++ c) w K := callR_fn Try.func179 (by kernel_rfl) (by kernel_rfl) a c args w K

/-- (*slices.xorshift).Next -/
def M.pslices_xorshift_Next (a0 : Value) (w : World) (K : KV) : Prop :=
  drawT w fun w =>
  w = w ∧ quietT (fun K' => nilT a0 w K') w fun t4 =>
  quietT (fun K' => ldT P T.slices_xorshift t4 w K') w fun t5 =>
  w = w ∧ quietT (fun K' => nilT a0 w K') w fun t7 =>
  quietT (fun K' => ldT P T.slices_xorshift t7 w K') w fun t8 =>
  quietT (fun K' => binT P .shl T.slices_xorshift (.tmp 8) (.const (.int .u64 13)) t8 (.int .u64 13) w K') w fun t9 =>
  quietT (fun K' => binT P .xor T.slices_xorshift (.tmp 5) (.tmp 9) t5 t9 w K') w fun t10 =>
  quietT (fun K' => nilT a0 w K') w fun t11 =>
  stT P T.slices_xorshift t11 t10 w fun _ w =>
  drawT w fun w =>
  w = w ∧ quietT (fun K' => nilT a0 w K') w fun t13 =>
  quietT (fun K' => ldT P T.slices_xorshift t13 w K') w fun t14 =>
  w = w ∧ quietT (fun K' => nilT a0 w K') w fun t16 =>
  quietT (fun K' => ldT P T.slices_xorshift t16 w K') w fun t17 =>
  quietT (fun K' => binT P .shr T.slices_xorshift (.tmp 17) (.const (.int .u64 7)) t17 (.int .u64 7) w K') w fun t18 =>
  quietT (fun K' => binT P .xor T.slices_xorshift (.tmp 14) (.tmp 18) t14 t18 w K') w fun t19 =>
  quietT (fun K' => nilT a0 w K') w fun t20 =>
  stT P T.slices_xorshift t20 t19 w fun _ w =>
  drawT w fun w =>
  w = w ∧ quietT (fun K' => nilT a0 w K') w fun t22 =>
  quietT (fun K' => ldT P T.slices_xorshift t22 w K') w fun t23 =>
  w = w ∧ quietT (fun K' => nilT a0 w K') w fun t25 =>
  quietT (fun K' => ldT P T.slices_xorshift t25 w K') w fun t26 =>
  quietT (fun K' => binT P .shl T.slices_xorshift (.tmp 26) (.const (.int .u64 17)) t26 (.int .u64 17) w K') w fun t27 =>
  quietT (fun K' => binT P .xor T.slices_xorshift (.tmp 23) (.tmp 27) t23 t27 w K') w fun t28 =>
  quietT (fun K' => nilT a0 w K') w fun t29 =>
  stT P T.slices_xorshift t29 t28 w fun _ w =>
  nilT a0 w fun t31 w =>
  ldT P T.slices_xorshift t31 w fun t32 w =>
  K t32 w
def M.pslices_xorshift_Next.L : List Nat := [0, 2]
def M.pslices_xorshift_Next.pl : Nat → Plan := fun id => cond (Nat.beq id 1) ⟨(.go 0 (.go 1 (.go 2 (.go 3 (.go 4 (.go 5 (.go 6 (.go 7 (.go 8 (.eff 9 .nil .stop)))))))))), [9], false, [0, 1, 3, 0, 8, 24, 56, 127, 255, 511]⟩ (cond (Nat.beq id 2) ⟨(.go 0 (.go 1 (.go 2 (.go 3 (.go 4 (.go 5 (.go 6 (.go 7 (.go 8 (.eff 9 .nil .stop)))))))))), [9], false, [0, 1, 3, 0, 8, 24, 56, 127, 255, 511]⟩ (cond (Nat.beq id 3) ⟨(.go 0 (.go 1 (.go 2 (.go 3 (.go 4 (.go 5 (.go 6 (.go 7 (.go 8 (.eff 9 .nil .stop)))))))))), [9], false, [0, 1, 3, 0, 8, 24, 56, 127, 255, 511]⟩ (⟨.nil, [], false, []⟩)))
theorem M.pslices_xorshift_Next.eq (a0 : Value) (w : World) (K : KV) : M.pslices_xorshift_Next a0 w K = den P M.pslices_xorshift_Next.L M.pslices_xorshift_Next.pl (Try.f180.body.getD .skip) (argE [a0]) w (bodyQ P Try.f180.results.toList K) := by kernel_rfl
theorem M.pslices_xorshift_Next.ok : okFn M.pslices_xorshift_Next.L M.pslices_xorshift_Next.pl Try.f180 (Try.f180.body.getD .skip) 1 = true := by kernel_rfl
theorem M.pslices_xorshift_Next.calls (a0 : Value) {w : World} {K : KV} (h : M.pslices_xorshift_Next a0 w K) : callT P F.pslices_xorshift_Next [a0] w K :=
  callT_of_den (by kernel_rfl) Try.func180 (by kernel_rfl) M.pslices_xorshift_Next.ok (M.pslices_xorshift_Next.eq a0 w K ▸ h)
theorem M.pslices_xorshift_Next.fcall (args : List Value) (w : World) (K : KV) : fcallT P F.pslices_xorshift_Next args w K = callT P F.pslices_xorshift_Next args w K := fcallT_eq Try.func180 (by kernel_rfl) (by kernel_rfl) args w K
theorem M.pslices_xorshift_Next.rcall (a c args : List Value) (w : World) (K : KV) : callRT P (.func (.func F.pslices_xorshift_Next) a.toArray c.toArray) args w K = callT P F.pslices_xorshift_Next (a ++ args ++ c) w K := callR_fn Try.func180 (by kernel_rfl) (by kernel_rfl) a c args w K

/-- slices.medianAdjacentOrdered[uint64] -/
def M.slices_medianAdjacentOrdered_uint64 (a0 a1 a2 : Value) (w : World) (K : KV) : Prop :=
  binT P .sub T.int (.tmp 8) (.const (.int .i64 1)) a1 (.int .i64 1) w fun t9 w =>
  binT P .add T.int (.tmp 11) (.const (.int .i64 1)) a1 (.int .i64 1) w fun t12 w =>
  fcallT P F.slices_medianOrdered_uint64 [a0, t9, a1, t12, a2] w fun t14 w =>
  K t14 w
def M.slices_medianAdjacentOrdered_uint64.L : List Nat := [0, 1, 2, 6]
def M.slices_medianAdjacentOrdered_uint64.pl : Nat → Plan := fun id => ⟨.nil, [], false, []⟩
theorem M.slices_medianAdjacentOrdered_uint64.eq (a0 a1 a2 : Value) (w : World) (K : KV) : M.slices_medianAdjacentOrdered_uint64 a0 a1 a2 w K = den P M.slices_medianAdjacentOrdered_uint64.L M.slices_medianAdjacentOrdered_uint64.pl (Try.f181.body.getD .skip) (argE [a0, a1, a2]) w (bodyQ P Try.f181.results.toList K) := by kernel_rfl
theorem M.slices_medianAdjacentOrdered_uint64.ok : okFn M.slices_medianAdjacentOrdered_uint64.L M.slices_medianAdjacentOrdered_uint64.pl Try.f181 (Try.f181.body.getD .skip) 3 = true := by kernel_rfl
theorem M.slices_medianAdjacentOrdered_uint64.calls (a0 a1 a2 : Value) {w : World} {K : KV} (h : M.slices_medianAdjacentOrdered_uint64 a0 a1 a2 w K) : callT P F.slices_medianAdjacentOrdered_uint64 [a0, a1, a2] w K :=
  callT_of_den (by kernel_rfl) Try.func181 (by kernel_rfl) M.slices_medianAdjacentOrdered_uint64.ok (M.slices_medianAdjacentOrdered_uint64.eq a0 a1 a2 w K ▸ h)
theorem M.slices_medianAdjacentOrdered_uint64.fcall (args : List Value) (w : World) (K : KV) : fcallT P F.slices_medianAdjacentOrdered_uint64 args w K = callT P F.slices_medianAdjacentOrdered_uint64 args w K := fcallT_eq Try.func181 (by kernel_rfl) (by kernel_rfl) args w K
theorem M.slices_medianAdjacentOrdered_uint64.rcall (a c args : List Value) (w : World) (K : KV) : callRT P (.func (.func F.slices_medianAdjacentOrdered_uint64) a.toArray c.toArray) args w K = callT P F.slices_medianAdjacentOrdered_uint64 (a ++ args ++ c) w K := callR_fn Try.func181 (by kernel_rfl) (by kernel_rfl) a c args w K

/-- slices.medianOrdered[uint64] -/
def M.slices_medianOrdered_uint64 (a0 a1 a2 a3 a4 : Value) (w : World) (K : KV) : Prop :=
  fcallT P F.slices_order2Ordered_uint64 [a0, a1, a2, a4] w fun t16 w =>
  exT P t16 0 w fun t17 w =>
  exT P t16 1 w fun t18 w =>
  fcallT P F.slices_order2Ordered_uint64 [a0, t18, a3, a4] w fun t24 w =>
  exT P t24 0 w fun t25 w =>
  exT P t24 1 w fun t26 w =>
  fcallT P F.slices_order2Ordered_uint64 [a0, t17, t25, a4] w fun t32 w =>
  exT P t32 0 w fun t33 w =>
  exT P t32 1 w fun t34 w =>
  K t34 w
def M.slices_medianOrdered_uint64.L : List Nat := [0, 1, 2, 3, 4, 10]
def M.slices_medianOrdered_uint64.pl : Nat → Plan := fun id => ⟨.nil, [], false, []⟩
theorem M.slices_medianOrdered_uint64.eq (a0 a1 a2 a3 a4 : Value) (w : World) (K : KV) : M.slices_medianOrdered_uint64 a0 a1 a2 a3 a4 w K = den P M.slices_medianOrdered_uint64.L M.slices_medianOrdered_uint64.pl (Try.f182.body.getD .skip) (argE [a0, a1, a2, a3, a4]) w (bodyQ P Try.f182.results.toList K) := by kernel_rfl
theorem M.slices_medianOrdered_uint64.ok : okFn M.slices_medianOrdered_uint64.L M.slices_medianOrdered_uint64.pl Try.f182 (Try.f182.body.getD .skip) 5 = true := by kernel_rfl
theorem M.slices_medianOrdered_uint64.calls (a0 a1 a2 a3 a4 : Value) {w : World} {K : KV} (h : M.slices_medianOrdered_uint64 a0 a1 a2 a3 a4 w K) : callT P F.slices_medianOrdered_uint64 [a0, a1, a2, a3, a4] w K :=
  callT_of_den (by kernel_rfl) Try.func182 (by kernel_rfl) M.slices_medianOrdered_uint64.ok (M.slices_medianOrdered_uint64.eq a0 a1 a2 a3 a4 w K ▸ h)
theorem M.slices_medianOrdered_uint64.fcall (args : List Value) (w : World) (K : KV) : fcallT P F.slices_medianOrdered_uint64 args w K = callT P F.slices_medianOrdered_uint64 args w K := fcallT_eq Try.func182 (by kernel_rfl) (by kernel_rfl) args w K
theorem M.slices_medianOrdered_uint64.rcall (a c args : List Value) (w : World) (K : KV) : callRT P (.func (.func F.slices_medianOrdered_uint64) a.toArray c.toArray) args w K = callT P F.slices_medianOrdered_uint64 (a ++ args ++ c) w K := callR_fn Try.func182 (by kernel_rfl) (by kernel_rfl) a c args w K

/-- slices.order2Ordered[uint64] -/
def M.slices_order2Ordered_uint64 (a0 a1 a2 a3 : Value) (w : World) (K : KV) : Prop :=
  joinT (fun K0 =>
  drawT w fun w =>
  w = w ∧ w = w ∧ quietT (fun K' => iaT P T.sl_uint64 a0 a2 w K') w fun t12 =>
  quietT (fun K' => ldT P T.uint64 t12 w K') w fun t13 =>
  w = w ∧ w = w ∧ quietT (fun K' => iaT P T.sl_uint64 a0 a1 w K') w fun t16 =>
  quietT (fun K' => ldT P T.uint64 t16 w K') w fun t17 =>
  fcallT P F.cmp_Less_uint64 [t13, t17] w fun t18 w =>
  condT t18 (
  nilT a3 w fun t20 w =>
  ldT P T.int t20 w fun t21 w =>
  binT P .add T.int (.tmp 21) (.const (.int .i64 1)) t21 (.int .i64 1) w fun t22 w =>
  nilT a3 w fun t23 w =>
  stT P T.int t23 t22 w fun _ w =>
  K (.tuple #[a2, a1]) w) (
  K0 [(.int .i64 0), (.int .i64 0)] w)) fun x0 w =>
  K (.tuple #[a1, a2]) w
def M.slices_order2Ordered_uint64.L : List Nat := [0, 1, 2, 3, 8, 9]
def M.slices_order2Ordered_uint64.pl : Nat → Plan := fun id => cond (Nat.beq id 1) ⟨(.go 0 (.go 1 (.go 2 (.go 3 (.go 4 (.go 5 (.go 6 (.go 7 (.eff 8 .nil .stop))))))))), [8], false, [0, 0, 3, 7, 0, 0, 48, 112, 255]⟩ (⟨.nil, [], false, []⟩)
theorem M.slices_order2Ordered_uint64.eq (a0 a1 a2 a3 : Value) (w : World) (K : KV) : M.slices_order2Ordered_uint64 a0 a1 a2 a3 w K = den P M.slices_order2Ordered_uint64.L M.slices_order2Ordered_uint64.pl (Try.f192.body.getD .skip) (argE [a0, a1, a2, a3]) w (bodyQ P Try.f192.results.toList K) := by kernel_rfl
theorem M.slices_order2Ordered_uint64.ok : okFn M.slices_order2Ordered_uint64.L M.slices_order2Ordered_uint64.pl Try.f192 (Try.f192.body.getD .skip) 4 = true := by kernel_rfl
theorem M.slices_order2Ordered_uint64.calls (a0 a1 a2 a3 : Value) {w : World} {K : KV} (h : M.slices_order2Ordered_uint64 a0 a1 a2 a3 w K) : callT P F.slices_order2Ordered_uint64 [a0, a1, a2, a3] w K :=
  callT_of_den (by kernel_rfl) Try.func192 (by kernel_rfl) M.slices_order2Ordered_uint64.ok (M.slices_order2Ordered_uint64.eq a0 a1 a2 a3 w K ▸ h)
theorem M.slices_order2Ordered_uint64.fcall (args : List Value) (w : World) (K : KV) : fcallT P F.slices_order2Ordered_uint64 args w K = callT P F.slices_order2Ordered_uint64 args w K := fcallT_eq Try.func192 (by kernel_rfl) (by kernel_rfl) args w K
theorem M.slices_order2Ordered_uint64.rcall (a c args : List Value) (w : World) (K : KV) : callRT P (.func (.func F.slices_order2Ordered_uint64) a.toArray c.toArray) args w K = callT P F.slices_order2Ordered_uint64 (a ++ args ++ c) w K := callR_fn Try.func192 (by kernel_rfl) (by kernel_rfl) a c args w K

/-- (winnow/timers.line).Len -/
def M.timers_line_Len (a0 : Value) (w : World) (K : KV) : Prop :=
  biT P .len #[T.timers_line] T.int [false] [a0] w fun t4 w =>
  K t4 w
def M.timers_line_Len.L : List Nat := [0, 2]
def M.timers_line_Len.pl : Nat → Plan := fun id => ⟨.nil, [], false, []⟩
theorem M.timers_line_Len.eq (a0 : Value) (w : World) (K : KV) : M.timers_line_Len a0 w K = den P M.timers_line_Len.L M.timers_line_Len.pl (Try.f214.body.getD .skip) (argE [a0]) w (bodyQ P Try.f214.results.toList K) := by kernel_rfl
theorem M.timers_line_Len.ok : okFn M.timers_line_Len.L M.timers_line_Len.pl Try.f214 (Try.f214.body.getD .skip) 1 = true := by kernel_rfl
theorem M.timers_line_Len.calls (a0 : Value) {w : World} {K : KV} (h : M.timers_line_Len a0 w K) : callT P F.timers_line_Len [a0] w K :=
  callT_of_den (by kernel_rfl) Try.func214 (by kernel_rfl) M.timers_line_Len.ok (M.timers_line_Len.eq a0 w K ▸ h)
theorem M.timers_line_Len.fcall (args : List Value) (w : World) (K : KV) : fcallT P F.timers_line_Len args w K = callT P F.timers_line_Len args w K := fcallT_eq Try.func214 (by kernel_rfl) (by kernel_rfl) args w K
theorem M.timers_line_Len.rcall (a c args : List Value) (w : World) (K : KV) : callRT P (.func (.func F.timers_line_Len) a.toArray c.toArray) args w K = callT P F.timers_line_Len (a ++ args ++ c) w K := callR_fn Try.func214 (by kernel_rfl) (by kernel_rfl) a c args w K

/-- (winnow/timers.line).Less -/
def M.timers_line_Less (a0 a1 a2 : Value) (w : World) (K : KV) : Prop :=
  drawT w fun w =>
  w = w ∧ w = w ∧ quietT (fun K' => iaT P T.timers_line a0 a1 w K') w fun t9 =>
  quietT (fun K' => ldT P T.p_timers_item t9 w K') w fun t10 =>
  quietT (fun K' => nilT t10 w K') w fun t11 =>
  quietT (fun K' => faT P T.timers_item t11 1 w K') w fun t12 =>
  quietT (fun K' => ldT P T.uint64 t12 w K') w fun t13 =>
  w = w ∧ w = w ∧ quietT (fun K' => iaT P T.timers_line a0 a2 w K') w fun t16 =>
  quietT (fun K' => ldT P T.p_timers_item t16 w K') w fun t17 =>
  quietT (fun K' => nilT t17 w K') w fun t18 =>
  quietT (fun K' => faT P T.timers_item t18 1 w K') w fun t19 =>
  quietT (fun K' => ldT P T.uint64 t19 w K') w fun t20 =>
  quietT (fun K' => binT P .lss T.uint64 (.tmp 13) (.tmp 20) t13 t20 w K') w fun t21 =>
  w = w ∧ quietT (fun K' => guardT (isB t21 false) (fun K' => K' a0 w) w K') w fun t23 =>
  quietT (fun K' => guardT (isB t21 false) (fun K' => K' a1 w) w K') w fun t24 =>
  quietT (fun K' => guardT (isB t21 false) (fun K' => iaT P T.timers_line t23 t24 w K') w K') w fun t25 =>
  quietT (fun K' => guardT (isB t21 false) (fun K' => ldT P T.p_timers_item t25 w K') w K') w fun t26 =>
  quietT (fun K' => guardT (isB t21 false) (fun K' => nilT t26 w K') w K') w fun t27 =>
  quietT (fun K' => guardT (isB t21 false) (fun K' => faT P T.timers_item t27 1 w K') w K') w fun t28 =>
  quietT (fun K' => guardT (isB t21 false) (fun K' => ldT P T.uint64 t28 w K') w K') w fun t29 =>
  quietT (fun K' => guardT (isB t21 false) (fun K' => K' a0 w) w K') w fun t30 =>
  quietT (fun K' => guardT (isB t21 false) (fun K' => K' a2 w) w K') w fun t31 =>
  quietT (fun K' => guardT (isB t21 false) (fun K' => iaT P T.timers_line t30 t31 w K') w K') w fun t32 =>
  quietT (fun K' => guardT (isB t21 false) (fun K' => ldT P T.p_timers_item t32 w K') w K') w fun t33 =>
  quietT (fun K' => guardT (isB t21 false) (fun K' => nilT t33 w K') w K') w fun t34 =>
  quietT (fun K' => guardT (isB t21 false) (fun K' => faT P T.timers_item t34 1 w K') w K') w fun t35 =>
  quietT (fun K' => guardT (isB t21 false) (fun K' => ldT P T.uint64 t35 w K') w K') w fun t36 =>
  quietT (fun K' => guardT (isB t21 false) (fun K' => binT P .eql T.uint64 (.tmp 29) (.tmp 36) t29 t36 w K') w K') w fun t37 =>
  quietT (fun K' => guardT (isB t21 false) (fun K' => K' t37 w) w K') w fun t38 =>
  quietT (fun K' => guardT (isB t38 true) (fun K' => K' a0 w) w K') w fun t39 =>
  quietT (fun K' => guardT (isB t38 true) (fun K' => K' a1 w) w K') w fun t40 =>
  quietT (fun K' => guardT (isB t38 true) (fun K' => iaT P T.timers_line t39 t40 w K') w K') w fun t41 =>
  quietT (fun K' => guardT (isB t38 true) (fun K' => ldT P T.p_timers_item t41 w K') w K') w fun t42 =>
  quietT (fun K' => guardT (isB t38 true) (fun K' => nilT t42 w K') w K') w fun t43 =>
  quietT (fun K' => guardT (isB t38 true) (fun K' => faT P T.timers_item t43 0 w K') w K') w fun t44 =>
  quietT (fun K' => guardT (isB t38 true) (fun K' => ldT P T.uint64 t44 w K') w K') w fun t45 =>
  quietT (fun K' => guardT (isB t38 true) (fun K' => K' a0 w) w K') w fun t46 =>
  quietT (fun K' => guardT (isB t38 true) (fun K' => K' a2 w) w K') w fun t47 =>
  quietT (fun K' => guardT (isB t38 true) (fun K' => iaT P T.timers_line t46 t47 w K') w K') w fun t48 =>
  quietT (fun K' => guardT (isB t38 true) (fun K' => ldT P T.p_timers_item t48 w K') w K') w fun t49 =>
  quietT (fun K' => guardT (isB t38 true) (fun K' => nilT t49 w K') w K') w fun t50 =>
  quietT (fun K' => guardT (isB t38 true) (fun K' => faT P T.timers_item t50 0 w K') w K') w fun t51 =>
  quietT (fun K' => guardT (isB t38 true) (fun K' => ldT P T.uint64 t51 w K') w K') w fun t52 =>
  quietT (fun K' => guardT (isB t38 true) (fun K' => binT P .lss T.uint64 (.tmp 45) (.tmp 52) t45 t52 w K') w K') w fun t53 =>
  quietT (fun K' => guardT (isB t21 false) (fun K' => pickT t38 t53 (.bool false) w K') w K') w fun t54 =>
  quietT (fun K' => pickT t21 (.bool true) t54 w K') w fun t55 =>
  K t55 w
def M.timers_line_Less.L : List Nat := [0, 1, 2, 6]
def M.timers_line_Less.pl : Nat → Plan := fun id => cond (Nat.beq id 1) ⟨(.go 0 (.go 1 (.go 2 (.go 3 (.go 4 (.go 5 (.go 6 (.go 7 (.go 8 (.go 9 (.go 10 (.go 11 (.go 12 (.go 13 (.go 14 (.go 15 (.go 16 (.go 17 (.go 18 (.go 19 (.go 20 (.go 21 (.go 22 (.go 23 (.go 24 (.go 25 (.go 26 (.go 27 (.go 28 (.go 29 (.go 30 (.go 31 (.go 32 (.go 33 (.go 34 (.go 35 (.go 36 (.go 37 (.go 38 (.go 39 (.go 40 (.go 41 (.go 42 (.go 43 (.go 44 (.go 45 (.go 46 (.go 47 (.go 48 (.eff 49 .nil .stop)))))))))))))))))))))))))))))))))))))))))))))))))), [49], false, [0, 0, 3, 7, 15, 31, 63, 0, 0, 384, 896, 1920, 3968, 8064, 16383, 32767, 65535, 65535, 262143, 524287, 1048575, 2097151, 4194303, 65535, 65535, 25231359, 58785791, 125894655, 260112383, 528547839, 1073741823, 2147483647, 4294967295, 4294967295, 17179869183, 34359738367, 68719476735, 137438953471, 274877906943, 4294967295, 4294967295, 1653562408959, 3852585664511, 8250632175615, 17046725197823, 34638911242239, 70368744177663, 140737488355327, 281474976710655, 562949953421311]⟩ (⟨.nil, [], false, []⟩)
theorem M.timers_line_Less.eq (a0 a1 a2 : Value) (w : World) (K : KV) : M.timers_line_Less a0 a1 a2 w K = den P M.timers_line_Less.L M.timers_line_Less.pl (Try.f215.body.getD .skip) (argE [a0, a1, a2]) w (bodyQ P Try.f215.results.toList K) := by kernel_rfl
theorem M.timers_line_Less.ok : okFn M.timers_line_Less.L M.timers_line_Less.pl Try.f215 (Try.f215.body.getD .skip) 3 = true := by kernel_rfl
theorem M.timers_line_Less.calls (a0 a1 a2 : Value) {w : World} {K : KV} (h : M.timers_line_Less a0 a1 a2 w K) : callT P F.timers_line_Less [a0, a1, a2] w K :=
  callT_of_den (by kernel_rfl) Try.func215 (by kernel_rfl) M.timers_line_Less.ok (M.timers_line_Less.eq a0 a1 a2 w K ▸ h)
theorem M.timers_line_Less.fcall (args : List Value) (w : World) (K : KV) : fcallT P F.timers_line_Less args w K = callT P F.timers_line_Less args w K := fcallT_eq Try.func215 (by kernel_rfl) (by kernel_rfl) args w K
theorem M.timers_line_Less.rcall (a c args : List Value) (w : World) (K : KV) : callRT P (.func (.func F.timers_line_Less) a.toArray c.toArray) args w K = callT P F.timers_line_Less (a ++ args ++ c) w K := callR_fn Try.func215 (by kernel_rfl) (by kernel_rfl) a c args w K

/-- (winnow/timers.line).Swap -/
def M.timers_line_Swap (a0 a1 a2 : Value) (w : World) (K : KV) : Prop :=
  drawT w fun w =>
  w = w ∧ w = w ∧ w = w ∧ w = w ∧ w = w ∧ w = w ∧ quietT (fun K' => iaT P T.timers_line a0 a2 w K') w fun t12 =>
  quietT (fun K' => ldT P T.p_timers_item t12 w K') w fun t13 =>
  w = w ∧ w = w ∧ quietT (fun K' => iaT P T.timers_line a0 a1 w K') w fun t16 =>
  quietT (fun K' => ldT P T.p_timers_item t16 w K') w fun t17 =>
  quietT (fun K' => iaT P T.timers_line a0 a1 w K') w fun t18 =>
  stT P T.p_timers_item t18 t13 w fun _ w =>
  stabT (fun K' => K' a2 w) w a2 ∧ stabT (fun K' => K' a0 w) w a0 ∧ quietT (fun K' => iaT P T.timers_line a0 a2 w K') w fun t19 =>
  stT P T.p_timers_item t19 t17 w fun _ w =>
  drawT w fun w =>
  w = w ∧ w = w ∧ quietT (fun K' => iaT P T.timers_line a0 a1 w K') w fun t22 =>
  quietT (fun K' => ldT P T.p_timers_item t22 w K') w fun t23 =>
  w = w ∧ w = w ∧ quietT (fun K' => iaT P T.timers_line a0 a2 w K') w fun t26 =>
  quietT (fun K' => ldT P T.p_timers_item t26 w K') w fun t27 =>
  w = w ∧ w = w ∧ quietT (fun K' => nilT t23 w K') w fun t30 =>
  quietT (fun K' => faT P T.timers_item t30 2 w K') w fun t31 =>
  stT P T.int t31 a1 w fun _ w =>
  stabT (fun K' => K' a2 w) w a2 ∧ quietT (fun K' => nilT t27 w K') w fun t32 =>
  quietT (fun K' => faT P T.timers_item t32 2 w K') w fun t33 =>
  stT P T.int t33 a2 w fun _ w =>
  K (.tuple #[]) w
def M.timers_line_Swap.L : List Nat := [0, 1, 2]
def M.timers_line_Swap.pl : Nat → Plan := fun id => cond (Nat.beq id 0) ⟨(.go 0 (.go 1 (.go 2 (.go 3 (.go 4 (.go 5 (.go 6 (.go 7 (.go 8 (.go 9 (.go 10 (.go 11 (.go 12 (.eff 13 (.go 14 (.eff 15 .nil .stop)) .stop)))))))))))))), [13, 15], false, [0, 0, 0, 0, 0, 0, 48, 112, 0, 0, 768, 1792, 4083, 8179, 16383, 32767]⟩ (cond (Nat.beq id 1) ⟨(.go 0 (.go 1 (.go 2 (.go 3 (.go 4 (.go 5 (.go 6 (.go 7 (.go 8 (.go 9 (.go 10 (.go 11 (.eff 12 (.go 13 (.go 14 (.eff 15 .nil .stop))) .stop))))))))))))), [12, 15], false, [0, 0, 3, 7, 0, 0, 48, 112, 0, 0, 511, 1535, 3583, 8191, 16383, 32767]⟩ (⟨.nil, [], false, []⟩))
theorem M.timers_line_Swap.eq (a0 a1 a2 : Value) (w : World) (K : KV) : M.timers_line_Swap a0 a1 a2 w K = den P M.timers_line_Swap.L M.timers_line_Swap.pl (Try.f216.body.getD .skip) (argE [a0, a1, a2]) w (bodyQ P Try.f216.results.toList K) := by kernel_rfl
theorem M.timers_line_Swap.ok : okFn M.timers_line_Swap.L M.timers_line_Swap.pl Try.f216 (Try.f216.body.getD .skip) 3 = true := by kernel_rfl
theorem M.timers_line_Swap.calls (a0 a1 a2 : Value) {w : World} {K : KV} (h : M.timers_line_Swap a0 a1 a2 w K) : callT P F.timers_line_Swap [a0, a1, a2] w K :=
  callT_of_den (by kernel_rfl) Try.func216 (by kernel_rfl) M.timers_line_Swap.ok (M.timers_line_Swap.eq a0 a1 a2 w K ▸ h)
theorem M.timers_line_Swap.fcall (args : List Value) (w : World) (K : KV) : fcallT P F.timers_line_Swap args w K = callT P F.timers_line_Swap args w K := fcallT_eq Try.func216 (by kernel_rfl) (by kernel_rfl) args w K
theorem M.timers_line_Swap.rcall (a c args : List Value) (w : World) (K : KV) : callRT P (.func (.func F.timers_line_Swap) a.toArray c.toArray) args w K = callT P F.timers_line_Swap (a ++ args ++ c) w K := callR_fn Try.func216 (by kernel_rfl) (by kernel_rfl) a c args w K

/-- (*winnow/timers.line).Pop -/
def M.ptimers_line_Pop (a0 : Value) (w : World) (K : KV) : Prop :=
  nilT a0 w fun t6 w =>
  ldT P T.timers_line t6 w fun t7 w =>
  biT P .len #[T.timers_line] T.int [false] [t7] w fun t8 w =>
  binT P .sub T.int (.tmp 8) (.const (.int .i64 1)) t8 (.int .i64 1) w fun t9 w =>
  nilT a0 w fun t11 w =>
  ldT P T.timers_line t11 w fun t12 w =>
  iaT P T.timers_line t12 t9 w fun t14 w =>
  ldT P T.p_timers_item t14 w fun t15 w =>
  nilT a0 w fun t18 w =>
  ldT P T.timers_line t18 w fun t19 w =>
  slT P T.timers_line t19 none (some t9) none w fun t21 w =>
  nilT a0 w fun t22 w =>
  stT P T.timers_line t22 t21 w fun _ w =>
  mkiT P T.p_timers_item t15 w fun t24 w =>
  K t24 w
def M.ptimers_line_Pop.L : List Nat := [0, 2, 3, 4]
def M.ptimers_line_Pop.pl : Nat → Plan := fun id => ⟨.nil, [], false, []⟩
theorem M.ptimers_line_Pop.eq (a0 : Value) (w : World) (K : KV) : M.ptimers_line_Pop a0 w K = den P M.ptimers_line_Pop.L M.ptimers_line_Pop.pl (Try.f217.body.getD .skip) (argE [a0]) w (bodyQ P Try.f217.results.toList K) := by kernel_rfl
theorem M.ptimers_line_Pop.ok : okFn M.ptimers_line_Pop.L M.ptimers_line_Pop.pl Try.f217 (Try.f217.body.getD .skip) 1 = true := by kernel_rfl
theorem M.ptimers_line_Pop.calls (a0 : Value) {w : World} {K : KV} (h : M.ptimers_line_Pop a0 w K) : callT P F.ptimers_line_Pop [a0] w K :=
  callT_of_den (by kernel_rfl) Try.func217 (by kernel_rfl) M.ptimers_line_Pop.ok (M.ptimers_line_Pop.eq a0 w K ▸ h)
theorem M.ptimers_line_Pop.fcall (args : List Value) (w : World) (K : KV) : fcallT P F.ptimers_line_Pop args w K = callT P F.ptimers_line_Pop args w K := fcallT_eq Try.func217 (by kernel_rfl) (by kernel_rfl) args w K
theorem M.ptimers_line_Pop.rcall (a c args : List Value) (w : World) (K : KV) : callRT P (.func (.func F.ptimers_line_Pop) a.toArray c.toArray) args w K = callT P F.ptimers_line_Pop (a ++ args ++ c) w K := callR_fn Try.func217 (by kernel_rfl) (by kernel_rfl) a c args w K

/-- (*winnow/timers.line).Push -/
def M.ptimers_line_Push (a0 a1 : Value) (w : World) (K : KV) : Prop :=
  taT P a1 T.any T.p_timers_item false w fun t6 w =>
  nilT a0 w fun t9 w =>
  ldT P T.timers_line t9 w fun t10 w =>
  biT P .len #[T.timers_line] T.int [false] [t10] w fun t11 w =>
  nilT t6 w fun t12 w =>
  faT P T.timers_item t12 2 w fun t13 w =>
  stT P T.int t13 t11 w fun _ w =>
  nilT a0 w fun t16 w =>
  ldT P T.timers_line t16 w fun t17 w =>
  bsT P T.timers_line 1 #[(0, t6)] w fun t19 w =>
  biT P .append #[T.timers_line, T.timers_line] T.timers_line [false, false] [t17, t19] w fun t20 w =>
  nilT a0 w fun t21 w =>
  stT P T.timers_line t21 t20 w fun _ w =>
  K (.tuple #[]) w
def M.ptimers_line_Push.L : List Nat := [0, 1, 4]
def M.ptimers_line_Push.pl : Nat → Plan := fun id => ⟨.nil, [], false, []⟩
theorem M.ptimers_line_Push.eq (a0 a1 : Value) (w : World) (K : KV) : M.ptimers_line_Push a0 a1 w K = den P M.ptimers_line_Push.L M.ptimers_line_Push.pl (Try.f218.body.getD .skip) (argE [a0, a1]) w (bodyQ P Try.f218.results.toList K) := by kernel_rfl
theorem M.ptimers_line_Push.ok : okFn M.ptimers_line_Push.L M.ptimers_line_Push.pl Try.f218 (Try.f218.body.getD .skip) 2 = true := by kernel_rfl
theorem M.ptimers_line_Push.calls (a0 a1 : Value) {w : World} {K : KV} (h : M.ptimers_line_Push a0 a1 w K) : callT P F.ptimers_line_Push [a0, a1] w K :=
  callT_of_den (by kernel_rfl) Try.func218 (by kernel_rfl) M.ptimers_line_Push.ok (M.ptimers_line_Push.eq a0 a1 w K ▸ h)
theorem M.ptimers_line_Push.fcall (args : List Value) (w : World) (K : KV) : fcallT P F.ptimers_line_Push args w K = callT P F.ptimers_line_Push args w K := fcallT_eq Try.func218 (by kernel_rfl) (by kernel_rfl) args w K
theorem M.ptimers_line_Push.rcall (a c args : List Value) (w : World) (K : KV) : callRT P (.func (.func F.ptimers_line_Push) a.toArray c.toArray) args w K = callT P F.ptimers_line_Push (a ++ args ++ c) w K := callR_fn Try.func218 (by kernel_rfl) (by kernel_rfl) a c args w K

end Go.Proofs.Ytkjhekflgghbdaa
