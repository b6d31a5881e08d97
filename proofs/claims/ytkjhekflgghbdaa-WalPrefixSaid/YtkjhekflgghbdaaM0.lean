/-
  Printed by wip/Shallow.lean: functions of the program, read shallow; each is what its code does. No condition.
-/
import Derived.Test.YtkjhekflgghbdaaN
set_option maxRecDepth 1000000
namespace Go.Proofs.Ytkjhekflgghbdaa
open Go.Eng

def M.winnowlaw07_WalFiles.j7 (t90 : Value) (t96 : Value) (K5 : KL) (x7 : List Value) (w : World) (K : KV) : Prop :=
  binT P .neq T.api_Kind (.tmp 105) (.const (.int .i64 0)) t90 (.int .i64 0) w fun t106 w =>
  guardT (isB t106 false) (fun K' => K' t96 w) w fun t108 w =>
  guardT (isB t106 false) (fun K' => binT P .neq T.api_Kind (.tmp 108) (.const (.int .i64 0)) t108 (.int .i64 0) w K') w fun t109 w =>
  pickT t106 (.bool true) t109 w fun t110 w =>
  condT t110 (
  binT P .eql T.api_Kind (.tmp 111) (.const (.int .i64 9)) t90 (.int .i64 9) w fun t112 w =>
  guardT (isB t112 false) (fun K' => K' t96 w) w fun t114 w =>
  guardT (isB t112 false) (fun K' => binT P .eql T.api_Kind (.tmp 114) (.const (.int .i64 9)) t114 (.int .i64 9) w K') w fun t115 w =>
  pickT t112 (.bool true) t115 w fun t116 w =>
  guardT (isB t116 true) (fun K' => fcallT P F.winnowlaw07_alive [] w K') w fun t118 w =>
  pickT t116 t118 (.bool false) w fun t119 w =>
  K t119 w) (
  K5 [(gv x7 0), t90, t96] w)
def M.winnowlaw07_WalFiles.j6 (a2 : Value) (x3 : List Value) (t50 : Value) (t56 : Value) (x6 : List Value) (K5 : KL) (w : World) (K : KV) : Prop :=
  drawT w fun w =>
  w = w ∧ w = w ∧ w = w ∧ quietT (fun K' => iaT P T.sl_sl_uint8 a2 (gv x3 3) w K') w fun t88 =>
  quietT (fun K' => ldT P T.sl_uint8 t88 w K') w fun t89 =>
  w = w ∧ w = w ∧ w = w ∧ quietT (fun K' => iaT P T.sl_sl_uint8 a2 (gv x3 3) w K') w fun t94 =>
  quietT (fun K' => ldT P T.sl_uint8 t94 w K') w fun t95 =>
  fcallT P F.pwal_Log_Append [t50, t89] w fun t90 w =>
  stabT (fun K' => ldT P T.sl_uint8 t94 w K') w t95 ∧ stabT (fun K' => iaT P T.sl_sl_uint8 a2 (gv x3 3) w K') w t94 ∧ stabT (fun K' => K' (gv x3 3) w) w (gv x3 3) ∧ stabT (fun K' => K' a2 w) w a2 ∧ stabT (fun K' => K' t56 w) w t56 ∧ fcallT P F.pwal_Log_Append [t56, t95] w fun t96 w =>
  joinT (fun K7 =>
  fcallT P F.pwal_Log_Files [t50] w fun t98 w =>
  binT P .geq T.int (.tmp 98) (.const (.int .i64 64)) t98 (.int .i64 64) w fun t99 w =>
  guardT (isB t99 false) (fun K' => K' t56 w) w fun t101 w =>
  guardT (isB t99 false) (fun K' => fcallT P F.pwal_Log_Files [t101] w K') w fun t102 w =>
  guardT (isB t99 false) (fun K' => binT P .geq T.int (.tmp 102) (.const (.int .i64 64)) t102 (.int .i64 64) w K') w fun t103 w =>
  pickT t99 (.bool true) t103 w fun t104 w =>
  condT t104 (
  K (.bool false) w) (
  K7 [(gv x6 0)] w)) fun x7 w =>
  M.winnowlaw07_WalFiles.j7 t90 t96 K5 x7 w K
def M.winnowlaw07_WalFiles.j4 (a2 : Value) (x3 : List Value) (t50 : Value) (t56 : Value) (K3 : KL) (w : World) (K : KV) : Prop :=
  joinT (fun K5 =>
  joinT (fun K6 =>
  iaT P T.sl_sl_uint8 a2 (gv x3 3) w fun t80 w =>
  ldT P T.sl_uint8 t80 w fun t81 w =>
  biT P .len #[T.sl_uint8] T.int [false] [t81] w fun t82 w =>
  binT P .gtr T.int (.tmp 82) (.const (.int .i64 500)) t82 (.int .i64 500) w fun t83 w =>
  condT t83 (
  fcallT P F.winnowlaw07_alive [] w fun t84 w =>
  K t84 w) (
  K6 [(gv x3 0)] w)) fun x6 w =>
  M.winnowlaw07_WalFiles.j6 a2 x3 t50 t56 x6 K5 w K) fun x5 w =>
  binT P .add T.int (.tmp 76) (.const (.int .i64 1)) (gv x3 3) (.int .i64 1) w fun t77 w =>
  K3 [(gv x5 0), (gv x5 1), (gv x5 2), t77] w
def M.winnowlaw07_WalFiles.j3 (a2 : Value) (x3 : List Value) (K2 : KL) (t50 : Value) (t56 : Value) (K3 : KL) (w : World) (K : KV) : Prop :=
  joinT (fun K4 =>
  biT P .len #[T.sl_sl_uint8] T.int [false] [a2] w fun t74 w =>
  binT P .lss T.int (.tmp 72) (.tmp 74) (gv x3 3) t74 w fun t75 w =>
  condT t75 (
  K4 [] w) (
  K2 [(gv x3 3), (gv x3 0), (gv x3 1), (gv x3 2)] w)) fun x4 w =>
  M.winnowlaw07_WalFiles.j4 a2 x3 t50 t56 K3 w K
def M.winnowlaw07_WalFiles.j2 (t50 : Value) (a2 : Value) (t56 : Value) (w : World) (K : KV) : Prop :=
  fcallT P F.pwal_Log_Records [t50] w fun t121 w =>
  fcallT P F.winnowref02_Same [t121, a2] w fun t123 w =>
  guardT (isB t123 true) (fun K' => K' t56 w) w fun t125 w =>
  guardT (isB t123 true) (fun K' => fcallT P F.pwal_Log_Records [t125] w K') w fun t126 w =>
  guardT (isB t123 true) (fun K' => K' a2 w) w fun t127 w =>
  guardT (isB t123 true) (fun K' => fcallT P F.winnowref02_Same [t126, t127] w K') w fun t128 w =>
  pickT t123 t128 (.bool false) w fun t129 w =>
  guardT (isB t129 true) (fun K' => fcallT P F.winnowlaw07_alive [] w K') w fun t131 w =>
  pickT t129 t131 (.bool false) w fun t132 w =>
  K t132 w
def M.winnowlaw07_WalFiles.j0 (a0 : Value) (a1 : Value) (x0 : List Value) (a2 : Value) (w : World) (K : KV) : Prop :=
  fcallT P F.disk_New [(.int .i64 1048576)] w fun t39 w =>
  exT P t39 0 w fun t40 w =>
  exT P t39 1 w fun t41 w =>
  fcallT P F.disk_New [(.int .i64 1048576)] w fun t43 w =>
  exT P t43 0 w fun t44 w =>
  exT P t43 1 w fun t45 w =>
  fcallT P F.wal_Open [t40, a0] w fun t49 w =>
  exT P t49 0 w fun t50 w =>
  exT P t49 1 w fun t51 w =>
  fcallT P F.wal_Open [t44, a1] w fun t55 w =>
  exT P t55 0 w fun t56 w =>
  exT P t55 1 w fun t57 w =>
  joinT (fun K1 =>
  binT P .neq T.api_Kind (.tmp 58) (.const (.int .i64 0)) t51 (.int .i64 0) w fun t59 w =>
  guardT (isB t59 false) (fun K' => K' t57 w) w fun t61 w =>
  guardT (isB t59 false) (fun K' => binT P .neq T.api_Kind (.tmp 61) (.const (.int .i64 0)) t61 (.int .i64 0) w K') w fun t62 w =>
  pickT t59 (.bool true) t62 w fun t63 w =>
  guardT (isB t63 false) (fun K' => K' t50 w) w fun t65 w =>
  guardT (isB t63 false) (fun K' => binT P .eql T.p_wal_Log (.tmp 65) (.const (.pointer none)) t65 (.pointer none) w K') w fun t66 w =>
  pickT t63 (.bool true) t66 w fun t67 w =>
  guardT (isB t67 false) (fun K' => K' t56 w) w fun t69 w =>
  guardT (isB t67 false) (fun K' => binT P .eql T.p_wal_Log (.tmp 69) (.const (.pointer none)) t69 (.pointer none) w K') w fun t70 w =>
  pickT t67 (.bool true) t70 w fun t71 w =>
  condT t71 (
  K (.bool false) w) (
  K1 [(gv x0 0)] w)) fun x1 w =>
  joinT (fun K2 =>
  loopT [(gv x1 0), undef, undef, (.int .i64 0)] w fun K3 x3 w =>
  M.winnowlaw07_WalFiles.j3 a2 x3 K2 t50 t56 K3 w K) fun x2 w =>
  M.winnowlaw07_WalFiles.j2 t50 a2 t56 w K
/-- winnow/winnowlaw07.WalFiles -/
def M.winnowlaw07_WalFiles (a0 a1 a2 : Value) (w : World) (K : KV) : Prop :=
  joinT (fun K0 =>
  biT P .len #[T.sl_sl_uint8] T.int [false] [a2] w fun t19 w =>
  binT P .gtr T.int (.tmp 19) (.const (.int .i64 100)) t19 (.int .i64 100) w fun t20 w =>
  guardT (isB t20 false) (fun K' => K' a0 w) w fun t22 w =>
  guardT (isB t20 false) (fun K' => binT P .lss T.int (.tmp 22) (.const (.int .i64 64)) t22 (.int .i64 64) w K') w fun t23 w =>
  pickT t20 (.bool true) t23 w fun t24 w =>
  guardT (isB t24 false) (fun K' => K' a1 w) w fun t26 w =>
  guardT (isB t24 false) (fun K' => binT P .lss T.int (.tmp 26) (.const (.int .i64 64)) t26 (.int .i64 64) w K') w fun t27 w =>
  pickT t24 (.bool true) t27 w fun t28 w =>
  guardT (isB t28 false) (fun K' => K' a0 w) w fun t30 w =>
  guardT (isB t28 false) (fun K' => binT P .gtr T.int (.tmp 30) (.const (.int .i64 1048576)) t30 (.int .i64 1048576) w K') w fun t31 w =>
  pickT t28 (.bool true) t31 w fun t32 w =>
  guardT (isB t32 false) (fun K' => K' a1 w) w fun t34 w =>
  guardT (isB t32 false) (fun K' => binT P .gtr T.int (.tmp 34) (.const (.int .i64 1048576)) t34 (.int .i64 1048576) w K') w fun t35 w =>
  pickT t32 (.bool true) t35 w fun t36 w =>
  condT t36 (
  fcallT P F.winnowlaw07_alive [] w fun t37 w =>
  K t37 w) (
  K0 [(.bool false)] w)) fun x0 w =>
  M.winnowlaw07_WalFiles.j0 a0 a1 x0 a2 w K
def M.winnowlaw07_WalFiles.L : List Nat := [0, 1, 2, 6, 7, 8, 9, 10, 11, 12, 13, 14, 15, 16, 17]
def M.winnowlaw07_WalFiles.pl : Nat → Plan := fun id => cond (Nat.beq id 14) ⟨(.go 0 (.go 1 (.go 2 (.go 3 (.go 4 (.go 6 (.go 7 (.go 8 (.go 9 (.go 10 (.eff 5 (.eff 11 (.eff 12 (.eff 13 .nil .stop) .stop) .stop) .stop))))))))))), [5, 11, 12, 13], false, [0, 0, 0, 6, 14, 31, 0, 0, 0, 384, 896, 2047, 4095, 8191]⟩ (⟨.nil, [], false, []⟩)
theorem M.winnowlaw07_WalFiles.eq (a0 a1 a2 : Value) (w : World) (K : KV) : M.winnowlaw07_WalFiles a0 a1 a2 w K = den P M.winnowlaw07_WalFiles.L M.winnowlaw07_WalFiles.pl (Try.f11.body.getD .skip) (argE [a0, a1, a2]) w (bodyQ P Try.f11.results.toList K) := by kernel_rfl
theorem M.winnowlaw07_WalFiles.ok : okFn M.winnowlaw07_WalFiles.L M.winnowlaw07_WalFiles.pl Try.f11 (Try.f11.body.getD .skip) 3 = true := by kernel_rfl
theorem M.winnowlaw07_WalFiles.calls (a0 a1 a2 : Value) {w : World} {K : KV} (h : M.winnowlaw07_WalFiles a0 a1 a2 w K) : callT P F.winnowlaw07_WalFiles [a0, a1, a2] w K :=
  callT_of_den (by kernel_rfl) Try.func11 (by kernel_rfl) M.winnowlaw07_WalFiles.ok (M.winnowlaw07_WalFiles.eq a0 a1 a2 w K ▸ h)
theorem M.winnowlaw07_WalFiles.fcall (args : List Value) (w : World) (K : KV) : fcallT P F.winnowlaw07_WalFiles args w K = callT P F.winnowlaw07_WalFiles args w K := fcallT_eq Try.func11 (by kernel_rfl) (by kernel_rfl) args w K
theorem M.winnowlaw07_WalFiles.rcall (a c args : List Value) (w : World) (K : KV) : callRT P (.func (.func F.winnowlaw07_WalFiles) a.toArray c.toArray) args w K = callT P F.winnowlaw07_WalFiles (a ++ args ++ c) w K := callR_fn Try.func11 (by kernel_rfl) (by kernel_rfl) a c args w K

def M.winnowlaw07_WalPrefix.j7 (t114 : Value) (x7 : List Value) (t124 : Value) (K5 : KL) (t57 : Value) (x3 : List Value) (t86 : Value) (t93 : Value) (t102 : Value) (t115 : Value) (w : World) (K : KV) : Prop :=
  joinT (fun K8 =>
  fcallT P F.pwal_Log_Sync [t114] w fun t152 w =>
  binT P .neq T.api_Kind (.tmp 152) (.const (.int .i64 0)) t152 (.int .i64 0) w fun t153 w =>
  condT t153 (
  K (.bool false) w) (
  K8 [(gv x7 0)] w)) fun x8 w =>
  biT P .len #[T.sl_sl_uint8] T.int [false] [t124] w fun t155 w =>
  K5 [t57, (gv x3 1), (gv x3 2), t124, t86, t155, t93, t102, t114, t115, (gv x8 0), t114, t124] w
def M.winnowlaw07_WalPrefix.j6 (t114 : Value) (x3 : List Value) (x6 : List Value) (K5 : KL) (t57 : Value) (t86 : Value) (t93 : Value) (t102 : Value) (t115 : Value) (w : World) (K : KV) : Prop :=
  fcallT P F.pwal_Log_Records [t114] w fun t124 w =>
  joinT (fun K7 =>
  biT P .len #[T.sl_sl_uint8] T.int [false] [t124] w fun t126 w =>
  binT P .lss T.int (.tmp 126) (.tmp 127) t126 (gv x3 5) w fun t128 w =>
  guardT (isB t128 false) (fun K' => K' t124 w) w fun t130 w =>
  guardT (isB t128 false) (fun K' => biT P .len #[T.sl_sl_uint8] T.int [false] [t130] w K') w fun t131 w =>
  guardT (isB t128 false) (fun K' => K' (gv x3 3) w) w fun t132 w =>
  guardT (isB t128 false) (fun K' => biT P .len #[T.sl_sl_uint8] T.int [false] [t132] w K') w fun t133 w =>
  guardT (isB t128 false) (fun K' => binT P .gtr T.int (.tmp 131) (.tmp 133) t131 t133 w K') w fun t134 w =>
  pickT t128 (.bool true) t134 w fun t135 w =>
  guardT (isB t135 false) (fun K' => K' t124 w) w fun t137 w =>
  guardT (isB t135 false) (fun K' => K' (gv x3 3) w) w fun t138 w =>
  guardT (isB t135 false) (fun K' => K' t124 w) w fun t139 w =>
  guardT (isB t135 false) (fun K' => biT P .len #[T.sl_sl_uint8] T.int [false] [t139] w K') w fun t140 w =>
  guardT (isB t135 false) (fun K' => slT P T.sl_sl_uint8 t138 none (some t140) none w K') w fun t141 w =>
  guardT (isB t135 false) (fun K' => fcallT P F.winnowref02_Same [t137, t141] w K') w fun t142 w =>
  guardT (isB t135 false) (fun K' => unT P .not t142 w K') w fun t143 w =>
  pickT t135 (.bool true) t143 w fun t144 w =>
  guardT (isB t144 false) (fun K' => K' t114 w) w fun t146 w =>
  guardT (isB t144 false) (fun K' => fcallT P F.pwal_Log_First [t146] w K') w fun t147 w =>
  guardT (isB t144 false) (fun K' => binT P .neq T.int (.tmp 147) (.const (.int .i64 0)) t147 (.int .i64 0) w K') w fun t148 w =>
  pickT t144 (.bool true) t148 w fun t149 w =>
  condT t149 (
  K (.bool false) w) (
  K7 [(gv x6 0)] w)) fun x7 w =>
  M.winnowlaw07_WalPrefix.j7 t114 x7 t124 K5 t57 x3 t86 t93 t102 t115 w K
def M.winnowlaw07_WalPrefix.j4 (a1 : Value) (x3 : List Value) (t31 : Value) (a0 : Value) (K3 : KL) (w : World) (K : KV) : Prop :=
  joinT (fun K5 =>
  iaT P T.sl_winnowlaw07_Op a1 (gv x3 13) w fun t53 w =>
  faT P T.winnowlaw07_Op t53 0 w fun t54 w =>
  ldT P T.int t54 w fun t55 w =>
  binT P .eql T.int (.tmp 55) (.const (.int .i64 0)) t55 (.int .i64 0) w fun t57 w =>
  condT t57 (
  fcallT P F.pdisk_Disk_Down [t31] w fun t59 w =>
  iaT P T.sl_winnowlaw07_Op a1 (gv x3 13) w fun t63 w =>
  faT P T.winnowlaw07_Op t63 2 w fun t64 w =>
  ldT P T.sl_uint8 t64 w fun t65 w =>
  fcallT P F.pwal_Log_Append [(gv x3 11), t65] w fun t66 w =>
  binT P .eql T.api_Kind (.tmp 67) (.const (.int .i64 0)) t66 (.int .i64 0) w fun t68 w =>
  guardT (isB t68 false) (fun K' => K' t66 w) w fun t70 w =>
  guardT (isB t68 false) (fun K' => binT P .eql T.api_Kind (.tmp 70) (.const (.int .i64 10)) t70 (.int .i64 10) w K') w fun t71 w =>
  guardT (isB t68 false) (fun K' => K' t71 w) w fun t72 w =>
  guardT (isB t72 true) (fun K' => K' t59 w) w fun t73 w =>
  guardT (isB t72 true) (fun K' => unT P .not t73 w K') w fun t74 w =>
  guardT (isB t68 false) (fun K' => pickT t72 t74 (.bool false) w K') w fun t75 w =>
  pickT t68 (.bool true) t75 w fun t76 w =>
  condT t76 (
  iaT P T.sl_winnowlaw07_Op a1 (gv x3 13) w fun t80 w =>
  faT P T.winnowlaw07_Op t80 2 w fun t81 w =>
  ldT P T.sl_uint8 t81 w fun t82 w =>
  bsT P T.sl_sl_uint8 1 #[(0, t82)] w fun t83 w =>
  biT P .append #[T.sl_sl_uint8, T.sl_sl_uint8] T.sl_sl_uint8 [false, false] [(gv x3 3), t83] w fun t84 w =>
  K5 [t57, t59, t66, t84, (gv x3 4), (gv x3 5), (gv x3 6), (gv x3 7), (gv x3 8), (gv x3 9), (gv x3 10), (gv x3 11), (gv x3 12)] w) (
  K5 [t57, t59, t66, (gv x3 3), (gv x3 4), (gv x3 5), (gv x3 6), (gv x3 7), (gv x3 8), (gv x3 9), (gv x3 10), (gv x3 11), (gv x3 12)] w)) (
  binT P .eql T.int (.tmp 55) (.const (.int .i64 1)) t55 (.int .i64 1) w fun t86 w =>
  condT t86 (
  fcallT P F.pwal_Log_Sync [(gv x3 11)] w fun t88 w =>
  binT P .eql T.api_Kind (.tmp 88) (.const (.int .i64 0)) t88 (.int .i64 0) w fun t89 w =>
  condT t89 (
  biT P .len #[T.sl_sl_uint8] T.int [false] [(gv x3 3)] w fun t91 w =>
  K5 [t57, (gv x3 1), (gv x3 2), (gv x3 3), t86, t91, (gv x3 6), (gv x3 7), (gv x3 8), (gv x3 9), (gv x3 10), (gv x3 11), (gv x3 12)] w) (
  K5 [t57, (gv x3 1), (gv x3 2), (gv x3 3), t86, (gv x3 5), (gv x3 6), (gv x3 7), (gv x3 8), (gv x3 9), (gv x3 10), (gv x3 11), (gv x3 12)] w)) (
  binT P .eql T.int (.tmp 55) (.const (.int .i64 3)) t55 (.int .i64 3) w fun t93 w =>
  condT t93 (
  iaT P T.sl_winnowlaw07_Op a1 (gv x3 13) w fun t97 w =>
  faT P T.winnowlaw07_Op t97 1 w fun t98 w =>
  ldT P T.int t98 w fun t99 w =>
  fcallT P F.pdisk_Disk_Arm [t31, t99] w fun t100 w =>
  K5 [t57, (gv x3 1), (gv x3 2), (gv x3 3), t86, (gv x3 5), t93, (gv x3 7), (gv x3 8), (gv x3 9), (gv x3 10), (gv x3 11), (gv x3 12)] w) (
  binT P .eql T.int (.tmp 55) (.const (.int .i64 4)) t55 (.int .i64 4) w fun t102 w =>
  condT t102 (
  iaT P T.sl_winnowlaw07_Op a1 (gv x3 13) w fun t106 w =>
  faT P T.winnowlaw07_Op t106 3 w fun t107 w =>
  ldT P T.sl_int t107 w fun t108 w =>
  fcallT P F.pdisk_Disk_Crash [t31, t108] w fun t109 w =>
  fcallT P F.wal_Open [t31, a0] w fun t113 w =>
  exT P t113 0 w fun t114 w =>
  exT P t113 1 w fun t115 w =>
  joinT (fun K6 =>
  binT P .neq T.api_Kind (.tmp 116) (.const (.int .i64 0)) t115 (.int .i64 0) w fun t117 w =>
  guardT (isB t117 false) (fun K' => K' t114 w) w fun t119 w =>
  guardT (isB t117 false) (fun K' => binT P .eql T.p_wal_Log (.tmp 119) (.const (.pointer none)) t119 (.pointer none) w K') w fun t120 w =>
  pickT t117 (.bool true) t120 w fun t121 w =>
  condT t121 (
  K (.bool false) w) (
  K6 [(gv x3 10)] w)) fun x6 w =>
  M.winnowlaw07_WalPrefix.j6 t114 x3 x6 K5 t57 t86 t93 t102 t115 w K) (
  K5 [t57, (gv x3 1), (gv x3 2), (gv x3 3), t86, (gv x3 5), t93, t102, (gv x3 8), (gv x3 9), (gv x3 10), (gv x3 11), (gv x3 12)] w))))) fun x5 w =>
  binT P .add T.int (.tmp 49) (.const (.int .i64 1)) (gv x3 13) (.int .i64 1) w fun t50 w =>
  K3 [(gv x5 0), (gv x5 1), (gv x5 2), (gv x5 3), (gv x5 4), (gv x5 5), (gv x5 6), (gv x5 7), (gv x5 8), (gv x5 9), (gv x5 10), (gv x5 11), (gv x5 12), t50] w
def M.winnowlaw07_WalPrefix.j3 (a1 : Value) (x3 : List Value) (K2 : KL) (t31 : Value) (a0 : Value) (K3 : KL) (w : World) (K : KV) : Prop :=
  joinT (fun K4 =>
  biT P .len #[T.sl_winnowlaw07_Op] T.int [false] [a1] w fun t47 w =>
  binT P .lss T.int (.tmp 45) (.tmp 47) (gv x3 13) t47 w fun t48 w =>
  condT t48 (
  K4 [] w) (
  K2 [(gv x3 13), (gv x3 0), (gv x3 1), (gv x3 2), (gv x3 3), (gv x3 4), (gv x3 5), (gv x3 6), (gv x3 7), (gv x3 8), (gv x3 9), (gv x3 10), (gv x3 11), (gv x3 12)] w)) fun x4 w =>
  M.winnowlaw07_WalPrefix.j4 a1 x3 t31 a0 K3 w K
def M.winnowlaw07_WalPrefix.j1 (x1 : List Value) (t37 : Value) (a1 : Value) (t31 : Value) (a0 : Value) (w : World) (K : KV) : Prop :=
  joinT (fun K2 =>
  loopT [undef, undef, undef, (.slice none 0 0), undef, (.int .i64 0), undef, undef, undef, undef, (gv x1 0), t37, undef, (.int .i64 0)] w fun K3 x3 w =>
  M.winnowlaw07_WalPrefix.j3 a1 x3 K2 t31 a0 K3 w K) fun x2 w =>
  fcallT P F.winnowlaw07_alive [] w fun t156 w =>
  K t156 w
def M.winnowlaw07_WalPrefix.j0 (a0 : Value) (x0 : List Value) (a1 : Value) (w : World) (K : KV) : Prop :=
  fcallT P F.disk_New [(.int .i64 1048576)] w fun t30 w =>
  exT P t30 0 w fun t31 w =>
  exT P t30 1 w fun t32 w =>
  fcallT P F.wal_Open [t31, a0] w fun t36 w =>
  exT P t36 0 w fun t37 w =>
  exT P t36 1 w fun t38 w =>
  joinT (fun K1 =>
  binT P .neq T.api_Kind (.tmp 39) (.const (.int .i64 0)) t38 (.int .i64 0) w fun t40 w =>
  guardT (isB t40 false) (fun K' => K' t37 w) w fun t42 w =>
  guardT (isB t40 false) (fun K' => binT P .eql T.p_wal_Log (.tmp 42) (.const (.pointer none)) t42 (.pointer none) w K') w fun t43 w =>
  pickT t40 (.bool true) t43 w fun t44 w =>
  condT t44 (
  K (.bool false) w) (
  K1 [(gv x0 0)] w)) fun x1 w =>
  M.winnowlaw07_WalPrefix.j1 x1 t37 a1 t31 a0 w K
/-- winnow/winnowlaw07.WalPrefix -/
def M.winnowlaw07_WalPrefix (a0 a1 : Value) (w : World) (K : KV) : Prop :=
  joinT (fun K0 =>
  fcallT P F.winnowlaw07_light [a1] w fun t18 w =>
  unT P .not t18 w fun t19 w =>
  guardT (isB t19 false) (fun K' => K' a0 w) w fun t21 w =>
  guardT (isB t19 false) (fun K' => binT P .lss T.int (.tmp 21) (.const (.int .i64 64)) t21 (.int .i64 64) w K') w fun t22 w =>
  pickT t19 (.bool true) t22 w fun t23 w =>
  guardT (isB t23 false) (fun K' => K' a0 w) w fun t25 w =>
  guardT (isB t23 false) (fun K' => binT P .gtr T.int (.tmp 25) (.const (.int .i64 1048576)) t25 (.int .i64 1048576) w K') w fun t26 w =>
  pickT t23 (.bool true) t26 w fun t27 w =>
  condT t27 (
  fcallT P F.winnowlaw07_alive [] w fun t28 w =>
  K t28 w) (
  K0 [(.bool false)] w)) fun x0 w =>
  M.winnowlaw07_WalPrefix.j0 a0 x0 a1 w K
def M.winnowlaw07_WalPrefix.L : List Nat := [0, 1, 4, 5, 6, 7, 8, 9, 10, 11, 56, 12, 13, 85, 92, 101, 14, 15, 16]
def M.winnowlaw07_WalPrefix.pl : Nat → Plan := fun id => ⟨.nil, [], false, []⟩
theorem M.winnowlaw07_WalPrefix.eq (a0 a1 : Value) (w : World) (K : KV) : M.winnowlaw07_WalPrefix a0 a1 w K = den P M.winnowlaw07_WalPrefix.L M.winnowlaw07_WalPrefix.pl (Try.f12.body.getD .skip) (argE [a0, a1]) w (bodyQ P Try.f12.results.toList K) := by kernel_rfl
theorem M.winnowlaw07_WalPrefix.ok : okFn M.winnowlaw07_WalPrefix.L M.winnowlaw07_WalPrefix.pl Try.f12 (Try.f12.body.getD .skip) 2 = true := by kernel_rfl
theorem M.winnowlaw07_WalPrefix.calls (a0 a1 : Value) {w : World} {K : KV} (h : M.winnowlaw07_WalPrefix a0 a1 w K) : callT P F.winnowlaw07_WalPrefix [a0, a1] w K :=
  callT_of_den (by kernel_rfl) Try.func12 (by kernel_rfl) M.winnowlaw07_WalPrefix.ok (M.winnowlaw07_WalPrefix.eq a0 a1 w K ▸ h)
theorem M.winnowlaw07_WalPrefix.fcall (args : List Value) (w : World) (K : KV) : fcallT P F.winnowlaw07_WalPrefix args w K = callT P F.winnowlaw07_WalPrefix args w K := fcallT_eq Try.func12 (by kernel_rfl) (by kernel_rfl) args w K
theorem M.winnowlaw07_WalPrefix.rcall (a c args : List Value) (w : World) (K : KV) : callRT P (.func (.func F.winnowlaw07_WalPrefix) a.toArray c.toArray) args w K = callT P F.winnowlaw07_WalPrefix (a ++ args ++ c) w K := callR_fn Try.func12 (by kernel_rfl) (by kernel_rfl) a c args w K

def M.winnowlaw07_WalDrops.j4 (a1 : Value) (x3 : List Value) (t40 : Value) (K3 : KL) (w : World) (K : KV) : Prop :=
  joinT (fun K5 =>
  iaT P T.sl_sl_uint8 a1 (gv x3 1) w fun t56 w =>
  ldT P T.sl_uint8 t56 w fun t57 w =>
  biT P .len #[T.sl_uint8] T.int [false] [t57] w fun t58 w =>
  binT P .gtr T.int (.tmp 58) (.const (.int .i64 500)) t58 (.int .i64 500) w fun t59 w =>
  guardT (isB t59 false) (fun K' => K' t40 w) w fun t61 w =>
  guardT (isB t59 false) (fun K' => K' a1 w) w fun t62 w =>
  guardT (isB t59 false) (fun K' => K' (gv x3 1) w) w fun t63 w =>
  guardT (isB t59 false) (fun K' => iaT P T.sl_sl_uint8 t62 t63 w K') w fun t64 w =>
  guardT (isB t59 false) (fun K' => ldT P T.sl_uint8 t64 w K') w fun t65 w =>
  guardT (isB t59 false) (fun K' => fcallT P F.pwal_Log_Append [t61, t65] w K') w fun t66 w =>
  guardT (isB t59 false) (fun K' => binT P .neq T.api_Kind (.tmp 66) (.const (.int .i64 0)) t66 (.int .i64 0) w K') w fun t67 w =>
  pickT t59 (.bool true) t67 w fun t68 w =>
  condT t68 (
  iaT P T.sl_sl_uint8 a1 (gv x3 1) w fun t71 w =>
  ldT P T.sl_uint8 t71 w fun t72 w =>
  biT P .len #[T.sl_uint8] T.int [false] [t72] w fun t73 w =>
  binT P .gtr T.int (.tmp 73) (.const (.int .i64 500)) t73 (.int .i64 500) w fun t74 w =>
  guardT (isB t74 true) (fun K' => fcallT P F.winnowlaw07_alive [] w K') w fun t76 w =>
  pickT t74 t76 (.bool false) w fun t77 w =>
  K t77 w) (
  K5 [(gv x3 0)] w)) fun x5 w =>
  binT P .add T.int (.tmp 52) (.const (.int .i64 1)) (gv x3 1) (.int .i64 1) w fun t53 w =>
  K3 [(gv x5 0), t53] w
def M.winnowlaw07_WalDrops.j3 (a1 : Value) (x3 : List Value) (K2 : KL) (t40 : Value) (K3 : KL) (w : World) (K : KV) : Prop :=
  joinT (fun K4 =>
  biT P .len #[T.sl_sl_uint8] T.int [false] [a1] w fun t50 w =>
  binT P .lss T.int (.tmp 48) (.tmp 50) (gv x3 1) t50 w fun t51 w =>
  condT t51 (
  K4 [] w) (
  K2 [(gv x3 1), (gv x3 0)] w)) fun x4 w =>
  M.winnowlaw07_WalDrops.j4 a1 x3 t40 K3 w K
def M.winnowlaw07_WalDrops.j7 (a1 : Value) (t96 : Value) (t40 : Value) (t101 : Value) (w : World) (K : KV) : Prop :=
  drawT w fun w =>
  w = w ∧ w = w ∧ w = w ∧ quietT (fun K' => slT P T.sl_sl_uint8 a1 (some t96) none none w K') w fun t132 =>
  fcallT P F.pwal_Log_Records [t40] w fun t129 w =>
  stabT (fun K' => slT P T.sl_sl_uint8 a1 (some t96) none none w K') w t132 ∧ stabT (fun K' => K' t96 w) w t96 ∧ stabT (fun K' => K' a1 w) w a1 ∧ fcallT P F.winnowref02_Same [t129, t132] w fun t133 w =>
  w = w ∧ quietT (fun K' => guardT (isB t133 true) (fun K' => K' t101 w) w K') w fun t135 =>
  quietT (fun K' => guardT (isB t133 true) (fun K' => K' t96 w) w K') w fun t137 =>
  guardT (isB t133 true) (fun K' => fcallT P F.pwal_Log_First [t135] w K') w fun t136 w =>
  stabT (fun K' => guardT (isB t133 true) (fun K' => K' t96 w) w K') w t137 ∧ quietT (fun K' => guardT (isB t133 true) (fun K' => binT P .eql T.int (.tmp 136) (.tmp 137) t136 t137 w K') w K') w fun t138 =>
  quietT (fun K' => pickT t133 t138 (.bool false) w K') w fun t139 =>
  w = w ∧ quietT (fun K' => guardT (isB t139 true) (fun K' => K' t101 w) w K') w fun t141 =>
  quietT (fun K' => guardT (isB t139 true) (fun K' => K' a1 w) w K') w fun t143 =>
  quietT (fun K' => guardT (isB t139 true) (fun K' => K' t96 w) w K') w fun t144 =>
  quietT (fun K' => guardT (isB t139 true) (fun K' => slT P T.sl_sl_uint8 t143 (some t144) none none w K') w K') w fun t145 =>
  guardT (isB t139 true) (fun K' => fcallT P F.pwal_Log_Records [t141] w K') w fun t142 w =>
  stabT (fun K' => guardT (isB t139 true) (fun K' => slT P T.sl_sl_uint8 t143 (some t144) none none w K') w K') w t145 ∧ stabT (fun K' => guardT (isB t139 true) (fun K' => K' t96 w) w K') w t144 ∧ stabT (fun K' => guardT (isB t139 true) (fun K' => K' a1 w) w K') w t143 ∧ guardT (isB t139 true) (fun K' => fcallT P F.winnowref02_Same [t142, t145] w K') w fun t146 w =>
  quietT (fun K' => pickT t139 t146 (.bool false) w K') w fun t147 =>
  w = w ∧ guardT (isB t147 true) (fun K' => fcallT P F.winnowlaw07_alive [] w K') w fun t149 w =>
  quietT (fun K' => pickT t147 t149 (.bool false) w K') w fun t150 =>
  K t150 w
def M.winnowlaw07_WalDrops.j6 (t40 : Value) (t34 : Value) (a0 : Value) (t80 : Value) (a2 : Value) (a1 : Value) (x6 : List Value) (w : World) (K : KV) : Prop :=
  fcallT P F.pwal_Log_First [t40] w fun t96 w =>
  fcallT P F.wal_Open [t34, a0] w fun t100 w =>
  exT P t100 0 w fun t101 w =>
  exT P t100 1 w fun t102 w =>
  joinT (fun K7 =>
  binT P .neq T.api_Kind (.tmp 103) (.const (.int .i64 0)) t80 (.int .i64 0) w fun t104 w =>
  guardT (isB t104 false) (fun K' => K' t102 w) w fun t106 w =>
  guardT (isB t104 false) (fun K' => binT P .neq T.api_Kind (.tmp 106) (.const (.int .i64 0)) t106 (.int .i64 0) w K') w fun t107 w =>
  pickT t104 (.bool true) t107 w fun t108 w =>
  guardT (isB t108 false) (fun K' => K' t101 w) w fun t110 w =>
  guardT (isB t108 false) (fun K' => binT P .eql T.p_wal_Log (.tmp 110) (.const (.pointer none)) t110 (.pointer none) w K') w fun t111 w =>
  pickT t108 (.bool true) t111 w fun t112 w =>
  guardT (isB t112 false) (fun K' => K' t96 w) w fun t114 w =>
  guardT (isB t112 false) (fun K' => K' a2 w) w fun t115 w =>
  guardT (isB t112 false) (fun K' => binT P .gtr T.int (.tmp 114) (.tmp 115) t114 t115 w K') w fun t116 w =>
  pickT t112 (.bool true) t116 w fun t117 w =>
  guardT (isB t117 false) (fun K' => K' t96 w) w fun t119 w =>
  guardT (isB t117 false) (fun K' => binT P .lss T.int (.tmp 119) (.const (.int .i64 0)) t119 (.int .i64 0) w K') w fun t120 w =>
  pickT t117 (.bool true) t120 w fun t121 w =>
  guardT (isB t121 false) (fun K' => K' t96 w) w fun t123 w =>
  guardT (isB t121 false) (fun K' => K' a1 w) w fun t124 w =>
  guardT (isB t121 false) (fun K' => biT P .len #[T.sl_sl_uint8] T.int [false] [t124] w K') w fun t125 w =>
  guardT (isB t121 false) (fun K' => binT P .gtr T.int (.tmp 123) (.tmp 125) t123 t125 w K') w fun t126 w =>
  pickT t121 (.bool true) t126 w fun t127 w =>
  condT t127 (
  K (.bool false) w) (
  K7 [(gv x6 0)] w)) fun x7 w =>
  M.winnowlaw07_WalDrops.j7 a1 t96 t40 t101 w K
def M.winnowlaw07_WalDrops.j2 (t40 : Value) (a2 : Value) (a1 : Value) (x2 : List Value) (t34 : Value) (a0 : Value) (w : World) (K : KV) : Prop :=
  fcallT P F.pwal_Log_Drop [t40, a2] w fun t80 w =>
  joinT (fun K6 =>
  biT P .len #[T.sl_sl_uint8] T.int [false] [a1] w fun t83 w =>
  binT P .gtr T.int (.tmp 81) (.tmp 83) a2 t83 w fun t84 w =>
  condT t84 (
  binT P .eql T.api_Kind (.tmp 85) (.const (.int .i64 1)) t80 (.int .i64 1) w fun t86 w =>
  guardT (isB t86 true) (fun K' => K' t40 w) w fun t88 w =>
  guardT (isB t86 true) (fun K' => fcallT P F.pwal_Log_First [t88] w K') w fun t89 w =>
  guardT (isB t86 true) (fun K' => binT P .eql T.int (.tmp 89) (.const (.int .i64 0)) t89 (.int .i64 0) w K') w fun t90 w =>
  pickT t86 t90 (.bool false) w fun t91 w =>
  guardT (isB t91 true) (fun K' => fcallT P F.winnowlaw07_alive [] w K') w fun t93 w =>
  pickT t91 t93 (.bool false) w fun t94 w =>
  K t94 w) (
  K6 [(gv x2 1)] w)) fun x6 w =>
  M.winnowlaw07_WalDrops.j6 t40 t34 a0 t80 a2 a1 x6 w K
def M.winnowlaw07_WalDrops.j0 (a0 : Value) (x0 : List Value) (a1 : Value) (a2 : Value) (w : World) (K : KV) : Prop :=
  fcallT P F.disk_New [(.int .i64 1048576)] w fun t33 w =>
  exT P t33 0 w fun t34 w =>
  exT P t33 1 w fun t35 w =>
  fcallT P F.wal_Open [t34, a0] w fun t39 w =>
  exT P t39 0 w fun t40 w =>
  exT P t39 1 w fun t41 w =>
  joinT (fun K1 =>
  binT P .neq T.api_Kind (.tmp 42) (.const (.int .i64 0)) t41 (.int .i64 0) w fun t43 w =>
  guardT (isB t43 false) (fun K' => K' t40 w) w fun t45 w =>
  guardT (isB t43 false) (fun K' => binT P .eql T.p_wal_Log (.tmp 45) (.const (.pointer none)) t45 (.pointer none) w K') w fun t46 w =>
  pickT t43 (.bool true) t46 w fun t47 w =>
  condT t47 (
  K (.bool false) w) (
  K1 [(gv x0 0)] w)) fun x1 w =>
  joinT (fun K2 =>
  loopT [(gv x1 0), (.int .i64 0)] w fun K3 x3 w =>
  M.winnowlaw07_WalDrops.j3 a1 x3 K2 t40 K3 w K) fun x2 w =>
  M.winnowlaw07_WalDrops.j2 t40 a2 a1 x2 t34 a0 w K
/-- winnow/winnowlaw07.WalDrops -/
def M.winnowlaw07_WalDrops (a0 a1 a2 : Value) (w : World) (K : KV) : Prop :=
  joinT (fun K0 =>
  biT P .len #[T.sl_sl_uint8] T.int [false] [a1] w fun t17 w =>
  binT P .gtr T.int (.tmp 17) (.const (.int .i64 60)) t17 (.int .i64 60) w fun t18 w =>
  guardT (isB t18 false) (fun K' => K' a0 w) w fun t20 w =>
  guardT (isB t18 false) (fun K' => binT P .lss T.int (.tmp 20) (.const (.int .i64 64)) t20 (.int .i64 64) w K') w fun t21 w =>
  pickT t18 (.bool true) t21 w fun t22 w =>
  guardT (isB t22 false) (fun K' => K' a0 w) w fun t24 w =>
  guardT (isB t22 false) (fun K' => binT P .gtr T.int (.tmp 24) (.const (.int .i64 1048576)) t24 (.int .i64 1048576) w K') w fun t25 w =>
  pickT t22 (.bool true) t25 w fun t26 w =>
  guardT (isB t26 false) (fun K' => K' a2 w) w fun t28 w =>
  guardT (isB t26 false) (fun K' => binT P .lss T.int (.tmp 28) (.const (.int .i64 0)) t28 (.int .i64 0) w K') w fun t29 w =>
  pickT t26 (.bool true) t29 w fun t30 w =>
  condT t30 (
  fcallT P F.winnowlaw07_alive [] w fun t31 w =>
  K t31 w) (
  K0 [(.bool false)] w)) fun x0 w =>
  M.winnowlaw07_WalDrops.j0 a0 x0 a1 a2 w K
def M.winnowlaw07_WalDrops.L : List Nat := [0, 1, 2, 6, 7, 8, 9, 10, 11, 12, 13, 14, 15]
def M.winnowlaw07_WalDrops.pl : Nat → Plan := fun id => cond (Nat.beq id 19) ⟨(.go 0 (.go 2 (.go 3 (.go 4 (.eff 1 (.eff 5 (.go 6 (.go 7 (.go 9 (.eff 8 (.go 10 (.go 11 (.go 12 (.go 13 (.go 15 (.go 16 (.go 17 (.eff 14 (.eff 18 (.go 19 (.go 20 (.eff 21 (.go 22 (.eff 23 .nil .stop)) .stop))) .stop) .stop)))))))) .stop)))) .stop) .stop))))), [1, 5, 8, 14, 18, 21, 23], false, [0, 1, 0, 0, 12, 31, 63, 127, 255, 127, 1023, 2047, 4095, 8191, 16383, 8191, 8191, 106495, 262143, 524287, 1048575, 2097151, 4194303, 8388607]⟩ (⟨.nil, [], false, []⟩)
theorem M.winnowlaw07_WalDrops.eq (a0 a1 a2 : Value) (w : World) (K : KV) : M.winnowlaw07_WalDrops a0 a1 a2 w K = den P M.winnowlaw07_WalDrops.L M.winnowlaw07_WalDrops.pl (Try.f13.body.getD .skip) (argE [a0, a1, a2]) w (bodyQ P Try.f13.results.toList K) := by kernel_rfl
theorem M.winnowlaw07_WalDrops.ok : okFn M.winnowlaw07_WalDrops.L M.winnowlaw07_WalDrops.pl Try.f13 (Try.f13.body.getD .skip) 3 = true := by kernel_rfl
theorem M.winnowlaw07_WalDrops.calls (a0 a1 a2 : Value) {w : World} {K : KV} (h : M.winnowlaw07_WalDrops a0 a1 a2 w K) : callT P F.winnowlaw07_WalDrops [a0, a1, a2] w K :=
  callT_of_den (by kernel_rfl) Try.func13 (by kernel_rfl) M.winnowlaw07_WalDrops.ok (M.winnowlaw07_WalDrops.eq a0 a1 a2 w K ▸ h)
theorem M.winnowlaw07_WalDrops.fcall (args : List Value) (w : World) (K : KV) : fcallT P F.winnowlaw07_WalDrops args w K = callT P F.winnowlaw07_WalDrops args w K := fcallT_eq Try.func13 (by kernel_rfl) (by kernel_rfl) args w K
theorem M.winnowlaw07_WalDrops.rcall (a c args : List Value) (w : World) (K : KV) : callRT P (.func (.func F.winnowlaw07_WalDrops) a.toArray c.toArray) args w K = callT P F.winnowlaw07_WalDrops (a ++ args ++ c) w K := callR_fn Try.func13 (by kernel_rfl) (by kernel_rfl) a c args w K

def M.winnowlaw07_alive.j0 (t17 : Value) (t12 : Value) (w : World) (K : KV) : Prop :=
  bsT P T.sl_uint8 1 #[(0, (.int .u8 97))] w fun t26 w =>
  cvT P T.sl_uint8 T.sl_uint8 t26 w fun t27 w =>
  fcallT P F.pwal_Log_Append [t17, t27] w fun t28 w =>
  fcallT P F.pwal_Log_Sync [t17] w fun t30 w =>
  bsT P T.sl_uint8 1 #[(0, (.int .u8 98))] w fun t32 w =>
  cvT P T.sl_uint8 T.sl_uint8 t32 w fun t33 w =>
  fcallT P F.pwal_Log_Append [t17, t33] w fun t34 w =>
  fcallT P F.pdisk_Disk_Crash [t12, (.slice none 0 0)] w fun t36 w =>
  fcallT P F.wal_Open [t12, (.int .i64 64)] w fun t39 w =>
  exT P t39 0 w fun t40 w =>
  exT P t39 1 w fun t41 w =>
  binT P .eql T.api_Kind (.tmp 42) (.const (.int .i64 0)) t28 (.int .i64 0) w fun t43 w =>
  guardT (isB t43 true) (fun K' => K' t30 w) w fun t45 w =>
  guardT (isB t43 true) (fun K' => binT P .eql T.api_Kind (.tmp 45) (.const (.int .i64 0)) t45 (.int .i64 0) w K') w fun t46 w =>
  pickT t43 t46 (.bool false) w fun t47 w =>
  guardT (isB t47 true) (fun K' => K' t34 w) w fun t49 w =>
  guardT (isB t47 true) (fun K' => binT P .eql T.api_Kind (.tmp 49) (.const (.int .i64 0)) t49 (.int .i64 0) w K') w fun t50 w =>
  pickT t47 t50 (.bool false) w fun t51 w =>
  guardT (isB t51 true) (fun K' => K' t41 w) w fun t53 w =>
  guardT (isB t51 true) (fun K' => binT P .eql T.api_Kind (.tmp 53) (.const (.int .i64 0)) t53 (.int .i64 0) w K') w fun t54 w =>
  pickT t51 t54 (.bool false) w fun t55 w =>
  guardT (isB t55 true) (fun K' => K' t40 w) w fun t57 w =>
  guardT (isB t55 true) (fun K' => binT P .neq T.p_wal_Log (.tmp 57) (.const (.pointer none)) t57 (.pointer none) w K') w fun t58 w =>
  pickT t55 t58 (.bool false) w fun t59 w =>
  guardT (isB t59 true) (fun K' => K' t40 w) w fun t61 w =>
  guardT (isB t59 true) (fun K' => fcallT P F.pwal_Log_Records [t61] w K') w fun t62 w =>
  guardT (isB t59 true) (fun K' => biT P .len #[T.sl_sl_uint8] T.int [false] [t62] w K') w fun t63 w =>
  guardT (isB t59 true) (fun K' => binT P .eql T.int (.tmp 63) (.const (.int .i64 1)) t63 (.int .i64 1) w K') w fun t64 w =>
  pickT t59 t64 (.bool false) w fun t65 w =>
  guardT (isB t65 true) (fun K' => K' t40 w) w fun t67 w =>
  guardT (isB t65 true) (fun K' => fcallT P F.pwal_Log_Records [t67] w K') w fun t68 w =>
  guardT (isB t65 true) (fun K' => iaT P T.sl_sl_uint8 t68 (.int .i64 0) w K') w fun t69 w =>
  guardT (isB t65 true) (fun K' => ldT P T.sl_uint8 t69 w K') w fun t70 w =>
  guardT (isB t65 true) (fun K' => cvT P T.sl_uint8 T.string t70 w K') w fun t71 w =>
  guardT (isB t65 true) (fun K' => binT P .eql T.string (.tmp 71) (.const (.string ⟨#[97]⟩)) t71 (.string ⟨#[97]⟩) w K') w fun t72 w =>
  pickT t65 t72 (.bool false) w fun t73 w =>
  K t73 w
/-- winnow/winnowlaw07.alive -/
def M.winnowlaw07_alive (w : World) (K : KV) : Prop :=
  fcallT P F.disk_New [(.int .i64 1000)] w fun t11 w =>
  exT P t11 0 w fun t12 w =>
  exT P t11 1 w fun t13 w =>
  fcallT P F.wal_Open [t12, (.int .i64 64)] w fun t16 w =>
  exT P t16 0 w fun t17 w =>
  exT P t16 1 w fun t18 w =>
  joinT (fun K0 =>
  binT P .neq T.api_Kind (.tmp 19) (.const (.int .i64 0)) t18 (.int .i64 0) w fun t20 w =>
  guardT (isB t20 false) (fun K' => K' t17 w) w fun t22 w =>
  guardT (isB t20 false) (fun K' => binT P .eql T.p_wal_Log (.tmp 22) (.const (.pointer none)) t22 (.pointer none) w K') w fun t23 w =>
  pickT t20 (.bool true) t23 w fun t24 w =>
  condT t24 (
  K (.bool false) w) (
  K0 [(.bool false)] w)) fun x0 w =>
  M.winnowlaw07_alive.j0 t17 t12 w K
def M.winnowlaw07_alive.L : List Nat := [0, 1, 2, 3, 4, 5, 6, 7, 8, 9]
def M.winnowlaw07_alive.pl : Nat → Plan := fun id => ⟨.nil, [], false, []⟩
theorem M.winnowlaw07_alive.eq (w : World) (K : KV) : M.winnowlaw07_alive  w K = den P M.winnowlaw07_alive.L M.winnowlaw07_alive.pl (Try.f41.body.getD .skip) (argE []) w (bodyQ P Try.f41.results.toList K) := by kernel_rfl
theorem M.winnowlaw07_alive.ok : okFn M.winnowlaw07_alive.L M.winnowlaw07_alive.pl Try.f41 (Try.f41.body.getD .skip) 0 = true := by kernel_rfl
theorem M.winnowlaw07_alive.calls {w : World} {K : KV} (h : M.winnowlaw07_alive  w K) : callT P F.winnowlaw07_alive [] w K :=
  callT_of_den (by kernel_rfl) Try.func41 (by kernel_rfl) M.winnowlaw07_alive.ok (M.winnowlaw07_alive.eq  w K ▸ h)
theorem M.winnowlaw07_alive.fcall (args : List Value) (w : World) (K : KV) : fcallT P F.winnowlaw07_alive args w K = callT P F.winnowlaw07_alive args w K := fcallT_eq Try.func41 (by kernel_rfl) (by kernel_rfl) args w K
theorem M.winnowlaw07_alive.rcall (a c args : List Value) (w : World) (K : KV) : callRT P (.func (.func F.winnowlaw07_alive) a.toArray c.toArray) args w K = callT P F.winnowlaw07_alive (a ++ args ++ c) w K := callR_fn Try.func41 (by kernel_rfl) (by kernel_rfl) a c args w K

/-- winnow/disk.New -/
def M.disk_New (a0 : Value) (w : World) (K : KV) : Prop :=
  joinT (fun K0 =>
  binT P .lss T.int (.tmp 4) (.const (.int .i64 1)) a0 (.int .i64 1) w fun t5 w =>
  guardT (isB t5 false) (fun K' => K' a0 w) w fun t7 w =>
  guardT (isB t5 false) (fun K' => binT P .gtr T.int (.tmp 7) (.const (.int .i64 1048576)) t7 (.int .i64 1048576) w K') w fun t8 w =>
  pickT t5 (.bool true) t8 w fun t9 w =>
  condT t9 (
  K (.tuple #[(.pointer none), (.int .i64 1)]) w) (
  K0 [(.pointer none), (.int .i64 0)] w)) fun x0 w =>
  mkmT P T.map_int_p_disk_file none w fun t11 w =>
  bldT P T.disk_Disk #[(0, a0), (1, t11)] w fun t12 w =>
  boxT P T.disk_Disk t12 w fun t13 w =>
  K (.tuple #[t13, (.int .i64 0)]) w
def M.disk_New.L : List Nat := [0, 2, 3]
def M.disk_New.pl : Nat → Plan := fun id => ⟨.nil, [], false, []⟩
theorem M.disk_New.eq (a0 : Value) (w : World) (K : KV) : M.disk_New a0 w K = den P M.disk_New.L M.disk_New.pl (Try.f42.body.getD .skip) (argE [a0]) w (bodyQ P Try.f42.results.toList K) := by kernel_rfl
theorem M.disk_New.ok : okFn M.disk_New.L M.disk_New.pl Try.f42 (Try.f42.body.getD .skip) 1 = true := by kernel_rfl
theorem M.disk_New.calls (a0 : Value) {w : World} {K : KV} (h : M.disk_New a0 w K) : callT P F.disk_New [a0] w K :=
  callT_of_den (by kernel_rfl) Try.func42 (by kernel_rfl) M.disk_New.ok (M.disk_New.eq a0 w K ▸ h)
theorem M.disk_New.fcall (args : List Value) (w : World) (K : KV) : fcallT P F.disk_New args w K = callT P F.disk_New args w K := fcallT_eq Try.func42 (by kernel_rfl) (by kernel_rfl) args w K
theorem M.disk_New.rcall (a c args : List Value) (w : World) (K : KV) : callRT P (.func (.func F.disk_New) a.toArray c.toArray) args w K = callT P F.disk_New (a ++ args ++ c) w K := callR_fn Try.func42 (by kernel_rfl) (by kernel_rfl) a c args w K

def M.wal_Open.j5 (t29 : Value) (t51 : Value) (K4 : KL) (x2 : List Value) (t41 : Value) (t52 : Value) (x5 : List Value) (w : World) (K : KV) : Prop :=
  nilT t29 w fun t78 w =>
  faT P T.wal_Log t78 2 w fun t79 w =>
  ldT P T.sl_p_wal_part t79 w fun t80 w =>
  bsT P T.sl_p_wal_part 1 #[(0, t51)] w fun t82 w =>
  biT P .append #[T.sl_p_wal_part, T.sl_p_wal_part] T.sl_p_wal_part [false, false] [t80, t82] w fun t83 w =>
  nilT t29 w fun t84 w =>
  faT P T.wal_Log t84 2 w fun t85 w =>
  stT P T.sl_p_wal_part t85 t83 w fun _ w =>
  K4 [(gv x2 9), t41, t51, t52, (gv x5 0), (gv x5 1), (gv x5 2), (gv x5 3), (gv x5 4)] w
def M.wal_Open.j3 (t32 : Value) (x2 : List Value) (t34 : Value) (t29 : Value) (K2 : KL) (w : World) (K : KV) : Prop :=
  joinT (fun K4 =>
  iaT P T.sl_int t32 (gv x2 9) w fun t40 w =>
  ldT P T.int t40 w fun t41 w =>
  biT P .len #[T.sl_int] T.int [false] [t32] w fun t47 w =>
  binT P .sub T.int (.tmp 47) (.const (.int .i64 1)) t47 (.int .i64 1) w fun t48 w =>
  binT P .eql T.int (.tmp 45) (.tmp 48) (gv x2 9) t48 w fun t49 w =>
  callRT P t34 [t41, t49] w fun t50 w =>
  exT P t50 0 w fun t51 w =>
  exT P t50 1 w fun t52 w =>
  joinT (fun K5 =>
  binT P .neq T.api_Kind (.tmp 54) (.const (.int .i64 0)) t52 (.int .i64 0) w fun t55 w =>
  condT t55 (
  K (.tuple #[(.pointer none), t52]) w) (
  binT P .eql T.p_wal_part (.tmp 58) (.const (.pointer none)) t51 (.pointer none) w fun t59 w =>
  condT t59 (
  K4 [(gv x2 9), t41, t51, t52, t55, (gv x2 5), (gv x2 6), t59, (gv x2 8)] w) (
  drawT w fun w =>
  w = w ∧ quietT (fun K' => nilT t29 w K') w fun t62 =>
  quietT (fun K' => faT P T.wal_Log t62 2 w K') w fun t63 =>
  quietT (fun K' => ldT P T.sl_p_wal_part t63 w K') w fun t64 =>
  quietT (fun K' => biT P .len #[T.sl_p_wal_part] T.int [false] [t64] w K') w fun t65 =>
  quietT (fun K' => binT P .gtr T.int (.tmp 65) (.const (.int .i64 0)) t65 (.int .i64 0) w K') w fun t66 =>
  w = w ∧ quietT (fun K' => guardT (isB t66 true) (fun K' => K' t51 w) w K') w fun t68 =>
  quietT (fun K' => guardT (isB t66 true) (fun K' => nilT t68 w K') w K') w fun t69 =>
  quietT (fun K' => guardT (isB t66 true) (fun K' => faT P T.wal_part t69 1 w K') w K') w fun t70 =>
  quietT (fun K' => guardT (isB t66 true) (fun K' => ldT P T.int t70 w K') w K') w fun t71 =>
  quietT (fun K' => guardT (isB t66 true) (fun K' => K' t29 w) w K') w fun t72 =>
  guardT (isB t66 true) (fun K' => fcallT P F.pwal_Log_next [t72] w K') w fun t73 w =>
  stabT (fun K' => guardT (isB t66 true) (fun K' => ldT P T.int t70 w K') w K') w t71 ∧ stabT (fun K' => guardT (isB t66 true) (fun K' => faT P T.wal_part t69 1 w K') w K') w t70 ∧ stabT (fun K' => guardT (isB t66 true) (fun K' => nilT t68 w K') w K') w t69 ∧ stabT (fun K' => guardT (isB t66 true) (fun K' => K' t51 w) w K') w t68 ∧ quietT (fun K' => guardT (isB t66 true) (fun K' => binT P .neq T.int (.tmp 71) (.tmp 73) t71 t73 w K') w K') w fun t74 =>
  quietT (fun K' => pickT t66 t74 (.bool false) w K') w fun t75 =>
  condT t75 (
  K (.tuple #[(.pointer none), (.int .i64 6)]) w) (
  K5 [t55, (gv x2 5), (gv x2 6), t59, t75] w)))) fun x5 w =>
  M.wal_Open.j5 t29 t51 K4 x2 t41 t52 x5 w K) fun x4 w =>
  binT P .add T.int (.tmp 37) (.const (.int .i64 1)) (gv x2 9) (.int .i64 1) w fun t86 w =>
  K2 [(gv x4 0), (gv x4 1), (gv x4 2), (gv x4 3), (gv x4 4), (gv x4 5), (gv x4 6), (gv x4 7), (gv x4 8), t86] w
def M.wal_Open.j2 (x2 : List Value) (t36 : Value) (K1 : KL) (t32 : Value) (t34 : Value) (t29 : Value) (K2 : KL) (w : World) (K : KV) : Prop :=
  binT P .lss T.int (.tmp 37) (.tmp 36) (gv x2 9) t36 w fun t38 w =>
  joinT (fun K3 =>
  condT t38 (
  K3 [] w) (
  K1 [t32, t36, (gv x2 9), (gv x2 0), (gv x2 1), (gv x2 2), (gv x2 3), (gv x2 4), (gv x2 5), (gv x2 6), (gv x2 7), (gv x2 8)] w)) fun x3 w =>
  M.wal_Open.j3 t32 x2 t34 t29 K2 w K
def M.wal_Open.j0 (a0 : Value) (a1 : Value) (x0 : List Value) (w : World) (K : KV) : Prop :=
  bldT P T.wal_Log #[(0, a0), (1, a1)] w fun t28 w =>
  boxT P T.wal_Log t28 w fun t29 w =>
  fcallT P F.pdisk_Disk_Files [a0] w fun t31 w =>
  fcallT P F.wal_order [t31] w fun t32 w =>
  mkfT P (.func F.pwal_Log_load) [t29] [] w fun t34 w =>
  joinT (fun K1 =>
  biT P .len #[T.sl_int] T.int [false] [t32] w fun t36 w =>
  loopT [undef, undef, undef, undef, undef, (gv x0 1), (gv x0 2), undef, undef, (.int .i64 0)] w fun K2 x2 w =>
  M.wal_Open.j2 x2 t36 K1 t32 t34 t29 K2 w K) fun x1 w =>
  K (.tuple #[t29, (.int .i64 0)]) w
/-- winnow/wal.Open -/
def M.wal_Open (a0 a1 : Value) (w : World) (K : KV) : Prop :=
  joinT (fun K0 =>
  binT P .eql T.p_disk_Disk (.tmp 14) (.const (.pointer none)) a0 (.pointer none) w fun t15 w =>
  condT t15 (
  K (.tuple #[(.pointer none), (.int .i64 13)]) w) (
  binT P .lss T.int (.tmp 17) (.const (.int .i64 64)) a1 (.int .i64 64) w fun t18 w =>
  guardT (isB t18 false) (fun K' => K' a1 w) w fun t20 w =>
  guardT (isB t18 false) (fun K' => binT P .gtr T.int (.tmp 20) (.const (.int .i64 1048576)) t20 (.int .i64 1048576) w K') w fun t21 w =>
  pickT t18 (.bool true) t21 w fun t22 w =>
  condT t22 (
  K (.tuple #[(.pointer none), (.int .i64 1)]) w) (
  fcallT P F.pdisk_Disk_Down [a0] w fun t25 w =>
  condT t25 (
  K (.tuple #[(.pointer none), (.int .i64 10)]) w) (
  K0 [t15, (.pointer none), (.int .i64 0), t22, t25] w)))) fun x0 w =>
  M.wal_Open.j0 a0 a1 x0 w K
def M.wal_Open.L : List Nat := [0, 1, 4, 5, 13, 16, 23, 6, 7, 8, 9, 10, 11, 12, 53, 57, 60, 37, 36, 35]
def M.wal_Open.pl : Nat → Plan := fun id => cond (Nat.beq id 17) ⟨(.go 0 (.go 1 (.go 2 (.go 3 (.go 4 (.go 5 (.go 6 (.go 7 (.go 8 (.go 9 (.go 10 (.go 11 (.eff 12 (.go 13 (.go 14 (.eff 15 .nil .stop))) .stop))))))))))))), [12, 15], false, [0, 1, 3, 7, 15, 31, 63, 127, 255, 511, 1023, 127, 2175, 8191, 16383, 32767]⟩ (⟨.nil, [], false, []⟩)
theorem M.wal_Open.eq (a0 a1 : Value) (w : World) (K : KV) : M.wal_Open a0 a1 w K = den P M.wal_Open.L M.wal_Open.pl (Try.f43.body.getD .skip) (argE [a0, a1]) w (bodyQ P Try.f43.results.toList K) := by kernel_rfl
theorem M.wal_Open.ok : okFn M.wal_Open.L M.wal_Open.pl Try.f43 (Try.f43.body.getD .skip) 2 = true := by kernel_rfl
theorem M.wal_Open.calls (a0 a1 : Value) {w : World} {K : KV} (h : M.wal_Open a0 a1 w K) : callT P F.wal_Open [a0, a1] w K :=
  callT_of_den (by kernel_rfl) Try.func43 (by kernel_rfl) M.wal_Open.ok (M.wal_Open.eq a0 a1 w K ▸ h)
theorem M.wal_Open.fcall (args : List Value) (w : World) (K : KV) : fcallT P F.wal_Open args w K = callT P F.wal_Open args w K := fcallT_eq Try.func43 (by kernel_rfl) (by kernel_rfl) args w K
theorem M.wal_Open.rcall (a c args : List Value) (w : World) (K : KV) : callRT P (.func (.func F.wal_Open) a.toArray c.toArray) args w K = callT P F.wal_Open (a ++ args ++ c) w K := callR_fn Try.func43 (by kernel_rfl) (by kernel_rfl) a c args w K

def M.pwal_Log_Append.j3 (t20 : Value) (t14 : Value) (a1 : Value) (w : World) (K : KV) : Prop :=
  drawT w fun w =>
  w = w ∧ w = w ∧ w = w ∧ quietT (fun K' => nilT t20 w K') w fun t54 =>
  quietT (fun K' => faT P T.wal_part t54 2 w K') w fun t55 =>
  quietT (fun K' => ldT P T.sl_sl_uint8 t55 w K') w fun t56 =>
  w = w ∧ w = w ∧ quietT (fun K' => nilT t20 w K') w fun t62 =>
  quietT (fun K' => faT P T.wal_part t62 3 w K') w fun t63 =>
  quietT (fun K' => ldT P T.int t63 w K') w fun t64 =>
  w = w ∧ quietT (fun K' => biT P .len #[T.sl_uint8] T.int [false] [t14] w K') w fun t66 =>
  quietT (fun K' => binT P .add T.int (.tmp 64) (.tmp 66) t64 t66 w K') w fun t67 =>
  fcallT P F.slices_Clone_byte_byte [a1] w fun t58 w =>
  stabT (fun K' => binT P .add T.int (.tmp 64) (.tmp 66) t64 t66 w K') w t67 ∧ stabT (fun K' => biT P .len #[T.sl_uint8] T.int [false] [t14] w K') w t66 ∧ stabT (fun K' => K' t14 w) w t14 ∧ stabT (fun K' => ldT P T.int t63 w K') w t64 ∧ stabT (fun K' => faT P T.wal_part t62 3 w K') w t63 ∧ stabT (fun K' => nilT t20 w K') w t62 ∧ stabT (fun K' => K' t20 w) w t20 ∧ stabT (fun K' => ldT P T.sl_sl_uint8 t55 w K') w t56 ∧ stabT (fun K' => faT P T.wal_part t54 2 w K') w t55 ∧ stabT (fun K' => nilT t20 w K') w t54 ∧ stabT (fun K' => K' t20 w) w t20 ∧ stabT (fun K' => K' t20 w) w t20 ∧ stabT (fun K' => K' t20 w) w t20 ∧ bsT P T.sl_sl_uint8 1 #[(0, t58)] w fun t59 w =>
  stabT (fun K' => binT P .add T.int (.tmp 64) (.tmp 66) t64 t66 w K') w t67 ∧ stabT (fun K' => biT P .len #[T.sl_uint8] T.int [false] [t14] w K') w t66 ∧ stabT (fun K' => K' t14 w) w t14 ∧ stabT (fun K' => ldT P T.int t63 w K') w t64 ∧ stabT (fun K' => faT P T.wal_part t62 3 w K') w t63 ∧ stabT (fun K' => nilT t20 w K') w t62 ∧ stabT (fun K' => K' t20 w) w t20 ∧ stabT (fun K' => ldT P T.sl_sl_uint8 t55 w K') w t56 ∧ stabT (fun K' => faT P T.wal_part t54 2 w K') w t55 ∧ stabT (fun K' => nilT t20 w K') w t54 ∧ stabT (fun K' => K' t20 w) w t20 ∧ stabT (fun K' => K' t20 w) w t20 ∧ stabT (fun K' => K' t20 w) w t20 ∧ biT P .append #[T.sl_sl_uint8, T.sl_sl_uint8] T.sl_sl_uint8 [false, false] [t56, t59] w fun t60 w =>
  stabT (fun K' => binT P .add T.int (.tmp 64) (.tmp 66) t64 t66 w K') w t67 ∧ stabT (fun K' => biT P .len #[T.sl_uint8] T.int [false] [t14] w K') w t66 ∧ stabT (fun K' => K' t14 w) w t14 ∧ stabT (fun K' => ldT P T.int t63 w K') w t64 ∧ stabT (fun K' => faT P T.wal_part t62 3 w K') w t63 ∧ stabT (fun K' => nilT t20 w K') w t62 ∧ stabT (fun K' => K' t20 w) w t20 ∧ stabT (fun K' => K' t20 w) w t20 ∧ stabT (fun K' => K' t20 w) w t20 ∧ quietT (fun K' => nilT t20 w K') w fun t68 =>
  quietT (fun K' => faT P T.wal_part t68 2 w K') w fun t69 =>
  stT P T.sl_sl_uint8 t69 t60 w fun _ w =>
  stabT (fun K' => binT P .add T.int (.tmp 64) (.tmp 66) t64 t66 w K') w t67 ∧ stabT (fun K' => biT P .len #[T.sl_uint8] T.int [false] [t14] w K') w t66 ∧ stabT (fun K' => K' t14 w) w t14 ∧ stabT (fun K' => K' t20 w) w t20 ∧ quietT (fun K' => nilT t20 w K') w fun t70 =>
  quietT (fun K' => faT P T.wal_part t70 3 w K') w fun t71 =>
  stT P T.int t71 t67 w fun _ w =>
  K (.int .i64 0) w
def M.pwal_Log_Append.j2 (a0 : Value) (t20 : Value) (t14 : Value) (x2 : List Value) (a1 : Value) (w : World) (K : KV) : Prop :=
  joinT (fun K3 =>
  drawT w fun w =>
  w = w ∧ quietT (fun K' => nilT a0 w K') w fun t39 =>
  quietT (fun K' => faT P T.wal_Log t39 0 w K') w fun t40 =>
  quietT (fun K' => ldT P T.p_disk_Disk t40 w K') w fun t41 =>
  w = w ∧ quietT (fun K' => nilT t20 w K') w fun t43 =>
  quietT (fun K' => faT P T.wal_part t43 0 w K') w fun t44 =>
  quietT (fun K' => ldT P T.int t44 w K') w fun t45 =>
  w = w ∧ fcallT P F.pdisk_Disk_Append [t41, t45, t14] w fun t47 w =>
  binT P .neq T.api_Kind (.tmp 48) (.const (.int .i64 0)) t47 (.int .i64 0) w fun t49 w =>
  condT t49 (
  K t47 w) (
  K3 [t47, (gv x2 0)] w)) fun x3 w =>
  M.pwal_Log_Append.j3 t20 t14 a1 w K
def M.pwal_Log_Append.j1 (a0 : Value) (a1 : Value) (t14 : Value) (x1 : List Value) (w : World) (K : KV) : Prop :=
  fcallT P F.pwal_Log_last [a0] w fun t20 w =>
  joinT (fun K2 =>
  drawT w fun w =>
  w = w ∧ quietT (fun K' => binT P .eql T.p_wal_part (.tmp 21) (.const (.pointer none)) t20 (.pointer none) w K') w fun t22 =>
  w = w ∧ quietT (fun K' => guardT (isB t22 false) (fun K' => K' t20 w) w K') w fun t24 =>
  quietT (fun K' => guardT (isB t22 false) (fun K' => nilT t24 w K') w K') w fun t25 =>
  quietT (fun K' => guardT (isB t22 false) (fun K' => faT P T.wal_part t25 3 w K') w K') w fun t26 =>
  quietT (fun K' => guardT (isB t22 false) (fun K' => ldT P T.int t26 w K') w K') w fun t27 =>
  quietT (fun K' => guardT (isB t22 false) (fun K' => K' a0 w) w K') w fun t28 =>
  quietT (fun K' => guardT (isB t22 false) (fun K' => nilT t28 w K') w K') w fun t29 =>
  quietT (fun K' => guardT (isB t22 false) (fun K' => faT P T.wal_Log t29 1 w K') w K') w fun t30 =>
  quietT (fun K' => guardT (isB t22 false) (fun K' => ldT P T.int t30 w K') w K') w fun t31 =>
  quietT (fun K' => guardT (isB t22 false) (fun K' => binT P .geq T.int (.tmp 27) (.tmp 31) t27 t31 w K') w K') w fun t32 =>
  quietT (fun K' => pickT t22 (.bool true) t32 w K') w fun t33 =>
  condT t33 (
  fcallT P F.pwal_Log_begin [a0, a1, t14] w fun t37 w =>
  K t37 w) (
  K2 [(gv x1 0)] w)) fun x2 w =>
  M.pwal_Log_Append.j2 a0 t20 t14 x2 a1 w K
def M.pwal_Log_Append.j0 (a1 : Value) (x0 : List Value) (a0 : Value) (w : World) (K : KV) : Prop :=
  fcallT P F.frame_Put [(.slice none 0 0), a1] w fun t13 w =>
  exT P t13 0 w fun t14 w =>
  exT P t13 1 w fun t15 w =>
  joinT (fun K1 =>
  binT P .neq T.api_Kind (.tmp 16) (.const (.int .i64 0)) t15 (.int .i64 0) w fun t17 w =>
  condT t17 (
  K t15 w) (
  K1 [(gv x0 0)] w)) fun x1 w =>
  M.pwal_Log_Append.j1 a0 a1 t14 x1 w K
/-- (*winnow/wal.Log).Append -/
def M.pwal_Log_Append (a0 a1 : Value) (w : World) (K : KV) : Prop :=
  joinT (fun K0 =>
  binT P .eql T.p_wal_Log (.tmp 9) (.const (.pointer none)) a0 (.pointer none) w fun t10 w =>
  condT t10 (
  K (.int .i64 13) w) (
  K0 [(.int .i64 0)] w)) fun x0 w =>
  M.pwal_Log_Append.j0 a1 x0 a0 w K
def M.pwal_Log_Append.L : List Nat := [0, 1, 4, 5, 6, 7, 8]
def M.pwal_Log_Append.pl : Nat → Plan := fun id => cond (Nat.beq id 7) ⟨(.go 0 (.go 1 (.go 2 (.go 3 (.go 4 (.go 5 (.go 6 (.go 7 (.go 8 (.go 9 (.go 10 (.go 11 (.go 12 .nil))))))))))))), [], false, [0, 1, 3, 7, 15, 31, 63, 7, 135, 391, 903, 2047, 4095]⟩ (cond (Nat.beq id 9) ⟨(.go 0 (.go 1 (.go 2 (.go 3 (.go 4 (.go 5 (.go 6 (.go 7 (.go 8 (.eff 9 (.eff 10 .nil .stop) .stop)))))))))), [9, 10], false, [0, 1, 3, 7, 0, 16, 48, 112, 0, 511, 1023]⟩ (cond (Nat.beq id 12) ⟨(.go 0 (.go 1 (.go 2 (.go 3 (.go 4 (.go 5 (.go 6 (.go 10 (.go 11 (.go 12 (.go 13 (.go 14 (.go 15 (.go 16 (.eff 7 (.eff 8 (.eff 9 (.go 17 (.go 18 (.eff 19 (.go 20 (.go 21 (.eff 22 .nil .stop))) .stop))) .stop) .stop) .stop))))))))))))))), [7, 8, 9, 19, 22], false, [0, 0, 0, 4, 12, 28, 0, 64, 192, 508, 0, 1024, 3072, 7168, 0, 16384, 64512, 16381, 147453, 409597, 1048575, 2097151, 4194303]⟩ (⟨.nil, [], false, []⟩)))
theorem M.pwal_Log_Append.eq (a0 a1 : Value) (w : World) (K : KV) : M.pwal_Log_Append a0 a1 w K = den P M.pwal_Log_Append.L M.pwal_Log_Append.pl (Try.f44.body.getD .skip) (argE [a0, a1]) w (bodyQ P Try.f44.results.toList K) := by kernel_rfl
theorem M.pwal_Log_Append.ok : okFn M.pwal_Log_Append.L M.pwal_Log_Append.pl Try.f44 (Try.f44.body.getD .skip) 2 = true := by kernel_rfl
theorem M.pwal_Log_Append.calls (a0 a1 : Value) {w : World} {K : KV} (h : M.pwal_Log_Append a0 a1 w K) : callT P F.pwal_Log_Append [a0, a1] w K :=
  callT_of_den (by kernel_rfl) Try.func44 (by kernel_rfl) M.pwal_Log_Append.ok (M.pwal_Log_Append.eq a0 a1 w K ▸ h)
theorem M.pwal_Log_Append.fcall (args : List Value) (w : World) (K : KV) : fcallT P F.pwal_Log_Append args w K = callT P F.pwal_Log_Append args w K := fcallT_eq Try.func44 (by kernel_rfl) (by kernel_rfl) args w K
theorem M.pwal_Log_Append.rcall (a c args : List Value) (w : World) (K : KV) : callRT P (.func (.func F.pwal_Log_Append) a.toArray c.toArray) args w K = callT P F.pwal_Log_Append (a ++ args ++ c) w K := callR_fn Try.func44 (by kernel_rfl) (by kernel_rfl) a c args w K

/-- (*winnow/disk.Disk).Read -/
def M.pdisk_Disk_Read (a0 a1 : Value) (w : World) (K : KV) : Prop :=
  fcallT P F.pdisk_Disk_find [a0, a1] w fun t11 w =>
  exT P t11 0 w fun t12 w =>
  exT P t11 1 w fun t13 w =>
  joinT (fun K0 =>
  binT P .neq T.api_Kind (.tmp 14) (.const (.int .i64 0)) t13 (.int .i64 0) w fun t15 w =>
  condT t15 (
  K (.tuple #[(.slice none 0 0), t13]) w) (
  K0 [(.slice none 0 0), (.int .i64 0)] w)) fun x0 w =>
  fcallT P F.pdisk_file_all [t12] w fun t18 w =>
  K (.tuple #[t18, (.int .i64 0)]) w
def M.pdisk_Disk_Read.L : List Nat := [0, 1, 4, 5, 6, 7]
def M.pdisk_Disk_Read.pl : Nat → Plan := fun id => ⟨.nil, [], false, []⟩
theorem M.pdisk_Disk_Read.eq (a0 a1 : Value) (w : World) (K : KV) : M.pdisk_Disk_Read a0 a1 w K = den P M.pdisk_Disk_Read.L M.pdisk_Disk_Read.pl (Try.f45.body.getD .skip) (argE [a0, a1]) w (bodyQ P Try.f45.results.toList K) := by kernel_rfl
theorem M.pdisk_Disk_Read.ok : okFn M.pdisk_Disk_Read.L M.pdisk_Disk_Read.pl Try.f45 (Try.f45.body.getD .skip) 2 = true := by kernel_rfl
theorem M.pdisk_Disk_Read.calls (a0 a1 : Value) {w : World} {K : KV} (h : M.pdisk_Disk_Read a0 a1 w K) : callT P F.pdisk_Disk_Read [a0, a1] w K :=
  callT_of_den (by kernel_rfl) Try.func45 (by kernel_rfl) M.pdisk_Disk_Read.ok (M.pdisk_Disk_Read.eq a0 a1 w K ▸ h)
theorem M.pdisk_Disk_Read.fcall (args : List Value) (w : World) (K : KV) : fcallT P F.pdisk_Disk_Read args w K = callT P F.pdisk_Disk_Read args w K := fcallT_eq Try.func45 (by kernel_rfl) (by kernel_rfl) args w K
theorem M.pdisk_Disk_Read.rcall (a c args : List Value) (w : World) (K : KV) : callRT P (.func (.func F.pdisk_Disk_Read) a.toArray c.toArray) args w K = callT P F.pdisk_Disk_Read (a ++ args ++ c) w K := callR_fn Try.func45 (by kernel_rfl) (by kernel_rfl) a c args w K

def M.pdisk_Disk_Cut.j1 (t20 : Value) (a2 : Value) (t14 : Value) (w : World) (K : KV) : Prop :=
  slT P T.sl_uint8 t20 none (some a2) none w fun t33 w =>
  nilT t14 w fun t34 w =>
  faT P T.disk_file t34 0 w fun t35 w =>
  stT P T.sl_uint8 t35 t33 w fun _ w =>
  nilT t14 w fun t36 w =>
  faT P T.disk_file t36 1 w fun t37 w =>
  stT P T.sl_uint8 t37 (.slice none 0 0) w fun _ w =>
  K (.int .i64 0) w
def M.pdisk_Disk_Cut.j0 (t14 : Value) (a2 : Value) (x0 : List Value) (w : World) (K : KV) : Prop :=
  fcallT P F.pdisk_file_all [t14] w fun t20 w =>
  joinT (fun K1 =>
  binT P .lss T.int (.tmp 21) (.const (.int .i64 0)) a2 (.int .i64 0) w fun t22 w =>
  guardT (isB t22 false) (fun K' => K' a2 w) w fun t24 w =>
  guardT (isB t22 false) (fun K' => K' t20 w) w fun t25 w =>
  guardT (isB t22 false) (fun K' => biT P .len #[T.sl_uint8] T.int [false] [t25] w K') w fun t26 w =>
  guardT (isB t22 false) (fun K' => binT P .gtr T.int (.tmp 24) (.tmp 26) t24 t26 w K') w fun t27 w =>
  pickT t22 (.bool true) t27 w fun t28 w =>
  condT t28 (
  K (.int .i64 1) w) (
  K1 [(gv x0 0)] w)) fun x1 w =>
  M.pdisk_Disk_Cut.j1 t20 a2 t14 w K
/-- (*winnow/disk.Disk).Cut -/
def M.pdisk_Disk_Cut (a0 a1 a2 : Value) (w : World) (K : KV) : Prop :=
  fcallT P F.pdisk_Disk_find [a0, a1] w fun t13 w =>
  exT P t13 0 w fun t14 w =>
  exT P t13 1 w fun t15 w =>
  joinT (fun K0 =>
  binT P .neq T.api_Kind (.tmp 16) (.const (.int .i64 0)) t15 (.int .i64 0) w fun t17 w =>
  condT t17 (
  K t15 w) (
  K0 [(.int .i64 0)] w)) fun x0 w =>
  M.pdisk_Disk_Cut.j0 t14 a2 x0 w K
def M.pdisk_Disk_Cut.L : List Nat := [0, 1, 2, 6, 7, 8, 9]
def M.pdisk_Disk_Cut.pl : Nat → Plan := fun id => ⟨.nil, [], false, []⟩
theorem M.pdisk_Disk_Cut.eq (a0 a1 a2 : Value) (w : World) (K : KV) : M.pdisk_Disk_Cut a0 a1 a2 w K = den P M.pdisk_Disk_Cut.L M.pdisk_Disk_Cut.pl (Try.f46.body.getD .skip) (argE [a0, a1, a2]) w (bodyQ P Try.f46.results.toList K) := by kernel_rfl
theorem M.pdisk_Disk_Cut.ok : okFn M.pdisk_Disk_Cut.L M.pdisk_Disk_Cut.pl Try.f46 (Try.f46.body.getD .skip) 3 = true := by kernel_rfl
theorem M.pdisk_Disk_Cut.calls (a0 a1 a2 : Value) {w : World} {K : KV} (h : M.pdisk_Disk_Cut a0 a1 a2 w K) : callT P F.pdisk_Disk_Cut [a0, a1, a2] w K :=
  callT_of_den (by kernel_rfl) Try.func46 (by kernel_rfl) M.pdisk_Disk_Cut.ok (M.pdisk_Disk_Cut.eq a0 a1 a2 w K ▸ h)
theorem M.pdisk_Disk_Cut.fcall (args : List Value) (w : World) (K : KV) : fcallT P F.pdisk_Disk_Cut args w K = callT P F.pdisk_Disk_Cut args w K := fcallT_eq Try.func46 (by kernel_rfl) (by kernel_rfl) args w K
theorem M.pdisk_Disk_Cut.rcall (a c args : List Value) (w : World) (K : KV) : callRT P (.func (.func F.pdisk_Disk_Cut) a.toArray c.toArray) args w K = callT P F.pdisk_Disk_Cut (a ++ args ++ c) w K := callR_fn Try.func46 (by kernel_rfl) (by kernel_rfl) a c args w K

def M.pwal_Log_Records.j6 (t21 : Value) (x5 : List Value) (K5 : KL) (w : World) (K : KV) : Prop :=
  joinT (fun K7 =>
  iaT P T.sl_sl_uint8 t21 (gv x5 2) w fun t25 w =>
  ldT P T.sl_uint8 t25 w fun t26 w =>
  fcallT P F.slices_Clone_byte_byte [t26] w fun t29 w =>
  bsT P T.sl_sl_uint8 1 #[(0, t29)] w fun t30 w =>
  biT P .append #[T.sl_sl_uint8, T.sl_sl_uint8] T.sl_sl_uint8 [false, false] [(gv x5 1), t30] w fun t31 w =>
  K7 [t26, t31] w) fun x7 w =>
  binT P .add T.int (.tmp 23) (.const (.int .i64 1)) (gv x5 2) (.int .i64 1) w fun t32 w =>
  K5 [(gv x7 0), (gv x7 1), t32] w
def M.pwal_Log_Records.j3 (t12 : Value) (x2 : List Value) (K2 : KL) (w : World) (K : KV) : Prop :=
  joinT (fun K4 =>
  iaT P T.sl_p_wal_part t12 (gv x2 6) w fun t16 w =>
  ldT P T.p_wal_part t16 w fun t17 w =>
  nilT t17 w fun t19 w =>
  faT P T.wal_part t19 2 w fun t20 w =>
  ldT P T.sl_sl_uint8 t20 w fun t21 w =>
  biT P .len #[T.sl_sl_uint8] T.int [false] [t21] w fun t22 w =>
  loopT [(gv x2 4), (gv x2 5), (.int .i64 0)] w fun K5 x5 w =>
  binT P .lss T.int (.tmp 23) (.tmp 22) (gv x5 2) t22 w fun t24 w =>
  joinT (fun K6 =>
  condT t24 (
  K6 [] w) (
  K4 [t17, t21, t22, (gv x5 2), (gv x5 0), (gv x5 1)] w)) fun x6 w =>
  M.pwal_Log_Records.j6 t21 x5 K5 w K) fun x4 w =>
  binT P .add T.int (.tmp 14) (.const (.int .i64 1)) (gv x2 6) (.int .i64 1) w fun t33 w =>
  K2 [(gv x4 0), (gv x4 1), (gv x4 2), (gv x4 3), (gv x4 4), (gv x4 5), t33] w
def M.pwal_Log_Records.j0 (a0 : Value) (x0 : List Value) (w : World) (K : KV) : Prop :=
  joinT (fun K1 =>
  nilT a0 w fun t10 w =>
  faT P T.wal_Log t10 2 w fun t11 w =>
  ldT P T.sl_p_wal_part t11 w fun t12 w =>
  biT P .len #[T.sl_p_wal_part] T.int [false] [t12] w fun t13 w =>
  loopT [undef, undef, undef, undef, undef, (gv x0 0), (.int .i64 0)] w fun K2 x2 w =>
  binT P .lss T.int (.tmp 14) (.tmp 13) (gv x2 6) t13 w fun t15 w =>
  joinT (fun K3 =>
  condT t15 (
  K3 [] w) (
  K1 [t12, t13, (gv x2 6), (gv x2 0), (gv x2 1), (gv x2 2), (gv x2 3), (gv x2 4), (gv x2 5)] w)) fun x3 w =>
  M.pwal_Log_Records.j3 t12 x2 K2 w K) fun x1 w =>
  K (gv x1 8) w
/-- (*winnow/wal.Log).Records -/
def M.pwal_Log_Records (a0 : Value) (w : World) (K : KV) : Prop :=
  joinT (fun K0 =>
  binT P .eql T.p_wal_Log (.tmp 7) (.const (.pointer none)) a0 (.pointer none) w fun t8 w =>
  condT t8 (
  K (.slice none 0 0) w) (
  K0 [(.slice none 0 0)] w)) fun x0 w =>
  M.pwal_Log_Records.j0 a0 x0 w K
def M.pwal_Log_Records.L : List Nat := [0, 2, 4, 6, 14, 13, 12, 23, 22, 21]
def M.pwal_Log_Records.pl : Nat → Plan := fun id => ⟨.nil, [], false, []⟩
theorem M.pwal_Log_Records.eq (a0 : Value) (w : World) (K : KV) : M.pwal_Log_Records a0 w K = den P M.pwal_Log_Records.L M.pwal_Log_Records.pl (Try.f47.body.getD .skip) (argE [a0]) w (bodyQ P Try.f47.results.toList K) := by kernel_rfl
theorem M.pwal_Log_Records.ok : okFn M.pwal_Log_Records.L M.pwal_Log_Records.pl Try.f47 (Try.f47.body.getD .skip) 1 = true := by kernel_rfl
theorem M.pwal_Log_Records.calls (a0 : Value) {w : World} {K : KV} (h : M.pwal_Log_Records a0 w K) : callT P F.pwal_Log_Records [a0] w K :=
  callT_of_den (by kernel_rfl) Try.func47 (by kernel_rfl) M.pwal_Log_Records.ok (M.pwal_Log_Records.eq a0 w K ▸ h)
theorem M.pwal_Log_Records.fcall (args : List Value) (w : World) (K : KV) : fcallT P F.pwal_Log_Records args w K = callT P F.pwal_Log_Records args w K := fcallT_eq Try.func47 (by kernel_rfl) (by kernel_rfl) args w K
theorem M.pwal_Log_Records.rcall (a c args : List Value) (w : World) (K : KV) : callRT P (.func (.func F.pwal_Log_Records) a.toArray c.toArray) args w K = callT P F.pwal_Log_Records (a ++ args ++ c) w K := callR_fn Try.func47 (by kernel_rfl) (by kernel_rfl) a c args w K

def M.winnowref02_Same.j3 (a0 : Value) (x2 : List Value) (a1 : Value) (K2 : KL) (w : World) (K : KV) : Prop :=
  joinT (fun K4 =>
  drawT w fun w =>
  w = w ∧ w = w ∧ quietT (fun K' => iaT P T.sl_sl_uint8 a0 (gv x2 1) w K') w fun t19 =>
  quietT (fun K' => ldT P T.sl_uint8 t19 w K') w fun t20 =>
  w = w ∧ w = w ∧ quietT (fun K' => iaT P T.sl_sl_uint8 a1 (gv x2 1) w K') w fun t23 =>
  quietT (fun K' => ldT P T.sl_uint8 t23 w K') w fun t24 =>
  fcallT P F.winnowref01_Same [t20, t24] w fun t25 w =>
  quietT (fun K' => unT P .not t25 w K') w fun t26 =>
  condT t26 (
  K (.bool false) w) (
  K4 [(gv x2 0)] w)) fun x4 w =>
  binT P .add T.int (.tmp 15) (.const (.int .i64 1)) (gv x2 1) (.int .i64 1) w fun t16 w =>
  K2 [(gv x4 0), t16] w
def M.winnowref02_Same.j0 (x0 : List Value) (a0 : Value) (a1 : Value) (w : World) (K : KV) : Prop :=
  joinT (fun K1 =>
  loopT [(gv x0 0), (.int .i64 0)] w fun K2 x2 w =>
  joinT (fun K3 =>
  biT P .len #[T.sl_sl_uint8] T.int [false] [a0] w fun t13 w =>
  binT P .lss T.int (.tmp 11) (.tmp 13) (gv x2 1) t13 w fun t14 w =>
  condT t14 (
  K3 [] w) (
  K1 [(gv x2 1), (gv x2 0)] w)) fun x3 w =>
  M.winnowref02_Same.j3 a0 x2 a1 K2 w K) fun x1 w =>
  K (.bool true) w
/-- winnow/winnowref02.Same -/
def M.winnowref02_Same (a0 a1 : Value) (w : World) (K : KV) : Prop :=
  joinT (fun K0 =>
  biT P .len #[T.sl_sl_uint8] T.int [false] [a0] w fun t7 w =>
  biT P .len #[T.sl_sl_uint8] T.int [false] [a1] w fun t9 w =>
  binT P .neq T.int (.tmp 7) (.tmp 9) t7 t9 w fun t10 w =>
  condT t10 (
  K (.bool false) w) (
  K0 [(.bool false)] w)) fun x0 w =>
  M.winnowref02_Same.j0 x0 a0 a1 w K
def M.winnowref02_Same.L : List Nat := [0, 1, 4, 5]
def M.winnowref02_Same.pl : Nat → Plan := fun id => cond (Nat.beq id 6) ⟨(.go 0 (.go 1 (.go 2 (.go 3 (.go 4 (.go 5 (.go 6 (.go 7 (.eff 8 (.go 9 .nil) .stop))))))))), [8], false, [0, 0, 3, 7, 0, 0, 48, 112, 255, 511]⟩ (⟨.nil, [], false, []⟩)
theorem M.winnowref02_Same.eq (a0 a1 : Value) (w : World) (K : KV) : M.winnowref02_Same a0 a1 w K = den P M.winnowref02_Same.L M.winnowref02_Same.pl (Try.f48.body.getD .skip) (argE [a0, a1]) w (bodyQ P Try.f48.results.toList K) := by kernel_rfl
theorem M.winnowref02_Same.ok : okFn M.winnowref02_Same.L M.winnowref02_Same.pl Try.f48 (Try.f48.body.getD .skip) 2 = true := by kernel_rfl
theorem M.winnowref02_Same.calls (a0 a1 : Value) {w : World} {K : KV} (h : M.winnowref02_Same a0 a1 w K) : callT P F.winnowref02_Same [a0, a1] w K :=
  callT_of_den (by kernel_rfl) Try.func48 (by kernel_rfl) M.winnowref02_Same.ok (M.winnowref02_Same.eq a0 a1 w K ▸ h)
theorem M.winnowref02_Same.fcall (args : List Value) (w : World) (K : KV) : fcallT P F.winnowref02_Same args w K = callT P F.winnowref02_Same args w K := fcallT_eq Try.func48 (by kernel_rfl) (by kernel_rfl) args w K
theorem M.winnowref02_Same.rcall (a c args : List Value) (w : World) (K : KV) : callRT P (.func (.func F.winnowref02_Same) a.toArray c.toArray) args w K = callT P F.winnowref02_Same (a ++ args ++ c) w K := callR_fn Try.func48 (by kernel_rfl) (by kernel_rfl) a c args w K

def M.pwal_Log_Sync.j0 (a0 : Value) (w : World) (K : KV) : Prop :=
  drawT w fun w =>
  w = w ∧ quietT (fun K' => nilT a0 w K') w fun t17 =>
  quietT (fun K' => faT P T.wal_Log t17 0 w K') w fun t18 =>
  quietT (fun K' => ldT P T.p_disk_Disk t18 w K') w fun t19 =>
  w = w ∧ fcallT P F.pwal_Log_last [a0] w fun t21 w =>
  stabT (fun K' => ldT P T.p_disk_Disk t18 w K') w t19 ∧ stabT (fun K' => faT P T.wal_Log t17 0 w K') w t18 ∧ stabT (fun K' => nilT a0 w K') w t17 ∧ stabT (fun K' => K' a0 w) w a0 ∧ quietT (fun K' => nilT t21 w K') w fun t22 =>
  quietT (fun K' => faT P T.wal_part t22 0 w K') w fun t23 =>
  quietT (fun K' => ldT P T.int t23 w K') w fun t24 =>
  fcallT P F.pdisk_Disk_Sync [t19, t24] w fun t25 w =>
  K t25 w
/-- (*winnow/wal.Log).Sync -/
def M.pwal_Log_Sync (a0 : Value) (w : World) (K : KV) : Prop :=
  joinT (fun K0 =>
  binT P .eql T.p_wal_Log (.tmp 4) (.const (.pointer none)) a0 (.pointer none) w fun t5 w =>
  condT t5 (
  K (.int .i64 13) w) (
  nilT a0 w fun t8 w =>
  faT P T.wal_Log t8 0 w fun t9 w =>
  ldT P T.p_disk_Disk t9 w fun t10 w =>
  fcallT P F.pdisk_Disk_Down [t10] w fun t11 w =>
  condT t11 (
  K (.int .i64 10) w) (
  fcallT P F.pwal_Log_last [a0] w fun t14 w =>
  binT P .eql T.p_wal_part (.tmp 14) (.const (.pointer none)) t14 (.pointer none) w fun t15 w =>
  condT t15 (
  K (.int .i64 0) w) (
  K0 [t5, (.int .i64 0), t11, t15] w)))) fun x0 w =>
  M.pwal_Log_Sync.j0 a0 w K
def M.pwal_Log_Sync.L : List Nat := [0, 2, 3, 6, 12]
def M.pwal_Log_Sync.pl : Nat → Plan := fun id => cond (Nat.beq id 7) ⟨(.go 0 (.go 1 (.go 2 (.go 3 (.go 4 (.eff 5 (.go 6 (.go 7 (.go 8 (.eff 9 (.eff 10 .nil .stop) .stop)))) .stop)))))), [5, 9, 10], false, [0, 1, 3, 7, 0, 16, 48, 112, 240, 511, 1023]⟩ (⟨.nil, [], false, []⟩)
theorem M.pwal_Log_Sync.eq (a0 : Value) (w : World) (K : KV) : M.pwal_Log_Sync a0 w K = den P M.pwal_Log_Sync.L M.pwal_Log_Sync.pl (Try.f49.body.getD .skip) (argE [a0]) w (bodyQ P Try.f49.results.toList K) := by kernel_rfl
theorem M.pwal_Log_Sync.ok : okFn M.pwal_Log_Sync.L M.pwal_Log_Sync.pl Try.f49 (Try.f49.body.getD .skip) 1 = true := by kernel_rfl
theorem M.pwal_Log_Sync.calls (a0 : Value) {w : World} {K : KV} (h : M.pwal_Log_Sync a0 w K) : callT P F.pwal_Log_Sync [a0] w K :=
  callT_of_den (by kernel_rfl) Try.func49 (by kernel_rfl) M.pwal_Log_Sync.ok (M.pwal_Log_Sync.eq a0 w K ▸ h)
theorem M.pwal_Log_Sync.fcall (args : List Value) (w : World) (K : KV) : fcallT P F.pwal_Log_Sync args w K = callT P F.pwal_Log_Sync args w K := fcallT_eq Try.func49 (by kernel_rfl) (by kernel_rfl) args w K
theorem M.pwal_Log_Sync.rcall (a c args : List Value) (w : World) (K : KV) : callRT P (.func (.func F.pwal_Log_Sync) a.toArray c.toArray) args w K = callT P F.pwal_Log_Sync (a ++ args ++ c) w K := callR_fn Try.func49 (by kernel_rfl) (by kernel_rfl) a c args w K

/-- (*winnow/wal.Log).Files -/
def M.pwal_Log_Files (a0 : Value) (w : World) (K : KV) : Prop :=
  joinT (fun K0 =>
  binT P .eql T.p_wal_Log (.tmp 3) (.const (.pointer none)) a0 (.pointer none) w fun t4 w =>
  condT t4 (
  K (.int .i64 0) w) (
  K0 [(.int .i64 0)] w)) fun x0 w =>
  nilT a0 w fun t6 w =>
  faT P T.wal_Log t6 2 w fun t7 w =>
  ldT P T.sl_p_wal_part t7 w fun t8 w =>
  biT P .len #[T.sl_p_wal_part] T.int [false] [t8] w fun t9 w =>
  K t9 w
def M.pwal_Log_Files.L : List Nat := [0, 2]
def M.pwal_Log_Files.pl : Nat → Plan := fun id => ⟨.nil, [], false, []⟩
theorem M.pwal_Log_Files.eq (a0 : Value) (w : World) (K : KV) : M.pwal_Log_Files a0 w K = den P M.pwal_Log_Files.L M.pwal_Log_Files.pl (Try.f50.body.getD .skip) (argE [a0]) w (bodyQ P Try.f50.results.toList K) := by kernel_rfl
theorem M.pwal_Log_Files.ok : okFn M.pwal_Log_Files.L M.pwal_Log_Files.pl Try.f50 (Try.f50.body.getD .skip) 1 = true := by kernel_rfl
theorem M.pwal_Log_Files.calls (a0 : Value) {w : World} {K : KV} (h : M.pwal_Log_Files a0 w K) : callT P F.pwal_Log_Files [a0] w K :=
  callT_of_den (by kernel_rfl) Try.func50 (by kernel_rfl) M.pwal_Log_Files.ok (M.pwal_Log_Files.eq a0 w K ▸ h)
theorem M.pwal_Log_Files.fcall (args : List Value) (w : World) (K : KV) : fcallT P F.pwal_Log_Files args w K = callT P F.pwal_Log_Files args w K := fcallT_eq Try.func50 (by kernel_rfl) (by kernel_rfl) args w K
theorem M.pwal_Log_Files.rcall (a c args : List Value) (w : World) (K : KV) : callRT P (.func (.func F.pwal_Log_Files) a.toArray c.toArray) args w K = callT P F.pwal_Log_Files (a ++ args ++ c) w K := callR_fn Try.func50 (by kernel_rfl) (by kernel_rfl) a c args w K

def M.winnowlaw07_light.j5 (a0 : Value) (x2 : List Value) (K4 : KL) (x5 : List Value) (w : World) (K : KV) : Prop :=
  iaT P T.sl_winnowlaw07_Op a0 (gv x2 2) w fun t24 w =>
  faT P T.winnowlaw07_Op t24 2 w fun t25 w =>
  ldT P T.sl_uint8 t25 w fun t26 w =>
  biT P .len #[T.sl_uint8] T.int [false] [t26] w fun t27 w =>
  binT P .add T.int (.tmp 21) (.tmp 27) (gv x2 1) t27 w fun t28 w =>
  K4 [(gv x5 0), t28] w
def M.winnowlaw07_light.j3 (a0 : Value) (x2 : List Value) (K2 : KL) (w : World) (K : KV) : Prop :=
  joinT (fun K4 =>
  joinT (fun K5 =>
  iaT P T.sl_winnowlaw07_Op a0 (gv x2 2) w fun t16 w =>
  faT P T.winnowlaw07_Op t16 2 w fun t17 w =>
  ldT P T.sl_uint8 t17 w fun t18 w =>
  biT P .len #[T.sl_uint8] T.int [false] [t18] w fun t19 w =>
  binT P .gtr T.int (.tmp 19) (.const (.int .i64 9000)) t19 (.int .i64 9000) w fun t20 w =>
  condT t20 (
  K (.bool false) w) (
  K5 [(gv x2 0)] w)) fun x5 w =>
  M.winnowlaw07_light.j5 a0 x2 K4 x5 w K) fun x4 w =>
  binT P .add T.int (.tmp 12) (.const (.int .i64 1)) (gv x2 2) (.int .i64 1) w fun t13 w =>
  K2 [(gv x4 0), (gv x4 1), t13] w
def M.winnowlaw07_light.j2 (a0 : Value) (x2 : List Value) (K1 : KL) (K2 : KL) (w : World) (K : KV) : Prop :=
  joinT (fun K3 =>
  biT P .len #[T.sl_winnowlaw07_Op] T.int [false] [a0] w fun t10 w =>
  binT P .lss T.int (.tmp 8) (.tmp 10) (gv x2 2) t10 w fun t11 w =>
  condT t11 (
  K3 [] w) (
  K1 [(gv x2 2), (gv x2 0), (gv x2 1)] w)) fun x3 w =>
  M.winnowlaw07_light.j3 a0 x2 K2 w K
/-- winnow/winnowlaw07.light -/
def M.winnowlaw07_light (a0 : Value) (w : World) (K : KV) : Prop :=
  joinT (fun K0 =>
  biT P .len #[T.sl_winnowlaw07_Op] T.int [false] [a0] w fun t6 w =>
  binT P .gtr T.int (.tmp 6) (.const (.int .i64 60)) t6 (.int .i64 60) w fun t7 w =>
  condT t7 (
  K (.bool false) w) (
  K0 [(.bool false)] w)) fun x0 w =>
  joinT (fun K1 =>
  loopT [(gv x0 0), (.int .i64 0), (.int .i64 0)] w fun K2 x2 w =>
  M.winnowlaw07_light.j2 a0 x2 K1 K2 w K) fun x1 w =>
  binT P .leq T.int (.tmp 29) (.const (.int .i64 30000)) (gv x1 2) (.int .i64 30000) w fun t30 w =>
  K t30 w
def M.winnowlaw07_light.L : List Nat := [0, 2, 3, 4]
def M.winnowlaw07_light.pl : Nat → Plan := fun id => ⟨.nil, [], false, []⟩
theorem M.winnowlaw07_light.eq (a0 : Value) (w : World) (K : KV) : M.winnowlaw07_light a0 w K = den P M.winnowlaw07_light.L M.winnowlaw07_light.pl (Try.f51.body.getD .skip) (argE [a0]) w (bodyQ P Try.f51.results.toList K) := by kernel_rfl
theorem M.winnowlaw07_light.ok : okFn M.winnowlaw07_light.L M.winnowlaw07_light.pl Try.f51 (Try.f51.body.getD .skip) 1 = true := by kernel_rfl
theorem M.winnowlaw07_light.calls (a0 : Value) {w : World} {K : KV} (h : M.winnowlaw07_light a0 w K) : callT P F.winnowlaw07_light [a0] w K :=
  callT_of_den (by kernel_rfl) Try.func51 (by kernel_rfl) M.winnowlaw07_light.ok (M.winnowlaw07_light.eq a0 w K ▸ h)
theorem M.winnowlaw07_light.fcall (args : List Value) (w : World) (K : KV) : fcallT P F.winnowlaw07_light args w K = callT P F.winnowlaw07_light args w K := fcallT_eq Try.func51 (by kernel_rfl) (by kernel_rfl) args w K
theorem M.winnowlaw07_light.rcall (a c args : List Value) (w : World) (K : KV) : callRT P (.func (.func F.winnowlaw07_light) a.toArray c.toArray) args w K = callT P F.winnowlaw07_light (a ++ args ++ c) w K := callR_fn Try.func51 (by kernel_rfl) (by kernel_rfl) a c args w K

/-- (*winnow/disk.Disk).Down -/
def M.pdisk_Disk_Down (a0 : Value) (w : World) (K : KV) : Prop :=
  binT P .neq T.p_disk_Disk (.tmp 3) (.const (.pointer none)) a0 (.pointer none) w fun t4 w =>
  guardT (isB t4 true) (fun K' => K' a0 w) w fun t6 w =>
  guardT (isB t4 true) (fun K' => nilT t6 w K') w fun t7 w =>
  guardT (isB t4 true) (fun K' => faT P T.disk_Disk t7 4 w K') w fun t8 w =>
  guardT (isB t4 true) (fun K' => ldT P T.bool t8 w K') w fun t9 w =>
  pickT t4 t9 (.bool false) w fun t10 w =>
  K t10 w
def M.pdisk_Disk_Down.L : List Nat := [0, 2]
def M.pdisk_Disk_Down.pl : Nat → Plan := fun id => ⟨.nil, [], false, []⟩
theorem M.pdisk_Disk_Down.eq (a0 : Value) (w : World) (K : KV) : M.pdisk_Disk_Down a0 w K = den P M.pdisk_Disk_Down.L M.pdisk_Disk_Down.pl (Try.f52.body.getD .skip) (argE [a0]) w (bodyQ P Try.f52.results.toList K) := by kernel_rfl
theorem M.pdisk_Disk_Down.ok : okFn M.pdisk_Disk_Down.L M.pdisk_Disk_Down.pl Try.f52 (Try.f52.body.getD .skip) 1 = true := by kernel_rfl
theorem M.pdisk_Disk_Down.calls (a0 : Value) {w : World} {K : KV} (h : M.pdisk_Disk_Down a0 w K) : callT P F.pdisk_Disk_Down [a0] w K :=
  callT_of_den (by kernel_rfl) Try.func52 (by kernel_rfl) M.pdisk_Disk_Down.ok (M.pdisk_Disk_Down.eq a0 w K ▸ h)
theorem M.pdisk_Disk_Down.fcall (args : List Value) (w : World) (K : KV) : fcallT P F.pdisk_Disk_Down args w K = callT P F.pdisk_Disk_Down args w K := fcallT_eq Try.func52 (by kernel_rfl) (by kernel_rfl) args w K
theorem M.pdisk_Disk_Down.rcall (a c args : List Value) (w : World) (K : KV) : callRT P (.func (.func F.pdisk_Disk_Down) a.toArray c.toArray) args w K = callT P F.pdisk_Disk_Down (a ++ args ++ c) w K := callR_fn Try.func52 (by kernel_rfl) (by kernel_rfl) a c args w K

/-- (*winnow/disk.Disk).Arm -/
def M.pdisk_Disk_Arm (a0 a1 : Value) (w : World) (K : KV) : Prop :=
  binT P .neq T.p_disk_Disk (.tmp 4) (.const (.pointer none)) a0 (.pointer none) w fun t5 w =>
  condT t5 (
  binT P .geq T.int (.tmp 8) (.const (.int .i64 0)) a1 (.int .i64 0) w fun t9 w =>
  nilT a0 w fun t11 w =>
  faT P T.disk_Disk t11 3 w fun t12 w =>
  stT P T.bool t12 t9 w fun _ w =>
  nilT a0 w fun t13 w =>
  faT P T.disk_Disk t13 2 w fun t14 w =>
  stT P T.int t14 a1 w fun _ w =>
  K (.tuple #[]) w) (
  K (.tuple #[]) w)
def M.pdisk_Disk_Arm.L : List Nat := [0, 1]
def M.pdisk_Disk_Arm.pl : Nat → Plan := fun id => ⟨.nil, [], false, []⟩
theorem M.pdisk_Disk_Arm.eq (a0 a1 : Value) (w : World) (K : KV) : M.pdisk_Disk_Arm a0 a1 w K = den P M.pdisk_Disk_Arm.L M.pdisk_Disk_Arm.pl (Try.f53.body.getD .skip) (argE [a0, a1]) w (bodyQ P Try.f53.results.toList K) := by kernel_rfl
theorem M.pdisk_Disk_Arm.ok : okFn M.pdisk_Disk_Arm.L M.pdisk_Disk_Arm.pl Try.f53 (Try.f53.body.getD .skip) 2 = true := by kernel_rfl
theorem M.pdisk_Disk_Arm.calls (a0 a1 : Value) {w : World} {K : KV} (h : M.pdisk_Disk_Arm a0 a1 w K) : callT P F.pdisk_Disk_Arm [a0, a1] w K :=
  callT_of_den (by kernel_rfl) Try.func53 (by kernel_rfl) M.pdisk_Disk_Arm.ok (M.pdisk_Disk_Arm.eq a0 a1 w K ▸ h)
theorem M.pdisk_Disk_Arm.fcall (args : List Value) (w : World) (K : KV) : fcallT P F.pdisk_Disk_Arm args w K = callT P F.pdisk_Disk_Arm args w K := fcallT_eq Try.func53 (by kernel_rfl) (by kernel_rfl) args w K
theorem M.pdisk_Disk_Arm.rcall (a c args : List Value) (w : World) (K : KV) : callRT P (.func (.func F.pdisk_Disk_Arm) a.toArray c.toArray) args w K = callT P F.pdisk_Disk_Arm (a ++ args ++ c) w K := callR_fn Try.func53 (by kernel_rfl) (by kernel_rfl) a c args w K

def M.pdisk_Disk_Crash.j5 (t23 : Value) (x5 : List Value) (K4 : KL) (x2 : List Value) (t17 : Value) (w : World) (K : KV) : Prop :=
  drawT w fun w =>
  w = w ∧ w = w ∧ w = w ∧ quietT (fun K' => nilT t23 w K') w fun t42 =>
  quietT (fun K' => faT P T.disk_file t42 0 w K') w fun t43 =>
  quietT (fun K' => ldT P T.sl_uint8 t43 w K') w fun t44 =>
  w = w ∧ quietT (fun K' => nilT t23 w K') w fun t46 =>
  quietT (fun K' => faT P T.disk_file t46 1 w K') w fun t47 =>
  quietT (fun K' => ldT P T.sl_uint8 t47 w K') w fun t48 =>
  w = w ∧ quietT (fun K' => slT P T.sl_uint8 t48 none (some (gv x5 0)) none w K') w fun t50 =>
  bsT P T.sl_sl_uint8 2 #[(0, t44), (1, t50)] w fun t51 w =>
  stabT (fun K' => K' t23 w) w t23 ∧ stabT (fun K' => K' t23 w) w t23 ∧ fcallT P F.slices_Concat_byte_byte [t51] w fun t52 w =>
  stabT (fun K' => K' t23 w) w t23 ∧ stabT (fun K' => K' t23 w) w t23 ∧ quietT (fun K' => nilT t23 w K') w fun t53 =>
  quietT (fun K' => faT P T.disk_file t53 0 w K') w fun t54 =>
  stT P T.sl_uint8 t54 t52 w fun _ w =>
  stabT (fun K' => K' t23 w) w t23 ∧ quietT (fun K' => nilT t23 w K') w fun t55 =>
  quietT (fun K' => faT P T.disk_file t55 1 w K') w fun t56 =>
  stT P T.sl_uint8 t56 (.slice none 0 0) w fun _ w =>
  K4 [(gv x2 4), t17, t23, (gv x5 0)] w
def M.pdisk_Disk_Crash.j3 (t11 : Value) (x2 : List Value) (a0 : Value) (a1 : Value) (K2 : KL) (w : World) (K : KV) : Prop :=
  joinT (fun K4 =>
  iaT P T.sl_int t11 (gv x2 4) w fun t16 w =>
  ldT P T.int t16 w fun t17 w =>
  nilT a0 w fun t19 w =>
  faT P T.disk_Disk t19 1 w fun t20 w =>
  ldT P T.map_int_p_disk_file t20 w fun t21 w =>
  luT P T.map_int_p_disk_file t21 t17 false w fun t23 w =>
  joinT (fun K5 =>
  biT P .len #[T.sl_int] T.int [false] [a1] w fun t26 w =>
  binT P .lss T.int (.tmp 24) (.tmp 26) (gv x2 4) t26 w fun t27 w =>
  condT t27 (
  drawT w fun w =>
  w = w ∧ w = w ∧ quietT (fun K' => iaT P T.sl_int a1 (gv x2 4) w K') w fun t30 =>
  quietT (fun K' => ldT P T.int t30 w K') w fun t31 =>
  w = w ∧ quietT (fun K' => nilT t23 w K') w fun t33 =>
  quietT (fun K' => faT P T.disk_file t33 1 w K') w fun t34 =>
  quietT (fun K' => ldT P T.sl_uint8 t34 w K') w fun t35 =>
  quietT (fun K' => biT P .len #[T.sl_uint8] T.int [false] [t35] w K') w fun t36 =>
  quietT (fun K' => biT P .min #[T.int, T.int] T.int [false, false] [t31, t36] w K') w fun t37 =>
  quietT (fun K' => biT P .max #[T.int, T.int] T.int [true, false] [(.int .i64 0), t37] w K') w fun t38 =>
  K5 [t38] w) (
  K5 [(.int .i64 0)] w)) fun x5 w =>
  M.pdisk_Disk_Crash.j5 t23 x5 K4 x2 t17 w K) fun x4 w =>
  binT P .add T.int (.tmp 13) (.const (.int .i64 1)) (gv x2 4) (.int .i64 1) w fun t57 w =>
  K2 [(gv x4 0), (gv x4 1), (gv x4 2), (gv x4 3), t57] w
def M.pdisk_Disk_Crash.j0 (a0 : Value) (a1 : Value) (w : World) (K : KV) : Prop :=
  joinT (fun K1 =>
  fcallT P F.pdisk_Disk_Files [a0] w fun t11 w =>
  biT P .len #[T.sl_int] T.int [false] [t11] w fun t12 w =>
  loopT [undef, undef, undef, undef, (.int .i64 0)] w fun K2 x2 w =>
  binT P .lss T.int (.tmp 13) (.tmp 12) (gv x2 4) t12 w fun t14 w =>
  joinT (fun K3 =>
  condT t14 (
  K3 [] w) (
  K1 [t11, t12, (gv x2 4), (gv x2 0), (gv x2 1), (gv x2 2), (gv x2 3)] w)) fun x3 w =>
  M.pdisk_Disk_Crash.j3 t11 x2 a0 a1 K2 w K) fun x1 w =>
  nilT a0 w fun t60 w =>
  faT P T.disk_Disk t60 3 w fun t61 w =>
  stT P T.bool t61 (.bool false) w fun _ w =>
  nilT a0 w fun t62 w =>
  faT P T.disk_Disk t62 4 w fun t63 w =>
  stT P T.bool t63 (.bool false) w fun _ w =>
  K (.tuple #[]) w
/-- (*winnow/disk.Disk).Crash -/
def M.pdisk_Disk_Crash (a0 a1 : Value) (w : World) (K : KV) : Prop :=
  joinT (fun K0 =>
  binT P .eql T.p_disk_Disk (.tmp 8) (.const (.pointer none)) a0 (.pointer none) w fun t9 w =>
  condT t9 (
  K (.tuple #[]) w) (
  K0 [] w)) fun x0 w =>
  M.pdisk_Disk_Crash.j0 a0 a1 w K
def M.pdisk_Disk_Crash.L : List Nat := [0, 1, 4, 5, 6, 7, 13, 12, 11]
def M.pdisk_Disk_Crash.pl : Nat → Plan := fun id => cond (Nat.beq id 7) ⟨(.go 0 (.go 1 (.go 2 (.go 3 (.go 4 (.go 5 (.go 6 (.go 7 (.go 8 (.go 9 (.go 10 (.eff 11 .nil .stop)))))))))))), [11], false, [0, 0, 3, 7, 0, 16, 48, 112, 240, 511, 1023, 2047]⟩ (cond (Nat.beq id 8) ⟨(.go 0 (.go 1 (.go 2 (.go 3 (.go 4 (.go 5 (.go 6 (.go 7 (.go 8 (.go 9 (.go 10 (.go 11 (.eff 12 (.eff 13 (.go 14 (.go 15 (.eff 16 (.go 17 (.go 18 (.eff 19 .nil .stop))) .stop))) .stop) .stop))))))))))))), [12, 13, 16, 19], false, [0, 0, 0, 4, 12, 28, 0, 64, 192, 448, 0, 1984, 4092, 8188, 16381, 32765, 65533, 131071, 262143, 524287]⟩ (⟨.nil, [], false, []⟩))
theorem M.pdisk_Disk_Crash.eq (a0 a1 : Value) (w : World) (K : KV) : M.pdisk_Disk_Crash a0 a1 w K = den P M.pdisk_Disk_Crash.L M.pdisk_Disk_Crash.pl (Try.f54.body.getD .skip) (argE [a0, a1]) w (bodyQ P Try.f54.results.toList K) := by kernel_rfl
theorem M.pdisk_Disk_Crash.ok : okFn M.pdisk_Disk_Crash.L M.pdisk_Disk_Crash.pl Try.f54 (Try.f54.body.getD .skip) 2 = true := by kernel_rfl
theorem M.pdisk_Disk_Crash.calls (a0 a1 : Value) {w : World} {K : KV} (h : M.pdisk_Disk_Crash a0 a1 w K) : callT P F.pdisk_Disk_Crash [a0, a1] w K :=
  callT_of_den (by kernel_rfl) Try.func54 (by kernel_rfl) M.pdisk_Disk_Crash.ok (M.pdisk_Disk_Crash.eq a0 a1 w K ▸ h)
theorem M.pdisk_Disk_Crash.fcall (args : List Value) (w : World) (K : KV) : fcallT P F.pdisk_Disk_Crash args w K = callT P F.pdisk_Disk_Crash args w K := fcallT_eq Try.func54 (by kernel_rfl) (by kernel_rfl) args w K
theorem M.pdisk_Disk_Crash.rcall (a c args : List Value) (w : World) (K : KV) : callRT P (.func (.func F.pdisk_Disk_Crash) a.toArray c.toArray) args w K = callT P F.pdisk_Disk_Crash (a ++ args ++ c) w K := callR_fn Try.func54 (by kernel_rfl) (by kernel_rfl) a c args w K

def M.pwal_Log_First.j0 (a0 : Value) (w : World) (K : KV) : Prop :=
  nilT a0 w fun t14 w =>
  faT P T.wal_Log t14 2 w fun t15 w =>
  ldT P T.sl_p_wal_part t15 w fun t16 w =>
  iaT P T.sl_p_wal_part t16 (.int .i64 0) w fun t17 w =>
  ldT P T.p_wal_part t17 w fun t18 w =>
  nilT t18 w fun t19 w =>
  faT P T.wal_part t19 1 w fun t20 w =>
  ldT P T.int t20 w fun t21 w =>
  K t21 w
/-- (*winnow/wal.Log).First -/
def M.pwal_Log_First (a0 : Value) (w : World) (K : KV) : Prop :=
  joinT (fun K0 =>
  binT P .eql T.p_wal_Log (.tmp 3) (.const (.pointer none)) a0 (.pointer none) w fun t4 w =>
  guardT (isB t4 false) (fun K' => K' a0 w) w fun t6 w =>
  guardT (isB t4 false) (fun K' => nilT t6 w K') w fun t7 w =>
  guardT (isB t4 false) (fun K' => faT P T.wal_Log t7 2 w K') w fun t8 w =>
  guardT (isB t4 false) (fun K' => ldT P T.sl_p_wal_part t8 w K') w fun t9 w =>
  guardT (isB t4 false) (fun K' => biT P .len #[T.sl_p_wal_part] T.int [false] [t9] w K') w fun t10 w =>
  guardT (isB t4 false) (fun K' => binT P .eql T.int (.tmp 10) (.const (.int .i64 0)) t10 (.int .i64 0) w K') w fun t11 w =>
  pickT t4 (.bool true) t11 w fun t12 w =>
  condT t12 (
  K (.int .i64 0) w) (
  K0 [(.int .i64 0)] w)) fun x0 w =>
  M.pwal_Log_First.j0 a0 w K
def M.pwal_Log_First.L : List Nat := [0, 2]
def M.pwal_Log_First.pl : Nat → Plan := fun id => ⟨.nil, [], false, []⟩
theorem M.pwal_Log_First.eq (a0 : Value) (w : World) (K : KV) : M.pwal_Log_First a0 w K = den P M.pwal_Log_First.L M.pwal_Log_First.pl (Try.f55.body.getD .skip) (argE [a0]) w (bodyQ P Try.f55.results.toList K) := by kernel_rfl
theorem M.pwal_Log_First.ok : okFn M.pwal_Log_First.L M.pwal_Log_First.pl Try.f55 (Try.f55.body.getD .skip) 1 = true := by kernel_rfl
theorem M.pwal_Log_First.calls (a0 : Value) {w : World} {K : KV} (h : M.pwal_Log_First a0 w K) : callT P F.pwal_Log_First [a0] w K :=
  callT_of_den (by kernel_rfl) Try.func55 (by kernel_rfl) M.pwal_Log_First.ok (M.pwal_Log_First.eq a0 w K ▸ h)
theorem M.pwal_Log_First.fcall (args : List Value) (w : World) (K : KV) : fcallT P F.pwal_Log_First args w K = callT P F.pwal_Log_First args w K := fcallT_eq Try.func55 (by kernel_rfl) (by kernel_rfl) args w K
theorem M.pwal_Log_First.rcall (a c args : List Value) (w : World) (K : KV) : callRT P (.func (.func F.pwal_Log_First) a.toArray c.toArray) args w K = callT P F.pwal_Log_First (a ++ args ++ c) w K := callR_fn Try.func55 (by kernel_rfl) (by kernel_rfl) a c args w K

def M.pwal_Log_Drop.j4 (a0 : Value) (K2 : KL) (x4 : List Value) (w : World) (K : KV) : Prop :=
  nilT a0 w fun t62 w =>
  faT P T.wal_Log t62 2 w fun t63 w =>
  ldT P T.sl_p_wal_part t63 w fun t64 w =>
  slT P T.sl_p_wal_part t64 (some (.int .i64 1)) none none w fun t65 w =>
  nilT a0 w fun t66 w =>
  faT P T.wal_Log t66 2 w fun t67 w =>
  stT P T.sl_p_wal_part t67 t65 w fun _ w =>
  K2 [(gv x4 0), (gv x4 1)] w
def M.pwal_Log_Drop.j3 (a0 : Value) (x2 : List Value) (K2 : KL) (w : World) (K : KV) : Prop :=
  joinT (fun K4 =>
  drawT w fun w =>
  w = w ∧ quietT (fun K' => nilT a0 w K') w fun t44 =>
  quietT (fun K' => faT P T.wal_Log t44 0 w K') w fun t45 =>
  quietT (fun K' => ldT P T.p_disk_Disk t45 w K') w fun t46 =>
  w = w ∧ quietT (fun K' => nilT a0 w K') w fun t48 =>
  quietT (fun K' => faT P T.wal_Log t48 2 w K') w fun t49 =>
  quietT (fun K' => ldT P T.sl_p_wal_part t49 w K') w fun t50 =>
  quietT (fun K' => iaT P T.sl_p_wal_part t50 (.int .i64 0) w K') w fun t51 =>
  quietT (fun K' => ldT P T.p_wal_part t51 w K') w fun t52 =>
  quietT (fun K' => nilT t52 w K') w fun t53 =>
  quietT (fun K' => faT P T.wal_part t53 0 w K') w fun t54 =>
  quietT (fun K' => ldT P T.int t54 w K') w fun t55 =>
  fcallT P F.pdisk_Disk_Remove [t46, t55] w fun t56 w =>
  binT P .neq T.api_Kind (.tmp 57) (.const (.int .i64 0)) t56 (.int .i64 0) w fun t58 w =>
  condT t58 (
  K t56 w) (
  K4 [t56, (gv x2 1)] w)) fun x4 w =>
  M.pwal_Log_Drop.j4 a0 K2 x4 w K
def M.pwal_Log_Drop.j2 (a0 : Value) (a1 : Value) (K1 : KL) (x2 : List Value) (K2 : KL) (w : World) (K : KV) : Prop :=
  joinT (fun K3 =>
  nilT a0 w fun t25 w =>
  faT P T.wal_Log t25 2 w fun t26 w =>
  ldT P T.sl_p_wal_part t26 w fun t27 w =>
  biT P .len #[T.sl_p_wal_part] T.int [false] [t27] w fun t28 w =>
  binT P .gtr T.int (.tmp 28) (.const (.int .i64 1)) t28 (.int .i64 1) w fun t29 w =>
  guardT (isB t29 true) (fun K' => K' a0 w) w fun t31 w =>
  guardT (isB t29 true) (fun K' => nilT t31 w K') w fun t32 w =>
  guardT (isB t29 true) (fun K' => faT P T.wal_Log t32 2 w K') w fun t33 w =>
  guardT (isB t29 true) (fun K' => ldT P T.sl_p_wal_part t33 w K') w fun t34 w =>
  guardT (isB t29 true) (fun K' => iaT P T.sl_p_wal_part t34 (.int .i64 1) w K') w fun t35 w =>
  guardT (isB t29 true) (fun K' => ldT P T.p_wal_part t35 w K') w fun t36 w =>
  guardT (isB t29 true) (fun K' => nilT t36 w K') w fun t37 w =>
  guardT (isB t29 true) (fun K' => faT P T.wal_part t37 1 w K') w fun t38 w =>
  guardT (isB t29 true) (fun K' => ldT P T.int t38 w K') w fun t39 w =>
  guardT (isB t29 true) (fun K' => K' a1 w) w fun t40 w =>
  guardT (isB t29 true) (fun K' => binT P .leq T.int (.tmp 39) (.tmp 40) t39 t40 w K') w fun t41 w =>
  pickT t29 t41 (.bool false) w fun t42 w =>
  condT t42 (
  K3 [] w) (
  K1 [(gv x2 0), (gv x2 1)] w)) fun x3 w =>
  M.pwal_Log_Drop.j3 a0 x2 K2 w K
/-- (*winnow/wal.Log).Drop -/
def M.pwal_Log_Drop (a0 a1 : Value) (w : World) (K : KV) : Prop :=
  joinT (fun K0 =>
  binT P .eql T.p_wal_Log (.tmp 7) (.const (.pointer none)) a0 (.pointer none) w fun t8 w =>
  condT t8 (
  K (.int .i64 13) w) (
  binT P .lss T.int (.tmp 10) (.const (.int .i64 0)) a1 (.int .i64 0) w fun t11 w =>
  guardT (isB t11 false) (fun K' => K' a1 w) w fun t13 w =>
  guardT (isB t11 false) (fun K' => K' a0 w) w fun t14 w =>
  guardT (isB t11 false) (fun K' => fcallT P F.pwal_Log_next [t14] w K') w fun t15 w =>
  guardT (isB t11 false) (fun K' => binT P .gtr T.int (.tmp 13) (.tmp 15) t13 t15 w K') w fun t16 w =>
  pickT t11 (.bool true) t16 w fun t17 w =>
  condT t17 (
  K (.int .i64 1) w) (
  nilT a0 w fun t20 w =>
  faT P T.wal_Log t20 0 w fun t21 w =>
  ldT P T.p_disk_Disk t21 w fun t22 w =>
  fcallT P F.pdisk_Disk_Down [t22] w fun t23 w =>
  condT t23 (
  K (.int .i64 10) w) (
  K0 [t8, (.int .i64 0), t17, t23] w)))) fun x0 w =>
  joinT (fun K1 =>
  loopT [undef, (gv x0 1)] w fun K2 x2 w =>
  M.pwal_Log_Drop.j2 a0 a1 K1 x2 K2 w K) fun x1 w =>
  K (.int .i64 0) w
def M.pwal_Log_Drop.L : List Nat := [0, 1, 4, 6, 9, 18, 5]
def M.pwal_Log_Drop.pl : Nat → Plan := fun id => cond (Nat.beq id 8) ⟨(.go 0 (.go 1 (.go 2 (.go 3 (.go 4 (.go 5 (.go 6 (.go 7 (.go 8 (.go 9 (.go 10 (.go 11 (.go 12 (.eff 13 (.eff 14 .nil .stop) .stop)))))))))))))), [13, 14], false, [0, 1, 3, 7, 0, 16, 48, 112, 240, 496, 1008, 2032, 4080, 8191, 16383]⟩ (⟨.nil, [], false, []⟩)
theorem M.pwal_Log_Drop.eq (a0 a1 : Value) (w : World) (K : KV) : M.pwal_Log_Drop a0 a1 w K = den P M.pwal_Log_Drop.L M.pwal_Log_Drop.pl (Try.f56.body.getD .skip) (argE [a0, a1]) w (bodyQ P Try.f56.results.toList K) := by kernel_rfl
theorem M.pwal_Log_Drop.ok : okFn M.pwal_Log_Drop.L M.pwal_Log_Drop.pl Try.f56 (Try.f56.body.getD .skip) 2 = true := by kernel_rfl
theorem M.pwal_Log_Drop.calls (a0 a1 : Value) {w : World} {K : KV} (h : M.pwal_Log_Drop a0 a1 w K) : callT P F.pwal_Log_Drop [a0, a1] w K :=
  callT_of_den (by kernel_rfl) Try.func56 (by kernel_rfl) M.pwal_Log_Drop.ok (M.pwal_Log_Drop.eq a0 a1 w K ▸ h)
theorem M.pwal_Log_Drop.fcall (args : List Value) (w : World) (K : KV) : fcallT P F.pwal_Log_Drop args w K = callT P F.pwal_Log_Drop args w K := fcallT_eq Try.func56 (by kernel_rfl) (by kernel_rfl) args w K
theorem M.pwal_Log_Drop.rcall (a c args : List Value) (w : World) (K : KV) : callRT P (.func (.func F.pwal_Log_Drop) a.toArray c.toArray) args w K = callT P F.pwal_Log_Drop (a ++ args ++ c) w K := callR_fn Try.func56 (by kernel_rfl) (by kernel_rfl) a c args w K

end Go.Proofs.Ytkjhekflgghbdaa
