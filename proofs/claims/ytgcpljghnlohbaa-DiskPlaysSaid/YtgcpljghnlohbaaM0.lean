/-
  Printed by wip/Shallow.lean: functions of the program, read shallow; each is what its code does. No condition.
-/
import Derived.Test.YtgcpljghnlohbaaN
set_option maxRecDepth 1000000
namespace Go.Proofs.Ytgcpljghnlohbaa
open Go.Eng

def M.winnowlaw06_DiskTwice.j6 (a0 : Value) (x3 : List Value) (t27 : Value) (t31 : Value) (K5 : KL) (x6 : List Value) (w : World) (K : KV) : Prop :=
  drawT w fun w =>
  w = w ∧ w = w ∧ quietT (fun K' => iaT P T.sl_winnowlaw06_Op a0 (gv x3 1) w K') w fun t86 =>
  quietT (fun K' => faT P T.winnowlaw06_Op t86 0 w K') w fun t87 =>
  quietT (fun K' => ldT P T.int t87 w K') w fun t88 =>
  quietT (fun K' => binT P .eql T.int (.tmp 88) (.const (.int .i64 1)) t88 (.int .i64 1) w K') w fun t89 =>
  w = w ∧ quietT (fun K' => guardT (isB t89 true) (fun K' => K' t27 w) w K') w fun t91 =>
  quietT (fun K' => guardT (isB t89 true) (fun K' => K' a0 w) w K') w fun t92 =>
  quietT (fun K' => guardT (isB t89 true) (fun K' => K' (gv x3 1) w) w K') w fun t93 =>
  quietT (fun K' => guardT (isB t89 true) (fun K' => iaT P T.sl_winnowlaw06_Op t92 t93 w K') w K') w fun t94 =>
  quietT (fun K' => guardT (isB t89 true) (fun K' => faT P T.winnowlaw06_Op t94 1 w K') w K') w fun t95 =>
  quietT (fun K' => guardT (isB t89 true) (fun K' => ldT P T.int t95 w K') w K') w fun t96 =>
  quietT (fun K' => guardT (isB t89 true) (fun K' => K' t31 w) w K') w fun t98 =>
  quietT (fun K' => guardT (isB t89 true) (fun K' => K' a0 w) w K') w fun t99 =>
  quietT (fun K' => guardT (isB t89 true) (fun K' => K' (gv x3 1) w) w K') w fun t100 =>
  quietT (fun K' => guardT (isB t89 true) (fun K' => iaT P T.sl_winnowlaw06_Op t99 t100 w K') w K') w fun t101 =>
  quietT (fun K' => guardT (isB t89 true) (fun K' => faT P T.winnowlaw06_Op t101 1 w K') w K') w fun t102 =>
  quietT (fun K' => guardT (isB t89 true) (fun K' => ldT P T.int t102 w K') w K') w fun t103 =>
  guardT (isB t89 true) (fun K' => fcallT P F.pdisk_Disk_Sync [t91, t96] w K') w fun t97 w =>
  stabT (fun K' => guardT (isB t89 true) (fun K' => ldT P T.int t102 w K') w K') w t103 ∧ stabT (fun K' => guardT (isB t89 true) (fun K' => faT P T.winnowlaw06_Op t101 1 w K') w K') w t102 ∧ stabT (fun K' => guardT (isB t89 true) (fun K' => iaT P T.sl_winnowlaw06_Op t99 t100 w K') w K') w t101 ∧ stabT (fun K' => guardT (isB t89 true) (fun K' => K' (gv x3 1) w) w K') w t100 ∧ stabT (fun K' => guardT (isB t89 true) (fun K' => K' a0 w) w K') w t99 ∧ stabT (fun K' => guardT (isB t89 true) (fun K' => K' t31 w) w K') w t98 ∧ guardT (isB t89 true) (fun K' => fcallT P F.pdisk_Disk_Sync [t98, t103] w K') w fun t104 w =>
  quietT (fun K' => guardT (isB t89 true) (fun K' => binT P .neq T.api_Kind (.tmp 97) (.tmp 104) t97 t104 w K') w K') w fun t105 =>
  quietT (fun K' => pickT t89 t105 (.bool false) w K') w fun t106 =>
  condT t106 (
  K (.bool false) w) (
  K5 [(gv x6 0)] w)
def M.winnowlaw06_DiskTwice.j4 (a0 : Value) (x3 : List Value) (t27 : Value) (t31 : Value) (K3 : KL) (w : World) (K : KV) : Prop :=
  joinT (fun K5 =>
  joinT (fun K6 =>
  iaT P T.sl_winnowlaw06_Op a0 (gv x3 1) w fun t55 w =>
  faT P T.winnowlaw06_Op t55 0 w fun t56 w =>
  ldT P T.int t56 w fun t57 w =>
  binT P .eql T.int (.tmp 57) (.const (.int .i64 0)) t57 (.int .i64 0) w fun t58 w =>
  condT t58 (
  drawT w fun w =>
  w = w ∧ w = w ∧ w = w ∧ quietT (fun K' => iaT P T.sl_winnowlaw06_Op a0 (gv x3 1) w K') w fun t62 =>
  quietT (fun K' => faT P T.winnowlaw06_Op t62 1 w K') w fun t63 =>
  quietT (fun K' => ldT P T.int t63 w K') w fun t64 =>
  w = w ∧ w = w ∧ quietT (fun K' => iaT P T.sl_winnowlaw06_Op a0 (gv x3 1) w K') w fun t67 =>
  quietT (fun K' => faT P T.winnowlaw06_Op t67 3 w K') w fun t68 =>
  quietT (fun K' => ldT P T.sl_uint8 t68 w K') w fun t69 =>
  w = w ∧ w = w ∧ w = w ∧ quietT (fun K' => iaT P T.sl_winnowlaw06_Op a0 (gv x3 1) w K') w fun t74 =>
  quietT (fun K' => faT P T.winnowlaw06_Op t74 1 w K') w fun t75 =>
  quietT (fun K' => ldT P T.int t75 w K') w fun t76 =>
  w = w ∧ w = w ∧ quietT (fun K' => iaT P T.sl_winnowlaw06_Op a0 (gv x3 1) w K') w fun t79 =>
  quietT (fun K' => faT P T.winnowlaw06_Op t79 3 w K') w fun t80 =>
  quietT (fun K' => ldT P T.sl_uint8 t80 w K') w fun t81 =>
  fcallT P F.pdisk_Disk_Append [t27, t64, t69] w fun t70 w =>
  stabT (fun K' => ldT P T.sl_uint8 t80 w K') w t81 ∧ stabT (fun K' => faT P T.winnowlaw06_Op t79 3 w K') w t80 ∧ stabT (fun K' => iaT P T.sl_winnowlaw06_Op a0 (gv x3 1) w K') w t79 ∧ stabT (fun K' => K' (gv x3 1) w) w (gv x3 1) ∧ stabT (fun K' => K' a0 w) w a0 ∧ stabT (fun K' => ldT P T.int t75 w K') w t76 ∧ stabT (fun K' => faT P T.winnowlaw06_Op t74 1 w K') w t75 ∧ stabT (fun K' => iaT P T.sl_winnowlaw06_Op a0 (gv x3 1) w K') w t74 ∧ stabT (fun K' => K' (gv x3 1) w) w (gv x3 1) ∧ stabT (fun K' => K' a0 w) w a0 ∧ stabT (fun K' => K' t31 w) w t31 ∧ fcallT P F.pdisk_Disk_Append [t31, t76, t81] w fun t82 w =>
  quietT (fun K' => binT P .neq T.api_Kind (.tmp 70) (.tmp 82) t70 t82 w K') w fun t83 =>
  condT t83 (
  K (.bool false) w) (
  K6 [(gv x3 0)] w)) (
  K6 [(gv x3 0)] w)) fun x6 w =>
  M.winnowlaw06_DiskTwice.j6 a0 x3 t27 t31 K5 x6 w K) fun x5 w =>
  binT P .add T.int (.tmp 51) (.const (.int .i64 1)) (gv x3 1) (.int .i64 1) w fun t52 w =>
  K3 [(gv x5 0), t52] w
def M.winnowlaw06_DiskTwice.j3 (a0 : Value) (x3 : List Value) (K2 : KL) (t27 : Value) (t31 : Value) (K3 : KL) (w : World) (K : KV) : Prop :=
  joinT (fun K4 =>
  biT P .len #[T.sl_winnowlaw06_Op] T.int [false] [a0] w fun t49 w =>
  binT P .lss T.int (.tmp 47) (.tmp 49) (gv x3 1) t49 w fun t50 w =>
  condT t50 (
  K4 [] w) (
  K2 [(gv x3 1), (gv x3 0)] w)) fun x4 w =>
  M.winnowlaw06_DiskTwice.j4 a0 x3 t27 t31 K3 w K
def M.winnowlaw06_DiskTwice.j10 (t116 : Value) (x9 : List Value) (t27 : Value) (t31 : Value) (K9 : KL) (w : World) (K : KV) : Prop :=
  joinT (fun K11 =>
  iaT P T.sl_int t116 (gv x9 5) w fun t139 w =>
  ldT P T.int t139 w fun t140 w =>
  fcallT P F.pdisk_Disk_Read [t27, t140] w fun t141 w =>
  exT P t141 0 w fun t142 w =>
  exT P t141 1 w fun t143 w =>
  iaT P T.sl_int t116 (gv x9 5) w fun t148 w =>
  ldT P T.int t148 w fun t149 w =>
  fcallT P F.pdisk_Disk_Read [t31, t149] w fun t150 w =>
  exT P t150 0 w fun t151 w =>
  exT P t150 1 w fun t152 w =>
  binT P .neq T.api_Kind (.tmp 153) (.const (.int .i64 0)) t143 (.int .i64 0) w fun t154 w =>
  guardT (isB t154 false) (fun K' => K' t152 w) w fun t156 w =>
  guardT (isB t154 false) (fun K' => binT P .neq T.api_Kind (.tmp 156) (.const (.int .i64 0)) t156 (.int .i64 0) w K') w fun t157 w =>
  pickT t154 (.bool true) t157 w fun t158 w =>
  guardT (isB t158 false) (fun K' => K' t142 w) w fun t160 w =>
  guardT (isB t158 false) (fun K' => K' t151 w) w fun t161 w =>
  guardT (isB t158 false) (fun K' => fcallT P F.winnowref01_Same [t160, t161] w K') w fun t162 w =>
  guardT (isB t158 false) (fun K' => unT P .not t162 w K') w fun t163 w =>
  pickT t158 (.bool true) t163 w fun t164 w =>
  condT t164 (
  K (.bool false) w) (
  K11 [t142, t143, t151, t152, (gv x9 4)] w)) fun x11 w =>
  binT P .add T.int (.tmp 133) (.const (.int .i64 1)) (gv x9 5) (.int .i64 1) w fun t134 w =>
  K9 [(gv x11 0), (gv x11 1), (gv x11 2), (gv x11 3), (gv x11 4), t134] w
def M.winnowlaw06_DiskTwice.j9 (t116 : Value) (x9 : List Value) (K8 : KL) (t27 : Value) (t31 : Value) (K9 : KL) (w : World) (K : KV) : Prop :=
  joinT (fun K10 =>
  biT P .len #[T.sl_int] T.int [false] [t116] w fun t131 w =>
  binT P .lss T.int (.tmp 129) (.tmp 131) (gv x9 5) t131 w fun t132 w =>
  condT t132 (
  K10 [] w) (
  K8 [(gv x9 5), (gv x9 0), (gv x9 1), (gv x9 2), (gv x9 3), (gv x9 4)] w)) fun x10 w =>
  M.winnowlaw06_DiskTwice.j10 t116 x9 t27 t31 K9 w K
def M.winnowlaw06_DiskTwice.j2 (t27 : Value) (a1 : Value) (t31 : Value) (x2 : List Value) (w : World) (K : KV) : Prop :=
  fcallT P F.pdisk_Disk_Crash [t27, a1] w fun t109 w =>
  fcallT P F.pdisk_Disk_Crash [t31, a1] w fun t112 w =>
  fcallT P F.pdisk_Disk_Crash [t31, (.slice none 0 0)] w fun t114 w =>
  fcallT P F.pdisk_Disk_Files [t27] w fun t116 w =>
  joinT (fun K7 =>
  fcallT P F.pdisk_Disk_Files [t31] w fun t119 w =>
  fcallT P F.winnowlaw06_ints [t116, t119] w fun t120 w =>
  unT P .not t120 w fun t121 w =>
  guardT (isB t121 false) (fun K' => K' t27 w) w fun t123 w =>
  guardT (isB t121 false) (fun K' => fcallT P F.pdisk_Disk_Used [t123] w K') w fun t124 w =>
  guardT (isB t121 false) (fun K' => K' t31 w) w fun t125 w =>
  guardT (isB t121 false) (fun K' => fcallT P F.pdisk_Disk_Used [t125] w K') w fun t126 w =>
  guardT (isB t121 false) (fun K' => binT P .neq T.int (.tmp 124) (.tmp 126) t124 t126 w K') w fun t127 w =>
  pickT t121 (.bool true) t127 w fun t128 w =>
  condT t128 (
  K (.bool false) w) (
  K7 [(gv x2 1)] w)) fun x7 w =>
  joinT (fun K8 =>
  loopT [undef, undef, undef, undef, (gv x7 0), (.int .i64 0)] w fun K9 x9 w =>
  M.winnowlaw06_DiskTwice.j9 t116 x9 K8 t27 t31 K9 w K) fun x8 w =>
  fcallT P F.winnowlaw06_alive [] w fun t165 w =>
  K t165 w
def M.winnowlaw06_DiskTwice.j0 (x0 : List Value) (a0 : Value) (a1 : Value) (w : World) (K : KV) : Prop :=
  fcallT P F.disk_New [(.int .i64 100000)] w fun t26 w =>
  exT P t26 0 w fun t27 w =>
  exT P t26 1 w fun t28 w =>
  fcallT P F.disk_New [(.int .i64 100000)] w fun t30 w =>
  exT P t30 0 w fun t31 w =>
  exT P t30 1 w fun t32 w =>
  joinT (fun K1 =>
  binT P .neq T.api_Kind (.tmp 33) (.const (.int .i64 0)) t28 (.int .i64 0) w fun t34 w =>
  guardT (isB t34 false) (fun K' => K' t32 w) w fun t36 w =>
  guardT (isB t34 false) (fun K' => binT P .neq T.api_Kind (.tmp 36) (.const (.int .i64 0)) t36 (.int .i64 0) w K') w fun t37 w =>
  pickT t34 (.bool true) t37 w fun t38 w =>
  guardT (isB t38 false) (fun K' => K' t27 w) w fun t40 w =>
  guardT (isB t38 false) (fun K' => binT P .eql T.p_disk_Disk (.tmp 40) (.const (.pointer none)) t40 (.pointer none) w K') w fun t41 w =>
  pickT t38 (.bool true) t41 w fun t42 w =>
  guardT (isB t42 false) (fun K' => K' t31 w) w fun t44 w =>
  guardT (isB t42 false) (fun K' => binT P .eql T.p_disk_Disk (.tmp 44) (.const (.pointer none)) t44 (.pointer none) w K') w fun t45 w =>
  pickT t42 (.bool true) t45 w fun t46 w =>
  condT t46 (
  K (.bool false) w) (
  K1 [(gv x0 0)] w)) fun x1 w =>
  joinT (fun K2 =>
  loopT [(gv x1 0), (.int .i64 0)] w fun K3 x3 w =>
  M.winnowlaw06_DiskTwice.j3 a0 x3 K2 t27 t31 K3 w K) fun x2 w =>
  M.winnowlaw06_DiskTwice.j2 t27 a1 t31 x2 w K
/-- winnow/winnowlaw06.DiskTwice -/
def M.winnowlaw06_DiskTwice (a0 a1 : Value) (w : World) (K : KV) : Prop :=
  joinT (fun K0 =>
  fcallT P F.winnowlaw06_light [a0] w fun t17 w =>
  unT P .not t17 w fun t18 w =>
  guardT (isB t18 false) (fun K' => K' a1 w) w fun t20 w =>
  guardT (isB t18 false) (fun K' => biT P .len #[T.sl_int] T.int [false] [t20] w K') w fun t21 w =>
  guardT (isB t18 false) (fun K' => binT P .gtr T.int (.tmp 21) (.const (.int .i64 100)) t21 (.int .i64 100) w K') w fun t22 w =>
  pickT t18 (.bool true) t22 w fun t23 w =>
  condT t23 (
  fcallT P F.winnowlaw06_alive [] w fun t24 w =>
  K t24 w) (
  K0 [(.bool false)] w)) fun x0 w =>
  M.winnowlaw06_DiskTwice.j0 x0 a0 a1 w K
def M.winnowlaw06_DiskTwice.L : List Nat := [0, 1, 4, 5, 6, 7, 8, 9, 10, 11, 12, 13, 14, 15]
def M.winnowlaw06_DiskTwice.pl : Nat → Plan := fun id => cond (Nat.beq id 11) ⟨(.go 0 (.go 1 (.go 2 (.go 3 (.go 4 (.go 5 (.go 6 (.go 7 (.go 8 (.go 9 (.go 10 (.go 12 (.go 13 (.go 14 (.go 15 (.go 16 (.go 17 (.go 18 (.go 19 (.go 20 (.go 21 (.go 22 (.eff 11 (.eff 23 (.go 24 .nil) .stop) .stop))))))))))))))))))))))), [11, 23], false⟩ (cond (Nat.beq id 13) ⟨(.go 0 (.go 1 (.go 2 (.go 3 (.go 4 (.go 5 (.go 6 (.go 7 (.go 8 (.go 9 (.go 10 (.go 11 (.go 12 (.go 14 (.go 15 (.go 16 (.go 17 (.go 18 (.go 19 (.eff 13 (.eff 20 (.go 21 (.go 22 .nil)) .stop) .stop)))))))))))))))))))), [13, 20], false⟩ (⟨.nil, [], false⟩))
theorem M.winnowlaw06_DiskTwice.eq (a0 a1 : Value) (w : World) (K : KV) : M.winnowlaw06_DiskTwice a0 a1 w K = den P M.winnowlaw06_DiskTwice.L M.winnowlaw06_DiskTwice.pl (Try.f5.body.getD .skip) (argE [a0, a1]) w (bodyQ P Try.f5.results.toList K) := by kernel_rfl
theorem M.winnowlaw06_DiskTwice.ok : okFn M.winnowlaw06_DiskTwice.L M.winnowlaw06_DiskTwice.pl Try.f5 (Try.f5.body.getD .skip) 2 = true := by kernel_rfl
theorem M.winnowlaw06_DiskTwice.calls (a0 a1 : Value) {w : World} {K : KV} (h : M.winnowlaw06_DiskTwice a0 a1 w K) : callT P F.winnowlaw06_DiskTwice [a0, a1] w K :=
  callT_of_den (by kernel_rfl) Try.func5 (by kernel_rfl) M.winnowlaw06_DiskTwice.ok (M.winnowlaw06_DiskTwice.eq a0 a1 w K ▸ h)
theorem M.winnowlaw06_DiskTwice.fcall (args : List Value) (w : World) (K : KV) : fcallT P F.winnowlaw06_DiskTwice args w K = callT P F.winnowlaw06_DiskTwice args w K := fcallT_eq Try.func5 (by kernel_rfl) (by kernel_rfl) args w K
theorem M.winnowlaw06_DiskTwice.rcall (a c args : List Value) (w : World) (K : KV) : callRT P (.func (.func F.winnowlaw06_DiskTwice) a.toArray c.toArray) args w K = callT P F.winnowlaw06_DiskTwice (a ++ args ++ c) w K := callR_fn Try.func5 (by kernel_rfl) (by kernel_rfl) a c args w K

def M.winnowlaw06_DiskArmed.j9 (t53 : Value) (t24 : Value) (K5 : KL) (x7 : List Value) (t67 : Value) (x9 : List Value) (w : World) (K : KV) : Prop :=
  binT P .neq T.api_Kind (.tmp 106) (.const (.int .i64 10)) t53 (.int .i64 10) w fun t107 w =>
  guardT (isB t107 false) (fun K' => K' t24 w) w fun t109 w =>
  guardT (isB t107 false) (fun K' => fcallT P F.pdisk_Disk_Down [t109] w K') w fun t110 w =>
  guardT (isB t107 false) (fun K' => unT P .not t110 w K') w fun t111 w =>
  pickT t107 (.bool true) t111 w fun t112 w =>
  condT t112 (
  K (.bool false) w) (
  K5 [(gv x7 0), t53, t67, (gv x9 1), (gv x9 0)] w)
def M.winnowlaw06_DiskArmed.j8 (x8 : List Value) (a1 : Value) (a0 : Value) (x3 : List Value) (t53 : Value) (t24 : Value) (K5 : KL) (x7 : List Value) (t67 : Value) (w : World) (K : KV) : Prop :=
  joinT (fun K9 =>
  biT P .len #[T.sl_uint8] T.int [false] [(gv x8 1)] w fun t87 w =>
  binT P .lss T.int (.tmp 87) (.tmp 88) t87 a1 w fun t89 w =>
  guardT (isB t89 true) (fun K' => K' (gv x8 0) w) w fun t91 w =>
  guardT (isB t89 true) (fun K' => K' a1 w) w fun t92 w =>
  guardT (isB t89 true) (fun K' => binT P .lss T.int (.tmp 91) (.tmp 92) t91 t92 w K') w fun t93 w =>
  pickT t89 t93 (.bool false) w fun t94 w =>
  condT t94 (
  iaT P T.sl_sl_uint8 a0 (gv x3 5) w fun t98 w =>
  ldT P T.sl_uint8 t98 w fun t99 w =>
  binT P .sub T.int (.tmp 100) (.tmp 101) a1 (gv x8 0) w fun t102 w =>
  slT P T.sl_uint8 t99 none (some t102) none w fun t103 w =>
  biT P .append #[T.sl_uint8, T.sl_uint8] T.sl_uint8 [false, false] [(gv x8 1), t103] w fun t104 w =>
  K9 [t104, a1] w) (
  K9 [(gv x8 1), (gv x8 0)] w)) fun x9 w =>
  M.winnowlaw06_DiskArmed.j9 t53 t24 K5 x7 t67 x9 w K
def M.winnowlaw06_DiskArmed.j7 (t67 : Value) (a0 : Value) (x3 : List Value) (K5 : KL) (x7 : List Value) (t53 : Value) (a1 : Value) (t24 : Value) (w : World) (K : KV) : Prop :=
  joinT (fun K8 =>
  condT t67 (
  iaT P T.sl_sl_uint8 a0 (gv x3 5) w fun t76 w =>
  ldT P T.sl_uint8 t76 w fun t77 w =>
  biT P .len #[T.sl_uint8] T.int [false] [t77] w fun t78 w =>
  binT P .add T.int (.tmp 73) (.tmp 78) (gv x3 3) t78 w fun t79 w =>
  iaT P T.sl_sl_uint8 a0 (gv x3 5) w fun t83 w =>
  ldT P T.sl_uint8 t83 w fun t84 w =>
  biT P .append #[T.sl_uint8, T.sl_uint8] T.sl_uint8 [false, false] [(gv x3 4), t84] w fun t85 w =>
  K5 [(gv x7 0), t53, t67, t79, t85] w) (
  K8 [(gv x3 3), (gv x3 4)] w)) fun x8 w =>
  M.winnowlaw06_DiskArmed.j8 x8 a1 a0 x3 t53 t24 K5 x7 t67 w K
def M.winnowlaw06_DiskArmed.j6 (a0 : Value) (x3 : List Value) (t24 : Value) (a1 : Value) (x6 : List Value) (K5 : KL) (w : World) (K : KV) : Prop :=
  iaT P T.sl_sl_uint8 a0 (gv x3 5) w fun t51 w =>
  ldT P T.sl_uint8 t51 w fun t52 w =>
  fcallT P F.pdisk_Disk_Append [t24, (.int .i64 0), t52] w fun t53 w =>
  iaT P T.sl_sl_uint8 a0 (gv x3 5) w fun t56 w =>
  ldT P T.sl_uint8 t56 w fun t57 w =>
  biT P .len #[T.sl_uint8] T.int [false] [t57] w fun t58 w =>
  binT P .sub T.int (.tmp 59) (.tmp 60) a1 (gv x3 3) w fun t61 w =>
  binT P .leq T.int (.tmp 58) (.tmp 61) t58 t61 w fun t62 w =>
  guardT (isB t62 true) (fun K' => K' t24 w) w fun t64 w =>
  guardT (isB t62 true) (fun K' => fcallT P F.pdisk_Disk_Down [t64] w K') w fun t65 w =>
  guardT (isB t62 true) (fun K' => unT P .not t65 w K') w fun t66 w =>
  pickT t62 t66 (.bool false) w fun t67 w =>
  joinT (fun K7 =>
  binT P .eql T.api_Kind (.tmp 68) (.const (.int .i64 0)) t53 (.int .i64 0) w fun t69 w =>
  binT P .neq T.bool (.tmp 69) (.tmp 70) t69 t67 w fun t71 w =>
  condT t71 (
  K (.bool false) w) (
  K7 [(gv x6 0)] w)) fun x7 w =>
  M.winnowlaw06_DiskArmed.j7 t67 a0 x3 K5 x7 t53 a1 t24 w K
def M.winnowlaw06_DiskArmed.j4 (a0 : Value) (x3 : List Value) (t24 : Value) (a1 : Value) (K3 : KL) (w : World) (K : KV) : Prop :=
  joinT (fun K5 =>
  joinT (fun K6 =>
  iaT P T.sl_sl_uint8 a0 (gv x3 5) w fun t43 w =>
  ldT P T.sl_uint8 t43 w fun t44 w =>
  biT P .len #[T.sl_uint8] T.int [false] [t44] w fun t45 w =>
  binT P .gtr T.int (.tmp 45) (.const (.int .i64 1000)) t45 (.int .i64 1000) w fun t46 w =>
  condT t46 (
  fcallT P F.winnowlaw06_alive [] w fun t47 w =>
  K t47 w) (
  K6 [(gv x3 0)] w)) fun x6 w =>
  M.winnowlaw06_DiskArmed.j6 a0 x3 t24 a1 x6 K5 w K) fun x5 w =>
  binT P .add T.int (.tmp 39) (.const (.int .i64 1)) (gv x3 5) (.int .i64 1) w fun t40 w =>
  K3 [(gv x5 0), (gv x5 1), (gv x5 2), (gv x5 3), (gv x5 4), t40] w
def M.winnowlaw06_DiskArmed.j3 (a0 : Value) (x3 : List Value) (K2 : KL) (t24 : Value) (a1 : Value) (K3 : KL) (w : World) (K : KV) : Prop :=
  joinT (fun K4 =>
  biT P .len #[T.sl_sl_uint8] T.int [false] [a0] w fun t37 w =>
  binT P .lss T.int (.tmp 35) (.tmp 37) (gv x3 5) t37 w fun t38 w =>
  condT t38 (
  K4 [] w) (
  K2 [(gv x3 5), (gv x3 0), (gv x3 1), (gv x3 2), (gv x3 3), (gv x3 4)] w)) fun x4 w =>
  M.winnowlaw06_DiskArmed.j4 a0 x3 t24 a1 K3 w K
def M.winnowlaw06_DiskArmed.j10 (t120 : Value) (t119 : Value) (x2 : List Value) (w : World) (K : KV) : Prop :=
  binT P .eql T.api_Kind (.tmp 129) (.const (.int .i64 0)) t120 (.int .i64 0) w fun t130 w =>
  guardT (isB t130 true) (fun K' => K' t119 w) w fun t132 w =>
  guardT (isB t130 true) (fun K' => K' (gv x2 5) w) w fun t133 w =>
  guardT (isB t130 true) (fun K' => fcallT P F.winnowref01_Same [t132, t133] w K') w fun t134 w =>
  pickT t130 t134 (.bool false) w fun t135 w =>
  guardT (isB t135 true) (fun K' => fcallT P F.winnowlaw06_alive [] w K') w fun t137 w =>
  pickT t135 t137 (.bool false) w fun t138 w =>
  K t138 w
def M.winnowlaw06_DiskArmed.j2 (t24 : Value) (a0 : Value) (x2 : List Value) (w : World) (K : KV) : Prop :=
  bsT P T.sl_int 1 #[(0, (.int .i64 1048576))] w fun t114 w =>
  fcallT P F.pdisk_Disk_Crash [t24, t114] w fun t115 w =>
  fcallT P F.pdisk_Disk_Read [t24, (.int .i64 0)] w fun t118 w =>
  exT P t118 0 w fun t119 w =>
  exT P t118 1 w fun t120 w =>
  joinT (fun K10 =>
  biT P .len #[T.sl_sl_uint8] T.int [false] [a0] w fun t122 w =>
  binT P .eql T.int (.tmp 122) (.const (.int .i64 0)) t122 (.int .i64 0) w fun t123 w =>
  condT t123 (
  binT P .eql T.api_Kind (.tmp 124) (.const (.int .i64 11)) t120 (.int .i64 11) w fun t125 w =>
  guardT (isB t125 true) (fun K' => fcallT P F.winnowlaw06_alive [] w K') w fun t127 w =>
  pickT t125 t127 (.bool false) w fun t128 w =>
  K t128 w) (
  K10 [(gv x2 1)] w)) fun x10 w =>
  M.winnowlaw06_DiskArmed.j10 t120 t119 x2 w K
def M.winnowlaw06_DiskArmed.j1 (t24 : Value) (a1 : Value) (x1 : List Value) (a0 : Value) (w : World) (K : KV) : Prop :=
  fcallT P F.pdisk_Disk_Arm [t24, a1] w fun t34 w =>
  joinT (fun K2 =>
  loopT [(gv x1 0), undef, undef, (.int .i64 0), (.slice none 0 0), (.int .i64 0)] w fun K3 x3 w =>
  M.winnowlaw06_DiskArmed.j3 a0 x3 K2 t24 a1 K3 w K) fun x2 w =>
  M.winnowlaw06_DiskArmed.j2 t24 a0 x2 w K
def M.winnowlaw06_DiskArmed.j0 (x0 : List Value) (a1 : Value) (a0 : Value) (w : World) (K : KV) : Prop :=
  fcallT P F.disk_New [(.int .i64 1048576)] w fun t23 w =>
  exT P t23 0 w fun t24 w =>
  exT P t23 1 w fun t25 w =>
  joinT (fun K1 =>
  binT P .neq T.api_Kind (.tmp 26) (.const (.int .i64 0)) t25 (.int .i64 0) w fun t27 w =>
  guardT (isB t27 false) (fun K' => K' t24 w) w fun t29 w =>
  guardT (isB t27 false) (fun K' => binT P .eql T.p_disk_Disk (.tmp 29) (.const (.pointer none)) t29 (.pointer none) w K') w fun t30 w =>
  pickT t27 (.bool true) t30 w fun t31 w =>
  condT t31 (
  K (.bool false) w) (
  K1 [(gv x0 0)] w)) fun x1 w =>
  M.winnowlaw06_DiskArmed.j1 t24 a1 x1 a0 w K
/-- winnow/winnowlaw06.DiskArmed -/
def M.winnowlaw06_DiskArmed (a0 a1 : Value) (w : World) (K : KV) : Prop :=
  joinT (fun K0 =>
  biT P .len #[T.sl_sl_uint8] T.int [false] [a0] w fun t15 w =>
  binT P .gtr T.int (.tmp 15) (.const (.int .i64 40)) t15 (.int .i64 40) w fun t16 w =>
  guardT (isB t16 false) (fun K' => K' a1 w) w fun t18 w =>
  guardT (isB t16 false) (fun K' => binT P .lss T.int (.tmp 18) (.const (.int .i64 0)) t18 (.int .i64 0) w K') w fun t19 w =>
  pickT t16 (.bool true) t19 w fun t20 w =>
  condT t20 (
  fcallT P F.winnowlaw06_alive [] w fun t21 w =>
  K t21 w) (
  K0 [(.bool false)] w)) fun x0 w =>
  M.winnowlaw06_DiskArmed.j0 x0 a1 a0 w K
def M.winnowlaw06_DiskArmed.L : List Nat := [0, 1, 4, 5, 6, 7, 8, 9, 10, 11, 12, 13]
def M.winnowlaw06_DiskArmed.pl : Nat → Plan := fun id => ⟨.nil, [], false⟩
theorem M.winnowlaw06_DiskArmed.eq (a0 a1 : Value) (w : World) (K : KV) : M.winnowlaw06_DiskArmed a0 a1 w K = den P M.winnowlaw06_DiskArmed.L M.winnowlaw06_DiskArmed.pl (Try.f6.body.getD .skip) (argE [a0, a1]) w (bodyQ P Try.f6.results.toList K) := by kernel_rfl
theorem M.winnowlaw06_DiskArmed.ok : okFn M.winnowlaw06_DiskArmed.L M.winnowlaw06_DiskArmed.pl Try.f6 (Try.f6.body.getD .skip) 2 = true := by kernel_rfl
theorem M.winnowlaw06_DiskArmed.calls (a0 a1 : Value) {w : World} {K : KV} (h : M.winnowlaw06_DiskArmed a0 a1 w K) : callT P F.winnowlaw06_DiskArmed [a0, a1] w K :=
  callT_of_den (by kernel_rfl) Try.func6 (by kernel_rfl) M.winnowlaw06_DiskArmed.ok (M.winnowlaw06_DiskArmed.eq a0 a1 w K ▸ h)
theorem M.winnowlaw06_DiskArmed.fcall (args : List Value) (w : World) (K : KV) : fcallT P F.winnowlaw06_DiskArmed args w K = callT P F.winnowlaw06_DiskArmed args w K := fcallT_eq Try.func6 (by kernel_rfl) (by kernel_rfl) args w K
theorem M.winnowlaw06_DiskArmed.rcall (a c args : List Value) (w : World) (K : KV) : callRT P (.func (.func F.winnowlaw06_DiskArmed) a.toArray c.toArray) args w K = callT P F.winnowlaw06_DiskArmed (a ++ args ++ c) w K := callR_fn Try.func6 (by kernel_rfl) (by kernel_rfl) a c args w K

def M.winnowlaw06_DiskFast.j4 (a1 : Value) (x3 : List Value) (t22 : Value) (K3 : KL) (w : World) (K : KV) : Prop :=
  joinT (fun K5 =>
  iaT P T.sl_winnowlaw06_Op a1 (gv x3 5) w fun t49 w =>
  ldT P T.winnowlaw06_Op t49 w fun t50 w =>
  alT P T.winnowlaw06_Op w fun t8 w =>
  stT P T.winnowlaw06_Op t8 t50 w fun _ w =>
  faT P T.winnowlaw06_Op t8 0 w fun t52 w =>
  ldT P T.int t52 w fun t53 w =>
  binT P .eql T.int (.tmp 53) (.const (.int .i64 0)) t53 (.int .i64 0) w fun t54 w =>
  condT t54 (
  faT P T.winnowlaw06_Op t8 1 w fun t56 w =>
  ldT P T.int t56 w fun t57 w =>
  faT P T.winnowlaw06_Op t8 3 w fun t58 w =>
  ldT P T.sl_uint8 t58 w fun t59 w =>
  fcallT P F.pdisk_Disk_Append [t22, t57, t59] w fun t60 w =>
  K5 [t54, (gv x3 1), (gv x3 2), (gv x3 3), (gv x3 4)] w) (
  faT P T.winnowlaw06_Op t8 0 w fun t62 w =>
  ldT P T.int t62 w fun t63 w =>
  binT P .eql T.int (.tmp 63) (.const (.int .i64 1)) t63 (.int .i64 1) w fun t64 w =>
  condT t64 (
  faT P T.winnowlaw06_Op t8 1 w fun t66 w =>
  ldT P T.int t66 w fun t67 w =>
  fcallT P F.pdisk_Disk_Sync [t22, t67] w fun t68 w =>
  K5 [t54, t64, (gv x3 2), (gv x3 3), (gv x3 4)] w) (
  faT P T.winnowlaw06_Op t8 0 w fun t70 w =>
  ldT P T.int t70 w fun t71 w =>
  binT P .eql T.int (.tmp 71) (.const (.int .i64 3)) t71 (.int .i64 3) w fun t72 w =>
  guardT (isB t72 true) (fun K' => faT P T.winnowlaw06_Op t8 1 w K') w fun t74 w =>
  guardT (isB t72 true) (fun K' => ldT P T.int t74 w K') w fun t75 w =>
  guardT (isB t72 true) (fun K' => binT P .neq T.int (.tmp 75) (.const (.int .i64 3)) t75 (.int .i64 3) w K') w fun t76 w =>
  pickT t72 t76 (.bool false) w fun t77 w =>
  condT t77 (
  faT P T.winnowlaw06_Op t8 1 w fun t79 w =>
  ldT P T.int t79 w fun t80 w =>
  fcallT P F.pdisk_Disk_Remove [t22, t80] w fun t81 w =>
  K5 [t54, t64, t77, (gv x3 3), (gv x3 4)] w) (
  faT P T.winnowlaw06_Op t8 0 w fun t83 w =>
  ldT P T.int t83 w fun t84 w =>
  binT P .eql T.int (.tmp 84) (.const (.int .i64 4)) t84 (.int .i64 4) w fun t85 w =>
  condT t85 (
  faT P T.winnowlaw06_Op t8 2 w fun t87 w =>
  ldT P T.int t87 w fun t88 w =>
  fcallT P F.pdisk_Disk_Arm [t22, t88] w fun t89 w =>
  K5 [t54, t64, t77, t85, (gv x3 4)] w) (
  faT P T.winnowlaw06_Op t8 0 w fun t91 w =>
  ldT P T.int t91 w fun t92 w =>
  binT P .eql T.int (.tmp 92) (.const (.int .i64 5)) t92 (.int .i64 5) w fun t93 w =>
  condT t93 (
  faT P T.winnowlaw06_Op t8 4 w fun t95 w =>
  ldT P T.sl_int t95 w fun t96 w =>
  fcallT P F.pdisk_Disk_Crash [t22, t96] w fun t97 w =>
  K5 [t54, t64, t77, t85, t93] w) (
  K5 [t54, t64, t77, t85, t93] w)))))) fun x5 w =>
  binT P .add T.int (.tmp 45) (.const (.int .i64 1)) (gv x3 5) (.int .i64 1) w fun t46 w =>
  K3 [(gv x5 0), (gv x5 1), (gv x5 2), (gv x5 3), (gv x5 4), t46] w
def M.winnowlaw06_DiskFast.j3 (a1 : Value) (x3 : List Value) (K2 : KL) (t22 : Value) (K3 : KL) (w : World) (K : KV) : Prop :=
  joinT (fun K4 =>
  biT P .len #[T.sl_winnowlaw06_Op] T.int [false] [a1] w fun t43 w =>
  binT P .lss T.int (.tmp 41) (.tmp 43) (gv x3 5) t43 w fun t44 w =>
  condT t44 (
  K4 [] w) (
  K2 [(gv x3 5), (gv x3 0), (gv x3 1), (gv x3 2), (gv x3 3), (gv x3 4)] w)) fun x4 w =>
  M.winnowlaw06_DiskFast.j4 a1 x3 t22 K3 w K
def M.winnowlaw06_DiskFast.j2 (t22 : Value) (a0 : Value) (w : World) (K : KV) : Prop :=
  fcallT P F.pdisk_Disk_Crash [t22, (.slice none 0 0)] w fun t99 w =>
  fcallT P F.pdisk_Disk_Read [t22, (.int .i64 3)] w fun t102 w =>
  exT P t102 0 w fun t103 w =>
  exT P t102 1 w fun t104 w =>
  binT P .eql T.api_Kind (.tmp 105) (.const (.int .i64 0)) t104 (.int .i64 0) w fun t106 w =>
  guardT (isB t106 true) (fun K' => K' t103 w) w fun t108 w =>
  guardT (isB t106 true) (fun K' => biT P .len #[T.sl_uint8] T.int [false] [t108] w K') w fun t109 w =>
  guardT (isB t106 true) (fun K' => K' a0 w) w fun t110 w =>
  guardT (isB t106 true) (fun K' => biT P .len #[T.sl_uint8] T.int [false] [t110] w K') w fun t111 w =>
  guardT (isB t106 true) (fun K' => binT P .geq T.int (.tmp 109) (.tmp 111) t109 t111 w K') w fun t112 w =>
  pickT t106 t112 (.bool false) w fun t113 w =>
  guardT (isB t113 true) (fun K' => K' t103 w) w fun t115 w =>
  guardT (isB t113 true) (fun K' => K' a0 w) w fun t116 w =>
  guardT (isB t113 true) (fun K' => biT P .len #[T.sl_uint8] T.int [false] [t116] w K') w fun t117 w =>
  guardT (isB t113 true) (fun K' => slT P T.sl_uint8 t115 none (some t117) none w K') w fun t118 w =>
  guardT (isB t113 true) (fun K' => K' a0 w) w fun t119 w =>
  guardT (isB t113 true) (fun K' => fcallT P F.winnowref01_Same [t118, t119] w K') w fun t120 w =>
  pickT t113 t120 (.bool false) w fun t121 w =>
  guardT (isB t121 true) (fun K' => fcallT P F.winnowlaw06_alive [] w K') w fun t123 w =>
  pickT t121 t123 (.bool false) w fun t124 w =>
  K t124 w
def M.winnowlaw06_DiskFast.j0 (a0 : Value) (x0 : List Value) (a1 : Value) (w : World) (K : KV) : Prop :=
  fcallT P F.disk_New [(.int .i64 100000)] w fun t21 w =>
  exT P t21 0 w fun t22 w =>
  exT P t21 1 w fun t23 w =>
  joinT (fun K1 =>
  binT P .neq T.api_Kind (.tmp 24) (.const (.int .i64 0)) t23 (.int .i64 0) w fun t25 w =>
  guardT (isB t25 false) (fun K' => K' t22 w) w fun t27 w =>
  guardT (isB t25 false) (fun K' => binT P .eql T.p_disk_Disk (.tmp 27) (.const (.pointer none)) t27 (.pointer none) w K') w fun t28 w =>
  pickT t25 (.bool true) t28 w fun t29 w =>
  guardT (isB t29 false) (fun K' => K' t22 w) w fun t31 w =>
  guardT (isB t29 false) (fun K' => K' a0 w) w fun t32 w =>
  guardT (isB t29 false) (fun K' => fcallT P F.pdisk_Disk_Append [t31, (.int .i64 3), t32] w K') w fun t33 w =>
  guardT (isB t29 false) (fun K' => binT P .neq T.api_Kind (.tmp 33) (.const (.int .i64 0)) t33 (.int .i64 0) w K') w fun t34 w =>
  pickT t29 (.bool true) t34 w fun t35 w =>
  guardT (isB t35 false) (fun K' => K' t22 w) w fun t37 w =>
  guardT (isB t35 false) (fun K' => fcallT P F.pdisk_Disk_Sync [t37, (.int .i64 3)] w K') w fun t38 w =>
  guardT (isB t35 false) (fun K' => binT P .neq T.api_Kind (.tmp 38) (.const (.int .i64 0)) t38 (.int .i64 0) w K') w fun t39 w =>
  pickT t35 (.bool true) t39 w fun t40 w =>
  condT t40 (
  K (.bool false) w) (
  K1 [(gv x0 0)] w)) fun x1 w =>
  joinT (fun K2 =>
  loopT [undef, undef, undef, undef, undef, (.int .i64 0)] w fun K3 x3 w =>
  M.winnowlaw06_DiskFast.j3 a1 x3 K2 t22 K3 w K) fun x2 w =>
  M.winnowlaw06_DiskFast.j2 t22 a0 w K
/-- winnow/winnowlaw06.DiskFast -/
def M.winnowlaw06_DiskFast (a0 a1 : Value) (w : World) (K : KV) : Prop :=
  joinT (fun K0 =>
  fcallT P F.winnowlaw06_light [a1] w fun t12 w =>
  unT P .not t12 w fun t13 w =>
  guardT (isB t13 false) (fun K' => K' a0 w) w fun t15 w =>
  guardT (isB t13 false) (fun K' => biT P .len #[T.sl_uint8] T.int [false] [t15] w K') w fun t16 w =>
  guardT (isB t13 false) (fun K' => binT P .gtr T.int (.tmp 16) (.const (.int .i64 1000)) t16 (.int .i64 1000) w K') w fun t17 w =>
  pickT t13 (.bool true) t17 w fun t18 w =>
  condT t18 (
  fcallT P F.winnowlaw06_alive [] w fun t19 w =>
  K t19 w) (
  K0 [(.bool false)] w)) fun x0 w =>
  M.winnowlaw06_DiskFast.j0 a0 x0 a1 w K
def M.winnowlaw06_DiskFast.L : List Nat := [0, 1, 4, 5, 6, 7, 51, 61, 69, 82, 90, 9, 10]
def M.winnowlaw06_DiskFast.pl : Nat → Plan := fun id => ⟨.nil, [], false⟩
theorem M.winnowlaw06_DiskFast.eq (a0 a1 : Value) (w : World) (K : KV) : M.winnowlaw06_DiskFast a0 a1 w K = den P M.winnowlaw06_DiskFast.L M.winnowlaw06_DiskFast.pl (Try.f7.body.getD .skip) (argE [a0, a1]) w (bodyQ P Try.f7.results.toList K) := by kernel_rfl
theorem M.winnowlaw06_DiskFast.ok : okFn M.winnowlaw06_DiskFast.L M.winnowlaw06_DiskFast.pl Try.f7 (Try.f7.body.getD .skip) 2 = true := by kernel_rfl
theorem M.winnowlaw06_DiskFast.calls (a0 a1 : Value) {w : World} {K : KV} (h : M.winnowlaw06_DiskFast a0 a1 w K) : callT P F.winnowlaw06_DiskFast [a0, a1] w K :=
  callT_of_den (by kernel_rfl) Try.func7 (by kernel_rfl) M.winnowlaw06_DiskFast.ok (M.winnowlaw06_DiskFast.eq a0 a1 w K ▸ h)
theorem M.winnowlaw06_DiskFast.fcall (args : List Value) (w : World) (K : KV) : fcallT P F.winnowlaw06_DiskFast args w K = callT P F.winnowlaw06_DiskFast args w K := fcallT_eq Try.func7 (by kernel_rfl) (by kernel_rfl) args w K
theorem M.winnowlaw06_DiskFast.rcall (a c args : List Value) (w : World) (K : KV) : callRT P (.func (.func F.winnowlaw06_DiskFast) a.toArray c.toArray) args w K = callT P F.winnowlaw06_DiskFast (a ++ args ++ c) w K := callR_fn Try.func7 (by kernel_rfl) (by kernel_rfl) a c args w K

def M.winnowlaw06_DiskPlays.j5 (a1 : Value) (x4 : List Value) (t16 : Value) (t19 : Value) (K4 : KL) (w : World) (K : KV) : Prop :=
  joinT (fun K6 =>
  iaT P T.sl_winnowlaw06_Op a1 (gv x4 1) w fun t48 w =>
  ldT P T.winnowlaw06_Op t48 w fun t49 w =>
  fcallT P F.winnowlaw06_one [t16, t19, t49] w fun t50 w =>
  unT P .not t50 w fun t51 w =>
  guardT (isB t51 false) (fun K' => K' t16 w) w fun t53 w =>
  guardT (isB t51 false) (fun K' => K' t19 w) w fun t54 w =>
  guardT (isB t51 false) (fun K' => fcallT P F.winnowlaw06_Same [t53, t54] w K') w fun t55 w =>
  guardT (isB t51 false) (fun K' => unT P .not t55 w K') w fun t56 w =>
  pickT t51 (.bool true) t56 w fun t57 w =>
  condT t57 (
  K (.bool false) w) (
  K6 [(gv x4 0)] w)) fun x6 w =>
  binT P .add T.int (.tmp 42) (.const (.int .i64 1)) (gv x4 1) (.int .i64 1) w fun t43 w =>
  K4 [(gv x6 0), t43] w
def M.winnowlaw06_DiskPlays.j4 (a1 : Value) (x4 : List Value) (K3 : KL) (t16 : Value) (t19 : Value) (K4 : KL) (w : World) (K : KV) : Prop :=
  joinT (fun K5 =>
  biT P .len #[T.sl_winnowlaw06_Op] T.int [false] [a1] w fun t40 w =>
  binT P .lss T.int (.tmp 38) (.tmp 40) (gv x4 1) t40 w fun t41 w =>
  condT t41 (
  K5 [] w) (
  K3 [(gv x4 1), (gv x4 0)] w)) fun x5 w =>
  M.winnowlaw06_DiskPlays.j5 a1 x4 t16 t19 K4 w K
def M.winnowlaw06_DiskPlays.j1 (t19 : Value) (x1 : List Value) (a1 : Value) (t16 : Value) (w : World) (K : KV) : Prop :=
  joinT (fun K2 =>
  binT P .eql T.p_winnowref06_Disk (.tmp 36) (.const (.pointer none)) t19 (.pointer none) w fun t37 w =>
  condT t37 (
  K (.bool true) w) (
  K2 [(gv x1 0)] w)) fun x2 w =>
  joinT (fun K3 =>
  loopT [(gv x2 0), (.int .i64 0)] w fun K4 x4 w =>
  M.winnowlaw06_DiskPlays.j4 a1 x4 K3 t16 t19 K4 w K) fun x3 w =>
  K (.bool true) w
def M.winnowlaw06_DiskPlays.j0 (a0 : Value) (x0 : List Value) (a1 : Value) (w : World) (K : KV) : Prop :=
  fcallT P F.disk_New [a0] w fun t15 w =>
  exT P t15 0 w fun t16 w =>
  exT P t15 1 w fun t17 w =>
  fcallT P F.winnowref06_New [a0] w fun t19 w =>
  joinT (fun K1 =>
  binT P .eql T.p_winnowref06_Disk (.tmp 20) (.const (.pointer none)) t19 (.pointer none) w fun t21 w =>
  binT P .eql T.api_Kind (.tmp 22) (.const (.int .i64 1)) t17 (.int .i64 1) w fun t23 w =>
  binT P .neq T.bool (.tmp 21) (.tmp 23) t21 t23 w fun t24 w =>
  guardT (isB t24 false) (fun K' => K' t16 w) w fun t26 w =>
  guardT (isB t24 false) (fun K' => binT P .eql T.p_disk_Disk (.tmp 26) (.const (.pointer none)) t26 (.pointer none) w K') w fun t27 w =>
  guardT (isB t24 false) (fun K' => K' t19 w) w fun t28 w =>
  guardT (isB t24 false) (fun K' => binT P .eql T.p_winnowref06_Disk (.tmp 28) (.const (.pointer none)) t28 (.pointer none) w K') w fun t29 w =>
  guardT (isB t24 false) (fun K' => binT P .neq T.bool (.tmp 27) (.tmp 29) t27 t29 w K') w fun t30 w =>
  pickT t24 (.bool true) t30 w fun t31 w =>
  guardT (isB t31 false) (fun K' => fcallT P F.winnowlaw06_alive [] w K') w fun t33 w =>
  guardT (isB t31 false) (fun K' => unT P .not t33 w K') w fun t34 w =>
  pickT t31 (.bool true) t34 w fun t35 w =>
  condT t35 (
  K (.bool false) w) (
  K1 [(gv x0 0)] w)) fun x1 w =>
  M.winnowlaw06_DiskPlays.j1 t19 x1 a1 t16 w K
/-- winnow/winnowlaw06.DiskPlays -/
def M.winnowlaw06_DiskPlays (a0 a1 : Value) (w : World) (K : KV) : Prop :=
  joinT (fun K0 =>
  fcallT P F.winnowlaw06_light [a1] w fun t10 w =>
  unT P .not t10 w fun t11 w =>
  condT t11 (
  fcallT P F.winnowlaw06_alive [] w fun t12 w =>
  K t12 w) (
  K0 [(.bool false)] w)) fun x0 w =>
  M.winnowlaw06_DiskPlays.j0 a0 x0 a1 w K
def M.winnowlaw06_DiskPlays.L : List Nat := [0, 1, 4, 5, 6, 7, 8]
def M.winnowlaw06_DiskPlays.pl : Nat → Plan := fun id => ⟨.nil, [], false⟩
theorem M.winnowlaw06_DiskPlays.eq (a0 a1 : Value) (w : World) (K : KV) : M.winnowlaw06_DiskPlays a0 a1 w K = den P M.winnowlaw06_DiskPlays.L M.winnowlaw06_DiskPlays.pl (Try.f8.body.getD .skip) (argE [a0, a1]) w (bodyQ P Try.f8.results.toList K) := by kernel_rfl
theorem M.winnowlaw06_DiskPlays.ok : okFn M.winnowlaw06_DiskPlays.L M.winnowlaw06_DiskPlays.pl Try.f8 (Try.f8.body.getD .skip) 2 = true := by kernel_rfl
theorem M.winnowlaw06_DiskPlays.calls (a0 a1 : Value) {w : World} {K : KV} (h : M.winnowlaw06_DiskPlays a0 a1 w K) : callT P F.winnowlaw06_DiskPlays [a0, a1] w K :=
  callT_of_den (by kernel_rfl) Try.func8 (by kernel_rfl) M.winnowlaw06_DiskPlays.ok (M.winnowlaw06_DiskPlays.eq a0 a1 w K ▸ h)
theorem M.winnowlaw06_DiskPlays.fcall (args : List Value) (w : World) (K : KV) : fcallT P F.winnowlaw06_DiskPlays args w K = callT P F.winnowlaw06_DiskPlays args w K := fcallT_eq Try.func8 (by kernel_rfl) (by kernel_rfl) args w K
theorem M.winnowlaw06_DiskPlays.rcall (a c args : List Value) (w : World) (K : KV) : callRT P (.func (.func F.winnowlaw06_DiskPlays) a.toArray c.toArray) args w K = callT P F.winnowlaw06_DiskPlays (a ++ args ++ c) w K := callR_fn Try.func8 (by kernel_rfl) (by kernel_rfl) a c args w K

def M.winnowlaw06_DiskNils.j0 (a1 : Value) (a0 : Value) (a2 : Value) (w : World) (K : KV) : Prop :=
  fcallT P F.pdisk_Disk_Arm [(.pointer none), a1] w fun t16 w =>
  bsT P T.sl_int 1 #[(0, a1)] w fun t19 w =>
  fcallT P F.pdisk_Disk_Crash [(.pointer none), t19] w fun t20 w =>
  fcallT P F.pdisk_Disk_Read [(.pointer none), a0] w fun t24 w =>
  exT P t24 0 w fun t25 w =>
  exT P t24 1 w fun t26 w =>
  fcallT P F.pdisk_Disk_Append [(.pointer none), a0, a2] w fun t30 w =>
  binT P .eql T.api_Kind (.tmp 30) (.const (.int .i64 13)) t30 (.int .i64 13) w fun t31 w =>
  guardT (isB t31 true) (fun K' => K' (.pointer none) w) w fun t33 w =>
  guardT (isB t31 true) (fun K' => K' a0 w) w fun t34 w =>
  guardT (isB t31 true) (fun K' => fcallT P F.pdisk_Disk_Sync [t33, t34] w K') w fun t35 w =>
  guardT (isB t31 true) (fun K' => binT P .eql T.api_Kind (.tmp 35) (.const (.int .i64 13)) t35 (.int .i64 13) w K') w fun t36 w =>
  pickT t31 t36 (.bool false) w fun t37 w =>
  guardT (isB t37 true) (fun K' => K' (.pointer none) w) w fun t39 w =>
  guardT (isB t37 true) (fun K' => K' a0 w) w fun t40 w =>
  guardT (isB t37 true) (fun K' => K' a1 w) w fun t41 w =>
  guardT (isB t37 true) (fun K' => fcallT P F.pdisk_Disk_Cut [t39, t40, t41] w K') w fun t42 w =>
  guardT (isB t37 true) (fun K' => binT P .eql T.api_Kind (.tmp 42) (.const (.int .i64 13)) t42 (.int .i64 13) w K') w fun t43 w =>
  pickT t37 t43 (.bool false) w fun t44 w =>
  guardT (isB t44 true) (fun K' => K' (.pointer none) w) w fun t46 w =>
  guardT (isB t44 true) (fun K' => K' a0 w) w fun t47 w =>
  guardT (isB t44 true) (fun K' => fcallT P F.pdisk_Disk_Remove [t46, t47] w K') w fun t48 w =>
  guardT (isB t44 true) (fun K' => binT P .eql T.api_Kind (.tmp 48) (.const (.int .i64 13)) t48 (.int .i64 13) w K') w fun t49 w =>
  pickT t44 t49 (.bool false) w fun t50 w =>
  guardT (isB t50 true) (fun K' => K' t26 w) w fun t52 w =>
  guardT (isB t50 true) (fun K' => binT P .eql T.api_Kind (.tmp 52) (.const (.int .i64 13)) t52 (.int .i64 13) w K') w fun t53 w =>
  pickT t50 t53 (.bool false) w fun t54 w =>
  guardT (isB t54 true) (fun K' => K' (.pointer none) w) w fun t56 w =>
  guardT (isB t54 true) (fun K' => fcallT P F.pdisk_Disk_Files [t56] w K') w fun t57 w =>
  guardT (isB t54 true) (fun K' => biT P .len #[T.sl_int] T.int [false] [t57] w K') w fun t58 w =>
  guardT (isB t54 true) (fun K' => K' (.pointer none) w) w fun t59 w =>
  guardT (isB t54 true) (fun K' => fcallT P F.pdisk_Disk_Used [t59] w K') w fun t60 w =>
  guardT (isB t54 true) (fun K' => binT P .add T.int (.tmp 58) (.tmp 60) t58 t60 w K') w fun t61 w =>
  guardT (isB t54 true) (fun K' => binT P .eql T.int (.tmp 61) (.const (.int .i64 0)) t61 (.int .i64 0) w K') w fun t62 w =>
  pickT t54 t62 (.bool false) w fun t63 w =>
  guardT (isB t63 true) (fun K' => K' (.pointer none) w) w fun t65 w =>
  guardT (isB t63 true) (fun K' => fcallT P F.pdisk_Disk_Down [t65] w K') w fun t66 w =>
  guardT (isB t63 true) (fun K' => unT P .not t66 w K') w fun t67 w =>
  pickT t63 t67 (.bool false) w fun t68 w =>
  guardT (isB t68 true) (fun K' => fcallT P F.winnowlaw06_alive [] w K') w fun t70 w =>
  pickT t68 t70 (.bool false) w fun t71 w =>
  K t71 w
/-- winnow/winnowlaw06.DiskNils -/
def M.winnowlaw06_DiskNils (a0 a1 a2 : Value) (w : World) (K : KV) : Prop :=
  joinT (fun K0 =>
  biT P .len #[T.sl_uint8] T.int [false] [a2] w fun t11 w =>
  binT P .gtr T.int (.tmp 11) (.const (.int .i64 1000)) t11 (.int .i64 1000) w fun t12 w =>
  condT t12 (
  fcallT P F.winnowlaw06_alive [] w fun t13 w =>
  K t13 w) (
  K0 [(.bool false)] w)) fun x0 w =>
  M.winnowlaw06_DiskNils.j0 a1 a0 a2 w K
def M.winnowlaw06_DiskNils.L : List Nat := [0, 1, 2, 6, 7, 8, 9]
def M.winnowlaw06_DiskNils.pl : Nat → Plan := fun id => ⟨.nil, [], false⟩
theorem M.winnowlaw06_DiskNils.eq (a0 a1 a2 : Value) (w : World) (K : KV) : M.winnowlaw06_DiskNils a0 a1 a2 w K = den P M.winnowlaw06_DiskNils.L M.winnowlaw06_DiskNils.pl (Try.f9.body.getD .skip) (argE [a0, a1, a2]) w (bodyQ P Try.f9.results.toList K) := by kernel_rfl
theorem M.winnowlaw06_DiskNils.ok : okFn M.winnowlaw06_DiskNils.L M.winnowlaw06_DiskNils.pl Try.f9 (Try.f9.body.getD .skip) 3 = true := by kernel_rfl
theorem M.winnowlaw06_DiskNils.calls (a0 a1 a2 : Value) {w : World} {K : KV} (h : M.winnowlaw06_DiskNils a0 a1 a2 w K) : callT P F.winnowlaw06_DiskNils [a0, a1, a2] w K :=
  callT_of_den (by kernel_rfl) Try.func9 (by kernel_rfl) M.winnowlaw06_DiskNils.ok (M.winnowlaw06_DiskNils.eq a0 a1 a2 w K ▸ h)
theorem M.winnowlaw06_DiskNils.fcall (args : List Value) (w : World) (K : KV) : fcallT P F.winnowlaw06_DiskNils args w K = callT P F.winnowlaw06_DiskNils args w K := fcallT_eq Try.func9 (by kernel_rfl) (by kernel_rfl) args w K
theorem M.winnowlaw06_DiskNils.rcall (a c args : List Value) (w : World) (K : KV) : callRT P (.func (.func F.winnowlaw06_DiskNils) a.toArray c.toArray) args w K = callT P F.winnowlaw06_DiskNils (a ++ args ++ c) w K := callR_fn Try.func9 (by kernel_rfl) (by kernel_rfl) a c args w K

def M.winnowlaw06_light.j5 (a0 : Value) (x2 : List Value) (K4 : KL) (x5 : List Value) (w : World) (K : KV) : Prop :=
  iaT P T.sl_winnowlaw06_Op a0 (gv x2 2) w fun t24 w =>
  faT P T.winnowlaw06_Op t24 3 w fun t25 w =>
  ldT P T.sl_uint8 t25 w fun t26 w =>
  biT P .len #[T.sl_uint8] T.int [false] [t26] w fun t27 w =>
  binT P .add T.int (.tmp 21) (.tmp 27) (gv x2 1) t27 w fun t28 w =>
  K4 [(gv x5 0), t28] w
def M.winnowlaw06_light.j3 (a0 : Value) (x2 : List Value) (K2 : KL) (w : World) (K : KV) : Prop :=
  joinT (fun K4 =>
  joinT (fun K5 =>
  iaT P T.sl_winnowlaw06_Op a0 (gv x2 2) w fun t16 w =>
  faT P T.winnowlaw06_Op t16 3 w fun t17 w =>
  ldT P T.sl_uint8 t17 w fun t18 w =>
  biT P .len #[T.sl_uint8] T.int [false] [t18] w fun t19 w =>
  binT P .gtr T.int (.tmp 19) (.const (.int .i64 5000)) t19 (.int .i64 5000) w fun t20 w =>
  condT t20 (
  K (.bool false) w) (
  K5 [(gv x2 0)] w)) fun x5 w =>
  M.winnowlaw06_light.j5 a0 x2 K4 x5 w K) fun x4 w =>
  binT P .add T.int (.tmp 12) (.const (.int .i64 1)) (gv x2 2) (.int .i64 1) w fun t13 w =>
  K2 [(gv x4 0), (gv x4 1), t13] w
def M.winnowlaw06_light.j2 (a0 : Value) (x2 : List Value) (K1 : KL) (K2 : KL) (w : World) (K : KV) : Prop :=
  joinT (fun K3 =>
  biT P .len #[T.sl_winnowlaw06_Op] T.int [false] [a0] w fun t10 w =>
  binT P .lss T.int (.tmp 8) (.tmp 10) (gv x2 2) t10 w fun t11 w =>
  condT t11 (
  K3 [] w) (
  K1 [(gv x2 2), (gv x2 0), (gv x2 1)] w)) fun x3 w =>
  M.winnowlaw06_light.j3 a0 x2 K2 w K
/-- winnow/winnowlaw06.light -/
def M.winnowlaw06_light (a0 : Value) (w : World) (K : KV) : Prop :=
  joinT (fun K0 =>
  biT P .len #[T.sl_winnowlaw06_Op] T.int [false] [a0] w fun t6 w =>
  binT P .gtr T.int (.tmp 6) (.const (.int .i64 60)) t6 (.int .i64 60) w fun t7 w =>
  condT t7 (
  K (.bool false) w) (
  K0 [(.bool false)] w)) fun x0 w =>
  joinT (fun K1 =>
  loopT [(gv x0 0), (.int .i64 0), (.int .i64 0)] w fun K2 x2 w =>
  M.winnowlaw06_light.j2 a0 x2 K1 K2 w K) fun x1 w =>
  binT P .leq T.int (.tmp 29) (.const (.int .i64 20000)) (gv x1 2) (.int .i64 20000) w fun t30 w =>
  K t30 w
def M.winnowlaw06_light.L : List Nat := [0, 2, 3, 4]
def M.winnowlaw06_light.pl : Nat → Plan := fun id => ⟨.nil, [], false⟩
theorem M.winnowlaw06_light.eq (a0 : Value) (w : World) (K : KV) : M.winnowlaw06_light a0 w K = den P M.winnowlaw06_light.L M.winnowlaw06_light.pl (Try.f25.body.getD .skip) (argE [a0]) w (bodyQ P Try.f25.results.toList K) := by kernel_rfl
theorem M.winnowlaw06_light.ok : okFn M.winnowlaw06_light.L M.winnowlaw06_light.pl Try.f25 (Try.f25.body.getD .skip) 1 = true := by kernel_rfl
theorem M.winnowlaw06_light.calls (a0 : Value) {w : World} {K : KV} (h : M.winnowlaw06_light a0 w K) : callT P F.winnowlaw06_light [a0] w K :=
  callT_of_den (by kernel_rfl) Try.func25 (by kernel_rfl) M.winnowlaw06_light.ok (M.winnowlaw06_light.eq a0 w K ▸ h)
theorem M.winnowlaw06_light.fcall (args : List Value) (w : World) (K : KV) : fcallT P F.winnowlaw06_light args w K = callT P F.winnowlaw06_light args w K := fcallT_eq Try.func25 (by kernel_rfl) (by kernel_rfl) args w K
theorem M.winnowlaw06_light.rcall (a c args : List Value) (w : World) (K : KV) : callRT P (.func (.func F.winnowlaw06_light) a.toArray c.toArray) args w K = callT P F.winnowlaw06_light (a ++ args ++ c) w K := callR_fn Try.func25 (by kernel_rfl) (by kernel_rfl) a c args w K

def M.winnowlaw06_alive.j0 (t10 : Value) (w : World) (K : KV) : Prop :=
  bsT P T.sl_uint8 2 #[(0, (.int .u8 97)), (1, (.int .u8 98))] w fun t19 w =>
  cvT P T.sl_uint8 T.sl_uint8 t19 w fun t20 w =>
  fcallT P F.pdisk_Disk_Append [t10, (.int .i64 1), t20] w fun t21 w =>
  fcallT P F.pdisk_Disk_Sync [t10, (.int .i64 1)] w fun t23 w =>
  bsT P T.sl_uint8 2 #[(0, (.int .u8 99)), (1, (.int .u8 100))] w fun t25 w =>
  cvT P T.sl_uint8 T.sl_uint8 t25 w fun t26 w =>
  fcallT P F.pdisk_Disk_Append [t10, (.int .i64 1), t26] w fun t27 w =>
  bsT P T.sl_int 1 #[(0, (.int .i64 1))] w fun t29 w =>
  fcallT P F.pdisk_Disk_Crash [t10, t29] w fun t30 w =>
  fcallT P F.pdisk_Disk_Read [t10, (.int .i64 1)] w fun t33 w =>
  exT P t33 0 w fun t34 w =>
  exT P t33 1 w fun t35 w =>
  binT P .eql T.api_Kind (.tmp 36) (.const (.int .i64 0)) t21 (.int .i64 0) w fun t37 w =>
  guardT (isB t37 true) (fun K' => K' t23 w) w fun t39 w =>
  guardT (isB t37 true) (fun K' => binT P .eql T.api_Kind (.tmp 39) (.const (.int .i64 0)) t39 (.int .i64 0) w K') w fun t40 w =>
  pickT t37 t40 (.bool false) w fun t41 w =>
  guardT (isB t41 true) (fun K' => K' t27 w) w fun t43 w =>
  guardT (isB t41 true) (fun K' => binT P .eql T.api_Kind (.tmp 43) (.const (.int .i64 0)) t43 (.int .i64 0) w K') w fun t44 w =>
  pickT t41 t44 (.bool false) w fun t45 w =>
  guardT (isB t45 true) (fun K' => K' t35 w) w fun t47 w =>
  guardT (isB t45 true) (fun K' => binT P .eql T.api_Kind (.tmp 47) (.const (.int .i64 0)) t47 (.int .i64 0) w K') w fun t48 w =>
  pickT t45 t48 (.bool false) w fun t49 w =>
  guardT (isB t49 true) (fun K' => K' t34 w) w fun t51 w =>
  guardT (isB t49 true) (fun K' => cvT P T.sl_uint8 T.string t51 w K') w fun t52 w =>
  guardT (isB t49 true) (fun K' => binT P .eql T.string (.tmp 52) (.const (.string ⟨#[97, 98, 99]⟩)) t52 (.string ⟨#[97, 98, 99]⟩) w K') w fun t53 w =>
  pickT t49 t53 (.bool false) w fun t54 w =>
  K t54 w
/-- winnow/winnowlaw06.alive -/
def M.winnowlaw06_alive (w : World) (K : KV) : Prop :=
  fcallT P F.disk_New [(.int .i64 10)] w fun t9 w =>
  exT P t9 0 w fun t10 w =>
  exT P t9 1 w fun t11 w =>
  joinT (fun K0 =>
  binT P .neq T.api_Kind (.tmp 12) (.const (.int .i64 0)) t11 (.int .i64 0) w fun t13 w =>
  guardT (isB t13 false) (fun K' => K' t10 w) w fun t15 w =>
  guardT (isB t13 false) (fun K' => binT P .eql T.p_disk_Disk (.tmp 15) (.const (.pointer none)) t15 (.pointer none) w K') w fun t16 w =>
  pickT t13 (.bool true) t16 w fun t17 w =>
  condT t17 (
  K (.bool false) w) (
  K0 [(.bool false)] w)) fun x0 w =>
  M.winnowlaw06_alive.j0 t10 w K
def M.winnowlaw06_alive.L : List Nat := [0, 1, 2, 3, 4, 5, 6, 7]
def M.winnowlaw06_alive.pl : Nat → Plan := fun id => ⟨.nil, [], false⟩
theorem M.winnowlaw06_alive.eq (w : World) (K : KV) : M.winnowlaw06_alive  w K = den P M.winnowlaw06_alive.L M.winnowlaw06_alive.pl (Try.f26.body.getD .skip) (argE []) w (bodyQ P Try.f26.results.toList K) := by kernel_rfl
theorem M.winnowlaw06_alive.ok : okFn M.winnowlaw06_alive.L M.winnowlaw06_alive.pl Try.f26 (Try.f26.body.getD .skip) 0 = true := by kernel_rfl
theorem M.winnowlaw06_alive.calls {w : World} {K : KV} (h : M.winnowlaw06_alive  w K) : callT P F.winnowlaw06_alive [] w K :=
  callT_of_den (by kernel_rfl) Try.func26 (by kernel_rfl) M.winnowlaw06_alive.ok (M.winnowlaw06_alive.eq  w K ▸ h)
theorem M.winnowlaw06_alive.fcall (args : List Value) (w : World) (K : KV) : fcallT P F.winnowlaw06_alive args w K = callT P F.winnowlaw06_alive args w K := fcallT_eq Try.func26 (by kernel_rfl) (by kernel_rfl) args w K
theorem M.winnowlaw06_alive.rcall (a c args : List Value) (w : World) (K : KV) : callRT P (.func (.func F.winnowlaw06_alive) a.toArray c.toArray) args w K = callT P F.winnowlaw06_alive (a ++ args ++ c) w K := callR_fn Try.func26 (by kernel_rfl) (by kernel_rfl) a c args w K

/-- winnow/disk.New -/
def M.disk_New (a0 : Value) (w : World) (K : KV) : Prop :=
  joinT (fun K0 =>
  binT P .lss T.int (.tmp 4) (.const (.int .i64 1)) a0 (.int .i64 1) w fun t5 w =>
  guardT (isB t5 false) (fun K' => K' a0 w) w fun t7 w =>
  guardT (isB t5 false) (fun K' => binT P .gtr T.int (.tmp 7) (.const (.int .i64 1048576)) t7 (.int .i64 1048576) w K') w fun t8 w =>
  pickT t5 (.bool true) t8 w fun t9 w =>
  condT t9 (
  K (.tuple #[(.pointer none), (.int .i64 1)]) w) (
  K0 [(.pointer none), (.int .i64 0)] w)) fun x0 w =>
  mkmT P T.map_int_p_disk_file none w fun t11 w =>
  bldT P T.disk_Disk #[(0, a0), (1, t11)] w fun t12 w =>
  boxT P T.disk_Disk t12 w fun t13 w =>
  K (.tuple #[t13, (.int .i64 0)]) w
def M.disk_New.L : List Nat := [0, 2, 3]
def M.disk_New.pl : Nat → Plan := fun id => ⟨.nil, [], false⟩
theorem M.disk_New.eq (a0 : Value) (w : World) (K : KV) : M.disk_New a0 w K = den P M.disk_New.L M.disk_New.pl (Try.f27.body.getD .skip) (argE [a0]) w (bodyQ P Try.f27.results.toList K) := by kernel_rfl
theorem M.disk_New.ok : okFn M.disk_New.L M.disk_New.pl Try.f27 (Try.f27.body.getD .skip) 1 = true := by kernel_rfl
theorem M.disk_New.calls (a0 : Value) {w : World} {K : KV} (h : M.disk_New a0 w K) : callT P F.disk_New [a0] w K :=
  callT_of_den (by kernel_rfl) Try.func27 (by kernel_rfl) M.disk_New.ok (M.disk_New.eq a0 w K ▸ h)
theorem M.disk_New.fcall (args : List Value) (w : World) (K : KV) : fcallT P F.disk_New args w K = callT P F.disk_New args w K := fcallT_eq Try.func27 (by kernel_rfl) (by kernel_rfl) args w K
theorem M.disk_New.rcall (a c args : List Value) (w : World) (K : KV) : callRT P (.func (.func F.disk_New) a.toArray c.toArray) args w K = callT P F.disk_New (a ++ args ++ c) w K := callR_fn Try.func27 (by kernel_rfl) (by kernel_rfl) a c args w K

def M.pdisk_Disk_Append.j2 (x1 : List Value) (x2 : List Value) (a0 : Value) (w : World) (K : KV) : Prop :=
  nilT (gv x1 0) w fun t83 w =>
  faT P T.disk_file t83 1 w fun t84 w =>
  ldT P T.sl_uint8 t84 w fun t85 w =>
  biT P .append #[T.sl_uint8, T.sl_uint8] T.sl_uint8 [false, false] [t85, (gv x2 0)] w fun t87 w =>
  nilT (gv x1 0) w fun t88 w =>
  faT P T.disk_file t88 1 w fun t89 w =>
  stT P T.sl_uint8 t89 t87 w fun _ w =>
  fcallT P F.pdisk_Disk_state [a0] w fun t91 w =>
  K t91 w
def M.pdisk_Disk_Append.j1 (a0 : Value) (a2 : Value) (x1 : List Value) (w : World) (K : KV) : Prop :=
  joinT (fun K2 =>
  nilT a0 w fun t50 w =>
  faT P T.disk_Disk t50 3 w fun t51 w =>
  ldT P T.bool t51 w fun t52 w =>
  condT t52 (
  biT P .len #[T.sl_uint8] T.int [false] [a2] w fun t55 w =>
  nilT a0 w fun t57 w =>
  faT P T.disk_Disk t57 2 w fun t58 w =>
  ldT P T.int t58 w fun t59 w =>
  binT P .gtr T.int (.tmp 55) (.tmp 59) t55 t59 w fun t60 w =>
  nilT a0 w fun t61 w =>
  faT P T.disk_Disk t61 4 w fun t62 w =>
  stT P T.bool t62 t60 w fun _ w =>
  biT P .len #[T.sl_uint8] T.int [false] [a2] w fun t65 w =>
  nilT a0 w fun t67 w =>
  faT P T.disk_Disk t67 2 w fun t68 w =>
  ldT P T.int t68 w fun t69 w =>
  biT P .min #[T.int, T.int] T.int [false, false] [t65, t69] w fun t70 w =>
  slT P T.sl_uint8 a2 none (some t70) none w fun t71 w =>
  nilT a0 w fun t73 w =>
  faT P T.disk_Disk t73 2 w fun t74 w =>
  ldT P T.int t74 w fun t75 w =>
  biT P .len #[T.sl_uint8] T.int [false] [t71] w fun t77 w =>
  binT P .sub T.int (.tmp 75) (.tmp 77) t75 t77 w fun t78 w =>
  nilT a0 w fun t79 w =>
  faT P T.disk_Disk t79 2 w fun t80 w =>
  stT P T.int t80 t78 w fun _ w =>
  K2 [t71] w) (
  K2 [a2] w)) fun x2 w =>
  M.pdisk_Disk_Append.j2 x1 x2 a0 w K
def M.pdisk_Disk_Append.j0 (a0 : Value) (a1 : Value) (a2 : Value) (w : World) (K : KV) : Prop :=
  nilT a0 w fun t34 w =>
  faT P T.disk_Disk t34 1 w fun t35 w =>
  ldT P T.map_int_p_disk_file t35 w fun t36 w =>
  luT P T.map_int_p_disk_file t36 a1 false w fun t38 w =>
  joinT (fun K1 =>
  binT P .eql T.p_disk_file (.tmp 39) (.const (.pointer none)) t38 (.pointer none) w fun t40 w =>
  condT t40 (
  bldT P T.disk_file #[] w fun t41 w =>
  boxT P T.disk_file t41 w fun t42 w =>
  nilT a0 w fun t44 w =>
  faT P T.disk_Disk t44 1 w fun t45 w =>
  ldT P T.map_int_p_disk_file t45 w fun t46 w =>
  muT P T.map_int_p_disk_file t46 a1 t42 w fun _ w =>
  K1 [t42] w) (
  K1 [t38] w)) fun x1 w =>
  M.pdisk_Disk_Append.j1 a0 a2 x1 w K
/-- (*winnow/disk.Disk).Append -/
def M.pdisk_Disk_Append (a0 a1 a2 : Value) (w : World) (K : KV) : Prop :=
  joinT (fun K0 =>
  fcallT P F.pdisk_Disk_state [a0] w fun t10 w =>
  binT P .neq T.api_Kind (.tmp 12) (.const (.int .i64 0)) t10 (.int .i64 0) w fun t13 w =>
  condT t13 (
  K t10 w) (
  binT P .lss T.int (.tmp 16) (.const (.int .i64 0)) a1 (.int .i64 0) w fun t17 w =>
  guardT (isB t17 false) (fun K' => K' a1 w) w fun t19 w =>
  guardT (isB t17 false) (fun K' => binT P .geq T.int (.tmp 19) (.const (.int .i64 64)) t19 (.int .i64 64) w K') w fun t20 w =>
  pickT t17 (.bool true) t20 w fun t21 w =>
  condT t21 (
  K (.int .i64 1) w) (
  drawT w fun w =>
  w = w ∧ w = w ∧ quietT (fun K' => biT P .len #[T.sl_uint8] T.int [false] [a2] w K') w fun t26 =>
  w = w ∧ quietT (fun K' => nilT a0 w K') w fun t29 =>
  quietT (fun K' => faT P T.disk_Disk t29 0 w K') w fun t30 =>
  quietT (fun K' => ldT P T.int t30 w K') w fun t31 =>
  fcallT P F.pdisk_Disk_Used [a0] w fun t24 w =>
  stabT (fun K' => ldT P T.int t30 w K') w t31 ∧ stabT (fun K' => faT P T.disk_Disk t29 0 w K') w t30 ∧ stabT (fun K' => nilT a0 w K') w t29 ∧ stabT (fun K' => K' a0 w) w a0 ∧ stabT (fun K' => biT P .len #[T.sl_uint8] T.int [false] [a2] w K') w t26 ∧ stabT (fun K' => K' a2 w) w a2 ∧ quietT (fun K' => binT P .add T.int (.tmp 24) (.tmp 26) t24 t26 w K') w fun t27 =>
  quietT (fun K' => binT P .gtr T.int (.tmp 27) (.tmp 31) t27 t31 w K') w fun t32 =>
  condT t32 (
  K (.int .i64 9) w) (
  K0 [t10, t13, (.int .i64 0), t21, t32] w)))) fun x0 w =>
  M.pdisk_Disk_Append.j0 a0 a1 a2 w K
def M.pdisk_Disk_Append.L : List Nat := [0, 1, 2, 6, 7, 11, 15, 22, 8]
def M.pdisk_Disk_Append.pl : Nat → Plan := fun id => cond (Nat.beq id 6) ⟨(.go 0 (.go 2 (.go 3 (.go 5 (.go 6 (.go 7 (.go 8 (.eff 1 (.go 4 (.go 9 (.eff 10 .nil .stop))) .stop)))))))), [1, 10], false⟩ (⟨.nil, [], false⟩)
theorem M.pdisk_Disk_Append.eq (a0 a1 a2 : Value) (w : World) (K : KV) : M.pdisk_Disk_Append a0 a1 a2 w K = den P M.pdisk_Disk_Append.L M.pdisk_Disk_Append.pl (Try.f28.body.getD .skip) (argE [a0, a1, a2]) w (bodyQ P Try.f28.results.toList K) := by kernel_rfl
theorem M.pdisk_Disk_Append.ok : okFn M.pdisk_Disk_Append.L M.pdisk_Disk_Append.pl Try.f28 (Try.f28.body.getD .skip) 3 = true := by kernel_rfl
theorem M.pdisk_Disk_Append.calls (a0 a1 a2 : Value) {w : World} {K : KV} (h : M.pdisk_Disk_Append a0 a1 a2 w K) : callT P F.pdisk_Disk_Append [a0, a1, a2] w K :=
  callT_of_den (by kernel_rfl) Try.func28 (by kernel_rfl) M.pdisk_Disk_Append.ok (M.pdisk_Disk_Append.eq a0 a1 a2 w K ▸ h)
theorem M.pdisk_Disk_Append.fcall (args : List Value) (w : World) (K : KV) : fcallT P F.pdisk_Disk_Append args w K = callT P F.pdisk_Disk_Append args w K := fcallT_eq Try.func28 (by kernel_rfl) (by kernel_rfl) args w K
theorem M.pdisk_Disk_Append.rcall (a c args : List Value) (w : World) (K : KV) : callRT P (.func (.func F.pdisk_Disk_Append) a.toArray c.toArray) args w K = callT P F.pdisk_Disk_Append (a ++ args ++ c) w K := callR_fn Try.func28 (by kernel_rfl) (by kernel_rfl) a c args w K

/-- (*winnow/disk.Disk).Sync -/
def M.pdisk_Disk_Sync (a0 a1 : Value) (w : World) (K : KV) : Prop :=
  fcallT P F.pdisk_Disk_find [a0, a1] w fun t10 w =>
  exT P t10 0 w fun t11 w =>
  exT P t10 1 w fun t12 w =>
  joinT (fun K0 =>
  binT P .eql T.api_Kind (.tmp 13) (.const (.int .i64 0)) t12 (.int .i64 0) w fun t14 w =>
  condT t14 (
  fcallT P F.pdisk_file_all [t11] w fun t18 w =>
  nilT t11 w fun t19 w =>
  faT P T.disk_file t19 0 w fun t20 w =>
  stT P T.sl_uint8 t20 t18 w fun _ w =>
  nilT t11 w fun t21 w =>
  faT P T.disk_file t21 1 w fun t22 w =>
  stT P T.sl_uint8 t22 (.slice none 0 0) w fun _ w =>
  K0 [] w) (
  K0 [] w)) fun x0 w =>
  K t12 w
def M.pdisk_Disk_Sync.L : List Nat := [0, 1, 4, 5, 6]
def M.pdisk_Disk_Sync.pl : Nat → Plan := fun id => ⟨.nil, [], false⟩
theorem M.pdisk_Disk_Sync.eq (a0 a1 : Value) (w : World) (K : KV) : M.pdisk_Disk_Sync a0 a1 w K = den P M.pdisk_Disk_Sync.L M.pdisk_Disk_Sync.pl (Try.f29.body.getD .skip) (argE [a0, a1]) w (bodyQ P Try.f29.results.toList K) := by kernel_rfl
theorem M.pdisk_Disk_Sync.ok : okFn M.pdisk_Disk_Sync.L M.pdisk_Disk_Sync.pl Try.f29 (Try.f29.body.getD .skip) 2 = true := by kernel_rfl
theorem M.pdisk_Disk_Sync.calls (a0 a1 : Value) {w : World} {K : KV} (h : M.pdisk_Disk_Sync a0 a1 w K) : callT P F.pdisk_Disk_Sync [a0, a1] w K :=
  callT_of_den (by kernel_rfl) Try.func29 (by kernel_rfl) M.pdisk_Disk_Sync.ok (M.pdisk_Disk_Sync.eq a0 a1 w K ▸ h)
theorem M.pdisk_Disk_Sync.fcall (args : List Value) (w : World) (K : KV) : fcallT P F.pdisk_Disk_Sync args w K = callT P F.pdisk_Disk_Sync args w K := fcallT_eq Try.func29 (by kernel_rfl) (by kernel_rfl) args w K
theorem M.pdisk_Disk_Sync.rcall (a c args : List Value) (w : World) (K : KV) : callRT P (.func (.func F.pdisk_Disk_Sync) a.toArray c.toArray) args w K = callT P F.pdisk_Disk_Sync (a ++ args ++ c) w K := callR_fn Try.func29 (by kernel_rfl) (by kernel_rfl) a c args w K

def M.pdisk_Disk_Crash.j5 (t23 : Value) (x5 : List Value) (K4 : KL) (x2 : List Value) (t17 : Value) (w : World) (K : KV) : Prop :=
  drawT w fun w =>
  w = w ∧ w = w ∧ w = w ∧ quietT (fun K' => nilT t23 w K') w fun t42 =>
  quietT (fun K' => faT P T.disk_file t42 0 w K') w fun t43 =>
  quietT (fun K' => ldT P T.sl_uint8 t43 w K') w fun t44 =>
  w = w ∧ quietT (fun K' => nilT t23 w K') w fun t46 =>
  quietT (fun K' => faT P T.disk_file t46 1 w K') w fun t47 =>
  quietT (fun K' => ldT P T.sl_uint8 t47 w K') w fun t48 =>
  w = w ∧ quietT (fun K' => slT P T.sl_uint8 t48 none (some (gv x5 0)) none w K') w fun t50 =>
  bsT P T.sl_sl_uint8 2 #[(0, t44), (1, t50)] w fun t51 w =>
  stabT (fun K' => K' t23 w) w t23 ∧ stabT (fun K' => K' t23 w) w t23 ∧ fcallT P F.slices_Concat_byte_byte [t51] w fun t52 w =>
  stabT (fun K' => K' t23 w) w t23 ∧ stabT (fun K' => K' t23 w) w t23 ∧ quietT (fun K' => nilT t23 w K') w fun t53 =>
  quietT (fun K' => faT P T.disk_file t53 0 w K') w fun t54 =>
  stT P T.sl_uint8 t54 t52 w fun _ w =>
  stabT (fun K' => K' t23 w) w t23 ∧ quietT (fun K' => nilT t23 w K') w fun t55 =>
  quietT (fun K' => faT P T.disk_file t55 1 w K') w fun t56 =>
  stT P T.sl_uint8 t56 (.slice none 0 0) w fun _ w =>
  K4 [(gv x2 4), t17, t23, (gv x5 0)] w
def M.pdisk_Disk_Crash.j3 (t11 : Value) (x2 : List Value) (a0 : Value) (a1 : Value) (K2 : KL) (w : World) (K : KV) : Prop :=
  joinT (fun K4 =>
  iaT P T.sl_int t11 (gv x2 4) w fun t16 w =>
  ldT P T.int t16 w fun t17 w =>
  nilT a0 w fun t19 w =>
  faT P T.disk_Disk t19 1 w fun t20 w =>
  ldT P T.map_int_p_disk_file t20 w fun t21 w =>
  luT P T.map_int_p_disk_file t21 t17 false w fun t23 w =>
  joinT (fun K5 =>
  biT P .len #[T.sl_int] T.int [false] [a1] w fun t26 w =>
  binT P .lss T.int (.tmp 24) (.tmp 26) (gv x2 4) t26 w fun t27 w =>
  condT t27 (
  drawT w fun w =>
  w = w ∧ w = w ∧ quietT (fun K' => iaT P T.sl_int a1 (gv x2 4) w K') w fun t30 =>
  quietT (fun K' => ldT P T.int t30 w K') w fun t31 =>
  w = w ∧ quietT (fun K' => nilT t23 w K') w fun t33 =>
  quietT (fun K' => faT P T.disk_file t33 1 w K') w fun t34 =>
  quietT (fun K' => ldT P T.sl_uint8 t34 w K') w fun t35 =>
  quietT (fun K' => biT P .len #[T.sl_uint8] T.int [false] [t35] w K') w fun t36 =>
  quietT (fun K' => biT P .min #[T.int, T.int] T.int [false, false] [t31, t36] w K') w fun t37 =>
  quietT (fun K' => biT P .max #[T.int, T.int] T.int [true, false] [(.int .i64 0), t37] w K') w fun t38 =>
  K5 [t38] w) (
  K5 [(.int .i64 0)] w)) fun x5 w =>
  M.pdisk_Disk_Crash.j5 t23 x5 K4 x2 t17 w K) fun x4 w =>
  binT P .add T.int (.tmp 13) (.const (.int .i64 1)) (gv x2 4) (.int .i64 1) w fun t57 w =>
  K2 [(gv x4 0), (gv x4 1), (gv x4 2), (gv x4 3), t57] w
def M.pdisk_Disk_Crash.j0 (a0 : Value) (a1 : Value) (w : World) (K : KV) : Prop :=
  joinT (fun K1 =>
  fcallT P F.pdisk_Disk_Files [a0] w fun t11 w =>
  biT P .len #[T.sl_int] T.int [false] [t11] w fun t12 w =>
  loopT [undef, undef, undef, undef, (.int .i64 0)] w fun K2 x2 w =>
  binT P .lss T.int (.tmp 13) (.tmp 12) (gv x2 4) t12 w fun t14 w =>
  joinT (fun K3 =>
  condT t14 (
  K3 [] w) (
  K1 [t11, t12, (gv x2 4), (gv x2 0), (gv x2 1), (gv x2 2), (gv x2 3)] w)) fun x3 w =>
  M.pdisk_Disk_Crash.j3 t11 x2 a0 a1 K2 w K) fun x1 w =>
  nilT a0 w fun t60 w =>
  faT P T.disk_Disk t60 3 w fun t61 w =>
  stT P T.bool t61 (.bool false) w fun _ w =>
  nilT a0 w fun t62 w =>
  faT P T.disk_Disk t62 4 w fun t63 w =>
  stT P T.bool t63 (.bool false) w fun _ w =>
  K (.tuple #[]) w
/-- (*winnow/disk.Disk).Crash -/
def M.pdisk_Disk_Crash (a0 a1 : Value) (w : World) (K : KV) : Prop :=
  joinT (fun K0 =>
  binT P .eql T.p_disk_Disk (.tmp 8) (.const (.pointer none)) a0 (.pointer none) w fun t9 w =>
  condT t9 (
  K (.tuple #[]) w) (
  K0 [] w)) fun x0 w =>
  M.pdisk_Disk_Crash.j0 a0 a1 w K
def M.pdisk_Disk_Crash.L : List Nat := [0, 1, 4, 5, 6, 7, 13, 12, 11]
def M.pdisk_Disk_Crash.pl : Nat → Plan := fun id => cond (Nat.beq id 7) ⟨(.go 0 (.go 1 (.go 2 (.go 3 (.go 4 (.go 5 (.go 6 (.go 7 (.go 8 (.go 9 (.go 10 (.eff 11 .nil .stop)))))))))))), [11], false⟩ (cond (Nat.beq id 8) ⟨(.go 0 (.go 1 (.go 2 (.go 3 (.go 4 (.go 5 (.go 6 (.go 7 (.go 8 (.go 9 (.go 10 (.go 11 (.eff 12 (.eff 13 (.go 14 (.go 15 (.eff 16 (.go 17 (.go 18 (.eff 19 .nil .stop))) .stop))) .stop) .stop))))))))))))), [12, 13, 16, 19], false⟩ (⟨.nil, [], false⟩))
theorem M.pdisk_Disk_Crash.eq (a0 a1 : Value) (w : World) (K : KV) : M.pdisk_Disk_Crash a0 a1 w K = den P M.pdisk_Disk_Crash.L M.pdisk_Disk_Crash.pl (Try.f30.body.getD .skip) (argE [a0, a1]) w (bodyQ P Try.f30.results.toList K) := by kernel_rfl
theorem M.pdisk_Disk_Crash.ok : okFn M.pdisk_Disk_Crash.L M.pdisk_Disk_Crash.pl Try.f30 (Try.f30.body.getD .skip) 2 = true := by kernel_rfl
theorem M.pdisk_Disk_Crash.calls (a0 a1 : Value) {w : World} {K : KV} (h : M.pdisk_Disk_Crash a0 a1 w K) : callT P F.pdisk_Disk_Crash [a0, a1] w K :=
  callT_of_den (by kernel_rfl) Try.func30 (by kernel_rfl) M.pdisk_Disk_Crash.ok (M.pdisk_Disk_Crash.eq a0 a1 w K ▸ h)
theorem M.pdisk_Disk_Crash.fcall (args : List Value) (w : World) (K : KV) : fcallT P F.pdisk_Disk_Crash args w K = callT P F.pdisk_Disk_Crash args w K := fcallT_eq Try.func30 (by kernel_rfl) (by kernel_rfl) args w K
theorem M.pdisk_Disk_Crash.rcall (a c args : List Value) (w : World) (K : KV) : callRT P (.func (.func F.pdisk_Disk_Crash) a.toArray c.toArray) args w K = callT P F.pdisk_Disk_Crash (a ++ args ++ c) w K := callR_fn Try.func30 (by kernel_rfl) (by kernel_rfl) a c args w K

/-- (*winnow/disk.Disk).Files -/
def M.pdisk_Disk_Files (a0 : Value) (w : World) (K : KV) : Prop :=
  joinT (fun K0 =>
  binT P .eql T.p_disk_Disk (.tmp 3) (.const (.pointer none)) a0 (.pointer none) w fun t4 w =>
  condT t4 (
  K (.slice none 0 0) w) (
  K0 [(.slice none 0 0)] w)) fun x0 w =>
  nilT a0 w fun t6 w =>
  faT P T.disk_Disk t6 1 w fun t7 w =>
  ldT P T.map_int_p_disk_file t7 w fun t8 w =>
  fcallT P F.maps_Keys_map_int_disk_file_int_disk_file [t8] w fun t9 w =>
  fcallT P F.slices_Sorted_int [t9] w fun t10 w =>
  K t10 w
def M.pdisk_Disk_Files.L : List Nat := [0, 2]
def M.pdisk_Disk_Files.pl : Nat → Plan := fun id => ⟨.nil, [], false⟩
theorem M.pdisk_Disk_Files.eq (a0 : Value) (w : World) (K : KV) : M.pdisk_Disk_Files a0 w K = den P M.pdisk_Disk_Files.L M.pdisk_Disk_Files.pl (Try.f31.body.getD .skip) (argE [a0]) w (bodyQ P Try.f31.results.toList K) := by kernel_rfl
theorem M.pdisk_Disk_Files.ok : okFn M.pdisk_Disk_Files.L M.pdisk_Disk_Files.pl Try.f31 (Try.f31.body.getD .skip) 1 = true := by kernel_rfl
theorem M.pdisk_Disk_Files.calls (a0 : Value) {w : World} {K : KV} (h : M.pdisk_Disk_Files a0 w K) : callT P F.pdisk_Disk_Files [a0] w K :=
  callT_of_den (by kernel_rfl) Try.func31 (by kernel_rfl) M.pdisk_Disk_Files.ok (M.pdisk_Disk_Files.eq a0 w K ▸ h)
theorem M.pdisk_Disk_Files.fcall (args : List Value) (w : World) (K : KV) : fcallT P F.pdisk_Disk_Files args w K = callT P F.pdisk_Disk_Files args w K := fcallT_eq Try.func31 (by kernel_rfl) (by kernel_rfl) args w K
theorem M.pdisk_Disk_Files.rcall (a c args : List Value) (w : World) (K : KV) : callRT P (.func (.func F.pdisk_Disk_Files) a.toArray c.toArray) args w K = callT P F.pdisk_Disk_Files (a ++ args ++ c) w K := callR_fn Try.func31 (by kernel_rfl) (by kernel_rfl) a c args w K

def M.winnowlaw06_ints.j3 (a0 : Value) (x2 : List Value) (a1 : Value) (K2 : KL) (w : World) (K : KV) : Prop :=
  joinT (fun K4 =>
  drawT w fun w =>
  w = w ∧ w = w ∧ quietT (fun K' => iaT P T.sl_int a0 (gv x2 1) w K') w fun t19 =>
  quietT (fun K' => ldT P T.int t19 w K') w fun t20 =>
  w = w ∧ w = w ∧ quietT (fun K' => iaT P T.sl_int a1 (gv x2 1) w K') w fun t23 =>
  quietT (fun K' => ldT P T.int t23 w K') w fun t24 =>
  quietT (fun K' => binT P .neq T.int (.tmp 20) (.tmp 24) t20 t24 w K') w fun t25 =>
  condT t25 (
  K (.bool false) w) (
  K4 [(gv x2 0)] w)) fun x4 w =>
  binT P .add T.int (.tmp 15) (.const (.int .i64 1)) (gv x2 1) (.int .i64 1) w fun t16 w =>
  K2 [(gv x4 0), t16] w
def M.winnowlaw06_ints.j0 (x0 : List Value) (a0 : Value) (a1 : Value) (w : World) (K : KV) : Prop :=
  joinT (fun K1 =>
  loopT [(gv x0 0), (.int .i64 0)] w fun K2 x2 w =>
  joinT (fun K3 =>
  biT P .len #[T.sl_int] T.int [false] [a0] w fun t13 w =>
  binT P .lss T.int (.tmp 11) (.tmp 13) (gv x2 1) t13 w fun t14 w =>
  condT t14 (
  K3 [] w) (
  K1 [(gv x2 1), (gv x2 0)] w)) fun x3 w =>
  M.winnowlaw06_ints.j3 a0 x2 a1 K2 w K) fun x1 w =>
  K (.bool true) w
/-- winnow/winnowlaw06.ints -/
def M.winnowlaw06_ints (a0 a1 : Value) (w : World) (K : KV) : Prop :=
  joinT (fun K0 =>
  biT P .len #[T.sl_int] T.int [false] [a0] w fun t7 w =>
  biT P .len #[T.sl_int] T.int [false] [a1] w fun t9 w =>
  binT P .neq T.int (.tmp 7) (.tmp 9) t7 t9 w fun t10 w =>
  condT t10 (
  K (.bool false) w) (
  K0 [(.bool false)] w)) fun x0 w =>
  M.winnowlaw06_ints.j0 x0 a0 a1 w K
def M.winnowlaw06_ints.L : List Nat := [0, 1, 4, 5]
def M.winnowlaw06_ints.pl : Nat → Plan := fun id => cond (Nat.beq id 6) ⟨(.go 0 (.go 1 (.go 2 (.go 3 (.go 4 (.go 5 (.go 6 (.go 7 (.go 8 .nil))))))))), [], false⟩ (⟨.nil, [], false⟩)
theorem M.winnowlaw06_ints.eq (a0 a1 : Value) (w : World) (K : KV) : M.winnowlaw06_ints a0 a1 w K = den P M.winnowlaw06_ints.L M.winnowlaw06_ints.pl (Try.f32.body.getD .skip) (argE [a0, a1]) w (bodyQ P Try.f32.results.toList K) := by kernel_rfl
theorem M.winnowlaw06_ints.ok : okFn M.winnowlaw06_ints.L M.winnowlaw06_ints.pl Try.f32 (Try.f32.body.getD .skip) 2 = true := by kernel_rfl
theorem M.winnowlaw06_ints.calls (a0 a1 : Value) {w : World} {K : KV} (h : M.winnowlaw06_ints a0 a1 w K) : callT P F.winnowlaw06_ints [a0, a1] w K :=
  callT_of_den (by kernel_rfl) Try.func32 (by kernel_rfl) M.winnowlaw06_ints.ok (M.winnowlaw06_ints.eq a0 a1 w K ▸ h)
theorem M.winnowlaw06_ints.fcall (args : List Value) (w : World) (K : KV) : fcallT P F.winnowlaw06_ints args w K = callT P F.winnowlaw06_ints args w K := fcallT_eq Try.func32 (by kernel_rfl) (by kernel_rfl) args w K
theorem M.winnowlaw06_ints.rcall (a c args : List Value) (w : World) (K : KV) : callRT P (.func (.func F.winnowlaw06_ints) a.toArray c.toArray) args w K = callT P F.winnowlaw06_ints (a ++ args ++ c) w K := callR_fn Try.func32 (by kernel_rfl) (by kernel_rfl) a c args w K

def M.pdisk_Disk_Used.j2 (t7 : Value) (x1 : List Value) (a0 : Value) (K1 : KL) (w : World) (K : KV) : Prop :=
  joinT (fun K3 =>
  iaT P T.sl_int t7 (gv x1 2) w fun t11 w =>
  ldT P T.int t11 w fun t12 w =>
  drawT w fun w =>
  w = w ∧ w = w ∧ quietT (fun K' => nilT a0 w K') w fun t15 =>
  quietT (fun K' => faT P T.disk_Disk t15 1 w K') w fun t16 =>
  quietT (fun K' => ldT P T.map_int_p_disk_file t16 w K') w fun t17 =>
  w = w ∧ quietT (fun K' => luT P T.map_int_p_disk_file t17 t12 false w K') w fun t19 =>
  quietT (fun K' => nilT t19 w K') w fun t20 =>
  quietT (fun K' => faT P T.disk_file t20 0 w K') w fun t21 =>
  quietT (fun K' => ldT P T.sl_uint8 t21 w K') w fun t22 =>
  quietT (fun K' => biT P .len #[T.sl_uint8] T.int [false] [t22] w K') w fun t23 =>
  w = w ∧ quietT (fun K' => nilT a0 w K') w fun t25 =>
  quietT (fun K' => faT P T.disk_Disk t25 1 w K') w fun t26 =>
  quietT (fun K' => ldT P T.map_int_p_disk_file t26 w K') w fun t27 =>
  w = w ∧ quietT (fun K' => luT P T.map_int_p_disk_file t27 t12 false w K') w fun t29 =>
  quietT (fun K' => nilT t29 w K') w fun t30 =>
  quietT (fun K' => faT P T.disk_file t30 1 w K') w fun t31 =>
  quietT (fun K' => ldT P T.sl_uint8 t31 w K') w fun t32 =>
  quietT (fun K' => biT P .len #[T.sl_uint8] T.int [false] [t32] w K') w fun t33 =>
  quietT (fun K' => binT P .add T.int (.tmp 23) (.tmp 33) t23 t33 w K') w fun t34 =>
  quietT (fun K' => binT P .add T.int (.tmp 13) (.tmp 34) (gv x1 1) t34 w K') w fun t35 =>
  K3 [t12, t35] w) fun x3 w =>
  binT P .add T.int (.tmp 9) (.const (.int .i64 1)) (gv x1 2) (.int .i64 1) w fun t36 w =>
  K1 [(gv x3 0), (gv x3 1), t36] w
/-- (*winnow/disk.Disk).Used -/
def M.pdisk_Disk_Used (a0 : Value) (w : World) (K : KV) : Prop :=
  joinT (fun K0 =>
  fcallT P F.pdisk_Disk_Files [a0] w fun t7 w =>
  biT P .len #[T.sl_int] T.int [false] [t7] w fun t8 w =>
  loopT [undef, (.int .i64 0), (.int .i64 0)] w fun K1 x1 w =>
  binT P .lss T.int (.tmp 9) (.tmp 8) (gv x1 2) t8 w fun t10 w =>
  joinT (fun K2 =>
  condT t10 (
  K2 [] w) (
  K0 [t7, t8, (gv x1 2), (gv x1 0), (gv x1 1)] w)) fun x2 w =>
  M.pdisk_Disk_Used.j2 t7 x1 a0 K1 w K) fun x0 w =>
  K (gv x0 4) w
def M.pdisk_Disk_Used.L : List Nat := [0, 2, 3, 5, 9, 8, 7]
def M.pdisk_Disk_Used.pl : Nat → Plan := fun id => cond (Nat.beq id 5) ⟨(.go 0 (.go 1 (.go 2 (.go 3 (.go 4 (.go 5 (.go 6 (.go 7 (.go 8 (.go 9 (.go 10 (.go 11 (.go 12 (.go 13 (.go 14 (.go 15 (.go 16 (.go 17 (.go 18 (.go 19 (.go 20 (.go 21 (.go 22 (.eff 23 .nil .stop)))))))))))))))))))))))), [23], false⟩ (⟨.nil, [], false⟩)
theorem M.pdisk_Disk_Used.eq (a0 : Value) (w : World) (K : KV) : M.pdisk_Disk_Used a0 w K = den P M.pdisk_Disk_Used.L M.pdisk_Disk_Used.pl (Try.f33.body.getD .skip) (argE [a0]) w (bodyQ P Try.f33.results.toList K) := by kernel_rfl
theorem M.pdisk_Disk_Used.ok : okFn M.pdisk_Disk_Used.L M.pdisk_Disk_Used.pl Try.f33 (Try.f33.body.getD .skip) 1 = true := by kernel_rfl
theorem M.pdisk_Disk_Used.calls (a0 : Value) {w : World} {K : KV} (h : M.pdisk_Disk_Used a0 w K) : callT P F.pdisk_Disk_Used [a0] w K :=
  callT_of_den (by kernel_rfl) Try.func33 (by kernel_rfl) M.pdisk_Disk_Used.ok (M.pdisk_Disk_Used.eq a0 w K ▸ h)
theorem M.pdisk_Disk_Used.fcall (args : List Value) (w : World) (K : KV) : fcallT P F.pdisk_Disk_Used args w K = callT P F.pdisk_Disk_Used args w K := fcallT_eq Try.func33 (by kernel_rfl) (by kernel_rfl) args w K
theorem M.pdisk_Disk_Used.rcall (a c args : List Value) (w : World) (K : KV) : callRT P (.func (.func F.pdisk_Disk_Used) a.toArray c.toArray) args w K = callT P F.pdisk_Disk_Used (a ++ args ++ c) w K := callR_fn Try.func33 (by kernel_rfl) (by kernel_rfl) a c args w K

/-- (*winnow/disk.Disk).Read -/
def M.pdisk_Disk_Read (a0 a1 : Value) (w : World) (K : KV) : Prop :=
  fcallT P F.pdisk_Disk_find [a0, a1] w fun t11 w =>
  exT P t11 0 w fun t12 w =>
  exT P t11 1 w fun t13 w =>
  joinT (fun K0 =>
  binT P .neq T.api_Kind (.tmp 14) (.const (.int .i64 0)) t13 (.int .i64 0) w fun t15 w =>
  condT t15 (
  K (.tuple #[(.slice none 0 0), t13]) w) (
  K0 [(.slice none 0 0), (.int .i64 0)] w)) fun x0 w =>
  fcallT P F.pdisk_file_all [t12] w fun t18 w =>
  K (.tuple #[t18, (.int .i64 0)]) w
def M.pdisk_Disk_Read.L : List Nat := [0, 1, 4, 5, 6, 7]
def M.pdisk_Disk_Read.pl : Nat → Plan := fun id => ⟨.nil, [], false⟩
theorem M.pdisk_Disk_Read.eq (a0 a1 : Value) (w : World) (K : KV) : M.pdisk_Disk_Read a0 a1 w K = den P M.pdisk_Disk_Read.L M.pdisk_Disk_Read.pl (Try.f34.body.getD .skip) (argE [a0, a1]) w (bodyQ P Try.f34.results.toList K) := by kernel_rfl
theorem M.pdisk_Disk_Read.ok : okFn M.pdisk_Disk_Read.L M.pdisk_Disk_Read.pl Try.f34 (Try.f34.body.getD .skip) 2 = true := by kernel_rfl
theorem M.pdisk_Disk_Read.calls (a0 a1 : Value) {w : World} {K : KV} (h : M.pdisk_Disk_Read a0 a1 w K) : callT P F.pdisk_Disk_Read [a0, a1] w K :=
  callT_of_den (by kernel_rfl) Try.func34 (by kernel_rfl) M.pdisk_Disk_Read.ok (M.pdisk_Disk_Read.eq a0 a1 w K ▸ h)
theorem M.pdisk_Disk_Read.fcall (args : List Value) (w : World) (K : KV) : fcallT P F.pdisk_Disk_Read args w K = callT P F.pdisk_Disk_Read args w K := fcallT_eq Try.func34 (by kernel_rfl) (by kernel_rfl) args w K
theorem M.pdisk_Disk_Read.rcall (a c args : List Value) (w : World) (K : KV) : callRT P (.func (.func F.pdisk_Disk_Read) a.toArray c.toArray) args w K = callT P F.pdisk_Disk_Read (a ++ args ++ c) w K := callR_fn Try.func34 (by kernel_rfl) (by kernel_rfl) a c args w K

def M.winnowref01_Same.j3 (a0 : Value) (x2 : List Value) (a1 : Value) (K2 : KL) (w : World) (K : KV) : Prop :=
  joinT (fun K4 =>
  drawT w fun w =>
  w = w ∧ w = w ∧ quietT (fun K' => iaT P T.sl_uint8 a0 (gv x2 1) w K') w fun t19 =>
  quietT (fun K' => ldT P T.uint8 t19 w K') w fun t20 =>
  w = w ∧ w = w ∧ quietT (fun K' => iaT P T.sl_uint8 a1 (gv x2 1) w K') w fun t23 =>
  quietT (fun K' => ldT P T.uint8 t23 w K') w fun t24 =>
  quietT (fun K' => binT P .neq T.uint8 (.tmp 20) (.tmp 24) t20 t24 w K') w fun t25 =>
  condT t25 (
  K (.bool false) w) (
  K4 [(gv x2 0)] w)) fun x4 w =>
  binT P .add T.int (.tmp 15) (.const (.int .i64 1)) (gv x2 1) (.int .i64 1) w fun t16 w =>
  K2 [(gv x4 0), t16] w
def M.winnowref01_Same.j0 (x0 : List Value) (a0 : Value) (a1 : Value) (w : World) (K : KV) : Prop :=
  joinT (fun K1 =>
  loopT [(gv x0 0), (.int .i64 0)] w fun K2 x2 w =>
  joinT (fun K3 =>
  biT P .len #[T.sl_uint8] T.int [false] [a0] w fun t13 w =>
  binT P .lss T.int (.tmp 11) (.tmp 13) (gv x2 1) t13 w fun t14 w =>
  condT t14 (
  K3 [] w) (
  K1 [(gv x2 1), (gv x2 0)] w)) fun x3 w =>
  M.winnowref01_Same.j3 a0 x2 a1 K2 w K) fun x1 w =>
  K (.bool true) w
/-- winnow/winnowref01.Same -/
def M.winnowref01_Same (a0 a1 : Value) (w : World) (K : KV) : Prop :=
  joinT (fun K0 =>
  biT P .len #[T.sl_uint8] T.int [false] [a0] w fun t7 w =>
  biT P .len #[T.sl_uint8] T.int [false] [a1] w fun t9 w =>
  binT P .neq T.int (.tmp 7) (.tmp 9) t7 t9 w fun t10 w =>
  condT t10 (
  K (.bool false) w) (
  K0 [(.bool false)] w)) fun x0 w =>
  M.winnowref01_Same.j0 x0 a0 a1 w K
def M.winnowref01_Same.L : List Nat := [0, 1, 4, 5]
def M.winnowref01_Same.pl : Nat → Plan := fun id => cond (Nat.beq id 6) ⟨(.go 0 (.go 1 (.go 2 (.go 3 (.go 4 (.go 5 (.go 6 (.go 7 (.go 8 .nil))))))))), [], false⟩ (⟨.nil, [], false⟩)
theorem M.winnowref01_Same.eq (a0 a1 : Value) (w : World) (K : KV) : M.winnowref01_Same a0 a1 w K = den P M.winnowref01_Same.L M.winnowref01_Same.pl (Try.f35.body.getD .skip) (argE [a0, a1]) w (bodyQ P Try.f35.results.toList K) := by kernel_rfl
theorem M.winnowref01_Same.ok : okFn M.winnowref01_Same.L M.winnowref01_Same.pl Try.f35 (Try.f35.body.getD .skip) 2 = true := by kernel_rfl
theorem M.winnowref01_Same.calls (a0 a1 : Value) {w : World} {K : KV} (h : M.winnowref01_Same a0 a1 w K) : callT P F.winnowref01_Same [a0, a1] w K :=
  callT_of_den (by kernel_rfl) Try.func35 (by kernel_rfl) M.winnowref01_Same.ok (M.winnowref01_Same.eq a0 a1 w K ▸ h)
theorem M.winnowref01_Same.fcall (args : List Value) (w : World) (K : KV) : fcallT P F.winnowref01_Same args w K = callT P F.winnowref01_Same args w K := fcallT_eq Try.func35 (by kernel_rfl) (by kernel_rfl) args w K
theorem M.winnowref01_Same.rcall (a c args : List Value) (w : World) (K : KV) : callRT P (.func (.func F.winnowref01_Same) a.toArray c.toArray) args w K = callT P F.winnowref01_Same (a ++ args ++ c) w K := callR_fn Try.func35 (by kernel_rfl) (by kernel_rfl) a c args w K

/-- (*winnow/disk.Disk).Arm -/
def M.pdisk_Disk_Arm (a0 a1 : Value) (w : World) (K : KV) : Prop :=
  binT P .neq T.p_disk_Disk (.tmp 4) (.const (.pointer none)) a0 (.pointer none) w fun t5 w =>
  condT t5 (
  binT P .geq T.int (.tmp 8) (.const (.int .i64 0)) a1 (.int .i64 0) w fun t9 w =>
  nilT a0 w fun t11 w =>
  faT P T.disk_Disk t11 3 w fun t12 w =>
  stT P T.bool t12 t9 w fun _ w =>
  nilT a0 w fun t13 w =>
  faT P T.disk_Disk t13 2 w fun t14 w =>
  stT P T.int t14 a1 w fun _ w =>
  K (.tuple #[]) w) (
  K (.tuple #[]) w)
def M.pdisk_Disk_Arm.L : List Nat := [0, 1]
def M.pdisk_Disk_Arm.pl : Nat → Plan := fun id => ⟨.nil, [], false⟩
theorem M.pdisk_Disk_Arm.eq (a0 a1 : Value) (w : World) (K : KV) : M.pdisk_Disk_Arm a0 a1 w K = den P M.pdisk_Disk_Arm.L M.pdisk_Disk_Arm.pl (Try.f36.body.getD .skip) (argE [a0, a1]) w (bodyQ P Try.f36.results.toList K) := by kernel_rfl
theorem M.pdisk_Disk_Arm.ok : okFn M.pdisk_Disk_Arm.L M.pdisk_Disk_Arm.pl Try.f36 (Try.f36.body.getD .skip) 2 = true := by kernel_rfl
theorem M.pdisk_Disk_Arm.calls (a0 a1 : Value) {w : World} {K : KV} (h : M.pdisk_Disk_Arm a0 a1 w K) : callT P F.pdisk_Disk_Arm [a0, a1] w K :=
  callT_of_den (by kernel_rfl) Try.func36 (by kernel_rfl) M.pdisk_Disk_Arm.ok (M.pdisk_Disk_Arm.eq a0 a1 w K ▸ h)
theorem M.pdisk_Disk_Arm.fcall (args : List Value) (w : World) (K : KV) : fcallT P F.pdisk_Disk_Arm args w K = callT P F.pdisk_Disk_Arm args w K := fcallT_eq Try.func36 (by kernel_rfl) (by kernel_rfl) args w K
theorem M.pdisk_Disk_Arm.rcall (a c args : List Value) (w : World) (K : KV) : callRT P (.func (.func F.pdisk_Disk_Arm) a.toArray c.toArray) args w K = callT P F.pdisk_Disk_Arm (a ++ args ++ c) w K := callR_fn Try.func36 (by kernel_rfl) (by kernel_rfl) a c args w K

/-- (*winnow/disk.Disk).Down -/
def M.pdisk_Disk_Down (a0 : Value) (w : World) (K : KV) : Prop :=
  binT P .neq T.p_disk_Disk (.tmp 3) (.const (.pointer none)) a0 (.pointer none) w fun t4 w =>
  guardT (isB t4 true) (fun K' => K' a0 w) w fun t6 w =>
  guardT (isB t4 true) (fun K' => nilT t6 w K') w fun t7 w =>
  guardT (isB t4 true) (fun K' => faT P T.disk_Disk t7 4 w K') w fun t8 w =>
  guardT (isB t4 true) (fun K' => ldT P T.bool t8 w K') w fun t9 w =>
  pickT t4 t9 (.bool false) w fun t10 w =>
  K t10 w
def M.pdisk_Disk_Down.L : List Nat := [0, 2]
def M.pdisk_Disk_Down.pl : Nat → Plan := fun id => ⟨.nil, [], false⟩
theorem M.pdisk_Disk_Down.eq (a0 : Value) (w : World) (K : KV) : M.pdisk_Disk_Down a0 w K = den P M.pdisk_Disk_Down.L M.pdisk_Disk_Down.pl (Try.f37.body.getD .skip) (argE [a0]) w (bodyQ P Try.f37.results.toList K) := by kernel_rfl
theorem M.pdisk_Disk_Down.ok : okFn M.pdisk_Disk_Down.L M.pdisk_Disk_Down.pl Try.f37 (Try.f37.body.getD .skip) 1 = true := by kernel_rfl
theorem M.pdisk_Disk_Down.calls (a0 : Value) {w : World} {K : KV} (h : M.pdisk_Disk_Down a0 w K) : callT P F.pdisk_Disk_Down [a0] w K :=
  callT_of_den (by kernel_rfl) Try.func37 (by kernel_rfl) M.pdisk_Disk_Down.ok (M.pdisk_Disk_Down.eq a0 w K ▸ h)
theorem M.pdisk_Disk_Down.fcall (args : List Value) (w : World) (K : KV) : fcallT P F.pdisk_Disk_Down args w K = callT P F.pdisk_Disk_Down args w K := fcallT_eq Try.func37 (by kernel_rfl) (by kernel_rfl) args w K
theorem M.pdisk_Disk_Down.rcall (a c args : List Value) (w : World) (K : KV) : callRT P (.func (.func F.pdisk_Disk_Down) a.toArray c.toArray) args w K = callT P F.pdisk_Disk_Down (a ++ args ++ c) w K := callR_fn Try.func37 (by kernel_rfl) (by kernel_rfl) a c args w K

/-- (*winnow/disk.Disk).Remove -/
def M.pdisk_Disk_Remove (a0 a1 : Value) (w : World) (K : KV) : Prop :=
  fcallT P F.pdisk_Disk_find [a0, a1] w fun t10 w =>
  exT P t10 0 w fun t11 w =>
  exT P t10 1 w fun t12 w =>
  joinT (fun K0 =>
  binT P .eql T.api_Kind (.tmp 13) (.const (.int .i64 0)) t12 (.int .i64 0) w fun t14 w =>
  condT t14 (
  nilT a0 w fun t16 w =>
  faT P T.disk_Disk t16 1 w fun t17 w =>
  ldT P T.map_int_p_disk_file t17 w fun t18 w =>
  biT P .delete #[T.map_int_p_disk_file, T.int] T._ [false, false] [t18, a1] w fun _ w =>
  K0 [] w) (
  K0 [] w)) fun x0 w =>
  K t12 w
def M.pdisk_Disk_Remove.L : List Nat := [0, 1, 4, 5, 6]
def M.pdisk_Disk_Remove.pl : Nat → Plan := fun id => ⟨.nil, [], false⟩
theorem M.pdisk_Disk_Remove.eq (a0 a1 : Value) (w : World) (K : KV) : M.pdisk_Disk_Remove a0 a1 w K = den P M.pdisk_Disk_Remove.L M.pdisk_Disk_Remove.pl (Try.f38.body.getD .skip) (argE [a0, a1]) w (bodyQ P Try.f38.results.toList K) := by kernel_rfl
theorem M.pdisk_Disk_Remove.ok : okFn M.pdisk_Disk_Remove.L M.pdisk_Disk_Remove.pl Try.f38 (Try.f38.body.getD .skip) 2 = true := by kernel_rfl
theorem M.pdisk_Disk_Remove.calls (a0 a1 : Value) {w : World} {K : KV} (h : M.pdisk_Disk_Remove a0 a1 w K) : callT P F.pdisk_Disk_Remove [a0, a1] w K :=
  callT_of_den (by kernel_rfl) Try.func38 (by kernel_rfl) M.pdisk_Disk_Remove.ok (M.pdisk_Disk_Remove.eq a0 a1 w K ▸ h)
theorem M.pdisk_Disk_Remove.fcall (args : List Value) (w : World) (K : KV) : fcallT P F.pdisk_Disk_Remove args w K = callT P F.pdisk_Disk_Remove args w K := fcallT_eq Try.func38 (by kernel_rfl) (by kernel_rfl) args w K
theorem M.pdisk_Disk_Remove.rcall (a c args : List Value) (w : World) (K : KV) : callRT P (.func (.func F.pdisk_Disk_Remove) a.toArray c.toArray) args w K = callT P F.pdisk_Disk_Remove (a ++ args ++ c) w K := callR_fn Try.func38 (by kernel_rfl) (by kernel_rfl) a c args w K

/-- winnow/winnowref06.New -/
def M.winnowref06_New (a0 : Value) (w : World) (K : KV) : Prop :=
  joinT (fun K0 =>
  binT P .lss T.int (.tmp 3) (.const (.int .i64 1)) a0 (.int .i64 1) w fun t4 w =>
  guardT (isB t4 false) (fun K' => K' a0 w) w fun t6 w =>
  guardT (isB t4 false) (fun K' => binT P .gtr T.int (.tmp 6) (.const (.int .i64 1048576)) t6 (.int .i64 1048576) w K') w fun t7 w =>
  pickT t4 (.bool true) t7 w fun t8 w =>
  condT t8 (
  K (.pointer none) w) (
  K0 [(.pointer none)] w)) fun x0 w =>
  mksT P T.sl_winnowref06_File (.int .i64 64) (.int .i64 64) w fun t10 w =>
  bldT P T.winnowref06_Disk #[(0, a0), (1, t10), (2, (.int .i64 (-1)))] w fun t11 w =>
  boxT P T.winnowref06_Disk t11 w fun t12 w =>
  K t12 w
def M.winnowref06_New.L : List Nat := [0, 2]
def M.winnowref06_New.pl : Nat → Plan := fun id => ⟨.nil, [], false⟩
theorem M.winnowref06_New.eq (a0 : Value) (w : World) (K : KV) : M.winnowref06_New a0 w K = den P M.winnowref06_New.L M.winnowref06_New.pl (Try.f39.body.getD .skip) (argE [a0]) w (bodyQ P Try.f39.results.toList K) := by kernel_rfl
theorem M.winnowref06_New.ok : okFn M.winnowref06_New.L M.winnowref06_New.pl Try.f39 (Try.f39.body.getD .skip) 1 = true := by kernel_rfl
theorem M.winnowref06_New.calls (a0 : Value) {w : World} {K : KV} (h : M.winnowref06_New a0 w K) : callT P F.winnowref06_New [a0] w K :=
  callT_of_den (by kernel_rfl) Try.func39 (by kernel_rfl) M.winnowref06_New.ok (M.winnowref06_New.eq a0 w K ▸ h)
theorem M.winnowref06_New.fcall (args : List Value) (w : World) (K : KV) : fcallT P F.winnowref06_New args w K = callT P F.winnowref06_New args w K := fcallT_eq Try.func39 (by kernel_rfl) (by kernel_rfl) args w K
theorem M.winnowref06_New.rcall (a c args : List Value) (w : World) (K : KV) : callRT P (.func (.func F.winnowref06_New) a.toArray c.toArray) args w K = callT P F.winnowref06_New (a ++ args ++ c) w K := callR_fn Try.func39 (by kernel_rfl) (by kernel_rfl) a c args w K

/-- winnow/winnowlaw06.one -/
def M.winnowlaw06_one (a0 a1 a2 : Value) (w : World) (K : KV) : Prop :=
  boxT P T.winnowlaw06_Op a2 w fun t5 w =>
  joinT (fun K0 =>
  faT P T.winnowlaw06_Op t5 0 w fun t7 w =>
  ldT P T.int t7 w fun t8 w =>
  binT P .eql T.int (.tmp 8) (.const (.int .i64 0)) t8 (.int .i64 0) w fun t10 w =>
  condT t10 (
  drawT w fun w =>
  w = w ∧ quietT (fun K' => faT P T.winnowlaw06_Op t5 1 w K') w fun t12 =>
  quietT (fun K' => ldT P T.int t12 w K') w fun t13 =>
  quietT (fun K' => faT P T.winnowlaw06_Op t5 3 w K') w fun t14 =>
  quietT (fun K' => ldT P T.sl_uint8 t14 w K') w fun t15 =>
  w = w ∧ quietT (fun K' => faT P T.winnowlaw06_Op t5 1 w K') w fun t18 =>
  quietT (fun K' => ldT P T.int t18 w K') w fun t19 =>
  quietT (fun K' => faT P T.winnowlaw06_Op t5 3 w K') w fun t20 =>
  quietT (fun K' => ldT P T.sl_uint8 t20 w K') w fun t21 =>
  fcallT P F.pdisk_Disk_Append [a0, t13, t15] w fun t16 w =>
  stabT (fun K' => ldT P T.sl_uint8 t20 w K') w t21 ∧ stabT (fun K' => faT P T.winnowlaw06_Op t5 3 w K') w t20 ∧ stabT (fun K' => ldT P T.int t18 w K') w t19 ∧ stabT (fun K' => faT P T.winnowlaw06_Op t5 1 w K') w t18 ∧ stabT (fun K' => K' a1 w) w a1 ∧ fcallT P F.pwinnowref06_Disk_Append [a1, t19, t21] w fun t22 w =>
  quietT (fun K' => binT P .eql T.api_Kind (.tmp 16) (.tmp 22) t16 t22 w K') w fun t23 =>
  K t23 w) (
  binT P .eql T.int (.tmp 8) (.const (.int .i64 1)) t8 (.int .i64 1) w fun t25 w =>
  condT t25 (
  drawT w fun w =>
  w = w ∧ quietT (fun K' => faT P T.winnowlaw06_Op t5 1 w K') w fun t27 =>
  quietT (fun K' => ldT P T.int t27 w K') w fun t28 =>
  w = w ∧ quietT (fun K' => faT P T.winnowlaw06_Op t5 1 w K') w fun t31 =>
  quietT (fun K' => ldT P T.int t31 w K') w fun t32 =>
  fcallT P F.pdisk_Disk_Sync [a0, t28] w fun t29 w =>
  stabT (fun K' => ldT P T.int t31 w K') w t32 ∧ stabT (fun K' => faT P T.winnowlaw06_Op t5 1 w K') w t31 ∧ stabT (fun K' => K' a1 w) w a1 ∧ fcallT P F.pwinnowref06_Disk_Sync [a1, t32] w fun t33 w =>
  quietT (fun K' => binT P .eql T.api_Kind (.tmp 29) (.tmp 33) t29 t33 w K') w fun t34 =>
  K t34 w) (
  binT P .eql T.int (.tmp 8) (.const (.int .i64 2)) t8 (.int .i64 2) w fun t36 w =>
  condT t36 (
  drawT w fun w =>
  w = w ∧ quietT (fun K' => faT P T.winnowlaw06_Op t5 1 w K') w fun t38 =>
  quietT (fun K' => ldT P T.int t38 w K') w fun t39 =>
  quietT (fun K' => faT P T.winnowlaw06_Op t5 2 w K') w fun t40 =>
  quietT (fun K' => ldT P T.int t40 w K') w fun t41 =>
  w = w ∧ quietT (fun K' => faT P T.winnowlaw06_Op t5 1 w K') w fun t44 =>
  quietT (fun K' => ldT P T.int t44 w K') w fun t45 =>
  quietT (fun K' => faT P T.winnowlaw06_Op t5 2 w K') w fun t46 =>
  quietT (fun K' => ldT P T.int t46 w K') w fun t47 =>
  fcallT P F.pdisk_Disk_Cut [a0, t39, t41] w fun t42 w =>
  stabT (fun K' => ldT P T.int t46 w K') w t47 ∧ stabT (fun K' => faT P T.winnowlaw06_Op t5 2 w K') w t46 ∧ stabT (fun K' => ldT P T.int t44 w K') w t45 ∧ stabT (fun K' => faT P T.winnowlaw06_Op t5 1 w K') w t44 ∧ stabT (fun K' => K' a1 w) w a1 ∧ fcallT P F.pwinnowref06_Disk_Cut [a1, t45, t47] w fun t48 w =>
  quietT (fun K' => binT P .eql T.api_Kind (.tmp 42) (.tmp 48) t42 t48 w K') w fun t49 =>
  K t49 w) (
  binT P .eql T.int (.tmp 8) (.const (.int .i64 3)) t8 (.int .i64 3) w fun t51 w =>
  condT t51 (
  drawT w fun w =>
  w = w ∧ quietT (fun K' => faT P T.winnowlaw06_Op t5 1 w K') w fun t53 =>
  quietT (fun K' => ldT P T.int t53 w K') w fun t54 =>
  w = w ∧ quietT (fun K' => faT P T.winnowlaw06_Op t5 1 w K') w fun t57 =>
  quietT (fun K' => ldT P T.int t57 w K') w fun t58 =>
  fcallT P F.pdisk_Disk_Remove [a0, t54] w fun t55 w =>
  stabT (fun K' => ldT P T.int t57 w K') w t58 ∧ stabT (fun K' => faT P T.winnowlaw06_Op t5 1 w K') w t57 ∧ stabT (fun K' => K' a1 w) w a1 ∧ fcallT P F.pwinnowref06_Disk_Remove [a1, t58] w fun t59 w =>
  quietT (fun K' => binT P .eql T.api_Kind (.tmp 55) (.tmp 59) t55 t59 w K') w fun t60 =>
  K t60 w) (
  binT P .eql T.int (.tmp 8) (.const (.int .i64 4)) t8 (.int .i64 4) w fun t62 w =>
  condT t62 (
  faT P T.winnowlaw06_Op t5 2 w fun t64 w =>
  ldT P T.int t64 w fun t65 w =>
  fcallT P F.pdisk_Disk_Arm [a0, t65] w fun t66 w =>
  faT P T.winnowlaw06_Op t5 2 w fun t68 w =>
  ldT P T.int t68 w fun t69 w =>
  fcallT P F.pwinnowref06_Disk_Arm [a1, t69] w fun t70 w =>
  K0 [t10, (.bool false), t25, t36, t51, t62, undef] w) (
  binT P .eql T.int (.tmp 8) (.const (.int .i64 5)) t8 (.int .i64 5) w fun t72 w =>
  condT t72 (
  faT P T.winnowlaw06_Op t5 4 w fun t74 w =>
  ldT P T.sl_int t74 w fun t75 w =>
  fcallT P F.pdisk_Disk_Crash [a0, t75] w fun t76 w =>
  faT P T.winnowlaw06_Op t5 4 w fun t78 w =>
  ldT P T.sl_int t78 w fun t79 w =>
  fcallT P F.pwinnowref06_Disk_Crash [a1, t79] w fun t80 w =>
  K0 [t10, (.bool false), t25, t36, t51, t62, t72] w) (
  K0 [t10, (.bool false), t25, t36, t51, t62, t72] w))))))) fun x0 w =>
  K (.bool true) w
def M.winnowlaw06_one.L : List Nat := [0, 1, 2, 6, 9, 24, 35, 50, 61, 71]
def M.winnowlaw06_one.pl : Nat → Plan := fun id => cond (Nat.beq id 3) ⟨(.go 0 (.go 1 (.go 2 (.go 3 (.go 4 (.go 6 (.go 7 (.go 8 (.go 9 (.go 10 (.eff 5 (.eff 11 (.go 12 (.eff 13 .nil .stop)) .stop) .stop))))))))))), [5, 11, 13], false⟩ (cond (Nat.beq id 5) ⟨(.go 0 (.go 1 (.go 2 (.go 4 (.go 5 (.go 6 (.eff 3 (.eff 7 (.go 8 (.eff 9 .nil .stop)) .stop) .stop))))))), [3, 7, 9], false⟩ (cond (Nat.beq id 7) ⟨(.go 0 (.go 1 (.go 2 (.go 3 (.go 4 (.go 6 (.go 7 (.go 8 (.go 9 (.go 10 (.eff 5 (.eff 11 (.go 12 (.eff 13 .nil .stop)) .stop) .stop))))))))))), [5, 11, 13], false⟩ (cond (Nat.beq id 9) ⟨(.go 0 (.go 1 (.go 2 (.go 4 (.go 5 (.go 6 (.eff 3 (.eff 7 (.go 8 (.eff 9 .nil .stop)) .stop) .stop))))))), [3, 7, 9], false⟩ (⟨.nil, [], false⟩))))
theorem M.winnowlaw06_one.eq (a0 a1 a2 : Value) (w : World) (K : KV) : M.winnowlaw06_one a0 a1 a2 w K = den P M.winnowlaw06_one.L M.winnowlaw06_one.pl (Try.f40.body.getD .skip) (argE [a0, a1, a2]) w (bodyQ P Try.f40.results.toList K) := by kernel_rfl
theorem M.winnowlaw06_one.ok : okFn M.winnowlaw06_one.L M.winnowlaw06_one.pl Try.f40 (Try.f40.body.getD .skip) 3 = true := by kernel_rfl
theorem M.winnowlaw06_one.calls (a0 a1 a2 : Value) {w : World} {K : KV} (h : M.winnowlaw06_one a0 a1 a2 w K) : callT P F.winnowlaw06_one [a0, a1, a2] w K :=
  callT_of_den (by kernel_rfl) Try.func40 (by kernel_rfl) M.winnowlaw06_one.ok (M.winnowlaw06_one.eq a0 a1 a2 w K ▸ h)
theorem M.winnowlaw06_one.fcall (args : List Value) (w : World) (K : KV) : fcallT P F.winnowlaw06_one args w K = callT P F.winnowlaw06_one args w K := fcallT_eq Try.func40 (by kernel_rfl) (by kernel_rfl) args w K
theorem M.winnowlaw06_one.rcall (a c args : List Value) (w : World) (K : KV) : callRT P (.func (.func F.winnowlaw06_one) a.toArray c.toArray) args w K = callT P F.winnowlaw06_one (a ++ args ++ c) w K := callR_fn Try.func40 (by kernel_rfl) (by kernel_rfl) a c args w K

end Go.Proofs.Ytgcpljghnlohbaa
