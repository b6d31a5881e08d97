/-
  Printed by wip/Shallow.lean: functions of the program, read shallow; each is what its code does. No condition.
-/
import Derived.Test.YtkjhekflgghbdaaN
set_option maxRecDepth 1000000
namespace Go.Proofs.Ytkjhekflgghbdaa
open Go.Eng

def M.pgossip_Node_Tick.j6 (a0 : Value) (t10 : Value) (x3 : List Value) (K5 : KL) (w : World) (K : KV) : Prop :=
  drawT w fun w =>
  w = w ∧ quietT (fun K' => nilT a0 w K') w fun t67 =>
  quietT (fun K' => faT P T.gossip_Node t67 6 w K') w fun t68 =>
  quietT (fun K' => ldT P T.sl_api_Member t68 w K') w fun t69 =>
  w = w ∧ w = w ∧ quietT (fun K' => ldT P T.api_Member t10 w K') w fun t72 =>
  fcallT P F.pgossip_Node_aged [a0, t72] w fun t73 w =>
  stabT (fun K' => K' (gv x3 4) w) w (gv x3 4) ∧ stabT (fun K' => ldT P T.sl_api_Member t68 w K') w t69 ∧ stabT (fun K' => faT P T.gossip_Node t67 6 w K') w t68 ∧ stabT (fun K' => nilT a0 w K') w t67 ∧ stabT (fun K' => K' a0 w) w a0 ∧ quietT (fun K' => iaT P T.sl_api_Member t69 (gv x3 4) w K') w fun t74 =>
  quietT (fun K' => faT P T.api_Member t74 2 w K') w fun t75 =>
  stT P T.int t75 t73 w fun _ w =>
  nilT a0 w fun t77 w =>
  faT P T.gossip_Node t77 6 w fun t78 w =>
  ldT P T.sl_api_Member t78 w fun t79 w =>
  iaT P T.sl_api_Member t79 (gv x3 4) w fun t81 w =>
  faT P T.api_Member t81 2 w fun t82 w =>
  ldT P T.int t82 w fun t83 w =>
  binT P .eql T.int (.tmp 83) (.const (.int .i64 2)) t83 (.int .i64 2) w fun t84 w =>
  condT t84 (
  faT P T.api_Member t10 0 w fun t86 w =>
  ldT P T.uint64 t86 w fun t87 w =>
  bsT P T.sl_uint64 1 #[(0, t87)] w fun t88 w =>
  biT P .append #[T.sl_uint64, T.sl_uint64] T.sl_uint64 [false, false] [(gv x3 2), t88] w fun t89 w =>
  K5 [t10, (gv x3 4), t89, (gv x3 3)] w) (
  faT P T.api_Member t10 0 w fun t91 w =>
  ldT P T.uint64 t91 w fun t92 w =>
  bsT P T.sl_uint64 1 #[(0, t92)] w fun t93 w =>
  biT P .append #[T.sl_uint64, T.sl_uint64] T.sl_uint64 [false, false] [(gv x3 3), t93] w fun t94 w =>
  K5 [t10, (gv x3 4), (gv x3 2), t94] w)
def M.pgossip_Node_Tick.j4 (t52 : Value) (x3 : List Value) (a0 : Value) (K3 : KL) (w : World) (K : KV) : Prop :=
  joinT (fun K5 =>
  iaT P T.sl_api_Member t52 (gv x3 4) w fun t57 w =>
  ldT P T.api_Member t57 w fun t58 w =>
  alT P T.api_Member w fun t10 w =>
  stT P T.api_Member t10 t58 w fun _ w =>
  joinT (fun K6 =>
  drawT w fun w =>
  quietT (fun K' => faT P T.api_Member t10 0 w K') w fun t59 =>
  quietT (fun K' => ldT P T.uint64 t59 w K') w fun t60 =>
  w = w ∧ quietT (fun K' => nilT a0 w K') w fun t62 =>
  quietT (fun K' => faT P T.gossip_Node t62 0 w K') w fun t63 =>
  quietT (fun K' => ldT P T.uint64 t63 w K') w fun t64 =>
  quietT (fun K' => binT P .eql T.uint64 (.tmp 60) (.tmp 64) t60 t64 w K') w fun t65 =>
  condT t65 (
  K5 [t10, (gv x3 4), (gv x3 2), (gv x3 3)] w) (
  K6 [] w)) fun x6 w =>
  M.pgossip_Node_Tick.j6 a0 t10 x3 K5 w K) fun x5 w =>
  binT P .add T.int (.tmp 54) (.const (.int .i64 1)) (gv x3 4) (.int .i64 1) w fun t95 w =>
  K3 [(gv x5 0), (gv x5 1), (gv x5 2), (gv x5 3), t95] w
def M.pgossip_Node_Tick.j2 (x2 : List Value) (a2 : Value) (w : World) (K : KV) : Prop :=
  joinT (fun K7 =>
  biT P .len #[T.sl_uint64] T.int [false] [(gv x2 5)] w fun t97 w =>
  binT P .gtr T.int (.tmp 97) (.const (.int .i64 0)) t97 (.int .i64 0) w fun t98 w =>
  condT t98 (
  biT P .len #[T.sl_uint64] T.int [false] [(gv x2 5)] w fun t103 w =>
  cvT P T.int T.uint64 t103 w fun t104 w =>
  binT P .rem T.uint64 (.tmp 101) (.tmp 104) a2 t104 w fun t105 w =>
  iaT P T.sl_uint64 (gv x2 5) t105 w fun t106 w =>
  ldT P T.uint64 t106 w fun t107 w =>
  bsT P T.sl_uint64 1 #[(0, t107)] w fun t108 w =>
  biT P .append #[T.sl_uint64, T.sl_uint64] T.sl_uint64 [false, false] [(gv x2 6), t108] w fun t109 w =>
  K7 [t109] w) (
  K7 [(gv x2 6)] w)) fun x7 w =>
  K (gv x7 0) w
def M.pgossip_Node_Tick.j1 (a0 : Value) (a2 : Value) (w : World) (K : KV) : Prop :=
  drawT w fun w =>
  w = w ∧ w = w ∧ quietT (fun K' => nilT a0 w K') w fun t33 =>
  quietT (fun K' => faT P T.gossip_Node t33 3 w K') w fun t34 =>
  quietT (fun K' => ldT P T.uint64 t34 w K') w fun t35 =>
  w = w ∧ quietT (fun K' => nilT a0 w K') w fun t37 =>
  quietT (fun K' => faT P T.gossip_Node t37 1 w K') w fun t38 =>
  quietT (fun K' => ldT P T.uint64 t38 w K') w fun t39 =>
  w = w ∧ quietT (fun K' => nilT a0 w K') w fun t41 =>
  quietT (fun K' => faT P T.gossip_Node t41 3 w K') w fun t42 =>
  quietT (fun K' => ldT P T.uint64 t42 w K') w fun t43 =>
  quietT (fun K' => binT P .sub T.uint64 (.const (.int .u64 18446744073709551615)) (.tmp 43) (.int .u64 18446744073709551615) t43 w K') w fun t44 =>
  quietT (fun K' => biT P .min #[T.uint64, T.uint64] T.uint64 [false, false] [t39, t44] w K') w fun t45 =>
  quietT (fun K' => binT P .add T.uint64 (.tmp 35) (.tmp 45) t35 t45 w K') w fun t46 =>
  quietT (fun K' => nilT a0 w K') w fun t47 =>
  quietT (fun K' => faT P T.gossip_Node t47 4 w K') w fun t48 =>
  stT P T.uint64 t48 t46 w fun _ w =>
  joinT (fun K2 =>
  nilT a0 w fun t50 w =>
  faT P T.gossip_Node t50 6 w fun t51 w =>
  ldT P T.sl_api_Member t51 w fun t52 w =>
  biT P .len #[T.sl_api_Member] T.int [false] [t52] w fun t53 w =>
  loopT [undef, undef, (.slice none 0 0), (.slice none 0 0), (.int .i64 0)] w fun K3 x3 w =>
  binT P .lss T.int (.tmp 54) (.tmp 53) (gv x3 4) t53 w fun t55 w =>
  joinT (fun K4 =>
  condT t55 (
  K4 [] w) (
  K2 [t52, t53, (gv x3 4), (gv x3 0), (gv x3 1), (gv x3 2), (gv x3 3)] w)) fun x4 w =>
  M.pgossip_Node_Tick.j4 t52 x3 a0 K3 w K) fun x2 w =>
  M.pgossip_Node_Tick.j2 x2 a2 w K
def M.pgossip_Node_Tick.j0 (a0 : Value) (a1 : Value) (x0 : List Value) (a2 : Value) (w : World) (K : KV) : Prop :=
  nilT a0 w fun t15 w =>
  faT P T.gossip_Node t15 3 w fun t16 w =>
  ldT P T.uint64 t16 w fun t17 w =>
  biT P .max #[T.uint64, T.uint64] T.uint64 [false, false] [t17, a1] w fun t19 w =>
  nilT a0 w fun t20 w =>
  faT P T.gossip_Node t20 3 w fun t21 w =>
  stT P T.uint64 t21 t19 w fun _ w =>
  joinT (fun K1 =>
  drawT w fun w =>
  w = w ∧ quietT (fun K' => nilT a0 w K') w fun t23 =>
  quietT (fun K' => faT P T.gossip_Node t23 3 w K') w fun t24 =>
  quietT (fun K' => ldT P T.uint64 t24 w K') w fun t25 =>
  w = w ∧ quietT (fun K' => nilT a0 w K') w fun t27 =>
  quietT (fun K' => faT P T.gossip_Node t27 4 w K') w fun t28 =>
  quietT (fun K' => ldT P T.uint64 t28 w K') w fun t29 =>
  quietT (fun K' => binT P .lss T.uint64 (.tmp 25) (.tmp 29) t25 t29 w K') w fun t30 =>
  condT t30 (
  K (.slice none 0 0) w) (
  K1 [(gv x0 0)] w)) fun x1 w =>
  M.pgossip_Node_Tick.j1 a0 a2 w K
/-- (*winnow/gossip.Node).Tick -/
def M.pgossip_Node_Tick (a0 a1 a2 : Value) (w : World) (K : KV) : Prop :=
  joinT (fun K0 =>
  binT P .eql T.p_gossip_Node (.tmp 11) (.const (.pointer none)) a0 (.pointer none) w fun t12 w =>
  condT t12 (
  K (.slice none 0 0) w) (
  K0 [(.slice none 0 0)] w)) fun x0 w =>
  M.pgossip_Node_Tick.j0 a0 a1 x0 a2 w K
def M.pgossip_Node_Tick.L : List Nat := [0, 1, 2, 6, 7, 8, 9, 54, 53, 52, 10]
def M.pgossip_Node_Tick.pl : Nat → Plan := fun id => cond (Nat.beq id 4) ⟨(.go 0 (.go 1 (.go 2 (.go 3 (.go 4 (.go 5 (.go 6 (.go 7 (.go 8 .nil))))))))), [], false, [0, 1, 3, 7, 0, 16, 48, 112, 255]⟩ (cond (Nat.beq id 6) ⟨(.go 0 (.go 1 (.go 2 (.go 3 (.go 4 (.go 5 (.go 6 (.go 7 (.go 8 (.go 9 (.go 10 (.go 11 (.go 12 (.go 13 (.go 14 (.go 15 (.go 16 (.go 17 (.eff 18 .nil .stop))))))))))))))))))), [18], false, [0, 0, 2, 6, 14, 0, 32, 96, 224, 0, 512, 1536, 3584, 7680, 16352, 32766, 65535, 131071, 262143]⟩ (cond (Nat.beq id 11) ⟨(.go 0 (.go 1 (.go 2 (.go 3 (.go 4 (.go 5 (.go 6 .nil))))))), [], false, [0, 1, 0, 4, 12, 28, 63]⟩ (cond (Nat.beq id 12) ⟨(.go 0 (.go 1 (.go 2 (.go 3 (.go 4 (.go 5 (.go 6 (.eff 7 (.go 8 (.go 9 (.eff 10 .nil .stop))) .stop)))))))), [7, 10], false, [0, 1, 3, 7, 0, 0, 0, 96, 255, 511, 1023]⟩ (⟨.nil, [], false, []⟩))))
theorem M.pgossip_Node_Tick.eq (a0 a1 a2 : Value) (w : World) (K : KV) : M.pgossip_Node_Tick a0 a1 a2 w K = den P M.pgossip_Node_Tick.L M.pgossip_Node_Tick.pl (Try.f36.body.getD .skip) (argE [a0, a1, a2]) w (bodyQ P Try.f36.results.toList K) := by kernel_rfl
theorem M.pgossip_Node_Tick.ok : okFn M.pgossip_Node_Tick.L M.pgossip_Node_Tick.pl Try.f36 (Try.f36.body.getD .skip) 3 = true := by kernel_rfl
theorem M.pgossip_Node_Tick.calls (a0 a1 a2 : Value) {w : World} {K : KV} (h : M.pgossip_Node_Tick a0 a1 a2 w K) : callT P F.pgossip_Node_Tick [a0, a1, a2] w K :=
  callT_of_den (by kernel_rfl) Try.func36 (by kernel_rfl) M.pgossip_Node_Tick.ok (M.pgossip_Node_Tick.eq a0 a1 a2 w K ▸ h)
theorem M.pgossip_Node_Tick.fcall (args : List Value) (w : World) (K : KV) : fcallT P F.pgossip_Node_Tick args w K = callT P F.pgossip_Node_Tick args w K := fcallT_eq Try.func36 (by kernel_rfl) (by kernel_rfl) args w K
theorem M.pgossip_Node_Tick.rcall (a c args : List Value) (w : World) (K : KV) : callRT P (.func (.func F.pgossip_Node_Tick) a.toArray c.toArray) args w K = callT P F.pgossip_Node_Tick (a ++ args ++ c) w K := callR_fn Try.func36 (by kernel_rfl) (by kernel_rfl) a c args w K

/-- (*winnow/gossip.Node).Leave -/
def M.pgossip_Node_Leave (a0 : Value) (w : World) (K : KV) : Prop :=
  binT P .neq T.p_gossip_Node (.tmp 2) (.const (.pointer none)) a0 (.pointer none) w fun t3 w =>
  condT t3 (
  drawT w fun w =>
  w = w ∧ quietT (fun K' => nilT a0 w K') w fun t5 =>
  quietT (fun K' => faT P T.gossip_Node t5 6 w K') w fun t6 =>
  quietT (fun K' => ldT P T.sl_api_Member t6 w K') w fun t7 =>
  w = w ∧ fcallT P F.pgossip_Node_own [a0] w fun t9 w =>
  stabT (fun K' => ldT P T.sl_api_Member t6 w K') w t7 ∧ stabT (fun K' => faT P T.gossip_Node t5 6 w K') w t6 ∧ stabT (fun K' => nilT a0 w K') w t5 ∧ stabT (fun K' => K' a0 w) w a0 ∧ quietT (fun K' => iaT P T.sl_api_Member t7 t9 w K') w fun t10 =>
  quietT (fun K' => faT P T.api_Member t10 2 w K') w fun t11 =>
  stT P T.int t11 (.int .i64 2) w fun _ w =>
  nilT a0 w fun t13 w =>
  faT P T.gossip_Node t13 5 w fun t14 w =>
  stT P T.bool t14 (.bool true) w fun _ w =>
  K (.tuple #[]) w) (
  K (.tuple #[]) w)
def M.pgossip_Node_Leave.L : List Nat := [0]
def M.pgossip_Node_Leave.pl : Nat → Plan := fun id => cond (Nat.beq id 1) ⟨(.go 0 (.go 1 (.go 2 (.go 3 (.go 4 (.eff 5 (.go 6 (.go 7 (.eff 8 .nil .stop))) .stop)))))), [5, 8], false, [0, 1, 3, 7, 0, 16, 63, 127, 255]⟩ (⟨.nil, [], false, []⟩)
theorem M.pgossip_Node_Leave.eq (a0 : Value) (w : World) (K : KV) : M.pgossip_Node_Leave a0 w K = den P M.pgossip_Node_Leave.L M.pgossip_Node_Leave.pl (Try.f37.body.getD .skip) (argE [a0]) w (bodyQ P Try.f37.results.toList K) := by kernel_rfl
theorem M.pgossip_Node_Leave.ok : okFn M.pgossip_Node_Leave.L M.pgossip_Node_Leave.pl Try.f37 (Try.f37.body.getD .skip) 1 = true := by kernel_rfl
theorem M.pgossip_Node_Leave.calls (a0 : Value) {w : World} {K : KV} (h : M.pgossip_Node_Leave a0 w K) : callT P F.pgossip_Node_Leave [a0] w K :=
  callT_of_den (by kernel_rfl) Try.func37 (by kernel_rfl) M.pgossip_Node_Leave.ok (M.pgossip_Node_Leave.eq a0 w K ▸ h)
theorem M.pgossip_Node_Leave.fcall (args : List Value) (w : World) (K : KV) : fcallT P F.pgossip_Node_Leave args w K = callT P F.pgossip_Node_Leave args w K := fcallT_eq Try.func37 (by kernel_rfl) (by kernel_rfl) args w K
theorem M.pgossip_Node_Leave.rcall (a c args : List Value) (w : World) (K : KV) : callRT P (.func (.func F.pgossip_Node_Leave) a.toArray c.toArray) args w K = callT P F.pgossip_Node_Leave (a ++ args ++ c) w K := callR_fn Try.func37 (by kernel_rfl) (by kernel_rfl) a c args w K

/-- winnow/winnowref09.Right -/
def M.winnowref09_Right (a0 : Value) (w : World) (K : KV) : Prop :=
  joinT (fun K0 =>
  biT P .len #[T.sl_api_Member] T.int [false] [a0] w fun t4 w =>
  binT P .gtr T.int (.tmp 4) (.const (.int .i64 0)) t4 (.int .i64 0) w fun t5 w =>
  guardT (isB t5 true) (fun K' => K' a0 w) w fun t7 w =>
  guardT (isB t5 true) (fun K' => fcallT P F.winnowref05_Members [t7] w K') w fun t8 w =>
  guardT (isB t5 true) (fun K' => unT P .not t8 w K') w fun t9 w =>
  pickT t5 t9 (.bool false) w fun t10 w =>
  condT t10 (
  K (.int .i64 6) w) (
  K0 [(.int .i64 0)] w)) fun x0 w =>
  K (.int .i64 0) w
def M.winnowref09_Right.L : List Nat := [0, 2]
def M.winnowref09_Right.pl : Nat → Plan := fun id => ⟨.nil, [], false, []⟩
theorem M.winnowref09_Right.eq (a0 : Value) (w : World) (K : KV) : M.winnowref09_Right a0 w K = den P M.winnowref09_Right.L M.winnowref09_Right.pl (Try.f38.body.getD .skip) (argE [a0]) w (bodyQ P Try.f38.results.toList K) := by kernel_rfl
theorem M.winnowref09_Right.ok : okFn M.winnowref09_Right.L M.winnowref09_Right.pl Try.f38 (Try.f38.body.getD .skip) 1 = true := by kernel_rfl
theorem M.winnowref09_Right.calls (a0 : Value) {w : World} {K : KV} (h : M.winnowref09_Right a0 w K) : callT P F.winnowref09_Right [a0] w K :=
  callT_of_den (by kernel_rfl) Try.func38 (by kernel_rfl) M.winnowref09_Right.ok (M.winnowref09_Right.eq a0 w K ▸ h)
theorem M.winnowref09_Right.fcall (args : List Value) (w : World) (K : KV) : fcallT P F.winnowref09_Right args w K = callT P F.winnowref09_Right args w K := fcallT_eq Try.func38 (by kernel_rfl) (by kernel_rfl) args w K
theorem M.winnowref09_Right.rcall (a c args : List Value) (w : World) (K : KV) : callRT P (.func (.func F.winnowref09_Right) a.toArray c.toArray) args w K = callT P F.winnowref09_Right (a ++ args ++ c) w K := callR_fn Try.func38 (by kernel_rfl) (by kernel_rfl) a c args w K

/-- winnow/winnowref09.Newer -/
def M.winnowref09_Newer (a0 a1 : Value) (w : World) (K : KV) : Prop :=
  boxT P T.api_Member a0 w fun t2 w =>
  boxT P T.api_Member a1 w fun t3 w =>
  faT P T.api_Member t2 1 w fun t5 w =>
  ldT P T.uint64 t5 w fun t6 w =>
  faT P T.api_Member t3 1 w fun t7 w =>
  ldT P T.uint64 t7 w fun t8 w =>
  binT P .gtr T.uint64 (.tmp 6) (.tmp 8) t6 t8 w fun t9 w =>
  guardT (isB t9 false) (fun K' => faT P T.api_Member t2 1 w K') w fun t11 w =>
  guardT (isB t9 false) (fun K' => ldT P T.uint64 t11 w K') w fun t12 w =>
  guardT (isB t9 false) (fun K' => faT P T.api_Member t3 1 w K') w fun t13 w =>
  guardT (isB t9 false) (fun K' => ldT P T.uint64 t13 w K') w fun t14 w =>
  guardT (isB t9 false) (fun K' => binT P .eql T.uint64 (.tmp 12) (.tmp 14) t12 t14 w K') w fun t15 w =>
  guardT (isB t9 false) (fun K' => K' t15 w) w fun t16 w =>
  guardT (isB t16 true) (fun K' => faT P T.api_Member t2 2 w K') w fun t17 w =>
  guardT (isB t16 true) (fun K' => ldT P T.int t17 w K') w fun t18 w =>
  guardT (isB t16 true) (fun K' => faT P T.api_Member t3 2 w K') w fun t19 w =>
  guardT (isB t16 true) (fun K' => ldT P T.int t19 w K') w fun t20 w =>
  guardT (isB t16 true) (fun K' => binT P .gtr T.int (.tmp 18) (.tmp 20) t18 t20 w K') w fun t21 w =>
  guardT (isB t9 false) (fun K' => pickT t16 t21 (.bool false) w K') w fun t22 w =>
  pickT t9 (.bool true) t22 w fun t23 w =>
  K t23 w
def M.winnowref09_Newer.L : List Nat := [0, 1, 4]
def M.winnowref09_Newer.pl : Nat → Plan := fun id => ⟨.nil, [], false, []⟩
theorem M.winnowref09_Newer.eq (a0 a1 : Value) (w : World) (K : KV) : M.winnowref09_Newer a0 a1 w K = den P M.winnowref09_Newer.L M.winnowref09_Newer.pl (Try.f39.body.getD .skip) (argE [a0, a1]) w (bodyQ P Try.f39.results.toList K) := by kernel_rfl
theorem M.winnowref09_Newer.ok : okFn M.winnowref09_Newer.L M.winnowref09_Newer.pl Try.f39 (Try.f39.body.getD .skip) 2 = true := by kernel_rfl
theorem M.winnowref09_Newer.calls (a0 a1 : Value) {w : World} {K : KV} (h : M.winnowref09_Newer a0 a1 w K) : callT P F.winnowref09_Newer [a0, a1] w K :=
  callT_of_den (by kernel_rfl) Try.func39 (by kernel_rfl) M.winnowref09_Newer.ok (M.winnowref09_Newer.eq a0 a1 w K ▸ h)
theorem M.winnowref09_Newer.fcall (args : List Value) (w : World) (K : KV) : fcallT P F.winnowref09_Newer args w K = callT P F.winnowref09_Newer args w K := fcallT_eq Try.func39 (by kernel_rfl) (by kernel_rfl) args w K
theorem M.winnowref09_Newer.rcall (a c args : List Value) (w : World) (K : KV) : callRT P (.func (.func F.winnowref09_Newer) a.toArray c.toArray) args w K = callT P F.winnowref09_Newer (a ++ args ++ c) w K := callR_fn Try.func39 (by kernel_rfl) (by kernel_rfl) a c args w K

def M.pgossip_Node_Self.j0 (a0 : Value) (t2 : Value) (w : World) (K : KV) : Prop :=
  drawT w fun w =>
  w = w ∧ quietT (fun K' => nilT a0 w K') w fun t7 =>
  quietT (fun K' => faT P T.gossip_Node t7 6 w K') w fun t8 =>
  quietT (fun K' => ldT P T.sl_api_Member t8 w K') w fun t9 =>
  w = w ∧ fcallT P F.pgossip_Node_own [a0] w fun t11 w =>
  stabT (fun K' => ldT P T.sl_api_Member t8 w K') w t9 ∧ stabT (fun K' => faT P T.gossip_Node t7 6 w K') w t8 ∧ stabT (fun K' => nilT a0 w K') w t7 ∧ stabT (fun K' => K' a0 w) w a0 ∧ quietT (fun K' => iaT P T.sl_api_Member t9 t11 w K') w fun t12 =>
  quietT (fun K' => ldT P T.api_Member t12 w K') w fun t13 =>
  stT P T.api_Member t2 t13 w fun _ w =>
  quietT (fun K' => resT P T.api_Member t2 w K') w fun r0 =>
  K r0 w
/-- (*winnow/gossip.Node).Self -/
def M.pgossip_Node_Self (a0 : Value) (w : World) (K : KV) : Prop :=
  alT P T.api_Member w fun t2 w =>
  joinT (fun K0 =>
  binT P .eql T.p_gossip_Node (.tmp 3) (.const (.pointer none)) a0 (.pointer none) w fun t4 w =>
  condT t4 (
  bldT P T.api_Member #[] w fun t5 w =>
  stT P T.api_Member t2 t5 w fun _ w =>
  quietT (fun K' => resT P T.api_Member t2 w K') w fun r0 =>
  K r0 w) (
  K0 [] w)) fun x0 w =>
  M.pgossip_Node_Self.j0 a0 t2 w K
def M.pgossip_Node_Self.L : List Nat := [0, 2]
def M.pgossip_Node_Self.pl : Nat → Plan := fun id => cond (Nat.beq id 3) ⟨(.go 0 (.go 1 (.go 2 (.go 3 (.go 4 (.eff 5 (.go 6 (.go 7 (.eff 8 .nil .stop))) .stop)))))), [5, 8], false, [0, 1, 3, 7, 0, 16, 63, 127, 255]⟩ (⟨.nil, [], false, []⟩)
theorem M.pgossip_Node_Self.eq (a0 : Value) (w : World) (K : KV) : M.pgossip_Node_Self a0 w K = den P M.pgossip_Node_Self.L M.pgossip_Node_Self.pl (Try.f40.body.getD .skip) (argE [a0]) w (bodyQ P Try.f40.results.toList K) := by kernel_rfl
theorem M.pgossip_Node_Self.ok : okFn M.pgossip_Node_Self.L M.pgossip_Node_Self.pl Try.f40 (Try.f40.body.getD .skip) 1 = true := by kernel_rfl
theorem M.pgossip_Node_Self.calls (a0 : Value) {w : World} {K : KV} (h : M.pgossip_Node_Self a0 w K) : callT P F.pgossip_Node_Self [a0] w K :=
  callT_of_den (by kernel_rfl) Try.func40 (by kernel_rfl) M.pgossip_Node_Self.ok (M.pgossip_Node_Self.eq a0 w K ▸ h)
theorem M.pgossip_Node_Self.fcall (args : List Value) (w : World) (K : KV) : fcallT P F.pgossip_Node_Self args w K = callT P F.pgossip_Node_Self args w K := fcallT_eq Try.func40 (by kernel_rfl) (by kernel_rfl) args w K
theorem M.pgossip_Node_Self.rcall (a c args : List Value) (w : World) (K : KV) : callRT P (.func (.func F.pgossip_Node_Self) a.toArray c.toArray) args w K = callT P F.pgossip_Node_Self (a ++ args ++ c) w K := callR_fn Try.func40 (by kernel_rfl) (by kernel_rfl) a c args w K

def M.span_Right.j0 (t1 : Value) (w : World) (K : KV) : Prop :=
  drawT w fun w =>
  quietT (fun K' => faT P T.api_Span t1 5 w K') w fun t19 =>
  quietT (fun K' => ldT P T.string t19 w K') w fun t20 =>
  quietT (fun K' => faT P T.api_Span t1 6 w K') w fun t22 =>
  quietT (fun K' => ldT P T.string t22 w K') w fun t23 =>
  fcallT P F.span_Name [t20] w fun t21 w =>
  stabT (fun K' => ldT P T.string t22 w K') w t23 ∧ stabT (fun K' => faT P T.api_Span t1 6 w K') w t22 ∧ fcallT P F.span_Name [t23] w fun t24 w =>
  bsT P T.sl_api_Kind 2 #[(0, t21), (1, t24)] w fun t25 w =>
  fcallT P F.cmp_Or_api_Kind [t25] w fun t26 w =>
  K t26 w
/-- winnow/span.Right -/
def M.span_Right (a0 : Value) (w : World) (K : KV) : Prop :=
  boxT P T.api_Span a0 w fun t1 w =>
  joinT (fun K0 =>
  faT P T.api_Span t1 0 w fun t3 w =>
  ldT P T.uint64 t3 w fun t4 w =>
  binT P .eql T.uint64 (.tmp 4) (.const (.int .u64 0)) t4 (.int .u64 0) w fun t5 w =>
  guardT (isB t5 false) (fun K' => faT P T.api_Span t1 1 w K') w fun t7 w =>
  guardT (isB t5 false) (fun K' => ldT P T.uint64 t7 w K') w fun t8 w =>
  guardT (isB t5 false) (fun K' => binT P .eql T.uint64 (.tmp 8) (.const (.int .u64 0)) t8 (.int .u64 0) w K') w fun t9 w =>
  pickT t5 (.bool true) t9 w fun t10 w =>
  guardT (isB t10 false) (fun K' => faT P T.api_Span t1 3 w K') w fun t12 w =>
  guardT (isB t10 false) (fun K' => ldT P T.uint64 t12 w K') w fun t13 w =>
  guardT (isB t10 false) (fun K' => faT P T.api_Span t1 4 w K') w fun t14 w =>
  guardT (isB t10 false) (fun K' => ldT P T.uint64 t14 w K') w fun t15 w =>
  guardT (isB t10 false) (fun K' => biT P .max #[T.uint64, T.uint64] T.uint64 [false, false] [t13, t15] w K') w fun t16 w =>
  guardT (isB t10 false) (fun K' => binT P .gtr T.uint64 (.tmp 16) (.const (.int .u64 1099511627776)) t16 (.int .u64 1099511627776) w K') w fun t17 w =>
  pickT t10 (.bool true) t17 w fun t18 w =>
  condT t18 (
  K (.int .i64 1) w) (
  K0 [(.int .i64 0)] w)) fun x0 w =>
  M.span_Right.j0 t1 w K
def M.span_Right.L : List Nat := [0, 2, 1]
def M.span_Right.pl : Nat → Plan := fun id => cond (Nat.beq id 3) ⟨(.go 0 (.go 1 (.go 3 (.go 4 (.eff 2 (.eff 5 (.eff 6 (.eff 7 (.eff 8 .nil .stop) .stop) .stop) .stop) .stop))))), [2, 5, 6, 7, 8], false, [0, 1, 3, 0, 8, 31, 63, 127, 255]⟩ (⟨.nil, [], false, []⟩)
theorem M.span_Right.eq (a0 : Value) (w : World) (K : KV) : M.span_Right a0 w K = den P M.span_Right.L M.span_Right.pl (Try.f59.body.getD .skip) (argE [a0]) w (bodyQ P Try.f59.results.toList K) := by kernel_rfl
theorem M.span_Right.ok : okFn M.span_Right.L M.span_Right.pl Try.f59 (Try.f59.body.getD .skip) 1 = true := by kernel_rfl
theorem M.span_Right.calls (a0 : Value) {w : World} {K : KV} (h : M.span_Right a0 w K) : callT P F.span_Right [a0] w K :=
  callT_of_den (by kernel_rfl) Try.func59 (by kernel_rfl) M.span_Right.ok (M.span_Right.eq a0 w K ▸ h)
theorem M.span_Right.fcall (args : List Value) (w : World) (K : KV) : fcallT P F.span_Right args w K = callT P F.span_Right args w K := fcallT_eq Try.func59 (by kernel_rfl) (by kernel_rfl) args w K
theorem M.span_Right.rcall (a c args : List Value) (w : World) (K : KV) : callRT P (.func (.func F.span_Right) a.toArray c.toArray) args w K = callT P F.span_Right (a ++ args ++ c) w K := callR_fn Try.func59 (by kernel_rfl) (by kernel_rfl) a c args w K

/-- winnow/view.Newer -/
def M.view_Newer (a0 a1 : Value) (w : World) (K : KV) : Prop :=
  boxT P T.api_Member a0 w fun t2 w =>
  boxT P T.api_Member a1 w fun t3 w =>
  drawT w fun w =>
  quietT (fun K' => faT P T.api_Member t2 1 w K') w fun t5 =>
  quietT (fun K' => ldT P T.uint64 t5 w K') w fun t6 =>
  quietT (fun K' => faT P T.api_Member t3 1 w K') w fun t7 =>
  quietT (fun K' => ldT P T.uint64 t7 w K') w fun t8 =>
  quietT (fun K' => faT P T.api_Member t2 2 w K') w fun t10 =>
  quietT (fun K' => ldT P T.int t10 w K') w fun t11 =>
  quietT (fun K' => faT P T.api_Member t3 2 w K') w fun t12 =>
  quietT (fun K' => ldT P T.int t12 w K') w fun t13 =>
  fcallT P F.cmp_Compare_uint64 [t6, t8] w fun t9 w =>
  stabT (fun K' => ldT P T.int t12 w K') w t13 ∧ stabT (fun K' => faT P T.api_Member t3 2 w K') w t12 ∧ stabT (fun K' => ldT P T.int t10 w K') w t11 ∧ stabT (fun K' => faT P T.api_Member t2 2 w K') w t10 ∧ fcallT P F.cmp_Compare_int [t11, t13] w fun t14 w =>
  bsT P T.sl_int 2 #[(0, t9), (1, t14)] w fun t15 w =>
  fcallT P F.cmp_Or_int [t15] w fun t16 w =>
  quietT (fun K' => binT P .gtr T.int (.tmp 16) (.const (.int .i64 0)) t16 (.int .i64 0) w K') w fun t17 =>
  K t17 w
def M.view_Newer.L : List Nat := [0, 1, 4]
def M.view_Newer.pl : Nat → Plan := fun id => cond (Nat.beq id 1) ⟨(.go 0 (.go 1 (.go 2 (.go 3 (.go 5 (.go 6 (.go 7 (.go 8 (.eff 4 (.eff 9 (.eff 10 (.eff 11 (.go 12 (.eff 13 .nil .stop)) .stop) .stop) .stop) .stop))))))))), [4, 9, 10, 11, 13], false, [0, 1, 0, 4, 15, 0, 32, 0, 128, 511, 1023, 2047, 4095, 8191]⟩ (⟨.nil, [], false, []⟩)
theorem M.view_Newer.eq (a0 a1 : Value) (w : World) (K : KV) : M.view_Newer a0 a1 w K = den P M.view_Newer.L M.view_Newer.pl (Try.f68.body.getD .skip) (argE [a0, a1]) w (bodyQ P Try.f68.results.toList K) := by kernel_rfl
theorem M.view_Newer.ok : okFn M.view_Newer.L M.view_Newer.pl Try.f68 (Try.f68.body.getD .skip) 2 = true := by kernel_rfl
theorem M.view_Newer.calls (a0 a1 : Value) {w : World} {K : KV} (h : M.view_Newer a0 a1 w K) : callT P F.view_Newer [a0, a1] w K :=
  callT_of_den (by kernel_rfl) Try.func68 (by kernel_rfl) M.view_Newer.ok (M.view_Newer.eq a0 a1 w K ▸ h)
theorem M.view_Newer.fcall (args : List Value) (w : World) (K : KV) : fcallT P F.view_Newer args w K = callT P F.view_Newer args w K := fcallT_eq Try.func68 (by kernel_rfl) (by kernel_rfl) args w K
theorem M.view_Newer.rcall (a c args : List Value) (w : World) (K : KV) : callRT P (.func (.func F.view_Newer) a.toArray c.toArray) args w K = callT P F.view_Newer (a ++ args ++ c) w K := callR_fn Try.func68 (by kernel_rfl) (by kernel_rfl) a c args w K

/-- winnow/view.Same -/
def M.view_Same (a0 a1 : Value) (w : World) (K : KV) : Prop :=
  fcallT P F.slices_Equal_api_Member_api_Member [a0, a1] w fun t7 w =>
  K t7 w
def M.view_Same.L : List Nat := [0, 1, 4]
def M.view_Same.pl : Nat → Plan := fun id => ⟨.nil, [], false, []⟩
theorem M.view_Same.eq (a0 a1 : Value) (w : World) (K : KV) : M.view_Same a0 a1 w K = den P M.view_Same.L M.view_Same.pl (Try.f69.body.getD .skip) (argE [a0, a1]) w (bodyQ P Try.f69.results.toList K) := by kernel_rfl
theorem M.view_Same.ok : okFn M.view_Same.L M.view_Same.pl Try.f69 (Try.f69.body.getD .skip) 2 = true := by kernel_rfl
theorem M.view_Same.calls (a0 a1 : Value) {w : World} {K : KV} (h : M.view_Same a0 a1 w K) : callT P F.view_Same [a0, a1] w K :=
  callT_of_den (by kernel_rfl) Try.func69 (by kernel_rfl) M.view_Same.ok (M.view_Same.eq a0 a1 w K ▸ h)
theorem M.view_Same.fcall (args : List Value) (w : World) (K : KV) : fcallT P F.view_Same args w K = callT P F.view_Same args w K := fcallT_eq Try.func69 (by kernel_rfl) (by kernel_rfl) args w K
theorem M.view_Same.rcall (a c args : List Value) (w : World) (K : KV) : callRT P (.func (.func F.view_Same) a.toArray c.toArray) args w K = callT P F.view_Same (a ++ args ++ c) w K := callR_fn Try.func69 (by kernel_rfl) (by kernel_rfl) a c args w K

def M.cmp_Or_api_Kind.j2 (a0 : Value) (x1 : List Value) (K1 : KL) (w : World) (K : KV) : Prop :=
  joinT (fun K3 =>
  iaT P T.sl_api_Kind a0 (gv x1 2) w fun t10 w =>
  ldT P T.api_Kind t10 w fun t11 w =>
  binT P .neq T.api_Kind (.tmp 12) (.tmp 13) t11 (.int .i64 0) w fun t14 w =>
  condT t14 (
  K t11 w) (
  K3 [t11, (gv x1 1)] w)) fun x3 w =>
  binT P .add T.int (.tmp 8) (.const (.int .i64 1)) (gv x1 2) (.int .i64 1) w fun t16 w =>
  K1 [(gv x3 0), (gv x3 1), t16] w
/-- cmp.Or[winnow/api.Kind] -/
def M.cmp_Or_api_Kind (a0 : Value) (w : World) (K : KV) : Prop :=
  joinT (fun K0 =>
  biT P .len #[T.sl_api_Kind] T.int [false] [a0] w fun t7 w =>
  loopT [undef, (.int .i64 0), (.int .i64 0)] w fun K1 x1 w =>
  binT P .lss T.int (.tmp 8) (.tmp 7) (gv x1 2) t7 w fun t9 w =>
  joinT (fun K2 =>
  condT t9 (
  K2 [] w) (
  K0 [a0, t7, (gv x1 2), (gv x1 0), (gv x1 1)] w)) fun x2 w =>
  M.cmp_Or_api_Kind.j2 a0 x1 K1 w K) fun x0 w =>
  K (.int .i64 0) w
def M.cmp_Or_api_Kind.L : List Nat := [0, 2, 3, 5, 8, 7, 6]
def M.cmp_Or_api_Kind.pl : Nat → Plan := fun id => ⟨.nil, [], false, []⟩
theorem M.cmp_Or_api_Kind.eq (a0 : Value) (w : World) (K : KV) : M.cmp_Or_api_Kind a0 w K = den P M.cmp_Or_api_Kind.L M.cmp_Or_api_Kind.pl (Try.f70.body.getD .skip) (argE [a0]) w (bodyQ P Try.f70.results.toList K) := by kernel_rfl
theorem M.cmp_Or_api_Kind.ok : okFn M.cmp_Or_api_Kind.L M.cmp_Or_api_Kind.pl Try.f70 (Try.f70.body.getD .skip) 1 = true := by kernel_rfl
theorem M.cmp_Or_api_Kind.calls (a0 : Value) {w : World} {K : KV} (h : M.cmp_Or_api_Kind a0 w K) : callT P F.cmp_Or_api_Kind [a0] w K :=
  callT_of_den (by kernel_rfl) Try.func70 (by kernel_rfl) M.cmp_Or_api_Kind.ok (M.cmp_Or_api_Kind.eq a0 w K ▸ h)
theorem M.cmp_Or_api_Kind.fcall (args : List Value) (w : World) (K : KV) : fcallT P F.cmp_Or_api_Kind args w K = callT P F.cmp_Or_api_Kind args w K := fcallT_eq Try.func70 (by kernel_rfl) (by kernel_rfl) args w K
theorem M.cmp_Or_api_Kind.rcall (a c args : List Value) (w : World) (K : KV) : callRT P (.func (.func F.cmp_Or_api_Kind) a.toArray c.toArray) args w K = callT P F.cmp_Or_api_Kind (a ++ args ++ c) w K := callR_fn Try.func70 (by kernel_rfl) (by kernel_rfl) a c args w K

/-- winnow/view.Right -/
def M.view_Right (a0 : Value) (w : World) (K : KV) : Prop :=
  joinT (fun K0 =>
  biT P .len #[T.sl_api_Member] T.int [false] [a0] w fun t4 w =>
  binT P .eql T.int (.tmp 4) (.const (.int .i64 0)) t4 (.int .i64 0) w fun t5 w =>
  condT t5 (
  K (.int .i64 0) w) (
  K0 [(.int .i64 0)] w)) fun x0 w =>
  bldT P T.api_Packet #[(0, (.int .i64 3)), (7, a0)] w fun t7 w =>
  fcallT P F.message_Right [t7] w fun t8 w =>
  K t8 w
def M.view_Right.L : List Nat := [0, 2]
def M.view_Right.pl : Nat → Plan := fun id => ⟨.nil, [], false, []⟩
theorem M.view_Right.eq (a0 : Value) (w : World) (K : KV) : M.view_Right a0 w K = den P M.view_Right.L M.view_Right.pl (Try.f71.body.getD .skip) (argE [a0]) w (bodyQ P Try.f71.results.toList K) := by kernel_rfl
theorem M.view_Right.ok : okFn M.view_Right.L M.view_Right.pl Try.f71 (Try.f71.body.getD .skip) 1 = true := by kernel_rfl
theorem M.view_Right.calls (a0 : Value) {w : World} {K : KV} (h : M.view_Right a0 w K) : callT P F.view_Right [a0] w K :=
  callT_of_den (by kernel_rfl) Try.func71 (by kernel_rfl) M.view_Right.ok (M.view_Right.eq a0 w K ▸ h)
theorem M.view_Right.fcall (args : List Value) (w : World) (K : KV) : fcallT P F.view_Right args w K = callT P F.view_Right args w K := fcallT_eq Try.func71 (by kernel_rfl) (by kernel_rfl) args w K
theorem M.view_Right.rcall (a c args : List Value) (w : World) (K : KV) : callRT P (.func (.func F.view_Right) a.toArray c.toArray) args w K = callT P F.view_Right (a ++ args ++ c) w K := callR_fn Try.func71 (by kernel_rfl) (by kernel_rfl) a c args w K

def M.slices_Concat_api_Member_api_Member.j2 (a0 : Value) (x1 : List Value) (K1 : KL) (w : World) (K : KV) : Prop :=
  joinT (fun K3 =>
  iaT P T.sl_sl_api_Member a0 (gv x1 2) w fun t13 w =>
  ldT P T.sl_api_Member t13 w fun t14 w =>
  biT P .len #[T.sl_api_Member] T.int [false] [t14] w fun t17 w =>
  binT P .add T.int (.tmp 15) (.tmp 17) (gv x1 1) t17 w fun t18 w =>
  binT P .lss T.int (.tmp 19) (.const (.int .i64 0)) t18 (.int .i64 0) w fun t20 w =>
  condT t20 (
  mkiT P T.string (.string ⟨#[108, 101, 110, 32, 111, 117, 116, 32, 111, 102, 32, 114, 97, 110, 103, 101]⟩) w fun t21 w =>
  panicT w fun _ w =>
  K3 [t14, t18] w) (
  K3 [t14, t18] w)) fun x3 w =>
  binT P .add T.int (.tmp 11) (.const (.int .i64 1)) (gv x1 2) (.int .i64 1) w fun t22 w =>
  K1 [(gv x3 0), (gv x3 1), t22] w
def M.slices_Concat_api_Member_api_Member.j6 (a0 : Value) (x5 : List Value) (K5 : KL) (w : World) (K : KV) : Prop :=
  joinT (fun K7 =>
  iaT P T.sl_sl_api_Member a0 (gv x5 2) w fun t29 w =>
  ldT P T.sl_api_Member t29 w fun t30 w =>
  biT P .append #[T.sl_api_Member, T.sl_api_Member] T.sl_api_Member [false, false] [(gv x5 1), t30] w fun t33 w =>
  K7 [t30, t33] w) fun x7 w =>
  binT P .add T.int (.tmp 27) (.const (.int .i64 1)) (gv x5 2) (.int .i64 1) w fun t34 w =>
  K5 [(gv x7 0), (gv x7 1), t34] w
def M.slices_Concat_api_Member_api_Member.j0 (x0 : List Value) (a0 : Value) (w : World) (K : KV) : Prop :=
  fcallT P F.slices_Grow_api_Member_api_Member [(.slice none 0 0), (gv x0 4)] w fun t24 w =>
  joinT (fun K4 =>
  biT P .len #[T.sl_sl_api_Member] T.int [false] [a0] w fun t26 w =>
  loopT [undef, t24, (.int .i64 0)] w fun K5 x5 w =>
  binT P .lss T.int (.tmp 27) (.tmp 26) (gv x5 2) t26 w fun t28 w =>
  joinT (fun K6 =>
  condT t28 (
  K6 [] w) (
  K4 [a0, t26, (gv x5 2), (gv x5 0), (gv x5 1)] w)) fun x6 w =>
  M.slices_Concat_api_Member_api_Member.j6 a0 x5 K5 w K) fun x4 w =>
  K (gv x4 4) w
/-- slices.Concat[[]winnow/api.Member,winnow/api.Member] -/
def M.slices_Concat_api_Member_api_Member (a0 : Value) (w : World) (K : KV) : Prop :=
  joinT (fun K0 =>
  biT P .len #[T.sl_sl_api_Member] T.int [false] [a0] w fun t10 w =>
  loopT [undef, (.int .i64 0), (.int .i64 0)] w fun K1 x1 w =>
  binT P .lss T.int (.tmp 11) (.tmp 10) (gv x1 2) t10 w fun t12 w =>
  joinT (fun K2 =>
  condT t12 (
  K2 [] w) (
  K0 [a0, t10, (gv x1 2), (gv x1 0), (gv x1 1)] w)) fun x2 w =>
  M.slices_Concat_api_Member_api_Member.j2 a0 x1 K1 w K) fun x0 w =>
  M.slices_Concat_api_Member_api_Member.j0 x0 a0 w K
def M.slices_Concat_api_Member_api_Member.L : List Nat := [0, 2, 3, 5, 6, 8, 11, 10, 9, 27, 26, 25]
def M.slices_Concat_api_Member_api_Member.pl : Nat → Plan := fun id => ⟨.nil, [], false, []⟩
theorem M.slices_Concat_api_Member_api_Member.eq (a0 : Value) (w : World) (K : KV) : M.slices_Concat_api_Member_api_Member a0 w K = den P M.slices_Concat_api_Member_api_Member.L M.slices_Concat_api_Member_api_Member.pl (Try.f72.body.getD .skip) (argE [a0]) w (bodyQ P Try.f72.results.toList K) := by kernel_rfl
theorem M.slices_Concat_api_Member_api_Member.ok : okFn M.slices_Concat_api_Member_api_Member.L M.slices_Concat_api_Member_api_Member.pl Try.f72 (Try.f72.body.getD .skip) 1 = true := by kernel_rfl
theorem M.slices_Concat_api_Member_api_Member.calls (a0 : Value) {w : World} {K : KV} (h : M.slices_Concat_api_Member_api_Member a0 w K) : callT P F.slices_Concat_api_Member_api_Member [a0] w K :=
  callT_of_den (by kernel_rfl) Try.func72 (by kernel_rfl) M.slices_Concat_api_Member_api_Member.ok (M.slices_Concat_api_Member_api_Member.eq a0 w K ▸ h)
theorem M.slices_Concat_api_Member_api_Member.fcall (args : List Value) (w : World) (K : KV) : fcallT P F.slices_Concat_api_Member_api_Member args w K = callT P F.slices_Concat_api_Member_api_Member args w K := fcallT_eq Try.func72 (by kernel_rfl) (by kernel_rfl) args w K
theorem M.slices_Concat_api_Member_api_Member.rcall (a c args : List Value) (w : World) (K : KV) : callRT P (.func (.func F.slices_Concat_api_Member_api_Member) a.toArray c.toArray) args w K = callT P F.slices_Concat_api_Member_api_Member (a ++ args ++ c) w K := callR_fn Try.func72 (by kernel_rfl) (by kernel_rfl) a c args w K

/-- slices.Sorted[uint64] -/
def M.slices_Sorted_uint64 (a0 : Value) (w : World) (K : KV) : Prop :=
  fcallT P F.slices_Collect_uint64 [a0] w fun t5 w =>
  fcallT P F.slices_Sort_uint64_uint64 [t5] w fun t7 w =>
  K t5 w
def M.slices_Sorted_uint64.L : List Nat := [0, 2, 3]
def M.slices_Sorted_uint64.pl : Nat → Plan := fun id => ⟨.nil, [], false, []⟩
theorem M.slices_Sorted_uint64.eq (a0 : Value) (w : World) (K : KV) : M.slices_Sorted_uint64 a0 w K = den P M.slices_Sorted_uint64.L M.slices_Sorted_uint64.pl (Try.f73.body.getD .skip) (argE [a0]) w (bodyQ P Try.f73.results.toList K) := by kernel_rfl
theorem M.slices_Sorted_uint64.ok : okFn M.slices_Sorted_uint64.L M.slices_Sorted_uint64.pl Try.f73 (Try.f73.body.getD .skip) 1 = true := by kernel_rfl
theorem M.slices_Sorted_uint64.calls (a0 : Value) {w : World} {K : KV} (h : M.slices_Sorted_uint64 a0 w K) : callT P F.slices_Sorted_uint64 [a0] w K :=
  callT_of_den (by kernel_rfl) Try.func73 (by kernel_rfl) M.slices_Sorted_uint64.ok (M.slices_Sorted_uint64.eq a0 w K ▸ h)
theorem M.slices_Sorted_uint64.fcall (args : List Value) (w : World) (K : KV) : fcallT P F.slices_Sorted_uint64 args w K = callT P F.slices_Sorted_uint64 args w K := fcallT_eq Try.func73 (by kernel_rfl) (by kernel_rfl) args w K
theorem M.slices_Sorted_uint64.rcall (a c args : List Value) (w : World) (K : KV) : callRT P (.func (.func F.slices_Sorted_uint64) a.toArray c.toArray) args w K = callT P F.slices_Sorted_uint64 (a ++ args ++ c) w K := callR_fn Try.func73 (by kernel_rfl) (by kernel_rfl) a c args w K

/-- maps.Keys[map[uint64]winnow/api.Member,uint64,winnow/api.Member] -/
def M.maps_Keys_map_uint64_api_Member_uint64_api_Member (a0 : Value) (w : World) (K : KV) : Prop :=
  boxT P T.map_uint64_api_Member a0 w fun t1 w =>
  mkfT P (.func F.maps_Keys_map_uint64_api_Member_uint64_api_Member_1) [] [t1] w fun t3 w =>
  K t3 w
def M.maps_Keys_map_uint64_api_Member_uint64_api_Member.L : List Nat := [0, 2]
def M.maps_Keys_map_uint64_api_Member_uint64_api_Member.pl : Nat → Plan := fun id => ⟨.nil, [], false, []⟩
theorem M.maps_Keys_map_uint64_api_Member_uint64_api_Member.eq (a0 : Value) (w : World) (K : KV) : M.maps_Keys_map_uint64_api_Member_uint64_api_Member a0 w K = den P M.maps_Keys_map_uint64_api_Member_uint64_api_Member.L M.maps_Keys_map_uint64_api_Member_uint64_api_Member.pl (Try.f74.body.getD .skip) (argE [a0]) w (bodyQ P Try.f74.results.toList K) := by kernel_rfl
theorem M.maps_Keys_map_uint64_api_Member_uint64_api_Member.ok : okFn M.maps_Keys_map_uint64_api_Member_uint64_api_Member.L M.maps_Keys_map_uint64_api_Member_uint64_api_Member.pl Try.f74 (Try.f74.body.getD .skip) 1 = true := by kernel_rfl
theorem M.maps_Keys_map_uint64_api_Member_uint64_api_Member.calls (a0 : Value) {w : World} {K : KV} (h : M.maps_Keys_map_uint64_api_Member_uint64_api_Member a0 w K) : callT P F.maps_Keys_map_uint64_api_Member_uint64_api_Member [a0] w K :=
  callT_of_den (by kernel_rfl) Try.func74 (by kernel_rfl) M.maps_Keys_map_uint64_api_Member_uint64_api_Member.ok (M.maps_Keys_map_uint64_api_Member_uint64_api_Member.eq a0 w K ▸ h)
theorem M.maps_Keys_map_uint64_api_Member_uint64_api_Member.fcall (args : List Value) (w : World) (K : KV) : fcallT P F.maps_Keys_map_uint64_api_Member_uint64_api_Member args w K = callT P F.maps_Keys_map_uint64_api_Member_uint64_api_Member args w K := fcallT_eq Try.func74 (by kernel_rfl) (by kernel_rfl) args w K
theorem M.maps_Keys_map_uint64_api_Member_uint64_api_Member.rcall (a c args : List Value) (w : World) (K : KV) : callRT P (.func (.func F.maps_Keys_map_uint64_api_Member_uint64_api_Member) a.toArray c.toArray) args w K = callT P F.maps_Keys_map_uint64_api_Member_uint64_api_Member (a ++ args ++ c) w K := callR_fn Try.func74 (by kernel_rfl) (by kernel_rfl) a c args w K

/-- (*winnow/gossip.Node).own -/
def M.pgossip_Node_own (a0 : Value) (w : World) (K : KV) : Prop :=
  boxT P T.p_gossip_Node a0 w fun t1 w =>
  ldT P T.p_gossip_Node t1 w fun t3 w =>
  nilT t3 w fun t4 w =>
  faT P T.gossip_Node t4 6 w fun t5 w =>
  ldT P T.sl_api_Member t5 w fun t6 w =>
  mkfT P (.func F.pgossip_Node_own_1) [] [t1] w fun t7 w =>
  fcallT P F.slices_IndexFunc_api_Member_api_Member [t6, t7] w fun t8 w =>
  K t8 w
def M.pgossip_Node_own.L : List Nat := [0, 2]
def M.pgossip_Node_own.pl : Nat → Plan := fun id => ⟨.nil, [], false, []⟩
theorem M.pgossip_Node_own.eq (a0 : Value) (w : World) (K : KV) : M.pgossip_Node_own a0 w K = den P M.pgossip_Node_own.L M.pgossip_Node_own.pl (Try.f75.body.getD .skip) (argE [a0]) w (bodyQ P Try.f75.results.toList K) := by kernel_rfl
theorem M.pgossip_Node_own.ok : okFn M.pgossip_Node_own.L M.pgossip_Node_own.pl Try.f75 (Try.f75.body.getD .skip) 1 = true := by kernel_rfl
theorem M.pgossip_Node_own.calls (a0 : Value) {w : World} {K : KV} (h : M.pgossip_Node_own a0 w K) : callT P F.pgossip_Node_own [a0] w K :=
  callT_of_den (by kernel_rfl) Try.func75 (by kernel_rfl) M.pgossip_Node_own.ok (M.pgossip_Node_own.eq a0 w K ▸ h)
theorem M.pgossip_Node_own.fcall (args : List Value) (w : World) (K : KV) : fcallT P F.pgossip_Node_own args w K = callT P F.pgossip_Node_own args w K := fcallT_eq Try.func75 (by kernel_rfl) (by kernel_rfl) args w K
theorem M.pgossip_Node_own.rcall (a c args : List Value) (w : World) (K : KV) : callRT P (.func (.func F.pgossip_Node_own) a.toArray c.toArray) args w K = callT P F.pgossip_Node_own (a ++ args ++ c) w K := callR_fn Try.func75 (by kernel_rfl) (by kernel_rfl) a c args w K

/-- slices.Clone[[]winnow/api.Member,winnow/api.Member] -/
def M.slices_Clone_api_Member_api_Member (a0 : Value) (w : World) (K : KV) : Prop :=
  joinT (fun K0 =>
  binT P .eql T.sl_api_Member (.tmp 3) (.const (.slice none 0 0)) a0 (.slice none 0 0) w fun t4 w =>
  condT t4 (
  K (.slice none 0 0) w) (
  K0 [(.slice none 0 0)] w)) fun x0 w =>
  bsT P T.sl_api_Member 0 #[] w fun t5 w =>
  biT P .append #[T.sl_api_Member, T.sl_api_Member] T.sl_api_Member [false, false] [t5, a0] w fun t7 w =>
  K t7 w
def M.slices_Clone_api_Member_api_Member.L : List Nat := [0, 2]
def M.slices_Clone_api_Member_api_Member.pl : Nat → Plan := fun id => ⟨.nil, [], false, []⟩
theorem M.slices_Clone_api_Member_api_Member.eq (a0 : Value) (w : World) (K : KV) : M.slices_Clone_api_Member_api_Member a0 w K = den P M.slices_Clone_api_Member_api_Member.L M.slices_Clone_api_Member_api_Member.pl (Try.f76.body.getD .skip) (argE [a0]) w (bodyQ P Try.f76.results.toList K) := by kernel_rfl
theorem M.slices_Clone_api_Member_api_Member.ok : okFn M.slices_Clone_api_Member_api_Member.L M.slices_Clone_api_Member_api_Member.pl Try.f76 (Try.f76.body.getD .skip) 1 = true := by kernel_rfl
theorem M.slices_Clone_api_Member_api_Member.calls (a0 : Value) {w : World} {K : KV} (h : M.slices_Clone_api_Member_api_Member a0 w K) : callT P F.slices_Clone_api_Member_api_Member [a0] w K :=
  callT_of_den (by kernel_rfl) Try.func76 (by kernel_rfl) M.slices_Clone_api_Member_api_Member.ok (M.slices_Clone_api_Member_api_Member.eq a0 w K ▸ h)
theorem M.slices_Clone_api_Member_api_Member.fcall (args : List Value) (w : World) (K : KV) : fcallT P F.slices_Clone_api_Member_api_Member args w K = callT P F.slices_Clone_api_Member_api_Member args w K := fcallT_eq Try.func76 (by kernel_rfl) (by kernel_rfl) args w K
theorem M.slices_Clone_api_Member_api_Member.rcall (a c args : List Value) (w : World) (K : KV) : callRT P (.func (.func F.slices_Clone_api_Member_api_Member) a.toArray c.toArray) args w K = callT P F.slices_Clone_api_Member_api_Member (a ++ args ++ c) w K := callR_fn Try.func76 (by kernel_rfl) (by kernel_rfl) a c args w K

def M.pgossip_Node_aged.j5 (t19 : Value) (K2 : KL) (x5 : List Value) (K1 : KL) (K4 : KL) (w : World) (K : KV) : Prop :=
  joinT (fun K6 =>
  binT P .eql T.int (.tmp 19) (.const (.int .i64 1)) t19 (.int .i64 1) w fun t23 w =>
  condT t23 (
  K2 [(gv x5 0), t23, undef, (.int .i64 0)] w) (
  K6 [t23] w)) fun x6 w =>
  binT P .eql T.int (.tmp 19) (.const (.int .i64 2)) t19 (.int .i64 2) w fun t25 w =>
  condT t25 (
  K1 [(gv x5 0), (gv x6 0), t25, (.int .i64 0)] w) (
  K4 [(gv x5 0), (gv x6 0), t25] w)
def M.pgossip_Node_aged.j3 (a0 : Value) (t17 : Value) (K0 : KL) (t19 : Value) (x3 : List Value) (w : World) (K : KV) : Prop :=
  joinT (fun K7 =>
  nilT a0 w fun t28 w =>
  faT P T.gossip_Node t28 2 w fun t29 w =>
  ldT P T.uint64 t29 w fun t30 w =>
  binT P .geq T.uint64 (.tmp 26) (.tmp 30) t17 t30 w fun t31 w =>
  condT t31 (
  K (.int .i64 1) w) (
  K7 [(.int .i64 0)] w)) fun x7 w =>
  K0 [t19, (gv x3 0), (gv x3 1), (gv x3 2), (gv x7 0)] w
def M.pgossip_Node_aged.j2 (a0 : Value) (t17 : Value) (K0 : KL) (t19 : Value) (x2 : List Value) (K1 : KL) (w : World) (K : KV) : Prop :=
  nilT a0 w fun t34 w =>
  faT P T.gossip_Node t34 2 w fun t35 w =>
  ldT P T.uint64 t35 w fun t36 w =>
  binT P .mul T.uint64 (.const (.int .u64 2)) (.tmp 36) (.int .u64 2) t36 w fun t37 w =>
  binT P .lss T.uint64 (.tmp 32) (.tmp 37) t17 t37 w fun t38 w =>
  condT t38 (
  K0 [t19, (gv x2 0), (gv x2 1), (gv x2 2), (gv x2 3)] w) (
  K1 [(gv x2 0), (gv x2 1), (gv x2 2), (gv x2 3)] w)
/-- (*winnow/gossip.Node).aged -/
def M.pgossip_Node_aged (a0 a1 : Value) (w : World) (K : KV) : Prop :=
  boxT P T.api_Member a1 w fun t3 w =>
  drawT w fun w =>
  w = w ∧ quietT (fun K' => nilT a0 w K') w fun t7 =>
  quietT (fun K' => faT P T.gossip_Node t7 3 w K') w fun t8 =>
  quietT (fun K' => ldT P T.uint64 t8 w K') w fun t9 =>
  w = w ∧ quietT (fun K' => nilT a0 w K') w fun t11 =>
  quietT (fun K' => faT P T.gossip_Node t11 7 w K') w fun t12 =>
  quietT (fun K' => ldT P T.map_uint64_uint64 t12 w K') w fun t13 =>
  quietT (fun K' => faT P T.api_Member t3 0 w K') w fun t14 =>
  quietT (fun K' => ldT P T.uint64 t14 w K') w fun t15 =>
  quietT (fun K' => luT P T.map_uint64_uint64 t13 t15 false w K') w fun t16 =>
  quietT (fun K' => binT P .sub T.uint64 (.tmp 9) (.tmp 16) t9 t16 w K') w fun t17 =>
  joinT (fun K0 =>
  faT P T.api_Member t3 2 w fun t18 w =>
  ldT P T.int t18 w fun t19 w =>
  joinT (fun K1 =>
  joinT (fun K2 =>
  joinT (fun K3 =>
  joinT (fun K4 =>
  joinT (fun K5 =>
  binT P .eql T.int (.tmp 19) (.const (.int .i64 0)) t19 (.int .i64 0) w fun t21 w =>
  condT t21 (
  K3 [t21, undef, undef] w) (
  K5 [t21] w)) fun x5 w =>
  M.pgossip_Node_aged.j5 t19 K2 x5 K1 K4 w K) fun x4 w =>
  K0 [t19, (gv x4 0), (gv x4 1), (gv x4 2), (.int .i64 0)] w) fun x3 w =>
  M.pgossip_Node_aged.j3 a0 t17 K0 t19 x3 w K) fun x2 w =>
  M.pgossip_Node_aged.j2 a0 t17 K0 t19 x2 K1 w K) fun x1 w =>
  joinT (fun K8 =>
  K (.int .i64 2) w) fun x8 w =>
  K0 [t19, (gv x1 0), (gv x1 1), (gv x1 2), (gv x8 0)] w) fun x0 w =>
  faT P T.api_Member t3 2 w fun t39 w =>
  ldT P T.int t39 w fun t40 w =>
  K t40 w
def M.pgossip_Node_aged.L : List Nat := [0, 1, 4, 5, 20, 22, 24, 19, 3]
def M.pgossip_Node_aged.pl : Nat → Plan := fun id => cond (Nat.beq id 1) ⟨(.go 0 (.go 1 (.go 2 (.go 3 (.go 4 (.go 5 (.go 6 (.go 7 (.go 8 (.go 9 (.go 10 (.go 11 (.eff 12 .nil .stop))))))))))))), [12], false, [0, 1, 3, 7, 0, 16, 48, 112, 0, 256, 1008, 2047, 4095]⟩ (⟨.nil, [], false, []⟩)
theorem M.pgossip_Node_aged.eq (a0 a1 : Value) (w : World) (K : KV) : M.pgossip_Node_aged a0 a1 w K = den P M.pgossip_Node_aged.L M.pgossip_Node_aged.pl (Try.f77.body.getD .skip) (argE [a0, a1]) w (bodyQ P Try.f77.results.toList K) := by kernel_rfl
theorem M.pgossip_Node_aged.ok : okFn M.pgossip_Node_aged.L M.pgossip_Node_aged.pl Try.f77 (Try.f77.body.getD .skip) 2 = true := by kernel_rfl
theorem M.pgossip_Node_aged.calls (a0 a1 : Value) {w : World} {K : KV} (h : M.pgossip_Node_aged a0 a1 w K) : callT P F.pgossip_Node_aged [a0, a1] w K :=
  callT_of_den (by kernel_rfl) Try.func77 (by kernel_rfl) M.pgossip_Node_aged.ok (M.pgossip_Node_aged.eq a0 a1 w K ▸ h)
theorem M.pgossip_Node_aged.fcall (args : List Value) (w : World) (K : KV) : fcallT P F.pgossip_Node_aged args w K = callT P F.pgossip_Node_aged args w K := fcallT_eq Try.func77 (by kernel_rfl) (by kernel_rfl) args w K
theorem M.pgossip_Node_aged.rcall (a c args : List Value) (w : World) (K : KV) : callRT P (.func (.func F.pgossip_Node_aged) a.toArray c.toArray) args w K = callT P F.pgossip_Node_aged (a ++ args ++ c) w K := callR_fn Try.func77 (by kernel_rfl) (by kernel_rfl) a c args w K

def M.winnowref05_Members.j2 (a0 : Value) (x1 : List Value) (K1 : KL) (w : World) (K : KV) : Prop :=
  joinT (fun K3 =>
  iaT P T.sl_api_Member a0 (gv x1 1) w fun t13 w =>
  ldT P T.api_Member t13 w fun t14 w =>
  alT P T.api_Member w fun t4 w =>
  stT P T.api_Member t4 t14 w fun _ w =>
  drawT w fun w =>
  quietT (fun K' => faT P T.api_Member t4 0 w K') w fun t15 =>
  quietT (fun K' => ldT P T.uint64 t15 w K') w fun t16 =>
  quietT (fun K' => binT P .eql T.uint64 (.tmp 16) (.const (.int .u64 0)) t16 (.int .u64 0) w K') w fun t17 =>
  w = w ∧ quietT (fun K' => guardT (isB t17 false) (fun K' => faT P T.api_Member t4 1 w K') w K') w fun t19 =>
  quietT (fun K' => guardT (isB t17 false) (fun K' => ldT P T.uint64 t19 w K') w K') w fun t20 =>
  quietT (fun K' => guardT (isB t17 false) (fun K' => binT P .eql T.uint64 (.tmp 20) (.const (.int .u64 0)) t20 (.int .u64 0) w K') w K') w fun t21 =>
  quietT (fun K' => pickT t17 (.bool true) t21 w K') w fun t22 =>
  w = w ∧ quietT (fun K' => guardT (isB t22 false) (fun K' => faT P T.api_Member t4 2 w K') w K') w fun t24 =>
  quietT (fun K' => guardT (isB t22 false) (fun K' => ldT P T.int t24 w K') w K') w fun t25 =>
  quietT (fun K' => guardT (isB t22 false) (fun K' => binT P .lss T.int (.tmp 25) (.const (.int .i64 0)) t25 (.int .i64 0) w K') w K') w fun t26 =>
  quietT (fun K' => pickT t22 (.bool true) t26 w K') w fun t27 =>
  w = w ∧ quietT (fun K' => guardT (isB t27 false) (fun K' => faT P T.api_Member t4 2 w K') w K') w fun t29 =>
  quietT (fun K' => guardT (isB t27 false) (fun K' => ldT P T.int t29 w K') w K') w fun t30 =>
  quietT (fun K' => guardT (isB t27 false) (fun K' => binT P .gtr T.int (.tmp 30) (.const (.int .i64 2)) t30 (.int .i64 2) w K') w K') w fun t31 =>
  quietT (fun K' => pickT t27 (.bool true) t31 w K') w fun t32 =>
  w = w ∧ quietT (fun K' => guardT (isB t32 false) (fun K' => K' (gv x1 1) w) w K') w fun t34 =>
  quietT (fun K' => guardT (isB t32 false) (fun K' => binT P .gtr T.int (.tmp 34) (.const (.int .i64 0)) t34 (.int .i64 0) w K') w K') w fun t35 =>
  quietT (fun K' => guardT (isB t32 false) (fun K' => K' t35 w) w K') w fun t36 =>
  quietT (fun K' => guardT (isB t36 true) (fun K' => K' a0 w) w K') w fun t37 =>
  quietT (fun K' => guardT (isB t36 true) (fun K' => K' (gv x1 1) w) w K') w fun t38 =>
  quietT (fun K' => guardT (isB t36 true) (fun K' => binT P .sub T.int (.tmp 38) (.const (.int .i64 1)) t38 (.int .i64 1) w K') w K') w fun t39 =>
  quietT (fun K' => guardT (isB t36 true) (fun K' => iaT P T.sl_api_Member t37 t39 w K') w K') w fun t40 =>
  quietT (fun K' => guardT (isB t36 true) (fun K' => faT P T.api_Member t40 0 w K') w K') w fun t41 =>
  quietT (fun K' => guardT (isB t36 true) (fun K' => ldT P T.uint64 t41 w K') w K') w fun t42 =>
  quietT (fun K' => guardT (isB t36 true) (fun K' => faT P T.api_Member t4 0 w K') w K') w fun t43 =>
  quietT (fun K' => guardT (isB t36 true) (fun K' => ldT P T.uint64 t43 w K') w K') w fun t44 =>
  quietT (fun K' => guardT (isB t36 true) (fun K' => binT P .geq T.uint64 (.tmp 42) (.tmp 44) t42 t44 w K') w K') w fun t45 =>
  quietT (fun K' => guardT (isB t32 false) (fun K' => pickT t36 t45 (.bool false) w K') w K') w fun t46 =>
  quietT (fun K' => pickT t32 (.bool true) t46 w K') w fun t47 =>
  condT t47 (
  K (.bool false) w) (
  K3 [(gv x1 0)] w)) fun x3 w =>
  binT P .add T.int (.tmp 9) (.const (.int .i64 1)) (gv x1 1) (.int .i64 1) w fun t10 w =>
  K1 [(gv x3 0), t10] w
def M.winnowref05_Members.j0 (a0 : Value) (w : World) (K : KV) : Prop :=
  biT P .len #[T.sl_api_Member] T.int [false] [a0] w fun t49 w =>
  binT P .geq T.int (.tmp 49) (.const (.int .i64 1)) t49 (.int .i64 1) w fun t50 w =>
  guardT (isB t50 true) (fun K' => K' a0 w) w fun t52 w =>
  guardT (isB t50 true) (fun K' => biT P .len #[T.sl_api_Member] T.int [false] [t52] w K') w fun t53 w =>
  guardT (isB t50 true) (fun K' => binT P .leq T.int (.tmp 53) (.const (.int .i64 16)) t53 (.int .i64 16) w K') w fun t54 w =>
  pickT t50 t54 (.bool false) w fun t55 w =>
  K t55 w
/-- winnow/winnowref05.Members -/
def M.winnowref05_Members (a0 : Value) (w : World) (K : KV) : Prop :=
  joinT (fun K0 =>
  loopT [(.bool false), (.int .i64 0)] w fun K1 x1 w =>
  joinT (fun K2 =>
  biT P .len #[T.sl_api_Member] T.int [false] [a0] w fun t7 w =>
  binT P .lss T.int (.tmp 5) (.tmp 7) (gv x1 1) t7 w fun t8 w =>
  condT t8 (
  K2 [] w) (
  K0 [(gv x1 1), (gv x1 0)] w)) fun x2 w =>
  M.winnowref05_Members.j2 a0 x1 K1 w K) fun x0 w =>
  M.winnowref05_Members.j0 a0 w K
def M.winnowref05_Members.L : List Nat := [0, 2, 3]
def M.winnowref05_Members.pl : Nat → Plan := fun id => cond (Nat.beq id 5) ⟨(.go 0 (.go 1 (.go 2 (.go 3 (.go 4 (.go 5 (.go 6 (.go 7 (.go 8 (.go 9 (.go 10 (.go 11 (.go 12 (.go 13 (.go 14 (.go 15 (.go 16 (.go 17 (.go 18 (.go 19 (.go 20 (.go 21 (.go 22 (.go 23 (.go 24 (.go 25 (.go 26 (.go 27 (.go 28 (.go 29 (.go 30 (.go 31 (.go 32 .nil))))))))))))))))))))))))))))))))), [], false, [0, 1, 3, 7, 15, 31, 63, 127, 255, 511, 1023, 2047, 4095, 8191, 16383, 32767, 65535, 131071, 262143, 524287, 1048575, 2097151, 4194303, 4194303, 12582911, 33554431, 67108863, 134217727, 4194303, 272629759, 1073741823, 2147483647, 4294967295]⟩ (⟨.nil, [], false, []⟩)
theorem M.winnowref05_Members.eq (a0 : Value) (w : World) (K : KV) : M.winnowref05_Members a0 w K = den P M.winnowref05_Members.L M.winnowref05_Members.pl (Try.f78.body.getD .skip) (argE [a0]) w (bodyQ P Try.f78.results.toList K) := by kernel_rfl
theorem M.winnowref05_Members.ok : okFn M.winnowref05_Members.L M.winnowref05_Members.pl Try.f78 (Try.f78.body.getD .skip) 1 = true := by kernel_rfl
theorem M.winnowref05_Members.calls (a0 : Value) {w : World} {K : KV} (h : M.winnowref05_Members a0 w K) : callT P F.winnowref05_Members [a0] w K :=
  callT_of_den (by kernel_rfl) Try.func78 (by kernel_rfl) M.winnowref05_Members.ok (M.winnowref05_Members.eq a0 w K ▸ h)
theorem M.winnowref05_Members.fcall (args : List Value) (w : World) (K : KV) : fcallT P F.winnowref05_Members args w K = callT P F.winnowref05_Members args w K := fcallT_eq Try.func78 (by kernel_rfl) (by kernel_rfl) args w K
theorem M.winnowref05_Members.rcall (a c args : List Value) (w : World) (K : KV) : callRT P (.func (.func F.winnowref05_Members) a.toArray c.toArray) args w K = callT P F.winnowref05_Members (a ++ args ++ c) w K := callR_fn Try.func78 (by kernel_rfl) (by kernel_rfl) a c args w K

def M.span_Name.j4 (x4 : List Value) (t17 : Value) (a0 : Value) (t16 : Value) (K2 : KL) (t14 : Value) (x2 : List Value) (w : World) (K : KV) : Prop :=
  condT (gv x4 0) (
  K (.int .i64 5) w) (
  binT P .eql T.int32 (.tmp 28) (.const (.int .i32 65533)) t17 (.int .i32 65533) w fun t29 w =>
  guardT (isB t29 true) (fun K' => K' a0 w) w fun t31 w =>
  guardT (isB t29 true) (fun K' => K' t16 w) w fun t32 w =>
  guardT (isB t29 true) (fun K' => slT P T.string t31 (some t32) none none w K') w fun t33 w =>
  guardT (isB t29 true) (fun K' => fcallT P F.strings_HasPrefix [t33, (.string ⟨#[239, 191, 189]⟩)] w K') w fun t34 w =>
  guardT (isB t29 true) (fun K' => unT P .not t34 w K') w fun t35 w =>
  pickT t29 t35 (.bool false) w fun t36 w =>
  condT t36 (
  K (.int .i64 5) w) (
  K2 [t14, t16, t17, (gv x4 0), (gv x2 4), t36] w))
def M.span_Name.j3 (t14 : Value) (a0 : Value) (K2 : KL) (x2 : List Value) (w : World) (K : KV) : Prop :=
  exT P t14 1 w fun t16 w =>
  exT P t14 2 w fun t17 w =>
  joinT (fun K4 =>
  binT P .lss T.int32 (.tmp 19) (.const (.int .i32 32)) t17 (.int .i32 32) w fun t20 w =>
  condT t20 (
  K4 [t20] w) (
  binT P .leq T.int32 (.const (.int .i32 127)) (.tmp 21) (.int .i32 127) t17 w fun t22 w =>
  guardT (isB t22 true) (fun K' => K' t17 w) w fun t24 w =>
  guardT (isB t22 true) (fun K' => binT P .leq T.int32 (.tmp 24) (.const (.int .i32 159)) t24 (.int .i32 159) w K') w fun t25 w =>
  pickT t22 t25 (.bool false) w fun t26 w =>
  K4 [t26] w)) fun x4 w =>
  M.span_Name.j4 x4 t17 a0 t16 K2 t14 x2 w K
def M.span_Name.j0 (a0 : Value) (x0 : List Value) (w : World) (K : KV) : Prop :=
  joinT (fun K1 =>
  rgT P T.string a0 w fun t13 w =>
  loopT [undef, undef, undef, undef, (gv x0 0), undef] w fun K2 x2 w =>
  nxT P t13 true T._ w fun t14 w =>
  exT P t14 0 w fun t15 w =>
  joinT (fun K3 =>
  condT t15 (
  K3 [] w) (
  K1 [t13, t14, (gv x2 1), (gv x2 2), (gv x2 3), (gv x2 4), (gv x2 5)] w)) fun x3 w =>
  M.span_Name.j3 t14 a0 K2 x2 w K) fun x1 w =>
  K (.int .i64 0) w
/-- winnow/span.Name -/
def M.span_Name (a0 : Value) (w : World) (K : KV) : Prop :=
  joinT (fun K0 =>
  binT P .eql T.string (.tmp 5) (.const (.string ⟨#[]⟩)) a0 (.string ⟨#[]⟩) w fun t6 w =>
  guardT (isB t6 false) (fun K' => K' a0 w) w fun t8 w =>
  guardT (isB t6 false) (fun K' => biT P .len #[T.string] T.int [false] [t8] w K') w fun t9 w =>
  guardT (isB t6 false) (fun K' => binT P .gtr T.int (.tmp 9) (.const (.int .i64 32)) t9 (.int .i64 32) w K') w fun t10 w =>
  pickT t6 (.bool true) t10 w fun t11 w =>
  condT t11 (
  K (.int .i64 5) w) (
  K0 [(.int .i64 0)] w)) fun x0 w =>
  M.span_Name.j0 a0 x0 w K
def M.span_Name.L : List Nat := [0, 2, 3, 4, 18, 27, 13, 14]
def M.span_Name.pl : Nat → Plan := fun id => ⟨.nil, [], false, []⟩
theorem M.span_Name.eq (a0 : Value) (w : World) (K : KV) : M.span_Name a0 w K = den P M.span_Name.L M.span_Name.pl (Try.f97.body.getD .skip) (argE [a0]) w (bodyQ P Try.f97.results.toList K) := by kernel_rfl
theorem M.span_Name.ok : okFn M.span_Name.L M.span_Name.pl Try.f97 (Try.f97.body.getD .skip) 1 = true := by kernel_rfl
theorem M.span_Name.calls (a0 : Value) {w : World} {K : KV} (h : M.span_Name a0 w K) : callT P F.span_Name [a0] w K :=
  callT_of_den (by kernel_rfl) Try.func97 (by kernel_rfl) M.span_Name.ok (M.span_Name.eq a0 w K ▸ h)
theorem M.span_Name.fcall (args : List Value) (w : World) (K : KV) : fcallT P F.span_Name args w K = callT P F.span_Name args w K := fcallT_eq Try.func97 (by kernel_rfl) (by kernel_rfl) args w K
theorem M.span_Name.rcall (a c args : List Value) (w : World) (K : KV) : callRT P (.func (.func F.span_Name) a.toArray c.toArray) args w K = callT P F.span_Name (a ++ args ++ c) w K := callR_fn Try.func97 (by kernel_rfl) (by kernel_rfl) a c args w K

def M.cmp_Or_int.j2 (a0 : Value) (x1 : List Value) (K1 : KL) (w : World) (K : KV) : Prop :=
  joinT (fun K3 =>
  iaT P T.sl_int a0 (gv x1 2) w fun t10 w =>
  ldT P T.int t10 w fun t11 w =>
  binT P .neq T.int (.tmp 12) (.tmp 13) t11 (.int .i64 0) w fun t14 w =>
  condT t14 (
  K t11 w) (
  K3 [t11, (gv x1 1)] w)) fun x3 w =>
  binT P .add T.int (.tmp 8) (.const (.int .i64 1)) (gv x1 2) (.int .i64 1) w fun t16 w =>
  K1 [(gv x3 0), (gv x3 1), t16] w
/-- cmp.Or[int] -/
def M.cmp_Or_int (a0 : Value) (w : World) (K : KV) : Prop :=
  joinT (fun K0 =>
  biT P .len #[T.sl_int] T.int [false] [a0] w fun t7 w =>
  loopT [undef, (.int .i64 0), (.int .i64 0)] w fun K1 x1 w =>
  binT P .lss T.int (.tmp 8) (.tmp 7) (gv x1 2) t7 w fun t9 w =>
  joinT (fun K2 =>
  condT t9 (
  K2 [] w) (
  K0 [a0, t7, (gv x1 2), (gv x1 0), (gv x1 1)] w)) fun x2 w =>
  M.cmp_Or_int.j2 a0 x1 K1 w K) fun x0 w =>
  K (.int .i64 0) w
def M.cmp_Or_int.L : List Nat := [0, 2, 3, 5, 8, 7, 6]
def M.cmp_Or_int.pl : Nat → Plan := fun id => ⟨.nil, [], false, []⟩
theorem M.cmp_Or_int.eq (a0 : Value) (w : World) (K : KV) : M.cmp_Or_int a0 w K = den P M.cmp_Or_int.L M.cmp_Or_int.pl (Try.f104.body.getD .skip) (argE [a0]) w (bodyQ P Try.f104.results.toList K) := by kernel_rfl
theorem M.cmp_Or_int.ok : okFn M.cmp_Or_int.L M.cmp_Or_int.pl Try.f104 (Try.f104.body.getD .skip) 1 = true := by kernel_rfl
theorem M.cmp_Or_int.calls (a0 : Value) {w : World} {K : KV} (h : M.cmp_Or_int a0 w K) : callT P F.cmp_Or_int [a0] w K :=
  callT_of_den (by kernel_rfl) Try.func104 (by kernel_rfl) M.cmp_Or_int.ok (M.cmp_Or_int.eq a0 w K ▸ h)
theorem M.cmp_Or_int.fcall (args : List Value) (w : World) (K : KV) : fcallT P F.cmp_Or_int args w K = callT P F.cmp_Or_int args w K := fcallT_eq Try.func104 (by kernel_rfl) (by kernel_rfl) args w K
theorem M.cmp_Or_int.rcall (a c args : List Value) (w : World) (K : KV) : callRT P (.func (.func F.cmp_Or_int) a.toArray c.toArray) args w K = callT P F.cmp_Or_int (a ++ args ++ c) w K := callR_fn Try.func104 (by kernel_rfl) (by kernel_rfl) a c args w K

def M.cmp_Compare_uint64.j2 (a0 : Value) (a1 : Value) (x2 : List Value) (w : World) (K : KV) : Prop :=
  joinT (fun K3 =>
  binT P .lss T.uint64 (.tmp 14) (.tmp 15) a0 a1 w fun t16 w =>
  condT t16 (
  K (.int .i64 (-1)) w) (
  K3 [(gv x2 0)] w)) fun x3 w =>
  joinT (fun K4 =>
  binT P .gtr T.uint64 (.tmp 17) (.tmp 18) a0 a1 w fun t19 w =>
  condT t19 (
  K (.int .i64 1) w) (
  K4 [(gv x3 0)] w)) fun x4 w =>
  K (.int .i64 0) w
/-- cmp.Compare[uint64] -/
def M.cmp_Compare_uint64 (a0 a1 : Value) (w : World) (K : KV) : Prop :=
  fcallT P F.cmp_isNaN_uint64 [a0] w fun t8 w =>
  fcallT P F.cmp_isNaN_uint64 [a1] w fun t10 w =>
  joinT (fun K0 =>
  condT t8 (
  joinT (fun K1 =>
  condT t10 (
  K (.int .i64 0) w) (
  K1 [(.int .i64 0)] w)) fun x1 w =>
  K (.int .i64 (-1)) w) (
  K0 [(.int .i64 0)] w)) fun x0 w =>
  joinT (fun K2 =>
  condT t10 (
  K (.int .i64 1) w) (
  K2 [(gv x0 0)] w)) fun x2 w =>
  M.cmp_Compare_uint64.j2 a0 a1 x2 w K
def M.cmp_Compare_uint64.L : List Nat := [0, 1, 4, 5, 6]
def M.cmp_Compare_uint64.pl : Nat → Plan := fun id => ⟨.nil, [], false, []⟩
theorem M.cmp_Compare_uint64.eq (a0 a1 : Value) (w : World) (K : KV) : M.cmp_Compare_uint64 a0 a1 w K = den P M.cmp_Compare_uint64.L M.cmp_Compare_uint64.pl (Try.f105.body.getD .skip) (argE [a0, a1]) w (bodyQ P Try.f105.results.toList K) := by kernel_rfl
theorem M.cmp_Compare_uint64.ok : okFn M.cmp_Compare_uint64.L M.cmp_Compare_uint64.pl Try.f105 (Try.f105.body.getD .skip) 2 = true := by kernel_rfl
theorem M.cmp_Compare_uint64.calls (a0 a1 : Value) {w : World} {K : KV} (h : M.cmp_Compare_uint64 a0 a1 w K) : callT P F.cmp_Compare_uint64 [a0, a1] w K :=
  callT_of_den (by kernel_rfl) Try.func105 (by kernel_rfl) M.cmp_Compare_uint64.ok (M.cmp_Compare_uint64.eq a0 a1 w K ▸ h)
theorem M.cmp_Compare_uint64.fcall (args : List Value) (w : World) (K : KV) : fcallT P F.cmp_Compare_uint64 args w K = callT P F.cmp_Compare_uint64 args w K := fcallT_eq Try.func105 (by kernel_rfl) (by kernel_rfl) args w K
theorem M.cmp_Compare_uint64.rcall (a c args : List Value) (w : World) (K : KV) : callRT P (.func (.func F.cmp_Compare_uint64) a.toArray c.toArray) args w K = callT P F.cmp_Compare_uint64 (a ++ args ++ c) w K := callR_fn Try.func105 (by kernel_rfl) (by kernel_rfl) a c args w K

def M.cmp_Compare_int.j2 (a0 : Value) (a1 : Value) (x2 : List Value) (w : World) (K : KV) : Prop :=
  joinT (fun K3 =>
  binT P .lss T.int (.tmp 14) (.tmp 15) a0 a1 w fun t16 w =>
  condT t16 (
  K (.int .i64 (-1)) w) (
  K3 [(gv x2 0)] w)) fun x3 w =>
  joinT (fun K4 =>
  binT P .gtr T.int (.tmp 17) (.tmp 18) a0 a1 w fun t19 w =>
  condT t19 (
  K (.int .i64 1) w) (
  K4 [(gv x3 0)] w)) fun x4 w =>
  K (.int .i64 0) w
/-- cmp.Compare[int] -/
def M.cmp_Compare_int (a0 a1 : Value) (w : World) (K : KV) : Prop :=
  fcallT P F.cmp_isNaN_int [a0] w fun t8 w =>
  fcallT P F.cmp_isNaN_int [a1] w fun t10 w =>
  joinT (fun K0 =>
  condT t8 (
  joinT (fun K1 =>
  condT t10 (
  K (.int .i64 0) w) (
  K1 [(.int .i64 0)] w)) fun x1 w =>
  K (.int .i64 (-1)) w) (
  K0 [(.int .i64 0)] w)) fun x0 w =>
  joinT (fun K2 =>
  condT t10 (
  K (.int .i64 1) w) (
  K2 [(gv x0 0)] w)) fun x2 w =>
  M.cmp_Compare_int.j2 a0 a1 x2 w K
def M.cmp_Compare_int.L : List Nat := [0, 1, 4, 5, 6]
def M.cmp_Compare_int.pl : Nat → Plan := fun id => ⟨.nil, [], false, []⟩
theorem M.cmp_Compare_int.eq (a0 a1 : Value) (w : World) (K : KV) : M.cmp_Compare_int a0 a1 w K = den P M.cmp_Compare_int.L M.cmp_Compare_int.pl (Try.f106.body.getD .skip) (argE [a0, a1]) w (bodyQ P Try.f106.results.toList K) := by kernel_rfl
theorem M.cmp_Compare_int.ok : okFn M.cmp_Compare_int.L M.cmp_Compare_int.pl Try.f106 (Try.f106.body.getD .skip) 2 = true := by kernel_rfl
theorem M.cmp_Compare_int.calls (a0 a1 : Value) {w : World} {K : KV} (h : M.cmp_Compare_int a0 a1 w K) : callT P F.cmp_Compare_int [a0, a1] w K :=
  callT_of_den (by kernel_rfl) Try.func106 (by kernel_rfl) M.cmp_Compare_int.ok (M.cmp_Compare_int.eq a0 a1 w K ▸ h)
theorem M.cmp_Compare_int.fcall (args : List Value) (w : World) (K : KV) : fcallT P F.cmp_Compare_int args w K = callT P F.cmp_Compare_int args w K := fcallT_eq Try.func106 (by kernel_rfl) (by kernel_rfl) args w K
theorem M.cmp_Compare_int.rcall (a c args : List Value) (w : World) (K : KV) : callRT P (.func (.func F.cmp_Compare_int) a.toArray c.toArray) args w K = callT P F.cmp_Compare_int (a ++ args ++ c) w K := callR_fn Try.func106 (by kernel_rfl) (by kernel_rfl) a c args w K

def M.slices_Equal_api_Member_api_Member.j3 (a0 : Value) (x2 : List Value) (a1 : Value) (K2 : KL) (w : World) (K : KV) : Prop :=
  joinT (fun K4 =>
  drawT w fun w =>
  w = w ∧ w = w ∧ quietT (fun K' => iaT P T.sl_api_Member a0 (gv x2 2) w K') w fun t18 =>
  quietT (fun K' => ldT P T.api_Member t18 w K') w fun t19 =>
  w = w ∧ w = w ∧ quietT (fun K' => iaT P T.sl_api_Member a1 (gv x2 2) w K') w fun t22 =>
  quietT (fun K' => ldT P T.api_Member t22 w K') w fun t23 =>
  quietT (fun K' => binT P .neq T.api_Member (.tmp 19) (.tmp 23) t19 t23 w K') w fun t24 =>
  condT t24 (
  K (.bool false) w) (
  K4 [(gv x2 2), (gv x2 1)] w)) fun x4 w =>
  binT P .add T.int (.tmp 13) (.const (.int .i64 1)) (gv x2 2) (.int .i64 1) w fun t25 w =>
  K2 [(gv x4 0), (gv x4 1), t25] w
def M.slices_Equal_api_Member_api_Member.j0 (a0 : Value) (x0 : List Value) (a1 : Value) (w : World) (K : KV) : Prop :=
  joinT (fun K1 =>
  biT P .len #[T.sl_api_Member] T.int [false] [a0] w fun t12 w =>
  loopT [undef, (gv x0 0), (.int .i64 0)] w fun K2 x2 w =>
  binT P .lss T.int (.tmp 13) (.tmp 12) (gv x2 2) t12 w fun t14 w =>
  joinT (fun K3 =>
  condT t14 (
  K3 [] w) (
  K1 [t12, (gv x2 2), (gv x2 0), (gv x2 1)] w)) fun x3 w =>
  M.slices_Equal_api_Member_api_Member.j3 a0 x2 a1 K2 w K) fun x1 w =>
  K (.bool true) w
/-- slices.Equal[[]winnow/api.Member,winnow/api.Member] -/
def M.slices_Equal_api_Member_api_Member (a0 a1 : Value) (w : World) (K : KV) : Prop :=
  joinT (fun K0 =>
  biT P .len #[T.sl_api_Member] T.int [false] [a0] w fun t7 w =>
  biT P .len #[T.sl_api_Member] T.int [false] [a1] w fun t9 w =>
  binT P .neq T.int (.tmp 7) (.tmp 9) t7 t9 w fun t10 w =>
  condT t10 (
  K (.bool false) w) (
  K0 [(.bool false)] w)) fun x0 w =>
  M.slices_Equal_api_Member_api_Member.j0 a0 x0 a1 w K
def M.slices_Equal_api_Member_api_Member.L : List Nat := [0, 1, 4, 5, 13, 12]
def M.slices_Equal_api_Member_api_Member.pl : Nat → Plan := fun id => cond (Nat.beq id 6) ⟨(.go 0 (.go 1 (.go 2 (.go 3 (.go 4 (.go 5 (.go 6 (.go 7 (.go 8 .nil))))))))), [], false, [0, 0, 3, 7, 0, 0, 48, 112, 255]⟩ (⟨.nil, [], false, []⟩)
theorem M.slices_Equal_api_Member_api_Member.eq (a0 a1 : Value) (w : World) (K : KV) : M.slices_Equal_api_Member_api_Member a0 a1 w K = den P M.slices_Equal_api_Member_api_Member.L M.slices_Equal_api_Member_api_Member.pl (Try.f107.body.getD .skip) (argE [a0, a1]) w (bodyQ P Try.f107.results.toList K) := by kernel_rfl
theorem M.slices_Equal_api_Member_api_Member.ok : okFn M.slices_Equal_api_Member_api_Member.L M.slices_Equal_api_Member_api_Member.pl Try.f107 (Try.f107.body.getD .skip) 2 = true := by kernel_rfl
theorem M.slices_Equal_api_Member_api_Member.calls (a0 a1 : Value) {w : World} {K : KV} (h : M.slices_Equal_api_Member_api_Member a0 a1 w K) : callT P F.slices_Equal_api_Member_api_Member [a0, a1] w K :=
  callT_of_den (by kernel_rfl) Try.func107 (by kernel_rfl) M.slices_Equal_api_Member_api_Member.ok (M.slices_Equal_api_Member_api_Member.eq a0 a1 w K ▸ h)
theorem M.slices_Equal_api_Member_api_Member.fcall (args : List Value) (w : World) (K : KV) : fcallT P F.slices_Equal_api_Member_api_Member args w K = callT P F.slices_Equal_api_Member_api_Member args w K := fcallT_eq Try.func107 (by kernel_rfl) (by kernel_rfl) args w K
theorem M.slices_Equal_api_Member_api_Member.rcall (a c args : List Value) (w : World) (K : KV) : callRT P (.func (.func F.slices_Equal_api_Member_api_Member) a.toArray c.toArray) args w K = callT P F.slices_Equal_api_Member_api_Member (a ++ args ++ c) w K := callR_fn Try.func107 (by kernel_rfl) (by kernel_rfl) a c args w K

/-- winnow/message.Right -/
def M.message_Right (a0 : Value) (w : World) (K : KV) : Prop :=
  boxT P T.api_Packet a0 w fun t1 w =>
  ldT P T.api_Packet t1 w fun t4 w =>
  fcallT P F.message_thing [t4] w fun t5 w =>
  joinT (fun K0 =>
  drawT w fun w =>
  w = w ∧ quietT (fun K' => binT P .eql T.any (.tmp 6) (.const .nilIface) t5 .nilIface w K') w fun t7 =>
  w = w ∧ quietT (fun K' => guardT (isB t7 false) (fun K' => K' t5 w) w K') w fun t9 =>
  guardT (isB t7 false) (fun K' => fcallT P F.message_right [t9] w K') w fun t10 w =>
  quietT (fun K' => guardT (isB t7 false) (fun K' => unT P .not t10 w K') w K') w fun t11 =>
  quietT (fun K' => pickT t7 (.bool true) t11 w K') w fun t12 =>
  w = w ∧ quietT (fun K' => guardT (isB t12 false) (fun K' => ldT P T.api_Packet t1 w K') w K') w fun t14 =>
  quietT (fun K' => guardT (isB t12 false) (fun K' => K' t5 w) w K') w fun t15 =>
  guardT (isB t12 false) (fun K' => fcallT P F.message_packet [t15] w K') w fun t16 w =>
  stabT (fun K' => guardT (isB t12 false) (fun K' => ldT P T.api_Packet t1 w K') w K') w t14 ∧ guardT (isB t12 false) (fun K' => fcallT P F.message_alike [t14, t16] w K') w fun t17 w =>
  quietT (fun K' => guardT (isB t12 false) (fun K' => unT P .not t17 w K') w K') w fun t18 =>
  quietT (fun K' => pickT t12 (.bool true) t18 w K') w fun t19 =>
  condT t19 (
  K (.int .i64 6) w) (
  K0 [(.int .i64 0)] w)) fun x0 w =>
  K (.int .i64 0) w
def M.message_Right.L : List Nat := [0, 2, 3]
def M.message_Right.pl : Nat → Plan := fun id => cond (Nat.beq id 2) ⟨(.go 0 (.go 1 (.go 2 (.go 3 (.eff 4 (.go 5 (.go 6 (.go 7 (.go 8 (.go 9 (.eff 10 (.eff 11 (.go 12 (.go 13 .nil)) .stop) .stop)))))) .stop))))), [4, 10, 11], false, [0, 1, 3, 7, 15, 31, 63, 127, 255, 255, 767, 2047, 4095, 8191]⟩ (⟨.nil, [], false, []⟩)
theorem M.message_Right.eq (a0 : Value) (w : World) (K : KV) : M.message_Right a0 w K = den P M.message_Right.L M.message_Right.pl (Try.f108.body.getD .skip) (argE [a0]) w (bodyQ P Try.f108.results.toList K) := by kernel_rfl
theorem M.message_Right.ok : okFn M.message_Right.L M.message_Right.pl Try.f108 (Try.f108.body.getD .skip) 1 = true := by kernel_rfl
theorem M.message_Right.calls (a0 : Value) {w : World} {K : KV} (h : M.message_Right a0 w K) : callT P F.message_Right [a0] w K :=
  callT_of_den (by kernel_rfl) Try.func108 (by kernel_rfl) M.message_Right.ok (M.message_Right.eq a0 w K ▸ h)
theorem M.message_Right.fcall (args : List Value) (w : World) (K : KV) : fcallT P F.message_Right args w K = callT P F.message_Right args w K := fcallT_eq Try.func108 (by kernel_rfl) (by kernel_rfl) args w K
theorem M.message_Right.rcall (a c args : List Value) (w : World) (K : KV) : callRT P (.func (.func F.message_Right) a.toArray c.toArray) args w K = callT P F.message_Right (a ++ args ++ c) w K := callR_fn Try.func108 (by kernel_rfl) (by kernel_rfl) a c args w K

def M.slices_Grow_api_Member_api_Member.j0 (a0 : Value) (a1 : Value) (w : World) (K : KV) : Prop :=
  joinT (fun K1 =>
  biT P .cap #[T.sl_api_Member] T.int [false] [a0] w fun t10 w =>
  biT P .len #[T.sl_api_Member] T.int [false] [a0] w fun t12 w =>
  binT P .sub T.int (.tmp 10) (.tmp 12) t10 t12 w fun t13 w =>
  binT P .sub T.int (.tmp 8) (.tmp 13) a1 t13 w fun t14 w =>
  binT P .gtr T.int (.tmp 15) (.const (.int .i64 0)) t14 (.int .i64 0) w fun t16 w =>
  condT t16 (
  biT P .cap #[T.sl_api_Member] T.int [false] [a0] w fun t19 w =>
  slT P T.sl_api_Member a0 none (some t19) none w fun t20 w =>
  biT P .append #[T.sl_api_Member, T.int] T.sl_api_Member [false, false] [t20, t14] w fun t22 w =>
  biT P .len #[T.sl_api_Member] T.int [false] [a0] w fun t24 w =>
  slT P T.sl_api_Member t22 none (some t24) none w fun t25 w =>
  K1 [t14, t25] w) (
  K1 [t14, a0] w)) fun x1 w =>
  K (gv x1 1) w
/-- slices.Grow[[]winnow/api.Member,winnow/api.Member] -/
def M.slices_Grow_api_Member_api_Member (a0 a1 : Value) (w : World) (K : KV) : Prop :=
  joinT (fun K0 =>
  binT P .lss T.int (.tmp 5) (.const (.int .i64 0)) a1 (.int .i64 0) w fun t6 w =>
  condT t6 (
  mkiT P T.string (.string ⟨#[99, 97, 110, 110, 111, 116, 32, 98, 101, 32, 110, 101, 103, 97, 116, 105, 118, 101]⟩) w fun t7 w =>
  panicT w fun _ w =>
  K0 [] w) (
  K0 [] w)) fun x0 w =>
  M.slices_Grow_api_Member_api_Member.j0 a0 a1 w K
def M.slices_Grow_api_Member_api_Member.L : List Nat := [0, 1, 4]
def M.slices_Grow_api_Member_api_Member.pl : Nat → Plan := fun id => ⟨.nil, [], false, []⟩
theorem M.slices_Grow_api_Member_api_Member.eq (a0 a1 : Value) (w : World) (K : KV) : M.slices_Grow_api_Member_api_Member a0 a1 w K = den P M.slices_Grow_api_Member_api_Member.L M.slices_Grow_api_Member_api_Member.pl (Try.f109.body.getD .skip) (argE [a0, a1]) w (bodyQ P Try.f109.results.toList K) := by kernel_rfl
theorem M.slices_Grow_api_Member_api_Member.ok : okFn M.slices_Grow_api_Member_api_Member.L M.slices_Grow_api_Member_api_Member.pl Try.f109 (Try.f109.body.getD .skip) 2 = true := by kernel_rfl
theorem M.slices_Grow_api_Member_api_Member.calls (a0 a1 : Value) {w : World} {K : KV} (h : M.slices_Grow_api_Member_api_Member a0 a1 w K) : callT P F.slices_Grow_api_Member_api_Member [a0, a1] w K :=
  callT_of_den (by kernel_rfl) Try.func109 (by kernel_rfl) M.slices_Grow_api_Member_api_Member.ok (M.slices_Grow_api_Member_api_Member.eq a0 a1 w K ▸ h)
theorem M.slices_Grow_api_Member_api_Member.fcall (args : List Value) (w : World) (K : KV) : fcallT P F.slices_Grow_api_Member_api_Member args w K = callT P F.slices_Grow_api_Member_api_Member args w K := fcallT_eq Try.func109 (by kernel_rfl) (by kernel_rfl) args w K
theorem M.slices_Grow_api_Member_api_Member.rcall (a c args : List Value) (w : World) (K : KV) : callRT P (.func (.func F.slices_Grow_api_Member_api_Member) a.toArray c.toArray) args w K = callT P F.slices_Grow_api_Member_api_Member (a ++ args ++ c) w K := callR_fn Try.func109 (by kernel_rfl) (by kernel_rfl) a c args w K

/-- slices.Collect[uint64] -/
def M.slices_Collect_uint64 (a0 : Value) (w : World) (K : KV) : Prop :=
  fcallT P F.slices_AppendSeq_uint64_uint64 [(.slice none 0 0), a0] w fun t4 w =>
  K t4 w
def M.slices_Collect_uint64.L : List Nat := [0, 2]
def M.slices_Collect_uint64.pl : Nat → Plan := fun id => ⟨.nil, [], false, []⟩
theorem M.slices_Collect_uint64.eq (a0 : Value) (w : World) (K : KV) : M.slices_Collect_uint64 a0 w K = den P M.slices_Collect_uint64.L M.slices_Collect_uint64.pl (Try.f110.body.getD .skip) (argE [a0]) w (bodyQ P Try.f110.results.toList K) := by kernel_rfl
theorem M.slices_Collect_uint64.ok : okFn M.slices_Collect_uint64.L M.slices_Collect_uint64.pl Try.f110 (Try.f110.body.getD .skip) 1 = true := by kernel_rfl
theorem M.slices_Collect_uint64.calls (a0 : Value) {w : World} {K : KV} (h : M.slices_Collect_uint64 a0 w K) : callT P F.slices_Collect_uint64 [a0] w K :=
  callT_of_den (by kernel_rfl) Try.func110 (by kernel_rfl) M.slices_Collect_uint64.ok (M.slices_Collect_uint64.eq a0 w K ▸ h)
theorem M.slices_Collect_uint64.fcall (args : List Value) (w : World) (K : KV) : fcallT P F.slices_Collect_uint64 args w K = callT P F.slices_Collect_uint64 args w K := fcallT_eq Try.func110 (by kernel_rfl) (by kernel_rfl) args w K
theorem M.slices_Collect_uint64.rcall (a c args : List Value) (w : World) (K : KV) : callRT P (.func (.func F.slices_Collect_uint64) a.toArray c.toArray) args w K = callT P F.slices_Collect_uint64 (a ++ args ++ c) w K := callR_fn Try.func110 (by kernel_rfl) (by kernel_rfl) a c args w K

/-- slices.Sort[[]uint64,uint64] -/
def M.slices_Sort_uint64_uint64 (a0 : Value) (w : World) (K : KV) : Prop :=
  biT P .len #[T.sl_uint64] T.int [false] [a0] w fun t4 w =>
  cvT P T.int T.uint t4 w fun t8 w =>
  fcallT P F.math_bits_Len [t8] w fun t9 w =>
  fcallT P F.slices_pdqsortOrdered_uint64 [a0, (.int .i64 0), t4, t9] w fun t10 w =>
  K (.tuple #[]) w
def M.slices_Sort_uint64_uint64.L : List Nat := [0, 2]
def M.slices_Sort_uint64_uint64.pl : Nat → Plan := fun id => ⟨.nil, [], false, []⟩
theorem M.slices_Sort_uint64_uint64.eq (a0 : Value) (w : World) (K : KV) : M.slices_Sort_uint64_uint64 a0 w K = den P M.slices_Sort_uint64_uint64.L M.slices_Sort_uint64_uint64.pl (Try.f111.body.getD .skip) (argE [a0]) w (bodyQ P Try.f111.results.toList K) := by kernel_rfl
theorem M.slices_Sort_uint64_uint64.ok : okFn M.slices_Sort_uint64_uint64.L M.slices_Sort_uint64_uint64.pl Try.f111 (Try.f111.body.getD .skip) 1 = true := by kernel_rfl
theorem M.slices_Sort_uint64_uint64.calls (a0 : Value) {w : World} {K : KV} (h : M.slices_Sort_uint64_uint64 a0 w K) : callT P F.slices_Sort_uint64_uint64 [a0] w K :=
  callT_of_den (by kernel_rfl) Try.func111 (by kernel_rfl) M.slices_Sort_uint64_uint64.ok (M.slices_Sort_uint64_uint64.eq a0 w K ▸ h)
theorem M.slices_Sort_uint64_uint64.fcall (args : List Value) (w : World) (K : KV) : fcallT P F.slices_Sort_uint64_uint64 args w K = callT P F.slices_Sort_uint64_uint64 args w K := fcallT_eq Try.func111 (by kernel_rfl) (by kernel_rfl) args w K
theorem M.slices_Sort_uint64_uint64.rcall (a c args : List Value) (w : World) (K : KV) : callRT P (.func (.func F.slices_Sort_uint64_uint64) a.toArray c.toArray) args w K = callT P F.slices_Sort_uint64_uint64 (a ++ args ++ c) w K := callR_fn Try.func111 (by kernel_rfl) (by kernel_rfl) a c args w K

def M.maps_Keys_map_uint64_api_Member_uint64_api_Member_1.j0 (t5 : Value) (a0 : Value) (K0 : KL) (w : World) (K : KV) : Prop :=
  nxT P t5 false T._ w fun t6 w =>
  exT P t6 0 w fun t7 w =>
  joinT (fun K1 =>
  condT t7 (
  K1 [] w) (
  K (.tuple #[]) w)) fun x1 w =>
  enT P t5 w fun t8 w =>
  exT P t8 0 w fun t9 w =>
  callRT P a0 [t9] w fun t12 w =>
  unT P .not t12 w fun t13 w =>
  condT t13 (
  K (.tuple #[]) w) (
  K0 [t9] w)
/-- maps.Keys[map[uint64]winnow/api.Member,uint64,winnow/api.Member]$1 -/
def M.maps_Keys_map_uint64_api_Member_uint64_api_Member_1 (a0 a1 : Value) (w : World) (K : KV) : Prop :=
  ldT P T.map_uint64_api_Member a1 w fun t4 w =>
  rgT P T.map_uint64_api_Member t4 w fun t5 w =>
  loopT [undef] w fun K0 x0 w =>
  M.maps_Keys_map_uint64_api_Member_uint64_api_Member_1.j0 t5 a0 K0 w K
def M.maps_Keys_map_uint64_api_Member_uint64_api_Member_1.L : List Nat := [0, 1, 3, 5]
def M.maps_Keys_map_uint64_api_Member_uint64_api_Member_1.pl : Nat → Plan := fun id => ⟨.nil, [], false, []⟩
theorem M.maps_Keys_map_uint64_api_Member_uint64_api_Member_1.eq (a0 a1 : Value) (w : World) (K : KV) : M.maps_Keys_map_uint64_api_Member_uint64_api_Member_1 a0 a1 w K = den P M.maps_Keys_map_uint64_api_Member_uint64_api_Member_1.L M.maps_Keys_map_uint64_api_Member_uint64_api_Member_1.pl (Try.f112.body.getD .skip) (argE [a0, a1]) w (bodyQ P Try.f112.results.toList K) := by kernel_rfl
theorem M.maps_Keys_map_uint64_api_Member_uint64_api_Member_1.ok : okFn M.maps_Keys_map_uint64_api_Member_uint64_api_Member_1.L M.maps_Keys_map_uint64_api_Member_uint64_api_Member_1.pl Try.f112 (Try.f112.body.getD .skip) 2 = true := by kernel_rfl
theorem M.maps_Keys_map_uint64_api_Member_uint64_api_Member_1.calls (a0 a1 : Value) {w : World} {K : KV} (h : M.maps_Keys_map_uint64_api_Member_uint64_api_Member_1 a0 a1 w K) : callT P F.maps_Keys_map_uint64_api_Member_uint64_api_Member_1 [a0, a1] w K :=
  callT_of_den (by kernel_rfl) Try.func112 (by kernel_rfl) M.maps_Keys_map_uint64_api_Member_uint64_api_Member_1.ok (M.maps_Keys_map_uint64_api_Member_uint64_api_Member_1.eq a0 a1 w K ▸ h)
theorem M.maps_Keys_map_uint64_api_Member_uint64_api_Member_1.fcall (args : List Value) (w : World) (K : KV) : fcallT P F.maps_Keys_map_uint64_api_Member_uint64_api_Member_1 args w K = callT P F.maps_Keys_map_uint64_api_Member_uint64_api_Member_1 args w K := fcallT_eq Try.func112 (by kernel_rfl) (by kernel_rfl) args w K
theorem M.maps_Keys_map_uint64_api_Member_uint64_api_Member_1.rcall (a c args : List Value) (w : World) (K : KV) : callRT P (.func (.func F.maps_Keys_map_uint64_api_Member_uint64_api_Member_1) a.toArray c.toArray) args w K = callT P F.maps_Keys_map_uint64_api_Member_uint64_api_Member_1 (a ++ args ++ c) w K := callR_fn Try.func112 (by kernel_rfl) (by kernel_rfl) a c args w K

def M.slices_IndexFunc_api_Member_api_Member.j2 (a0 : Value) (x1 : List Value) (a1 : Value) (K1 : KL) (w : World) (K : KV) : Prop :=
  joinT (fun K3 =>
  iaT P T.sl_api_Member a0 (gv x1 2) w fun t14 w =>
  ldT P T.api_Member t14 w fun t15 w =>
  callRT P a1 [t15] w fun t16 w =>
  condT t16 (
  K (gv x1 2) w) (
  K3 [(gv x1 2), (gv x1 1)] w)) fun x3 w =>
  binT P .add T.int (.tmp 8) (.const (.int .i64 1)) (gv x1 2) (.int .i64 1) w fun t18 w =>
  K1 [(gv x3 0), (gv x3 1), t18] w
/-- slices.IndexFunc[[]winnow/api.Member,winnow/api.Member] -/
def M.slices_IndexFunc_api_Member_api_Member (a0 a1 : Value) (w : World) (K : KV) : Prop :=
  joinT (fun K0 =>
  biT P .len #[T.sl_api_Member] T.int [false] [a0] w fun t7 w =>
  loopT [undef, (.int .i64 0), (.int .i64 0)] w fun K1 x1 w =>
  binT P .lss T.int (.tmp 8) (.tmp 7) (gv x1 2) t7 w fun t9 w =>
  joinT (fun K2 =>
  condT t9 (
  K2 [] w) (
  K0 [t7, (gv x1 2), (gv x1 0), (gv x1 1)] w)) fun x2 w =>
  M.slices_IndexFunc_api_Member_api_Member.j2 a0 x1 a1 K1 w K) fun x0 w =>
  K (.int .i64 (-1)) w
def M.slices_IndexFunc_api_Member_api_Member.L : List Nat := [0, 1, 4, 5, 8, 7]
def M.slices_IndexFunc_api_Member_api_Member.pl : Nat → Plan := fun id => ⟨.nil, [], false, []⟩
theorem M.slices_IndexFunc_api_Member_api_Member.eq (a0 a1 : Value) (w : World) (K : KV) : M.slices_IndexFunc_api_Member_api_Member a0 a1 w K = den P M.slices_IndexFunc_api_Member_api_Member.L M.slices_IndexFunc_api_Member_api_Member.pl (Try.f113.body.getD .skip) (argE [a0, a1]) w (bodyQ P Try.f113.results.toList K) := by kernel_rfl
theorem M.slices_IndexFunc_api_Member_api_Member.ok : okFn M.slices_IndexFunc_api_Member_api_Member.L M.slices_IndexFunc_api_Member_api_Member.pl Try.f113 (Try.f113.body.getD .skip) 2 = true := by kernel_rfl
theorem M.slices_IndexFunc_api_Member_api_Member.calls (a0 a1 : Value) {w : World} {K : KV} (h : M.slices_IndexFunc_api_Member_api_Member a0 a1 w K) : callT P F.slices_IndexFunc_api_Member_api_Member [a0, a1] w K :=
  callT_of_den (by kernel_rfl) Try.func113 (by kernel_rfl) M.slices_IndexFunc_api_Member_api_Member.ok (M.slices_IndexFunc_api_Member_api_Member.eq a0 a1 w K ▸ h)
theorem M.slices_IndexFunc_api_Member_api_Member.fcall (args : List Value) (w : World) (K : KV) : fcallT P F.slices_IndexFunc_api_Member_api_Member args w K = callT P F.slices_IndexFunc_api_Member_api_Member args w K := fcallT_eq Try.func113 (by kernel_rfl) (by kernel_rfl) args w K
theorem M.slices_IndexFunc_api_Member_api_Member.rcall (a c args : List Value) (w : World) (K : KV) : callRT P (.func (.func F.slices_IndexFunc_api_Member_api_Member) a.toArray c.toArray) args w K = callT P F.slices_IndexFunc_api_Member_api_Member (a ++ args ++ c) w K := callR_fn Try.func113 (by kernel_rfl) (by kernel_rfl) a c args w K

/-- (*winnow/gossip.Node).own$1 -/
def M.pgossip_Node_own_1 (a0 a1 : Value) (w : World) (K : KV) : Prop :=
  boxT P T.api_Member a0 w fun t2 w =>
  drawT w fun w =>
  quietT (fun K' => faT P T.api_Member t2 0 w K') w fun t4 =>
  quietT (fun K' => ldT P T.uint64 t4 w K') w fun t5 =>
  quietT (fun K' => ldT P T.p_gossip_Node a1 w K') w fun t6 =>
  quietT (fun K' => nilT t6 w K') w fun t7 =>
  quietT (fun K' => faT P T.gossip_Node t7 0 w K') w fun t8 =>
  quietT (fun K' => ldT P T.uint64 t8 w K') w fun t9 =>
  quietT (fun K' => binT P .eql T.uint64 (.tmp 5) (.tmp 9) t5 t9 w K') w fun t10 =>
  K t10 w
def M.pgossip_Node_own_1.L : List Nat := [0, 1, 3]
def M.pgossip_Node_own_1.pl : Nat → Plan := fun id => cond (Nat.beq id 1) ⟨(.go 0 (.go 1 (.go 2 (.go 3 (.go 4 (.go 5 (.go 6 (.eff 7 .nil .stop)))))))), [7], false, [0, 1, 0, 4, 12, 28, 63, 127]⟩ (⟨.nil, [], false, []⟩)
theorem M.pgossip_Node_own_1.eq (a0 a1 : Value) (w : World) (K : KV) : M.pgossip_Node_own_1 a0 a1 w K = den P M.pgossip_Node_own_1.L M.pgossip_Node_own_1.pl (Try.f114.body.getD .skip) (argE [a0, a1]) w (bodyQ P Try.f114.results.toList K) := by kernel_rfl
theorem M.pgossip_Node_own_1.ok : okFn M.pgossip_Node_own_1.L M.pgossip_Node_own_1.pl Try.f114 (Try.f114.body.getD .skip) 2 = true := by kernel_rfl
theorem M.pgossip_Node_own_1.calls (a0 a1 : Value) {w : World} {K : KV} (h : M.pgossip_Node_own_1 a0 a1 w K) : callT P F.pgossip_Node_own_1 [a0, a1] w K :=
  callT_of_den (by kernel_rfl) Try.func114 (by kernel_rfl) M.pgossip_Node_own_1.ok (M.pgossip_Node_own_1.eq a0 a1 w K ▸ h)
theorem M.pgossip_Node_own_1.fcall (args : List Value) (w : World) (K : KV) : fcallT P F.pgossip_Node_own_1 args w K = callT P F.pgossip_Node_own_1 args w K := fcallT_eq Try.func114 (by kernel_rfl) (by kernel_rfl) args w K
theorem M.pgossip_Node_own_1.rcall (a c args : List Value) (w : World) (K : KV) : callRT P (.func (.func F.pgossip_Node_own_1) a.toArray c.toArray) args w K = callT P F.pgossip_Node_own_1 (a ++ args ++ c) w K := callR_fn Try.func114 (by kernel_rfl) (by kernel_rfl) a c args w K

/-- strings.HasPrefix -/
def M.strings_HasPrefix (a0 a1 : Value) (w : World) (K : KV) : Prop :=
  fcallT P F.internal_stringslite_HasPrefix [a0, a1] w fun t7 w =>
  K t7 w
def M.strings_HasPrefix.L : List Nat := [0, 1, 4]
def M.strings_HasPrefix.pl : Nat → Plan := fun id => ⟨.nil, [], false, []⟩
theorem M.strings_HasPrefix.eq (a0 a1 : Value) (w : World) (K : KV) : M.strings_HasPrefix a0 a1 w K = den P M.strings_HasPrefix.L M.strings_HasPrefix.pl (Try.f128.body.getD .skip) (argE [a0, a1]) w (bodyQ P Try.f128.results.toList K) := by kernel_rfl
theorem M.strings_HasPrefix.ok : okFn M.strings_HasPrefix.L M.strings_HasPrefix.pl Try.f128 (Try.f128.body.getD .skip) 2 = true := by kernel_rfl
theorem M.strings_HasPrefix.calls (a0 a1 : Value) {w : World} {K : KV} (h : M.strings_HasPrefix a0 a1 w K) : callT P F.strings_HasPrefix [a0, a1] w K :=
  callT_of_den (by kernel_rfl) Try.func128 (by kernel_rfl) M.strings_HasPrefix.ok (M.strings_HasPrefix.eq a0 a1 w K ▸ h)
theorem M.strings_HasPrefix.fcall (args : List Value) (w : World) (K : KV) : fcallT P F.strings_HasPrefix args w K = callT P F.strings_HasPrefix args w K := fcallT_eq Try.func128 (by kernel_rfl) (by kernel_rfl) args w K
theorem M.strings_HasPrefix.rcall (a c args : List Value) (w : World) (K : KV) : callRT P (.func (.func F.strings_HasPrefix) a.toArray c.toArray) args w K = callT P F.strings_HasPrefix (a ++ args ++ c) w K := callR_fn Try.func128 (by kernel_rfl) (by kernel_rfl) a c args w K

/-- cmp.isNaN[uint64] -/
def M.cmp_isNaN_uint64 (a0 : Value) (w : World) (K : KV) : Prop :=
  binT P .neq T.uint64 (.tmp 3) (.tmp 4) a0 a0 w fun t5 w =>
  K t5 w
def M.cmp_isNaN_uint64.L : List Nat := [0, 2]
def M.cmp_isNaN_uint64.pl : Nat → Plan := fun id => ⟨.nil, [], false, []⟩
theorem M.cmp_isNaN_uint64.eq (a0 : Value) (w : World) (K : KV) : M.cmp_isNaN_uint64 a0 w K = den P M.cmp_isNaN_uint64.L M.cmp_isNaN_uint64.pl (Try.f133.body.getD .skip) (argE [a0]) w (bodyQ P Try.f133.results.toList K) := by kernel_rfl
theorem M.cmp_isNaN_uint64.ok : okFn M.cmp_isNaN_uint64.L M.cmp_isNaN_uint64.pl Try.f133 (Try.f133.body.getD .skip) 1 = true := by kernel_rfl
theorem M.cmp_isNaN_uint64.calls (a0 : Value) {w : World} {K : KV} (h : M.cmp_isNaN_uint64 a0 w K) : callT P F.cmp_isNaN_uint64 [a0] w K :=
  callT_of_den (by kernel_rfl) Try.func133 (by kernel_rfl) M.cmp_isNaN_uint64.ok (M.cmp_isNaN_uint64.eq a0 w K ▸ h)
theorem M.cmp_isNaN_uint64.fcall (args : List Value) (w : World) (K : KV) : fcallT P F.cmp_isNaN_uint64 args w K = callT P F.cmp_isNaN_uint64 args w K := fcallT_eq Try.func133 (by kernel_rfl) (by kernel_rfl) args w K
theorem M.cmp_isNaN_uint64.rcall (a c args : List Value) (w : World) (K : KV) : callRT P (.func (.func F.cmp_isNaN_uint64) a.toArray c.toArray) args w K = callT P F.cmp_isNaN_uint64 (a ++ args ++ c) w K := callR_fn Try.func133 (by kernel_rfl) (by kernel_rfl) a c args w K

/-- cmp.isNaN[int] -/
def M.cmp_isNaN_int (a0 : Value) (w : World) (K : KV) : Prop :=
  binT P .neq T.int (.tmp 3) (.tmp 4) a0 a0 w fun t5 w =>
  K t5 w
def M.cmp_isNaN_int.L : List Nat := [0, 2]
def M.cmp_isNaN_int.pl : Nat → Plan := fun id => ⟨.nil, [], false, []⟩
theorem M.cmp_isNaN_int.eq (a0 : Value) (w : World) (K : KV) : M.cmp_isNaN_int a0 w K = den P M.cmp_isNaN_int.L M.cmp_isNaN_int.pl (Try.f134.body.getD .skip) (argE [a0]) w (bodyQ P Try.f134.results.toList K) := by kernel_rfl
theorem M.cmp_isNaN_int.ok : okFn M.cmp_isNaN_int.L M.cmp_isNaN_int.pl Try.f134 (Try.f134.body.getD .skip) 1 = true := by kernel_rfl
theorem M.cmp_isNaN_int.calls (a0 : Value) {w : World} {K : KV} (h : M.cmp_isNaN_int a0 w K) : callT P F.cmp_isNaN_int [a0] w K :=
  callT_of_den (by kernel_rfl) Try.func134 (by kernel_rfl) M.cmp_isNaN_int.ok (M.cmp_isNaN_int.eq a0 w K ▸ h)
theorem M.cmp_isNaN_int.fcall (args : List Value) (w : World) (K : KV) : fcallT P F.cmp_isNaN_int args w K = callT P F.cmp_isNaN_int args w K := fcallT_eq Try.func134 (by kernel_rfl) (by kernel_rfl) args w K
theorem M.cmp_isNaN_int.rcall (a c args : List Value) (w : World) (K : KV) : callRT P (.func (.func F.cmp_isNaN_int) a.toArray c.toArray) args w K = callT P F.cmp_isNaN_int (a ++ args ++ c) w K := callR_fn Try.func134 (by kernel_rfl) (by kernel_rfl) a c args w K

end Go.Proofs.Ytkjhekflgghbdaa
