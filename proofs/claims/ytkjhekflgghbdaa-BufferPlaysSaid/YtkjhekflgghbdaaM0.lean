/-
  Printed by wip/Shallow.lean: functions of the program, read shallow; each is what its code does. No condition.
-/
import Derived.Test.YtkjhekflgghbdaaN
set_option maxRecDepth 1000000
namespace Go.Proofs.Ytkjhekflgghbdaa
open Go.Eng

def M.winnowlaw16_BufferPlays.j8 (t80 : Value) (t29 : Value) (t13 : Value) (K7 : KL) (t61 : Value) (x8 : List Value) (t76 : Value) (x4 : List Value) (w : World) (K : KV) : Prop :=
  binT P .geq T.int (.tmp 90) (.const (.int .i64 0)) t80 (.int .i64 0) w fun t91 w =>
  condT t91 (
  drawT w fun w =>
  w = w ∧ quietT (fun K' => nilT t29 w K') w fun t93 =>
  quietT (fun K' => faT P T.winnowref16_Buffer t93 3 w K') w fun t94 =>
  quietT (fun K' => ldT P T.sl_winnowref16_Trace t94 w K') w fun t95 =>
  w = w ∧ quietT (fun K' => faT P T.winnowlaw16_Op t13 3 w K') w fun t97 =>
  quietT (fun K' => ldT P T.uint64 t97 w K') w fun t98 =>
  quietT (fun K' => iaT P T.sl_winnowref16_Trace t95 t80 w K') w fun t99 =>
  quietT (fun K' => faT P T.winnowref16_Trace t99 1 w K') w fun t100 =>
  stT P T.uint64 t100 t98 w fun _ w =>
  K7 [t13, t61, (gv x8 0), t76, t80, (gv x4 5)] w) (
  K7 [t13, t61, (gv x8 0), t76, t80, (gv x4 5)] w)
def M.winnowlaw16_BufferPlays.j7 (a3 : Value) (x4 : List Value) (t24 : Value) (t29 : Value) (K6 : KL) (x7 : List Value) (w : World) (K : KV) : Prop :=
  iaT P T.sl_winnowlaw16_Op a3 (gv x4 6) w fun t117 w =>
  faT P T.winnowlaw16_Op t117 3 w fun t118 w =>
  ldT P T.uint64 t118 w fun t119 w =>
  fcallT P F.winnowlaw16_same [t24, t29, t119] w fun t120 w =>
  unT P .not t120 w fun t121 w =>
  condT t121 (
  K (.bool false) w) (
  K6 [(gv x7 0), (gv x7 1), (gv x7 2), (gv x7 3), (gv x7 4), (gv x7 5)] w)
def M.winnowlaw16_BufferPlays.j5 (a3 : Value) (x4 : List Value) (t24 : Value) (t29 : Value) (K4 : KL) (w : World) (K : KV) : Prop :=
  joinT (fun K6 =>
  joinT (fun K7 =>
  iaT P T.sl_winnowlaw16_Op a3 (gv x4 6) w fun t56 w =>
  ldT P T.winnowlaw16_Op t56 w fun t57 w =>
  alT P T.winnowlaw16_Op w fun t13 w =>
  stT P T.winnowlaw16_Op t13 t57 w fun _ w =>
  faT P T.winnowlaw16_Op t13 0 w fun t58 w =>
  ldT P T.int t58 w fun t59 w =>
  binT P .eql T.int (.tmp 59) (.const (.int .i64 0)) t59 (.int .i64 0) w fun t61 w =>
  condT t61 (
  drawT w fun w =>
  w = w ∧ quietT (fun K' => faT P T.winnowlaw16_Op t13 1 w K') w fun t63 =>
  quietT (fun K' => ldT P T.api_Span t63 w K') w fun t64 =>
  quietT (fun K' => faT P T.winnowlaw16_Op t13 3 w K') w fun t65 =>
  quietT (fun K' => ldT P T.uint64 t65 w K') w fun t66 =>
  w = w ∧ quietT (fun K' => faT P T.winnowlaw16_Op t13 1 w K') w fun t69 =>
  quietT (fun K' => ldT P T.api_Span t69 w K') w fun t70 =>
  quietT (fun K' => faT P T.winnowlaw16_Op t13 3 w K') w fun t71 =>
  quietT (fun K' => ldT P T.uint64 t71 w K') w fun t72 =>
  fcallT P F.pbuffer_Buffer_Put [t24, t64, t66] w fun t67 w =>
  stabT (fun K' => ldT P T.uint64 t71 w K') w t72 ∧ stabT (fun K' => faT P T.winnowlaw16_Op t13 3 w K') w t71 ∧ stabT (fun K' => ldT P T.api_Span t69 w K') w t70 ∧ stabT (fun K' => faT P T.winnowlaw16_Op t13 1 w K') w t69 ∧ stabT (fun K' => K' t29 w) w t29 ∧ fcallT P F.pwinnowref16_Buffer_Put [t29, t70, t72] w fun t73 w =>
  quietT (fun K' => binT P .neq T.api_Kind (.tmp 67) (.tmp 73) t67 t73 w K') w fun t74 =>
  condT t74 (
  K (.bool false) w) (
  K7 [t13, t61, (gv x4 2), (gv x4 3), (gv x4 4), (gv x4 5)] w)) (
  binT P .eql T.int (.tmp 59) (.const (.int .i64 1)) t59 (.int .i64 1) w fun t76 w =>
  condT t76 (
  faT P T.winnowlaw16_Op t13 2 w fun t78 w =>
  ldT P T.uint64 t78 w fun t79 w =>
  fcallT P F.pwinnowref16_Buffer_Find [t29, t79] w fun t80 w =>
  joinT (fun K8 =>
  faT P T.winnowlaw16_Op t13 2 w fun t82 w =>
  ldT P T.uint64 t82 w fun t83 w =>
  faT P T.winnowlaw16_Op t13 3 w fun t84 w =>
  ldT P T.uint64 t84 w fun t85 w =>
  fcallT P F.pbuffer_Buffer_Delay [t24, t83, t85] w fun t86 w =>
  binT P .geq T.int (.tmp 87) (.const (.int .i64 0)) t80 (.int .i64 0) w fun t88 w =>
  binT P .neq T.bool (.tmp 86) (.tmp 88) t86 t88 w fun t89 w =>
  condT t89 (
  K (.bool false) w) (
  K8 [(gv x4 2)] w)) fun x8 w =>
  M.winnowlaw16_BufferPlays.j8 t80 t29 t13 K7 t61 x8 t76 x4 w K) (
  binT P .eql T.int (.tmp 59) (.const (.int .i64 2)) t59 (.int .i64 2) w fun t102 w =>
  condT t102 (
  drawT w fun w =>
  w = w ∧ quietT (fun K' => faT P T.winnowlaw16_Op t13 2 w K') w fun t104 =>
  quietT (fun K' => ldT P T.uint64 t104 w K') w fun t105 =>
  w = w ∧ quietT (fun K' => faT P T.winnowlaw16_Op t13 2 w K') w fun t108 =>
  quietT (fun K' => ldT P T.uint64 t108 w K') w fun t109 =>
  fcallT P F.pbuffer_Buffer_Take [t24, t105] w fun t106 w =>
  stabT (fun K' => ldT P T.uint64 t108 w K') w t109 ∧ stabT (fun K' => faT P T.winnowlaw16_Op t13 2 w K') w t108 ∧ stabT (fun K' => K' t29 w) w t29 ∧ fcallT P F.pwinnowref16_Buffer_Take [t29, t109] w fun t110 w =>
  fcallT P F.winnowref03_Spans [t106, t110] w fun t111 w =>
  quietT (fun K' => unT P .not t111 w K') w fun t112 =>
  condT t112 (
  K (.bool false) w) (
  K7 [t13, t61, (gv x4 2), t76, (gv x4 4), t102] w)) (
  K7 [t13, t61, (gv x4 2), t76, (gv x4 4), t102] w)))) fun x7 w =>
  M.winnowlaw16_BufferPlays.j7 a3 x4 t24 t29 K6 x7 w K) fun x6 w =>
  binT P .add T.int (.tmp 52) (.const (.int .i64 1)) (gv x4 6) (.int .i64 1) w fun t53 w =>
  K4 [(gv x6 0), (gv x6 1), (gv x6 2), (gv x6 3), (gv x6 4), (gv x6 5), t53] w
def M.winnowlaw16_BufferPlays.j4 (a3 : Value) (x4 : List Value) (K3 : KL) (t24 : Value) (t29 : Value) (K4 : KL) (w : World) (K : KV) : Prop :=
  joinT (fun K5 =>
  biT P .len #[T.sl_winnowlaw16_Op] T.int [false] [a3] w fun t50 w =>
  binT P .lss T.int (.tmp 48) (.tmp 50) (gv x4 6) t50 w fun t51 w =>
  condT t51 (
  K5 [] w) (
  K3 [(gv x4 6), (gv x4 0), (gv x4 1), (gv x4 2), (gv x4 3), (gv x4 4), (gv x4 5)] w)) fun x5 w =>
  M.winnowlaw16_BufferPlays.j5 a3 x4 t24 t29 K4 w K
def M.winnowlaw16_BufferPlays.j1 (t29 : Value) (x1 : List Value) (a3 : Value) (t24 : Value) (w : World) (K : KV) : Prop :=
  joinT (fun K2 =>
  binT P .eql T.p_winnowref16_Buffer (.tmp 46) (.const (.pointer none)) t29 (.pointer none) w fun t47 w =>
  condT t47 (
  K (.bool true) w) (
  K2 [(gv x1 0)] w)) fun x2 w =>
  joinT (fun K3 =>
  loopT [undef, undef, (gv x2 0), undef, undef, undef, (.int .i64 0)] w fun K4 x4 w =>
  M.winnowlaw16_BufferPlays.j4 a3 x4 K3 t24 t29 K4 w K) fun x3 w =>
  K (.bool true) w
def M.winnowlaw16_BufferPlays.j0 (a0 : Value) (a1 : Value) (a2 : Value) (x0 : List Value) (a3 : Value) (w : World) (K : KV) : Prop :=
  fcallT P F.buffer_New [a0, a1, a2] w fun t23 w =>
  exT P t23 0 w fun t24 w =>
  exT P t23 1 w fun t25 w =>
  fcallT P F.winnowref16_New [a0, a1, a2] w fun t29 w =>
  joinT (fun K1 =>
  binT P .eql T.p_winnowref16_Buffer (.tmp 30) (.const (.pointer none)) t29 (.pointer none) w fun t31 w =>
  binT P .eql T.api_Kind (.tmp 32) (.const (.int .i64 1)) t25 (.int .i64 1) w fun t33 w =>
  binT P .neq T.bool (.tmp 31) (.tmp 33) t31 t33 w fun t34 w =>
  guardT (isB t34 false) (fun K' => K' t24 w) w fun t36 w =>
  guardT (isB t34 false) (fun K' => binT P .eql T.p_buffer_Buffer (.tmp 36) (.const (.pointer none)) t36 (.pointer none) w K') w fun t37 w =>
  guardT (isB t34 false) (fun K' => K' t29 w) w fun t38 w =>
  guardT (isB t34 false) (fun K' => binT P .eql T.p_winnowref16_Buffer (.tmp 38) (.const (.pointer none)) t38 (.pointer none) w K') w fun t39 w =>
  guardT (isB t34 false) (fun K' => binT P .neq T.bool (.tmp 37) (.tmp 39) t37 t39 w K') w fun t40 w =>
  pickT t34 (.bool true) t40 w fun t41 w =>
  guardT (isB t41 false) (fun K' => fcallT P F.winnowlaw16_alive [] w K') w fun t43 w =>
  guardT (isB t41 false) (fun K' => unT P .not t43 w K') w fun t44 w =>
  pickT t41 (.bool true) t44 w fun t45 w =>
  condT t45 (
  K (.bool false) w) (
  K1 [(gv x0 0)] w)) fun x1 w =>
  M.winnowlaw16_BufferPlays.j1 t29 x1 a3 t24 w K
/-- winnow/winnowlaw16.BufferPlays -/
def M.winnowlaw16_BufferPlays (a0 a1 a2 a3 : Value) (w : World) (K : KV) : Prop :=
  joinT (fun K0 =>
  fcallT P F.winnowlaw16_light [a3] w fun t16 w =>
  unT P .not t16 w fun t17 w =>
  condT t17 (
  fcallT P F.winnowlaw16_alive [] w fun t18 w =>
  K t18 w) (
  K0 [(.bool false)] w)) fun x0 w =>
  M.winnowlaw16_BufferPlays.j0 a0 a1 a2 x0 a3 w K
def M.winnowlaw16_BufferPlays.L : List Nat := [0, 1, 2, 3, 8, 9, 10, 11, 12, 60, 75, 14, 101, 13]
def M.winnowlaw16_BufferPlays.pl : Nat → Plan := fun id => cond (Nat.beq id 15) ⟨(.go 0 (.go 1 (.go 2 (.go 3 (.go 4 (.go 6 (.go 7 (.go 8 (.go 9 (.go 10 (.eff 5 (.eff 11 (.go 12 .nil) .stop) .stop))))))))))), [5, 11], false, [0, 0, 2, 0, 8, 31, 0, 0, 128, 0, 512, 2047, 4095]⟩ (cond (Nat.beq id 22) ⟨(.go 0 (.go 1 (.go 2 (.go 3 (.go 4 (.go 5 (.go 6 (.go 7 (.go 8 (.eff 9 .nil .stop)))))))))), [9], false, [0, 1, 3, 7, 0, 0, 32, 127, 255, 511]⟩ (cond (Nat.beq id 24) ⟨(.go 0 (.go 1 (.go 2 (.go 4 (.go 5 (.go 6 (.eff 3 (.eff 7 (.eff 8 (.go 9 .nil) .stop) .stop) .stop))))))), [3, 7, 8], false, [0, 0, 2, 7, 0, 0, 32, 127, 255, 511]⟩ (⟨.nil, [], false, []⟩)))
theorem M.winnowlaw16_BufferPlays.eq (a0 a1 a2 a3 : Value) (w : World) (K : KV) : M.winnowlaw16_BufferPlays a0 a1 a2 a3 w K = den P M.winnowlaw16_BufferPlays.L M.winnowlaw16_BufferPlays.pl (Try.f3.body.getD .skip) (argE [a0, a1, a2, a3]) w (bodyQ P Try.f3.results.toList K) := by kernel_rfl
theorem M.winnowlaw16_BufferPlays.ok : okFn M.winnowlaw16_BufferPlays.L M.winnowlaw16_BufferPlays.pl Try.f3 (Try.f3.body.getD .skip) 4 = true := by kernel_rfl
theorem M.winnowlaw16_BufferPlays.calls (a0 a1 a2 a3 : Value) {w : World} {K : KV} (h : M.winnowlaw16_BufferPlays a0 a1 a2 a3 w K) : callT P F.winnowlaw16_BufferPlays [a0, a1, a2, a3] w K :=
  callT_of_den (by kernel_rfl) Try.func3 (by kernel_rfl) M.winnowlaw16_BufferPlays.ok (M.winnowlaw16_BufferPlays.eq a0 a1 a2 a3 w K ▸ h)
theorem M.winnowlaw16_BufferPlays.fcall (args : List Value) (w : World) (K : KV) : fcallT P F.winnowlaw16_BufferPlays args w K = callT P F.winnowlaw16_BufferPlays args w K := fcallT_eq Try.func3 (by kernel_rfl) (by kernel_rfl) args w K
theorem M.winnowlaw16_BufferPlays.rcall (a c args : List Value) (w : World) (K : KV) : callRT P (.func (.func F.winnowlaw16_BufferPlays) a.toArray c.toArray) args w K = callT P F.winnowlaw16_BufferPlays (a ++ args ++ c) w K := callR_fn Try.func3 (by kernel_rfl) (by kernel_rfl) a c args w K

def M.winnowlaw16_light.j3 (a0 : Value) (x2 : List Value) (K2 : KL) (w : World) (K : KV) : Prop :=
  joinT (fun K4 =>
  iaT P T.sl_winnowlaw16_Op a0 (gv x2 1) w fun t15 w =>
  faT P T.winnowlaw16_Op t15 1 w fun t16 w =>
  faT P T.api_Span t16 6 w fun t17 w =>
  ldT P T.string t17 w fun t18 w =>
  biT P .len #[T.string] T.int [false] [t18] w fun t19 w =>
  binT P .gtr T.int (.tmp 19) (.const (.int .i64 200)) t19 (.int .i64 200) w fun t20 w =>
  guardT (isB t20 false) (fun K' => K' a0 w) w fun t22 w =>
  guardT (isB t20 false) (fun K' => K' (gv x2 1) w) w fun t23 w =>
  guardT (isB t20 false) (fun K' => iaT P T.sl_winnowlaw16_Op t22 t23 w K') w fun t24 w =>
  guardT (isB t20 false) (fun K' => faT P T.winnowlaw16_Op t24 1 w K') w fun t25 w =>
  guardT (isB t20 false) (fun K' => faT P T.api_Span t25 5 w K') w fun t26 w =>
  guardT (isB t20 false) (fun K' => ldT P T.string t26 w K') w fun t27 w =>
  guardT (isB t20 false) (fun K' => biT P .len #[T.string] T.int [false] [t27] w K') w fun t28 w =>
  guardT (isB t20 false) (fun K' => binT P .gtr T.int (.tmp 28) (.const (.int .i64 200)) t28 (.int .i64 200) w K') w fun t29 w =>
  pickT t20 (.bool true) t29 w fun t30 w =>
  condT t30 (
  K (.bool false) w) (
  K4 [(gv x2 0)] w)) fun x4 w =>
  binT P .add T.int (.tmp 11) (.const (.int .i64 1)) (gv x2 1) (.int .i64 1) w fun t12 w =>
  K2 [(gv x4 0), t12] w
def M.winnowlaw16_light.j0 (x0 : List Value) (a0 : Value) (w : World) (K : KV) : Prop :=
  joinT (fun K1 =>
  loopT [(gv x0 0), (.int .i64 0)] w fun K2 x2 w =>
  joinT (fun K3 =>
  biT P .len #[T.sl_winnowlaw16_Op] T.int [false] [a0] w fun t9 w =>
  binT P .lss T.int (.tmp 7) (.tmp 9) (gv x2 1) t9 w fun t10 w =>
  condT t10 (
  K3 [] w) (
  K1 [(gv x2 1), (gv x2 0)] w)) fun x3 w =>
  M.winnowlaw16_light.j3 a0 x2 K2 w K) fun x1 w =>
  K (.bool true) w
/-- winnow/winnowlaw16.light -/
def M.winnowlaw16_light (a0 : Value) (w : World) (K : KV) : Prop :=
  joinT (fun K0 =>
  biT P .len #[T.sl_winnowlaw16_Op] T.int [false] [a0] w fun t5 w =>
  binT P .gtr T.int (.tmp 5) (.const (.int .i64 200)) t5 (.int .i64 200) w fun t6 w =>
  condT t6 (
  K (.bool false) w) (
  K0 [(.bool false)] w)) fun x0 w =>
  M.winnowlaw16_light.j0 x0 a0 w K
def M.winnowlaw16_light.L : List Nat := [0, 2, 3]
def M.winnowlaw16_light.pl : Nat → Plan := fun id => ⟨.nil, [], false, []⟩
theorem M.winnowlaw16_light.eq (a0 : Value) (w : World) (K : KV) : M.winnowlaw16_light a0 w K = den P M.winnowlaw16_light.L M.winnowlaw16_light.pl (Try.f14.body.getD .skip) (argE [a0]) w (bodyQ P Try.f14.results.toList K) := by kernel_rfl
theorem M.winnowlaw16_light.ok : okFn M.winnowlaw16_light.L M.winnowlaw16_light.pl Try.f14 (Try.f14.body.getD .skip) 1 = true := by kernel_rfl
theorem M.winnowlaw16_light.calls (a0 : Value) {w : World} {K : KV} (h : M.winnowlaw16_light a0 w K) : callT P F.winnowlaw16_light [a0] w K :=
  callT_of_den (by kernel_rfl) Try.func14 (by kernel_rfl) M.winnowlaw16_light.ok (M.winnowlaw16_light.eq a0 w K ▸ h)
theorem M.winnowlaw16_light.fcall (args : List Value) (w : World) (K : KV) : fcallT P F.winnowlaw16_light args w K = callT P F.winnowlaw16_light args w K := fcallT_eq Try.func14 (by kernel_rfl) (by kernel_rfl) args w K
theorem M.winnowlaw16_light.rcall (a c args : List Value) (w : World) (K : KV) : callRT P (.func (.func F.winnowlaw16_light) a.toArray c.toArray) args w K = callT P F.winnowlaw16_light (a ++ args ++ c) w K := callR_fn Try.func14 (by kernel_rfl) (by kernel_rfl) a c args w K

def M.winnowlaw16_alive.j0 (t12 : Value) (w : World) (K : KV) : Prop :=
  bldT P T.api_Span #[(0, (.int .u64 1)), (1, (.int .u64 1)), (5, (.string ⟨#[97]⟩)), (6, (.string ⟨#[98]⟩))] w fun t20 w =>
  alT P T.api_Span w fun t3 w =>
  stT P T.api_Span t3 t20 w fun _ w =>
  ldT P T.api_Span t3 w fun t22 w =>
  fcallT P F.pbuffer_Buffer_Put [t12, t22, (.int .u64 0)] w fun t23 w =>
  faT P T.api_Span t3 0 w fun t24 w =>
  stT P T.uint64 t24 (.int .u64 2) w fun _ w =>
  ldT P T.api_Span t3 w fun t26 w =>
  fcallT P F.pbuffer_Buffer_Put [t12, t26, (.int .u64 0)] w fun t27 w =>
  faT P T.api_Span t3 0 w fun t28 w =>
  stT P T.uint64 t28 (.int .u64 1) w fun _ w =>
  faT P T.api_Span t3 1 w fun t29 w =>
  stT P T.uint64 t29 (.int .u64 2) w fun _ w =>
  ldT P T.api_Span t3 w fun t31 w =>
  fcallT P F.pbuffer_Buffer_Put [t12, t31, (.int .u64 0)] w fun t32 w =>
  fcallT P F.pbuffer_Buffer_Get [t12, (.int .u64 1)] w fun t35 w =>
  exT P t35 0 w fun t36 w =>
  exT P t35 1 w fun t37 w =>
  exT P t35 2 w fun t38 w =>
  binT P .eql T.api_Kind (.tmp 39) (.const (.int .i64 0)) t23 (.int .i64 0) w fun t40 w =>
  guardT (isB t40 true) (fun K' => K' t27 w) w fun t42 w =>
  guardT (isB t40 true) (fun K' => binT P .eql T.api_Kind (.tmp 42) (.const (.int .i64 8)) t42 (.int .i64 8) w K') w fun t43 w =>
  pickT t40 t43 (.bool false) w fun t44 w =>
  guardT (isB t44 true) (fun K' => K' t32 w) w fun t46 w =>
  guardT (isB t44 true) (fun K' => binT P .eql T.api_Kind (.tmp 46) (.const (.int .i64 9)) t46 (.int .i64 9) w K') w fun t47 w =>
  pickT t44 t47 (.bool false) w fun t48 w =>
  guardT (isB t48 true) (fun K' => K' t36 w) w fun t50 w =>
  guardT (isB t48 true) (fun K' => biT P .len #[T.sl_api_Span] T.int [false] [t50] w K') w fun t51 w =>
  guardT (isB t48 true) (fun K' => binT P .eql T.int (.tmp 51) (.const (.int .i64 1)) t51 (.int .i64 1) w K') w fun t52 w =>
  pickT t48 t52 (.bool false) w fun t53 w =>
  guardT (isB t53 true) (fun K' => K' t37 w) w fun t55 w =>
  pickT t53 t55 (.bool false) w fun t56 w =>
  guardT (isB t56 true) (fun K' => K' t38 w) w fun t58 w =>
  pickT t56 t58 (.bool false) w fun t59 w =>
  guardT (isB t59 true) (fun K' => K' t12 w) w fun t61 w =>
  guardT (isB t59 true) (fun K' => fcallT P F.pbuffer_Buffer_Due [t61, (.int .u64 4)] w K') w fun t62 w =>
  guardT (isB t59 true) (fun K' => biT P .len #[T.sl_uint64] T.int [false] [t62] w K') w fun t63 w =>
  guardT (isB t59 true) (fun K' => binT P .eql T.int (.tmp 63) (.const (.int .i64 0)) t63 (.int .i64 0) w K') w fun t64 w =>
  pickT t59 t64 (.bool false) w fun t65 w =>
  guardT (isB t65 true) (fun K' => K' t12 w) w fun t67 w =>
  guardT (isB t65 true) (fun K' => fcallT P F.pbuffer_Buffer_Due [t67, (.int .u64 5)] w K') w fun t68 w =>
  guardT (isB t65 true) (fun K' => biT P .len #[T.sl_uint64] T.int [false] [t68] w K') w fun t69 w =>
  guardT (isB t65 true) (fun K' => binT P .eql T.int (.tmp 69) (.const (.int .i64 1)) t69 (.int .i64 1) w K') w fun t70 w =>
  pickT t65 t70 (.bool false) w fun t71 w =>
  K t71 w
/-- winnow/winnowlaw16.alive -/
def M.winnowlaw16_alive (w : World) (K : KV) : Prop :=
  fcallT P F.buffer_New [(.int .i64 1), (.int .i64 1), (.int .u64 5)] w fun t11 w =>
  exT P t11 0 w fun t12 w =>
  exT P t11 1 w fun t13 w =>
  joinT (fun K0 =>
  binT P .neq T.api_Kind (.tmp 14) (.const (.int .i64 0)) t13 (.int .i64 0) w fun t15 w =>
  guardT (isB t15 false) (fun K' => K' t12 w) w fun t17 w =>
  guardT (isB t15 false) (fun K' => binT P .eql T.p_buffer_Buffer (.tmp 17) (.const (.pointer none)) t17 (.pointer none) w K') w fun t18 w =>
  pickT t15 (.bool true) t18 w fun t19 w =>
  condT t19 (
  K (.bool false) w) (
  K0 [(.bool false)] w)) fun x0 w =>
  M.winnowlaw16_alive.j0 t12 w K
def M.winnowlaw16_alive.L : List Nat := [0, 1, 2, 4, 5, 6, 7, 8, 9]
def M.winnowlaw16_alive.pl : Nat → Plan := fun id => ⟨.nil, [], false, []⟩
theorem M.winnowlaw16_alive.eq (w : World) (K : KV) : M.winnowlaw16_alive  w K = den P M.winnowlaw16_alive.L M.winnowlaw16_alive.pl (Try.f15.body.getD .skip) (argE []) w (bodyQ P Try.f15.results.toList K) := by kernel_rfl
theorem M.winnowlaw16_alive.ok : okFn M.winnowlaw16_alive.L M.winnowlaw16_alive.pl Try.f15 (Try.f15.body.getD .skip) 0 = true := by kernel_rfl
theorem M.winnowlaw16_alive.calls {w : World} {K : KV} (h : M.winnowlaw16_alive  w K) : callT P F.winnowlaw16_alive [] w K :=
  callT_of_den (by kernel_rfl) Try.func15 (by kernel_rfl) M.winnowlaw16_alive.ok (M.winnowlaw16_alive.eq  w K ▸ h)
theorem M.winnowlaw16_alive.fcall (args : List Value) (w : World) (K : KV) : fcallT P F.winnowlaw16_alive args w K = callT P F.winnowlaw16_alive args w K := fcallT_eq Try.func15 (by kernel_rfl) (by kernel_rfl) args w K
theorem M.winnowlaw16_alive.rcall (a c args : List Value) (w : World) (K : KV) : callRT P (.func (.func F.winnowlaw16_alive) a.toArray c.toArray) args w K = callT P F.winnowlaw16_alive (a ++ args ++ c) w K := callR_fn Try.func15 (by kernel_rfl) (by kernel_rfl) a c args w K

/-- winnow/buffer.New -/
def M.buffer_New (a0 a1 a2 : Value) (w : World) (K : KV) : Prop :=
  joinT (fun K0 =>
  joinT (fun K1 =>
  binT P .lss T.int (.tmp 9) (.const (.int .i64 1)) a0 (.int .i64 1) w fun t10 w =>
  condT t10 (
  K1 [t10] w) (
  binT P .gtr T.int (.tmp 11) (.const (.int .i64 64)) a0 (.int .i64 64) w fun t12 w =>
  condT t12 (
  K1 [t12] w) (
  binT P .lss T.int (.tmp 13) (.const (.int .i64 1)) a1 (.int .i64 1) w fun t14 w =>
  condT t14 (
  K1 [t14] w) (
  binT P .gtr T.int (.tmp 15) (.const (.int .i64 16)) a1 (.int .i64 16) w fun t16 w =>
  condT t16 (
  K1 [t16] w) (
  binT P .gtr T.uint64 (.tmp 17) (.const (.int .u64 1099511627776)) a2 (.int .u64 1099511627776) w fun t18 w =>
  K1 [t18] w))))) fun x1 w =>
  condT (gv x1 0) (
  K (.tuple #[(.pointer none), (.int .i64 1)]) w) (
  K0 [(gv x1 0), (.pointer none), (.int .i64 0)] w)) fun x0 w =>
  mkmT P T.map_uint64_p_buffer_entry none w fun t22 w =>
  bldT P T.buffer_Buffer #[(1, a0), (2, a1), (3, a2), (4, t22)] w fun t23 w =>
  boxT P T.buffer_Buffer t23 w fun t24 w =>
  K (.tuple #[t24, (.int .i64 0)]) w
def M.buffer_New.L : List Nat := [0, 1, 2, 6, 7, 8]
def M.buffer_New.pl : Nat → Plan := fun id => ⟨.nil, [], false, []⟩
theorem M.buffer_New.eq (a0 a1 a2 : Value) (w : World) (K : KV) : M.buffer_New a0 a1 a2 w K = den P M.buffer_New.L M.buffer_New.pl (Try.f16.body.getD .skip) (argE [a0, a1, a2]) w (bodyQ P Try.f16.results.toList K) := by kernel_rfl
theorem M.buffer_New.ok : okFn M.buffer_New.L M.buffer_New.pl Try.f16 (Try.f16.body.getD .skip) 3 = true := by kernel_rfl
theorem M.buffer_New.calls (a0 a1 a2 : Value) {w : World} {K : KV} (h : M.buffer_New a0 a1 a2 w K) : callT P F.buffer_New [a0, a1, a2] w K :=
  callT_of_den (by kernel_rfl) Try.func16 (by kernel_rfl) M.buffer_New.ok (M.buffer_New.eq a0 a1 a2 w K ▸ h)
theorem M.buffer_New.fcall (args : List Value) (w : World) (K : KV) : fcallT P F.buffer_New args w K = callT P F.buffer_New args w K := fcallT_eq Try.func16 (by kernel_rfl) (by kernel_rfl) args w K
theorem M.buffer_New.rcall (a c args : List Value) (w : World) (K : KV) : callRT P (.func (.func F.buffer_New) a.toArray c.toArray) args w K = callT P F.buffer_New (a ++ args ++ c) w K := callR_fn Try.func16 (by kernel_rfl) (by kernel_rfl) a c args w K

/-- winnow/winnowref16.New -/
def M.winnowref16_New (a0 a1 a2 : Value) (w : World) (K : KV) : Prop :=
  joinT (fun K0 =>
  binT P .lss T.int (.tmp 7) (.const (.int .i64 1)) a0 (.int .i64 1) w fun t8 w =>
  guardT (isB t8 false) (fun K' => K' a0 w) w fun t10 w =>
  guardT (isB t8 false) (fun K' => binT P .gtr T.int (.tmp 10) (.const (.int .i64 64)) t10 (.int .i64 64) w K') w fun t11 w =>
  pickT t8 (.bool true) t11 w fun t12 w =>
  guardT (isB t12 false) (fun K' => K' a1 w) w fun t14 w =>
  guardT (isB t12 false) (fun K' => binT P .lss T.int (.tmp 14) (.const (.int .i64 1)) t14 (.int .i64 1) w K') w fun t15 w =>
  pickT t12 (.bool true) t15 w fun t16 w =>
  guardT (isB t16 false) (fun K' => K' a1 w) w fun t18 w =>
  guardT (isB t16 false) (fun K' => binT P .gtr T.int (.tmp 18) (.const (.int .i64 16)) t18 (.int .i64 16) w K') w fun t19 w =>
  pickT t16 (.bool true) t19 w fun t20 w =>
  guardT (isB t20 false) (fun K' => K' a2 w) w fun t22 w =>
  guardT (isB t20 false) (fun K' => binT P .gtr T.uint64 (.tmp 22) (.const (.int .u64 1099511627776)) t22 (.int .u64 1099511627776) w K') w fun t23 w =>
  pickT t20 (.bool true) t23 w fun t24 w =>
  condT t24 (
  K (.pointer none) w) (
  K0 [(.pointer none)] w)) fun x0 w =>
  bldT P T.winnowref16_Buffer #[(0, a0), (1, a1), (2, a2)] w fun t28 w =>
  boxT P T.winnowref16_Buffer t28 w fun t29 w =>
  K t29 w
def M.winnowref16_New.L : List Nat := [0, 1, 2, 6]
def M.winnowref16_New.pl : Nat → Plan := fun id => ⟨.nil, [], false, []⟩
theorem M.winnowref16_New.eq (a0 a1 a2 : Value) (w : World) (K : KV) : M.winnowref16_New a0 a1 a2 w K = den P M.winnowref16_New.L M.winnowref16_New.pl (Try.f17.body.getD .skip) (argE [a0, a1, a2]) w (bodyQ P Try.f17.results.toList K) := by kernel_rfl
theorem M.winnowref16_New.ok : okFn M.winnowref16_New.L M.winnowref16_New.pl Try.f17 (Try.f17.body.getD .skip) 3 = true := by kernel_rfl
theorem M.winnowref16_New.calls (a0 a1 a2 : Value) {w : World} {K : KV} (h : M.winnowref16_New a0 a1 a2 w K) : callT P F.winnowref16_New [a0, a1, a2] w K :=
  callT_of_den (by kernel_rfl) Try.func17 (by kernel_rfl) M.winnowref16_New.ok (M.winnowref16_New.eq a0 a1 a2 w K ▸ h)
theorem M.winnowref16_New.fcall (args : List Value) (w : World) (K : KV) : fcallT P F.winnowref16_New args w K = callT P F.winnowref16_New args w K := fcallT_eq Try.func17 (by kernel_rfl) (by kernel_rfl) args w K
theorem M.winnowref16_New.rcall (a c args : List Value) (w : World) (K : KV) : callRT P (.func (.func F.winnowref16_New) a.toArray c.toArray) args w K = callT P F.winnowref16_New (a ++ args ++ c) w K := callR_fn Try.func17 (by kernel_rfl) (by kernel_rfl) a c args w K

def M.pbuffer_Buffer_Put.j2 (x2 : List Value) (t4 : Value) (w : World) (K : KV) : Prop :=
  drawT w fun w =>
  w = w ∧ w = w ∧ quietT (fun K' => nilT (gv x2 3) w K') w fun t88 =>
  quietT (fun K' => faT P T.buffer_entry t88 0 w K') w fun t89 =>
  quietT (fun K' => ldT P T.sl_api_Span t89 w K') w fun t90 =>
  quietT (fun K' => ldT P T.api_Span t4 w K') w fun t91 =>
  bsT P T.sl_api_Span 1 #[(0, t91)] w fun t92 w =>
  stabT (fun K' => ldT P T.sl_api_Span t89 w K') w t90 ∧ stabT (fun K' => faT P T.buffer_entry t88 0 w K') w t89 ∧ stabT (fun K' => nilT (gv x2 3) w K') w t88 ∧ stabT (fun K' => K' (gv x2 3) w) w (gv x2 3) ∧ stabT (fun K' => K' (gv x2 3) w) w (gv x2 3) ∧ biT P .append #[T.sl_api_Span, T.sl_api_Span] T.sl_api_Span [false, false] [t90, t92] w fun t93 w =>
  stabT (fun K' => K' (gv x2 3) w) w (gv x2 3) ∧ quietT (fun K' => nilT (gv x2 3) w K') w fun t94 =>
  quietT (fun K' => faT P T.buffer_entry t94 0 w K') w fun t95 =>
  stT P T.sl_api_Span t95 t93 w fun _ w =>
  K (.int .i64 0) w
def M.pbuffer_Buffer_Put.j1 (a0 : Value) (t4 : Value) (a2 : Value) (x1 : List Value) (w : World) (K : KV) : Prop :=
  drawT w fun w =>
  w = w ∧ quietT (fun K' => nilT a0 w K') w fun t17 =>
  quietT (fun K' => faT P T.buffer_Buffer t17 4 w K') w fun t18 =>
  quietT (fun K' => ldT P T.map_uint64_p_buffer_entry t18 w K') w fun t19 =>
  quietT (fun K' => faT P T.api_Span t4 0 w K') w fun t20 =>
  quietT (fun K' => ldT P T.uint64 t20 w K') w fun t21 =>
  quietT (fun K' => luT P T.map_uint64_p_buffer_entry t19 t21 false w K') w fun t22 =>
  joinT (fun K2 =>
  drawT w fun w =>
  w = w ∧ quietT (fun K' => binT P .eql T.p_buffer_entry (.tmp 24) (.const (.pointer none)) t22 (.pointer none) w K') w fun t25 =>
  w = w ∧ quietT (fun K' => guardT (isB t25 true) (fun K' => K' a0 w) w K') w fun t27 =>
  quietT (fun K' => guardT (isB t25 true) (fun K' => nilT t27 w K') w K') w fun t28 =>
  quietT (fun K' => guardT (isB t25 true) (fun K' => faT P T.buffer_Buffer t28 4 w K') w K') w fun t29 =>
  quietT (fun K' => guardT (isB t25 true) (fun K' => ldT P T.map_uint64_p_buffer_entry t29 w K') w K') w fun t30 =>
  quietT (fun K' => guardT (isB t25 true) (fun K' => biT P .len #[T.map_uint64_p_buffer_entry] T.int [false] [t30] w K') w K') w fun t31 =>
  quietT (fun K' => guardT (isB t25 true) (fun K' => K' a0 w) w K') w fun t32 =>
  quietT (fun K' => guardT (isB t25 true) (fun K' => nilT t32 w K') w K') w fun t33 =>
  quietT (fun K' => guardT (isB t25 true) (fun K' => faT P T.buffer_Buffer t33 1 w K') w K') w fun t34 =>
  quietT (fun K' => guardT (isB t25 true) (fun K' => ldT P T.int t34 w K') w K') w fun t35 =>
  quietT (fun K' => guardT (isB t25 true) (fun K' => binT P .geq T.int (.tmp 31) (.tmp 35) t31 t35 w K') w K') w fun t36 =>
  quietT (fun K' => pickT t25 t36 (.bool false) w K') w fun t37 =>
  condT t37 (
  K (.int .i64 8) w) (
  binT P .eql T.p_buffer_entry (.tmp 39) (.const (.pointer none)) t22 (.pointer none) w fun t40 w =>
  condT t40 (
  bldT P T.buffer_entry #[] w fun t41 w =>
  boxT P T.buffer_entry t41 w fun t42 w =>
  drawT w fun w =>
  w = w ∧ quietT (fun K' => nilT a0 w K') w fun t44 =>
  quietT (fun K' => faT P T.buffer_Buffer t44 4 w K') w fun t45 =>
  quietT (fun K' => ldT P T.map_uint64_p_buffer_entry t45 w K') w fun t46 =>
  quietT (fun K' => faT P T.api_Span t4 0 w K') w fun t47 =>
  quietT (fun K' => ldT P T.uint64 t47 w K') w fun t48 =>
  w = w ∧ muT P T.map_uint64_p_buffer_entry t46 t48 t42 w fun _ w =>
  drawT w fun w =>
  w = w ∧ quietT (fun K' => nilT a0 w K') w fun t51 =>
  quietT (fun K' => faT P T.buffer_Buffer t51 0 w K') w fun t52 =>
  quietT (fun K' => faT P T.api_Span t4 0 w K') w fun t53 =>
  quietT (fun K' => ldT P T.uint64 t53 w K') w fun t54 =>
  w = w ∧ w = w ∧ quietT (fun K' => nilT a0 w K') w fun t57 =>
  quietT (fun K' => faT P T.buffer_Buffer t57 3 w K') w fun t58 =>
  quietT (fun K' => ldT P T.uint64 t58 w K') w fun t59 =>
  w = w ∧ quietT (fun K' => binT P .sub T.uint64 (.const (.int .u64 18446744073709551615)) (.tmp 60) (.int .u64 18446744073709551615) a2 w K') w fun t61 =>
  quietT (fun K' => biT P .min #[T.uint64, T.uint64] T.uint64 [false, false] [t59, t61] w K') w fun t62 =>
  quietT (fun K' => binT P .add T.uint64 (.tmp 55) (.tmp 62) a2 t62 w K') w fun t63 =>
  fcallT P F.ptimers_Heap_Set [t52, t54, t63] w fun t64 w =>
  K2 [t37, (gv x1 1), t40, t42, undef, undef] w) (
  nilT t22 w fun t67 w =>
  faT P T.buffer_entry t67 0 w fun t68 w =>
  ldT P T.sl_api_Span t68 w fun t69 w =>
  mkfT P (.func F.pbuffer_Buffer_Put_1) [] [t4] w fun t70 w =>
  fcallT P F.slices_ContainsFunc_api_Span_api_Span [t69, t70] w fun t71 w =>
  condT t71 (
  K (.int .i64 0) w) (
  drawT w fun w =>
  w = w ∧ quietT (fun K' => nilT t22 w K') w fun t74 =>
  quietT (fun K' => faT P T.buffer_entry t74 0 w K') w fun t75 =>
  quietT (fun K' => ldT P T.sl_api_Span t75 w K') w fun t76 =>
  quietT (fun K' => biT P .len #[T.sl_api_Span] T.int [false] [t76] w K') w fun t77 =>
  w = w ∧ quietT (fun K' => nilT a0 w K') w fun t79 =>
  quietT (fun K' => faT P T.buffer_Buffer t79 2 w K') w fun t80 =>
  quietT (fun K' => ldT P T.int t80 w K') w fun t81 =>
  quietT (fun K' => binT P .geq T.int (.tmp 77) (.tmp 81) t77 t81 w K') w fun t82 =>
  condT t82 (
  nilT t22 w fun t84 w =>
  faT P T.buffer_entry t84 1 w fun t85 w =>
  stT P T.bool t85 (.bool true) w fun _ w =>
  K (.int .i64 9) w) (
  K2 [t37, (gv x1 1), t40, t22, t71, t82] w))))) fun x2 w =>
  M.pbuffer_Buffer_Put.j2 x2 t4 w K
def M.pbuffer_Buffer_Put.j0 (t4 : Value) (x0 : List Value) (a0 : Value) (a2 : Value) (w : World) (K : KV) : Prop :=
  joinT (fun K1 =>
  ldT P T.api_Span t4 w fun t11 w =>
  fcallT P F.span_Right [t11] w fun t12 w =>
  binT P .neq T.api_Kind (.tmp 13) (.const (.int .i64 0)) t12 (.int .i64 0) w fun t14 w =>
  condT t14 (
  K t12 w) (
  K1 [t12, (gv x0 0)] w)) fun x1 w =>
  M.pbuffer_Buffer_Put.j1 a0 t4 a2 x1 w K
/-- (*winnow/buffer.Buffer).Put -/
def M.pbuffer_Buffer_Put (a0 a1 a2 : Value) (w : World) (K : KV) : Prop :=
  boxT P T.api_Span a1 w fun t4 w =>
  joinT (fun K0 =>
  binT P .eql T.p_buffer_Buffer (.tmp 9) (.const (.pointer none)) a0 (.pointer none) w fun t10 w =>
  condT t10 (
  K (.int .i64 13) w) (
  K0 [(.int .i64 0)] w)) fun x0 w =>
  M.pbuffer_Buffer_Put.j0 t4 x0 a0 a2 w K
def M.pbuffer_Buffer_Put.L : List Nat := [0, 1, 2, 6, 7, 8, 23, 38, 65, 72, 4]
def M.pbuffer_Buffer_Put.pl : Nat → Plan := fun id => cond (Nat.beq id 6) ⟨(.go 0 (.go 1 (.go 2 (.go 3 (.go 4 (.go 5 (.go 6 (.eff 7 .nil .stop)))))))), [7], false, [0, 1, 3, 7, 0, 16, 63, 127]⟩ (cond (Nat.beq id 7) ⟨(.go 0 (.go 1 (.go 2 (.go 3 (.go 4 (.go 5 (.go 6 (.go 7 (.go 8 (.go 9 (.go 10 (.go 11 (.go 12 (.go 13 (.eff 14 .nil .stop))))))))))))))), [14], false, [0, 1, 3, 7, 15, 31, 63, 127, 7, 263, 775, 1799, 4095, 8191, 16383]⟩ (cond (Nat.beq id 11) ⟨(.go 0 (.go 1 (.go 2 (.go 3 (.go 4 (.go 5 (.go 6 (.eff 7 .nil .stop)))))))), [7], false, [0, 1, 3, 7, 0, 16, 0, 127]⟩ (cond (Nat.beq id 12) ⟨(.go 0 (.go 1 (.go 2 (.go 3 (.go 4 (.go 5 (.go 6 (.go 7 (.go 8 (.go 9 (.go 10 (.go 11 (.go 12 (.go 13 (.eff 14 .nil .stop))))))))))))))), [14], false, [0, 1, 3, 0, 8, 0, 0, 64, 192, 448, 0, 1024, 4032, 8160, 16383]⟩ (cond (Nat.beq id 15) ⟨(.go 0 (.go 1 (.go 2 (.go 3 (.go 4 (.go 5 (.go 6 (.go 7 (.go 8 (.go 9 (.eff 10 .nil .stop))))))))))), [10], false, [0, 1, 3, 7, 15, 0, 32, 96, 224, 511, 1023]⟩ (cond (Nat.beq id 18) ⟨(.go 0 (.go 1 (.go 2 (.go 3 (.go 4 (.go 5 (.eff 6 (.eff 7 (.go 8 (.go 9 (.eff 10 .nil .stop))) .stop) .stop))))))), [6, 7, 10], false, [0, 0, 2, 6, 14, 0, 32, 126, 255, 511, 1023]⟩ (⟨.nil, [], false, []⟩))))))
theorem M.pbuffer_Buffer_Put.eq (a0 a1 a2 : Value) (w : World) (K : KV) : M.pbuffer_Buffer_Put a0 a1 a2 w K = den P M.pbuffer_Buffer_Put.L M.pbuffer_Buffer_Put.pl (Try.f18.body.getD .skip) (argE [a0, a1, a2]) w (bodyQ P Try.f18.results.toList K) := by kernel_rfl
theorem M.pbuffer_Buffer_Put.ok : okFn M.pbuffer_Buffer_Put.L M.pbuffer_Buffer_Put.pl Try.f18 (Try.f18.body.getD .skip) 3 = true := by kernel_rfl
theorem M.pbuffer_Buffer_Put.calls (a0 a1 a2 : Value) {w : World} {K : KV} (h : M.pbuffer_Buffer_Put a0 a1 a2 w K) : callT P F.pbuffer_Buffer_Put [a0, a1, a2] w K :=
  callT_of_den (by kernel_rfl) Try.func18 (by kernel_rfl) M.pbuffer_Buffer_Put.ok (M.pbuffer_Buffer_Put.eq a0 a1 a2 w K ▸ h)
theorem M.pbuffer_Buffer_Put.fcall (args : List Value) (w : World) (K : KV) : fcallT P F.pbuffer_Buffer_Put args w K = callT P F.pbuffer_Buffer_Put args w K := fcallT_eq Try.func18 (by kernel_rfl) (by kernel_rfl) args w K
theorem M.pbuffer_Buffer_Put.rcall (a c args : List Value) (w : World) (K : KV) : callRT P (.func (.func F.pbuffer_Buffer_Put) a.toArray c.toArray) args w K = callT P F.pbuffer_Buffer_Put (a ++ args ++ c) w K := callR_fn Try.func18 (by kernel_rfl) (by kernel_rfl) a c args w K

def M.pwinnowref16_Buffer_Put.j5 (a0 : Value) (x5 : List Value) (t4 : Value) (K4 : KL) (K5 : KL) (w : World) (K : KV) : Prop :=
  joinT (fun K6 =>
  drawT w fun w =>
  w = w ∧ w = w ∧ quietT (fun K' => nilT a0 w K') w fun t49 =>
  quietT (fun K' => faT P T.winnowref16_Buffer t49 3 w K') w fun t50 =>
  quietT (fun K' => ldT P T.sl_winnowref16_Trace t50 w K') w fun t51 =>
  quietT (fun K' => biT P .len #[T.sl_winnowref16_Trace] T.int [false] [t51] w K') w fun t52 =>
  quietT (fun K' => binT P .lss T.int (.tmp 47) (.tmp 52) (gv x5 0) t52 w K') w fun t53 =>
  w = w ∧ quietT (fun K' => guardT (isB t53 true) (fun K' => K' a0 w) w K') w fun t55 =>
  quietT (fun K' => guardT (isB t53 true) (fun K' => nilT t55 w K') w K') w fun t56 =>
  quietT (fun K' => guardT (isB t53 true) (fun K' => faT P T.winnowref16_Buffer t56 3 w K') w K') w fun t57 =>
  quietT (fun K' => guardT (isB t53 true) (fun K' => ldT P T.sl_winnowref16_Trace t57 w K') w K') w fun t58 =>
  quietT (fun K' => guardT (isB t53 true) (fun K' => K' (gv x5 0) w) w K') w fun t59 =>
  quietT (fun K' => guardT (isB t53 true) (fun K' => iaT P T.sl_winnowref16_Trace t58 t59 w K') w K') w fun t60 =>
  quietT (fun K' => guardT (isB t53 true) (fun K' => faT P T.winnowref16_Trace t60 0 w K') w K') w fun t61 =>
  quietT (fun K' => guardT (isB t53 true) (fun K' => ldT P T.uint64 t61 w K') w K') w fun t62 =>
  quietT (fun K' => guardT (isB t53 true) (fun K' => faT P T.api_Span t4 0 w K') w K') w fun t63 =>
  quietT (fun K' => guardT (isB t53 true) (fun K' => ldT P T.uint64 t63 w K') w K') w fun t64 =>
  quietT (fun K' => guardT (isB t53 true) (fun K' => binT P .lss T.uint64 (.tmp 62) (.tmp 64) t62 t64 w K') w K') w fun t65 =>
  quietT (fun K' => pickT t53 t65 (.bool false) w K') w fun t66 =>
  condT t66 (
  K6 [] w) (
  K4 [(gv x5 0)] w)) fun x6 w =>
  binT P .add T.int (.tmp 67) (.const (.int .i64 1)) (gv x5 0) (.int .i64 1) w fun t68 w =>
  K5 [t68] w
def M.pwinnowref16_Buffer_Put.j4 (a0 : Value) (x4 : List Value) (t4 : Value) (x3 : List Value) (w : World) (K : KV) : Prop :=
  drawT w fun w =>
  joinT (fun K7 =>
  w = w ∧ w = w ∧ quietT (fun K' => nilT a0 w K') w fun t72 =>
  quietT (fun K' => faT P T.winnowref16_Buffer t72 3 w K') w fun t73 =>
  quietT (fun K' => ldT P T.sl_winnowref16_Trace t73 w K') w fun t74 =>
  w = w ∧ quietT (fun K' => slT P T.sl_winnowref16_Trace t74 none (some (gv x4 0)) none w K') w fun t76 =>
  quietT (fun K' => faT P T.api_Span t4 0 w K') w fun t78 =>
  quietT (fun K' => ldT P T.uint64 t78 w K') w fun t79 =>
  w = w ∧ quietT (fun K' => ldT P T.api_Span t4 w K') w fun t81 =>
  w = w ∧ quietT (fun K' => nilT a0 w K') w fun t87 =>
  quietT (fun K' => faT P T.winnowref16_Buffer t87 3 w K') w fun t88 =>
  quietT (fun K' => ldT P T.sl_winnowref16_Trace t88 w K') w fun t89 =>
  w = w ∧ quietT (fun K' => slT P T.sl_winnowref16_Trace t89 (some (gv x4 0)) none none w K') w fun t91 =>
  (bsT P T.sl_winnowref16_Trace 0 #[] w fun t70 w =>
  stabT (fun K' => slT P T.sl_winnowref16_Trace t89 (some (gv x4 0)) none none w K') w t91 ∧ stabT (fun K' => K' (gv x4 0) w) w (gv x4 0) ∧ stabT (fun K' => ldT P T.sl_winnowref16_Trace t88 w K') w t89 ∧ stabT (fun K' => faT P T.winnowref16_Buffer t87 3 w K') w t88 ∧ stabT (fun K' => nilT a0 w K') w t87 ∧ stabT (fun K' => K' a0 w) w a0 ∧ stabT (fun K' => ldT P T.api_Span t4 w K') w t81 ∧ stabT (fun K' => K' (gv x3 0) w) w (gv x3 0) ∧ stabT (fun K' => ldT P T.uint64 t78 w K') w t79 ∧ stabT (fun K' => faT P T.api_Span t4 0 w K') w t78 ∧ stabT (fun K' => slT P T.sl_winnowref16_Trace t74 none (some (gv x4 0)) none w K') w t76 ∧ stabT (fun K' => K' (gv x4 0) w) w (gv x4 0) ∧ stabT (fun K' => ldT P T.sl_winnowref16_Trace t73 w K') w t74 ∧ stabT (fun K' => faT P T.winnowref16_Buffer t72 3 w K') w t73 ∧ stabT (fun K' => nilT a0 w K') w t72 ∧ stabT (fun K' => K' a0 w) w a0 ∧ stabT (fun K' => K' a0 w) w a0 ∧ (biT P .append #[T.sl_winnowref16_Trace, T.sl_winnowref16_Trace] T.sl_winnowref16_Trace [false, false] [t70, t76] w fun t77 w =>
  stabT (fun K' => slT P T.sl_winnowref16_Trace t89 (some (gv x4 0)) none none w K') w t91 ∧ stabT (fun K' => K' (gv x4 0) w) w (gv x4 0) ∧ stabT (fun K' => ldT P T.sl_winnowref16_Trace t88 w K') w t89 ∧ stabT (fun K' => faT P T.winnowref16_Buffer t87 3 w K') w t88 ∧ stabT (fun K' => nilT a0 w K') w t87 ∧ stabT (fun K' => K' a0 w) w a0 ∧ stabT (fun K' => ldT P T.api_Span t4 w K') w t81 ∧ stabT (fun K' => K' (gv x3 0) w) w (gv x3 0) ∧ stabT (fun K' => ldT P T.uint64 t78 w K') w t79 ∧ stabT (fun K' => faT P T.api_Span t4 0 w K') w t78 ∧ stabT (fun K' => K' a0 w) w a0 ∧ bsT P T.sl_api_Span 1 #[(0, t81)] w fun t82 w =>
  stabT (fun K' => slT P T.sl_winnowref16_Trace t89 (some (gv x4 0)) none none w K') w t91 ∧ stabT (fun K' => K' (gv x4 0) w) w (gv x4 0) ∧ stabT (fun K' => ldT P T.sl_winnowref16_Trace t88 w K') w t89 ∧ stabT (fun K' => faT P T.winnowref16_Buffer t87 3 w K') w t88 ∧ stabT (fun K' => nilT a0 w K') w t87 ∧ stabT (fun K' => K' a0 w) w a0 ∧ stabT (fun K' => K' (gv x3 0) w) w (gv x3 0) ∧ stabT (fun K' => ldT P T.uint64 t78 w K') w t79 ∧ stabT (fun K' => faT P T.api_Span t4 0 w K') w t78 ∧ stabT (fun K' => slT P T.sl_winnowref16_Trace t74 none (some (gv x4 0)) none w K') w t76 ∧ stabT (fun K' => K' (gv x4 0) w) w (gv x4 0) ∧ stabT (fun K' => ldT P T.sl_winnowref16_Trace t73 w K') w t74 ∧ stabT (fun K' => faT P T.winnowref16_Buffer t72 3 w K') w t73 ∧ stabT (fun K' => nilT a0 w K') w t72 ∧ stabT (fun K' => K' a0 w) w a0 ∧ stabT (fun K' => K' a0 w) w a0 ∧ quietT (fun K' => bldT P T.winnowref16_Trace #[(0, t79), (1, (gv x3 0)), (2, t82)] w K') w fun t83 =>
  bsT P T.sl_winnowref16_Trace 1 #[(0, t83)] w fun t84 w =>
  stabT (fun K' => slT P T.sl_winnowref16_Trace t89 (some (gv x4 0)) none none w K') w t91 ∧ stabT (fun K' => K' (gv x4 0) w) w (gv x4 0) ∧ stabT (fun K' => ldT P T.sl_winnowref16_Trace t88 w K') w t89 ∧ stabT (fun K' => faT P T.winnowref16_Buffer t87 3 w K') w t88 ∧ stabT (fun K' => nilT a0 w K') w t87 ∧ stabT (fun K' => K' a0 w) w a0 ∧ stabT (fun K' => slT P T.sl_winnowref16_Trace t74 none (some (gv x4 0)) none w K') w t76 ∧ stabT (fun K' => K' (gv x4 0) w) w (gv x4 0) ∧ stabT (fun K' => ldT P T.sl_winnowref16_Trace t73 w K') w t74 ∧ stabT (fun K' => faT P T.winnowref16_Buffer t72 3 w K') w t73 ∧ stabT (fun K' => nilT a0 w K') w t72 ∧ stabT (fun K' => K' a0 w) w a0 ∧ stabT (fun K' => K' a0 w) w a0 ∧ biT P .append #[T.sl_winnowref16_Trace, T.sl_winnowref16_Trace] T.sl_winnowref16_Trace [false, false] [t77, t84] w fun t85 w =>
  stabT (fun K' => slT P T.sl_winnowref16_Trace t89 (some (gv x4 0)) none none w K') w t91 ∧ stabT (fun K' => K' (gv x4 0) w) w (gv x4 0) ∧ stabT (fun K' => ldT P T.sl_winnowref16_Trace t88 w K') w t89 ∧ stabT (fun K' => faT P T.winnowref16_Buffer t87 3 w K') w t88 ∧ stabT (fun K' => nilT a0 w K') w t87 ∧ stabT (fun K' => K' a0 w) w a0 ∧ stabT (fun K' => K' a0 w) w a0 ∧ biT P .append #[T.sl_winnowref16_Trace, T.sl_winnowref16_Trace] T.sl_winnowref16_Trace [false, false] [t85, t91] w fun t92 w =>
  stabT (fun K' => K' a0 w) w a0 ∧ quietT (fun K' => nilT a0 w K') w fun t93 =>
  quietT (fun K' => faT P T.winnowref16_Buffer t93 3 w K') w fun t94 =>
  stT P T.sl_winnowref16_Trace t94 t92 w fun _ w =>
  K7 [a0, t70, a0, t72, t73, t74, (gv x4 0), t76, t77, t78, t79, (gv x3 0), t81, t82, t83, t84, t85, a0, t87, t88, t89, (gv x4 0), t91, t92, t93, t94] w) ∧
  (bsT P T.sl_api_Span 1 #[(0, t81)] w fun t82 w =>
  stabT (fun K' => slT P T.sl_winnowref16_Trace t89 (some (gv x4 0)) none none w K') w t91 ∧ stabT (fun K' => K' (gv x4 0) w) w (gv x4 0) ∧ stabT (fun K' => ldT P T.sl_winnowref16_Trace t88 w K') w t89 ∧ stabT (fun K' => faT P T.winnowref16_Buffer t87 3 w K') w t88 ∧ stabT (fun K' => nilT a0 w K') w t87 ∧ stabT (fun K' => K' a0 w) w a0 ∧ stabT (fun K' => K' (gv x3 0) w) w (gv x3 0) ∧ stabT (fun K' => ldT P T.uint64 t78 w K') w t79 ∧ stabT (fun K' => faT P T.api_Span t4 0 w K') w t78 ∧ stabT (fun K' => slT P T.sl_winnowref16_Trace t74 none (some (gv x4 0)) none w K') w t76 ∧ stabT (fun K' => K' (gv x4 0) w) w (gv x4 0) ∧ stabT (fun K' => ldT P T.sl_winnowref16_Trace t73 w K') w t74 ∧ stabT (fun K' => faT P T.winnowref16_Buffer t72 3 w K') w t73 ∧ stabT (fun K' => nilT a0 w K') w t72 ∧ stabT (fun K' => K' a0 w) w a0 ∧ stabT (fun K' => K' a0 w) w a0 ∧ quietT (fun K' => bldT P T.winnowref16_Trace #[(0, t79), (1, (gv x3 0)), (2, t82)] w K') w fun t83 =>
  (biT P .append #[T.sl_winnowref16_Trace, T.sl_winnowref16_Trace] T.sl_winnowref16_Trace [false, false] [t70, t76] w fun t77 w =>
  stabT (fun K' => bldT P T.winnowref16_Trace #[(0, t79), (1, (gv x3 0)), (2, t82)] w K') w t83 ∧ stabT (fun K' => slT P T.sl_winnowref16_Trace t89 (some (gv x4 0)) none none w K') w t91 ∧ stabT (fun K' => K' (gv x4 0) w) w (gv x4 0) ∧ stabT (fun K' => ldT P T.sl_winnowref16_Trace t88 w K') w t89 ∧ stabT (fun K' => faT P T.winnowref16_Buffer t87 3 w K') w t88 ∧ stabT (fun K' => nilT a0 w K') w t87 ∧ stabT (fun K' => K' a0 w) w a0 ∧ stabT (fun K' => ldT P T.api_Span t4 w K') w t81 ∧ stabT (fun K' => K' (gv x3 0) w) w (gv x3 0) ∧ stabT (fun K' => ldT P T.uint64 t78 w K') w t79 ∧ stabT (fun K' => faT P T.api_Span t4 0 w K') w t78 ∧ stabT (fun K' => K' a0 w) w a0 ∧ bsT P T.sl_winnowref16_Trace 1 #[(0, t83)] w fun t84 w =>
  stabT (fun K' => slT P T.sl_winnowref16_Trace t89 (some (gv x4 0)) none none w K') w t91 ∧ stabT (fun K' => K' (gv x4 0) w) w (gv x4 0) ∧ stabT (fun K' => ldT P T.sl_winnowref16_Trace t88 w K') w t89 ∧ stabT (fun K' => faT P T.winnowref16_Buffer t87 3 w K') w t88 ∧ stabT (fun K' => nilT a0 w K') w t87 ∧ stabT (fun K' => K' a0 w) w a0 ∧ stabT (fun K' => slT P T.sl_winnowref16_Trace t74 none (some (gv x4 0)) none w K') w t76 ∧ stabT (fun K' => K' (gv x4 0) w) w (gv x4 0) ∧ stabT (fun K' => ldT P T.sl_winnowref16_Trace t73 w K') w t74 ∧ stabT (fun K' => faT P T.winnowref16_Buffer t72 3 w K') w t73 ∧ stabT (fun K' => nilT a0 w K') w t72 ∧ stabT (fun K' => K' a0 w) w a0 ∧ stabT (fun K' => K' a0 w) w a0 ∧ biT P .append #[T.sl_winnowref16_Trace, T.sl_winnowref16_Trace] T.sl_winnowref16_Trace [false, false] [t77, t84] w fun t85 w =>
  stabT (fun K' => slT P T.sl_winnowref16_Trace t89 (some (gv x4 0)) none none w K') w t91 ∧ stabT (fun K' => K' (gv x4 0) w) w (gv x4 0) ∧ stabT (fun K' => ldT P T.sl_winnowref16_Trace t88 w K') w t89 ∧ stabT (fun K' => faT P T.winnowref16_Buffer t87 3 w K') w t88 ∧ stabT (fun K' => nilT a0 w K') w t87 ∧ stabT (fun K' => K' a0 w) w a0 ∧ stabT (fun K' => K' a0 w) w a0 ∧ biT P .append #[T.sl_winnowref16_Trace, T.sl_winnowref16_Trace] T.sl_winnowref16_Trace [false, false] [t85, t91] w fun t92 w =>
  stabT (fun K' => K' a0 w) w a0 ∧ quietT (fun K' => nilT a0 w K') w fun t93 =>
  quietT (fun K' => faT P T.winnowref16_Buffer t93 3 w K') w fun t94 =>
  stT P T.sl_winnowref16_Trace t94 t92 w fun _ w =>
  K7 [a0, t70, a0, t72, t73, t74, (gv x4 0), t76, t77, t78, t79, (gv x3 0), t81, t82, t83, t84, t85, a0, t87, t88, t89, (gv x4 0), t91, t92, t93, t94] w) ∧
  (bsT P T.sl_winnowref16_Trace 1 #[(0, t83)] w fun t84 w =>
  stabT (fun K' => slT P T.sl_winnowref16_Trace t89 (some (gv x4 0)) none none w K') w t91 ∧ stabT (fun K' => K' (gv x4 0) w) w (gv x4 0) ∧ stabT (fun K' => ldT P T.sl_winnowref16_Trace t88 w K') w t89 ∧ stabT (fun K' => faT P T.winnowref16_Buffer t87 3 w K') w t88 ∧ stabT (fun K' => nilT a0 w K') w t87 ∧ stabT (fun K' => K' a0 w) w a0 ∧ stabT (fun K' => slT P T.sl_winnowref16_Trace t74 none (some (gv x4 0)) none w K') w t76 ∧ stabT (fun K' => K' (gv x4 0) w) w (gv x4 0) ∧ stabT (fun K' => ldT P T.sl_winnowref16_Trace t73 w K') w t74 ∧ stabT (fun K' => faT P T.winnowref16_Buffer t72 3 w K') w t73 ∧ stabT (fun K' => nilT a0 w K') w t72 ∧ stabT (fun K' => K' a0 w) w a0 ∧ stabT (fun K' => K' a0 w) w a0 ∧ biT P .append #[T.sl_winnowref16_Trace, T.sl_winnowref16_Trace] T.sl_winnowref16_Trace [false, false] [t70, t76] w fun t77 w =>
  stabT (fun K' => bldT P T.winnowref16_Trace #[(0, t79), (1, (gv x3 0)), (2, t82)] w K') w t83 ∧ stabT (fun K' => slT P T.sl_winnowref16_Trace t89 (some (gv x4 0)) none none w K') w t91 ∧ stabT (fun K' => K' (gv x4 0) w) w (gv x4 0) ∧ stabT (fun K' => ldT P T.sl_winnowref16_Trace t88 w K') w t89 ∧ stabT (fun K' => faT P T.winnowref16_Buffer t87 3 w K') w t88 ∧ stabT (fun K' => nilT a0 w K') w t87 ∧ stabT (fun K' => K' a0 w) w a0 ∧ stabT (fun K' => ldT P T.api_Span t4 w K') w t81 ∧ stabT (fun K' => K' (gv x3 0) w) w (gv x3 0) ∧ stabT (fun K' => ldT P T.uint64 t78 w K') w t79 ∧ stabT (fun K' => faT P T.api_Span t4 0 w K') w t78 ∧ stabT (fun K' => K' a0 w) w a0 ∧ biT P .append #[T.sl_winnowref16_Trace, T.sl_winnowref16_Trace] T.sl_winnowref16_Trace [false, false] [t77, t84] w fun t85 w =>
  stabT (fun K' => slT P T.sl_winnowref16_Trace t89 (some (gv x4 0)) none none w K') w t91 ∧ stabT (fun K' => K' (gv x4 0) w) w (gv x4 0) ∧ stabT (fun K' => ldT P T.sl_winnowref16_Trace t88 w K') w t89 ∧ stabT (fun K' => faT P T.winnowref16_Buffer t87 3 w K') w t88 ∧ stabT (fun K' => nilT a0 w K') w t87 ∧ stabT (fun K' => K' a0 w) w a0 ∧ stabT (fun K' => K' a0 w) w a0 ∧ biT P .append #[T.sl_winnowref16_Trace, T.sl_winnowref16_Trace] T.sl_winnowref16_Trace [false, false] [t85, t91] w fun t92 w =>
  stabT (fun K' => K' a0 w) w a0 ∧ quietT (fun K' => nilT a0 w K') w fun t93 =>
  quietT (fun K' => faT P T.winnowref16_Buffer t93 3 w K') w fun t94 =>
  stT P T.sl_winnowref16_Trace t94 t92 w fun _ w =>
  K7 [a0, t70, a0, t72, t73, t74, (gv x4 0), t76, t77, t78, t79, (gv x3 0), t81, t82, t83, t84, t85, a0, t87, t88, t89, (gv x4 0), t91, t92, t93, t94] w))) ∧
  (bsT P T.sl_api_Span 1 #[(0, t81)] w fun t82 w =>
  stabT (fun K' => slT P T.sl_winnowref16_Trace t89 (some (gv x4 0)) none none w K') w t91 ∧ stabT (fun K' => K' (gv x4 0) w) w (gv x4 0) ∧ stabT (fun K' => ldT P T.sl_winnowref16_Trace t88 w K') w t89 ∧ stabT (fun K' => faT P T.winnowref16_Buffer t87 3 w K') w t88 ∧ stabT (fun K' => nilT a0 w K') w t87 ∧ stabT (fun K' => K' a0 w) w a0 ∧ stabT (fun K' => K' (gv x3 0) w) w (gv x3 0) ∧ stabT (fun K' => ldT P T.uint64 t78 w K') w t79 ∧ stabT (fun K' => faT P T.api_Span t4 0 w K') w t78 ∧ stabT (fun K' => slT P T.sl_winnowref16_Trace t74 none (some (gv x4 0)) none w K') w t76 ∧ stabT (fun K' => K' (gv x4 0) w) w (gv x4 0) ∧ stabT (fun K' => ldT P T.sl_winnowref16_Trace t73 w K') w t74 ∧ stabT (fun K' => faT P T.winnowref16_Buffer t72 3 w K') w t73 ∧ stabT (fun K' => nilT a0 w K') w t72 ∧ stabT (fun K' => K' a0 w) w a0 ∧ stabT (fun K' => K' a0 w) w a0 ∧ quietT (fun K' => bldT P T.winnowref16_Trace #[(0, t79), (1, (gv x3 0)), (2, t82)] w K') w fun t83 =>
  (bsT P T.sl_winnowref16_Trace 0 #[] w fun t70 w =>
  stabT (fun K' => bldT P T.winnowref16_Trace #[(0, t79), (1, (gv x3 0)), (2, t82)] w K') w t83 ∧ stabT (fun K' => slT P T.sl_winnowref16_Trace t89 (some (gv x4 0)) none none w K') w t91 ∧ stabT (fun K' => K' (gv x4 0) w) w (gv x4 0) ∧ stabT (fun K' => ldT P T.sl_winnowref16_Trace t88 w K') w t89 ∧ stabT (fun K' => faT P T.winnowref16_Buffer t87 3 w K') w t88 ∧ stabT (fun K' => nilT a0 w K') w t87 ∧ stabT (fun K' => K' a0 w) w a0 ∧ stabT (fun K' => ldT P T.api_Span t4 w K') w t81 ∧ stabT (fun K' => K' (gv x3 0) w) w (gv x3 0) ∧ stabT (fun K' => ldT P T.uint64 t78 w K') w t79 ∧ stabT (fun K' => faT P T.api_Span t4 0 w K') w t78 ∧ stabT (fun K' => slT P T.sl_winnowref16_Trace t74 none (some (gv x4 0)) none w K') w t76 ∧ stabT (fun K' => K' (gv x4 0) w) w (gv x4 0) ∧ stabT (fun K' => ldT P T.sl_winnowref16_Trace t73 w K') w t74 ∧ stabT (fun K' => faT P T.winnowref16_Buffer t72 3 w K') w t73 ∧ stabT (fun K' => nilT a0 w K') w t72 ∧ stabT (fun K' => K' a0 w) w a0 ∧ stabT (fun K' => K' a0 w) w a0 ∧ (biT P .append #[T.sl_winnowref16_Trace, T.sl_winnowref16_Trace] T.sl_winnowref16_Trace [false, false] [t70, t76] w fun t77 w =>
  stabT (fun K' => bldT P T.winnowref16_Trace #[(0, t79), (1, (gv x3 0)), (2, t82)] w K') w t83 ∧ stabT (fun K' => slT P T.sl_winnowref16_Trace t89 (some (gv x4 0)) none none w K') w t91 ∧ stabT (fun K' => K' (gv x4 0) w) w (gv x4 0) ∧ stabT (fun K' => ldT P T.sl_winnowref16_Trace t88 w K') w t89 ∧ stabT (fun K' => faT P T.winnowref16_Buffer t87 3 w K') w t88 ∧ stabT (fun K' => nilT a0 w K') w t87 ∧ stabT (fun K' => K' a0 w) w a0 ∧ stabT (fun K' => ldT P T.api_Span t4 w K') w t81 ∧ stabT (fun K' => K' (gv x3 0) w) w (gv x3 0) ∧ stabT (fun K' => ldT P T.uint64 t78 w K') w t79 ∧ stabT (fun K' => faT P T.api_Span t4 0 w K') w t78 ∧ stabT (fun K' => K' a0 w) w a0 ∧ bsT P T.sl_winnowref16_Trace 1 #[(0, t83)] w fun t84 w =>
  stabT (fun K' => slT P T.sl_winnowref16_Trace t89 (some (gv x4 0)) none none w K') w t91 ∧ stabT (fun K' => K' (gv x4 0) w) w (gv x4 0) ∧ stabT (fun K' => ldT P T.sl_winnowref16_Trace t88 w K') w t89 ∧ stabT (fun K' => faT P T.winnowref16_Buffer t87 3 w K') w t88 ∧ stabT (fun K' => nilT a0 w K') w t87 ∧ stabT (fun K' => K' a0 w) w a0 ∧ stabT (fun K' => slT P T.sl_winnowref16_Trace t74 none (some (gv x4 0)) none w K') w t76 ∧ stabT (fun K' => K' (gv x4 0) w) w (gv x4 0) ∧ stabT (fun K' => ldT P T.sl_winnowref16_Trace t73 w K') w t74 ∧ stabT (fun K' => faT P T.winnowref16_Buffer t72 3 w K') w t73 ∧ stabT (fun K' => nilT a0 w K') w t72 ∧ stabT (fun K' => K' a0 w) w a0 ∧ stabT (fun K' => K' a0 w) w a0 ∧ biT P .append #[T.sl_winnowref16_Trace, T.sl_winnowref16_Trace] T.sl_winnowref16_Trace [false, false] [t77, t84] w fun t85 w =>
  stabT (fun K' => slT P T.sl_winnowref16_Trace t89 (some (gv x4 0)) none none w K') w t91 ∧ stabT (fun K' => K' (gv x4 0) w) w (gv x4 0) ∧ stabT (fun K' => ldT P T.sl_winnowref16_Trace t88 w K') w t89 ∧ stabT (fun K' => faT P T.winnowref16_Buffer t87 3 w K') w t88 ∧ stabT (fun K' => nilT a0 w K') w t87 ∧ stabT (fun K' => K' a0 w) w a0 ∧ stabT (fun K' => K' a0 w) w a0 ∧ biT P .append #[T.sl_winnowref16_Trace, T.sl_winnowref16_Trace] T.sl_winnowref16_Trace [false, false] [t85, t91] w fun t92 w =>
  stabT (fun K' => K' a0 w) w a0 ∧ quietT (fun K' => nilT a0 w K') w fun t93 =>
  quietT (fun K' => faT P T.winnowref16_Buffer t93 3 w K') w fun t94 =>
  stT P T.sl_winnowref16_Trace t94 t92 w fun _ w =>
  K7 [a0, t70, a0, t72, t73, t74, (gv x4 0), t76, t77, t78, t79, (gv x3 0), t81, t82, t83, t84, t85, a0, t87, t88, t89, (gv x4 0), t91, t92, t93, t94] w) ∧
  (bsT P T.sl_winnowref16_Trace 1 #[(0, t83)] w fun t84 w =>
  stabT (fun K' => slT P T.sl_winnowref16_Trace t89 (some (gv x4 0)) none none w K') w t91 ∧ stabT (fun K' => K' (gv x4 0) w) w (gv x4 0) ∧ stabT (fun K' => ldT P T.sl_winnowref16_Trace t88 w K') w t89 ∧ stabT (fun K' => faT P T.winnowref16_Buffer t87 3 w K') w t88 ∧ stabT (fun K' => nilT a0 w K') w t87 ∧ stabT (fun K' => K' a0 w) w a0 ∧ stabT (fun K' => slT P T.sl_winnowref16_Trace t74 none (some (gv x4 0)) none w K') w t76 ∧ stabT (fun K' => K' (gv x4 0) w) w (gv x4 0) ∧ stabT (fun K' => ldT P T.sl_winnowref16_Trace t73 w K') w t74 ∧ stabT (fun K' => faT P T.winnowref16_Buffer t72 3 w K') w t73 ∧ stabT (fun K' => nilT a0 w K') w t72 ∧ stabT (fun K' => K' a0 w) w a0 ∧ stabT (fun K' => K' a0 w) w a0 ∧ biT P .append #[T.sl_winnowref16_Trace, T.sl_winnowref16_Trace] T.sl_winnowref16_Trace [false, false] [t70, t76] w fun t77 w =>
  stabT (fun K' => bldT P T.winnowref16_Trace #[(0, t79), (1, (gv x3 0)), (2, t82)] w K') w t83 ∧ stabT (fun K' => slT P T.sl_winnowref16_Trace t89 (some (gv x4 0)) none none w K') w t91 ∧ stabT (fun K' => K' (gv x4 0) w) w (gv x4 0) ∧ stabT (fun K' => ldT P T.sl_winnowref16_Trace t88 w K') w t89 ∧ stabT (fun K' => faT P T.winnowref16_Buffer t87 3 w K') w t88 ∧ stabT (fun K' => nilT a0 w K') w t87 ∧ stabT (fun K' => K' a0 w) w a0 ∧ stabT (fun K' => ldT P T.api_Span t4 w K') w t81 ∧ stabT (fun K' => K' (gv x3 0) w) w (gv x3 0) ∧ stabT (fun K' => ldT P T.uint64 t78 w K') w t79 ∧ stabT (fun K' => faT P T.api_Span t4 0 w K') w t78 ∧ stabT (fun K' => K' a0 w) w a0 ∧ biT P .append #[T.sl_winnowref16_Trace, T.sl_winnowref16_Trace] T.sl_winnowref16_Trace [false, false] [t77, t84] w fun t85 w =>
  stabT (fun K' => slT P T.sl_winnowref16_Trace t89 (some (gv x4 0)) none none w K') w t91 ∧ stabT (fun K' => K' (gv x4 0) w) w (gv x4 0) ∧ stabT (fun K' => ldT P T.sl_winnowref16_Trace t88 w K') w t89 ∧ stabT (fun K' => faT P T.winnowref16_Buffer t87 3 w K') w t88 ∧ stabT (fun K' => nilT a0 w K') w t87 ∧ stabT (fun K' => K' a0 w) w a0 ∧ stabT (fun K' => K' a0 w) w a0 ∧ biT P .append #[T.sl_winnowref16_Trace, T.sl_winnowref16_Trace] T.sl_winnowref16_Trace [false, false] [t85, t91] w fun t92 w =>
  stabT (fun K' => K' a0 w) w a0 ∧ quietT (fun K' => nilT a0 w K') w fun t93 =>
  quietT (fun K' => faT P T.winnowref16_Buffer t93 3 w K') w fun t94 =>
  stT P T.sl_winnowref16_Trace t94 t92 w fun _ w =>
  K7 [a0, t70, a0, t72, t73, t74, (gv x4 0), t76, t77, t78, t79, (gv x3 0), t81, t82, t83, t84, t85, a0, t87, t88, t89, (gv x4 0), t91, t92, t93, t94] w)) ∧
  (bsT P T.sl_winnowref16_Trace 1 #[(0, t83)] w fun t84 w =>
  stabT (fun K' => slT P T.sl_winnowref16_Trace t89 (some (gv x4 0)) none none w K') w t91 ∧ stabT (fun K' => K' (gv x4 0) w) w (gv x4 0) ∧ stabT (fun K' => ldT P T.sl_winnowref16_Trace t88 w K') w t89 ∧ stabT (fun K' => faT P T.winnowref16_Buffer t87 3 w K') w t88 ∧ stabT (fun K' => nilT a0 w K') w t87 ∧ stabT (fun K' => K' a0 w) w a0 ∧ stabT (fun K' => slT P T.sl_winnowref16_Trace t74 none (some (gv x4 0)) none w K') w t76 ∧ stabT (fun K' => K' (gv x4 0) w) w (gv x4 0) ∧ stabT (fun K' => ldT P T.sl_winnowref16_Trace t73 w K') w t74 ∧ stabT (fun K' => faT P T.winnowref16_Buffer t72 3 w K') w t73 ∧ stabT (fun K' => nilT a0 w K') w t72 ∧ stabT (fun K' => K' a0 w) w a0 ∧ stabT (fun K' => K' a0 w) w a0 ∧ bsT P T.sl_winnowref16_Trace 0 #[] w fun t70 w =>
  stabT (fun K' => bldT P T.winnowref16_Trace #[(0, t79), (1, (gv x3 0)), (2, t82)] w K') w t83 ∧ stabT (fun K' => slT P T.sl_winnowref16_Trace t89 (some (gv x4 0)) none none w K') w t91 ∧ stabT (fun K' => K' (gv x4 0) w) w (gv x4 0) ∧ stabT (fun K' => ldT P T.sl_winnowref16_Trace t88 w K') w t89 ∧ stabT (fun K' => faT P T.winnowref16_Buffer t87 3 w K') w t88 ∧ stabT (fun K' => nilT a0 w K') w t87 ∧ stabT (fun K' => K' a0 w) w a0 ∧ stabT (fun K' => ldT P T.api_Span t4 w K') w t81 ∧ stabT (fun K' => K' (gv x3 0) w) w (gv x3 0) ∧ stabT (fun K' => ldT P T.uint64 t78 w K') w t79 ∧ stabT (fun K' => faT P T.api_Span t4 0 w K') w t78 ∧ stabT (fun K' => slT P T.sl_winnowref16_Trace t74 none (some (gv x4 0)) none w K') w t76 ∧ stabT (fun K' => K' (gv x4 0) w) w (gv x4 0) ∧ stabT (fun K' => ldT P T.sl_winnowref16_Trace t73 w K') w t74 ∧ stabT (fun K' => faT P T.winnowref16_Buffer t72 3 w K') w t73 ∧ stabT (fun K' => nilT a0 w K') w t72 ∧ stabT (fun K' => K' a0 w) w a0 ∧ stabT (fun K' => K' a0 w) w a0 ∧ biT P .append #[T.sl_winnowref16_Trace, T.sl_winnowref16_Trace] T.sl_winnowref16_Trace [false, false] [t70, t76] w fun t77 w =>
  stabT (fun K' => bldT P T.winnowref16_Trace #[(0, t79), (1, (gv x3 0)), (2, t82)] w K') w t83 ∧ stabT (fun K' => slT P T.sl_winnowref16_Trace t89 (some (gv x4 0)) none none w K') w t91 ∧ stabT (fun K' => K' (gv x4 0) w) w (gv x4 0) ∧ stabT (fun K' => ldT P T.sl_winnowref16_Trace t88 w K') w t89 ∧ stabT (fun K' => faT P T.winnowref16_Buffer t87 3 w K') w t88 ∧ stabT (fun K' => nilT a0 w K') w t87 ∧ stabT (fun K' => K' a0 w) w a0 ∧ stabT (fun K' => ldT P T.api_Span t4 w K') w t81 ∧ stabT (fun K' => K' (gv x3 0) w) w (gv x3 0) ∧ stabT (fun K' => ldT P T.uint64 t78 w K') w t79 ∧ stabT (fun K' => faT P T.api_Span t4 0 w K') w t78 ∧ stabT (fun K' => K' a0 w) w a0 ∧ biT P .append #[T.sl_winnowref16_Trace, T.sl_winnowref16_Trace] T.sl_winnowref16_Trace [false, false] [t77, t84] w fun t85 w =>
  stabT (fun K' => slT P T.sl_winnowref16_Trace t89 (some (gv x4 0)) none none w K') w t91 ∧ stabT (fun K' => K' (gv x4 0) w) w (gv x4 0) ∧ stabT (fun K' => ldT P T.sl_winnowref16_Trace t88 w K') w t89 ∧ stabT (fun K' => faT P T.winnowref16_Buffer t87 3 w K') w t88 ∧ stabT (fun K' => nilT a0 w K') w t87 ∧ stabT (fun K' => K' a0 w) w a0 ∧ stabT (fun K' => K' a0 w) w a0 ∧ biT P .append #[T.sl_winnowref16_Trace, T.sl_winnowref16_Trace] T.sl_winnowref16_Trace [false, false] [t85, t91] w fun t92 w =>
  stabT (fun K' => K' a0 w) w a0 ∧ quietT (fun K' => nilT a0 w K') w fun t93 =>
  quietT (fun K' => faT P T.winnowref16_Buffer t93 3 w K') w fun t94 =>
  stT P T.sl_winnowref16_Trace t94 t92 w fun _ w =>
  K7 [a0, t70, a0, t72, t73, t74, (gv x4 0), t76, t77, t78, t79, (gv x3 0), t81, t82, t83, t84, t85, a0, t87, t88, t89, (gv x4 0), t91, t92, t93, t94] w))) fun x7 w =>
  K (.int .i64 0) w
def M.pwinnowref16_Buffer_Put.j2 (a0 : Value) (a2 : Value) (t4 : Value) (w : World) (K : KV) : Prop :=
  joinT (fun K3 =>
  nilT a0 w fun t36 w =>
  faT P T.winnowref16_Buffer t36 2 w fun t37 w =>
  ldT P T.uint64 t37 w fun t38 w =>
  binT P .sub T.uint64 (.tmp 34) (.tmp 38) (.int .u64 18446744073709551615) t38 w fun t39 w =>
  binT P .leq T.uint64 (.tmp 33) (.tmp 39) a2 t39 w fun t40 w =>
  condT t40 (
  nilT a0 w fun t43 w =>
  faT P T.winnowref16_Buffer t43 2 w fun t44 w =>
  ldT P T.uint64 t44 w fun t45 w =>
  binT P .add T.uint64 (.tmp 41) (.tmp 45) a2 t45 w fun t46 w =>
  K3 [t46] w) (
  K3 [(.int .u64 18446744073709551615)] w)) fun x3 w =>
  joinT (fun K4 =>
  loopT [(.int .i64 0)] w fun K5 x5 w =>
  M.pwinnowref16_Buffer_Put.j5 a0 x5 t4 K4 K5 w K) fun x4 w =>
  M.pwinnowref16_Buffer_Put.j4 a0 x4 t4 x3 w K
def M.pwinnowref16_Buffer_Put.j10 (a0 : Value) (t20 : Value) (x9 : List Value) (t4 : Value) (K9 : KL) (w : World) (K : KV) : Prop :=
  joinT (fun K11 =>
  drawT w fun w =>
  w = w ∧ quietT (fun K' => nilT a0 w K') w fun t109 =>
  quietT (fun K' => faT P T.winnowref16_Buffer t109 3 w K') w fun t110 =>
  quietT (fun K' => ldT P T.sl_winnowref16_Trace t110 w K') w fun t111 =>
  w = w ∧ quietT (fun K' => iaT P T.sl_winnowref16_Trace t111 t20 w K') w fun t113 =>
  quietT (fun K' => faT P T.winnowref16_Trace t113 2 w K') w fun t114 =>
  quietT (fun K' => ldT P T.sl_api_Span t114 w K') w fun t115 =>
  w = w ∧ quietT (fun K' => iaT P T.sl_api_Span t115 (gv x9 1) w K') w fun t117 =>
  quietT (fun K' => faT P T.api_Span t117 1 w K') w fun t118 =>
  quietT (fun K' => ldT P T.uint64 t118 w K') w fun t119 =>
  quietT (fun K' => faT P T.api_Span t4 1 w K') w fun t120 =>
  quietT (fun K' => ldT P T.uint64 t120 w K') w fun t121 =>
  quietT (fun K' => binT P .eql T.uint64 (.tmp 119) (.tmp 121) t119 t121 w K') w fun t122 =>
  condT t122 (
  K (.int .i64 0) w) (
  K11 [(gv x9 0)] w)) fun x11 w =>
  binT P .add T.int (.tmp 106) (.const (.int .i64 1)) (gv x9 1) (.int .i64 1) w fun t107 w =>
  K9 [(gv x11 0), t107] w
def M.pwinnowref16_Buffer_Put.j9 (a0 : Value) (t20 : Value) (x9 : List Value) (K8 : KL) (t4 : Value) (K9 : KL) (w : World) (K : KV) : Prop :=
  joinT (fun K10 =>
  nilT a0 w fun t97 w =>
  faT P T.winnowref16_Buffer t97 3 w fun t98 w =>
  ldT P T.sl_winnowref16_Trace t98 w fun t99 w =>
  iaT P T.sl_winnowref16_Trace t99 t20 w fun t101 w =>
  faT P T.winnowref16_Trace t101 2 w fun t102 w =>
  ldT P T.sl_api_Span t102 w fun t103 w =>
  biT P .len #[T.sl_api_Span] T.int [false] [t103] w fun t104 w =>
  binT P .lss T.int (.tmp 95) (.tmp 104) (gv x9 1) t104 w fun t105 w =>
  condT t105 (
  K10 [] w) (
  K8 [(gv x9 1), (gv x9 0)] w)) fun x10 w =>
  M.pwinnowref16_Buffer_Put.j10 a0 t20 x9 t4 K9 w K
def M.pwinnowref16_Buffer_Put.j12 (a0 : Value) (t20 : Value) (t4 : Value) (w : World) (K : KV) : Prop :=
  drawT w fun w =>
  joinT (fun K13 =>
  w = w ∧ quietT (fun K' => nilT a0 w K') w fun t145 =>
  quietT (fun K' => faT P T.winnowref16_Buffer t145 3 w K') w fun t146 =>
  quietT (fun K' => ldT P T.sl_winnowref16_Trace t146 w K') w fun t147 =>
  w = w ∧ w = w ∧ quietT (fun K' => nilT a0 w K') w fun t151 =>
  quietT (fun K' => faT P T.winnowref16_Buffer t151 3 w K') w fun t152 =>
  quietT (fun K' => ldT P T.sl_winnowref16_Trace t152 w K') w fun t153 =>
  w = w ∧ quietT (fun K' => iaT P T.sl_winnowref16_Trace t153 t20 w K') w fun t155 =>
  quietT (fun K' => faT P T.winnowref16_Trace t155 2 w K') w fun t156 =>
  quietT (fun K' => ldT P T.sl_api_Span t156 w K') w fun t157 =>
  quietT (fun K' => ldT P T.api_Span t4 w K') w fun t159 =>
  (bsT P T.sl_api_Span 0 #[] w fun t149 w =>
  stabT (fun K' => ldT P T.api_Span t4 w K') w t159 ∧ stabT (fun K' => ldT P T.sl_api_Span t156 w K') w t157 ∧ stabT (fun K' => faT P T.winnowref16_Trace t155 2 w K') w t156 ∧ stabT (fun K' => iaT P T.sl_winnowref16_Trace t153 t20 w K') w t155 ∧ stabT (fun K' => K' t20 w) w t20 ∧ stabT (fun K' => ldT P T.sl_winnowref16_Trace t152 w K') w t153 ∧ stabT (fun K' => faT P T.winnowref16_Buffer t151 3 w K') w t152 ∧ stabT (fun K' => nilT a0 w K') w t151 ∧ stabT (fun K' => K' a0 w) w a0 ∧ stabT (fun K' => K' t20 w) w t20 ∧ stabT (fun K' => ldT P T.sl_winnowref16_Trace t146 w K') w t147 ∧ stabT (fun K' => faT P T.winnowref16_Buffer t145 3 w K') w t146 ∧ stabT (fun K' => nilT a0 w K') w t145 ∧ stabT (fun K' => K' a0 w) w a0 ∧ (biT P .append #[T.sl_api_Span, T.sl_api_Span] T.sl_api_Span [false, false] [t149, t157] w fun t158 w =>
  stabT (fun K' => ldT P T.api_Span t4 w K') w t159 ∧ stabT (fun K' => K' t20 w) w t20 ∧ stabT (fun K' => ldT P T.sl_winnowref16_Trace t146 w K') w t147 ∧ stabT (fun K' => faT P T.winnowref16_Buffer t145 3 w K') w t146 ∧ stabT (fun K' => nilT a0 w K') w t145 ∧ stabT (fun K' => K' a0 w) w a0 ∧ bsT P T.sl_api_Span 1 #[(0, t159)] w fun t160 w =>
  stabT (fun K' => ldT P T.sl_api_Span t156 w K') w t157 ∧ stabT (fun K' => faT P T.winnowref16_Trace t155 2 w K') w t156 ∧ stabT (fun K' => iaT P T.sl_winnowref16_Trace t153 t20 w K') w t155 ∧ stabT (fun K' => K' t20 w) w t20 ∧ stabT (fun K' => ldT P T.sl_winnowref16_Trace t152 w K') w t153 ∧ stabT (fun K' => faT P T.winnowref16_Buffer t151 3 w K') w t152 ∧ stabT (fun K' => nilT a0 w K') w t151 ∧ stabT (fun K' => K' a0 w) w a0 ∧ stabT (fun K' => K' t20 w) w t20 ∧ stabT (fun K' => ldT P T.sl_winnowref16_Trace t146 w K') w t147 ∧ stabT (fun K' => faT P T.winnowref16_Buffer t145 3 w K') w t146 ∧ stabT (fun K' => nilT a0 w K') w t145 ∧ stabT (fun K' => K' a0 w) w a0 ∧ biT P .append #[T.sl_api_Span, T.sl_api_Span] T.sl_api_Span [false, false] [t158, t160] w fun t161 w =>
  stabT (fun K' => K' t20 w) w t20 ∧ stabT (fun K' => ldT P T.sl_winnowref16_Trace t146 w K') w t147 ∧ stabT (fun K' => faT P T.winnowref16_Buffer t145 3 w K') w t146 ∧ stabT (fun K' => nilT a0 w K') w t145 ∧ stabT (fun K' => K' a0 w) w a0 ∧ quietT (fun K' => iaT P T.sl_winnowref16_Trace t147 t20 w K') w fun t162 =>
  quietT (fun K' => faT P T.winnowref16_Trace t162 2 w K') w fun t163 =>
  stT P T.sl_api_Span t163 t161 w fun _ w =>
  K13 [a0, t145, t146, t147, t20, t149, a0, t151, t152, t153, t20, t155, t156, t157, t158, t159, t160, t161, t162, t163] w) ∧
  (bsT P T.sl_api_Span 1 #[(0, t159)] w fun t160 w =>
  stabT (fun K' => ldT P T.sl_api_Span t156 w K') w t157 ∧ stabT (fun K' => faT P T.winnowref16_Trace t155 2 w K') w t156 ∧ stabT (fun K' => iaT P T.sl_winnowref16_Trace t153 t20 w K') w t155 ∧ stabT (fun K' => K' t20 w) w t20 ∧ stabT (fun K' => ldT P T.sl_winnowref16_Trace t152 w K') w t153 ∧ stabT (fun K' => faT P T.winnowref16_Buffer t151 3 w K') w t152 ∧ stabT (fun K' => nilT a0 w K') w t151 ∧ stabT (fun K' => K' a0 w) w a0 ∧ stabT (fun K' => K' t20 w) w t20 ∧ stabT (fun K' => ldT P T.sl_winnowref16_Trace t146 w K') w t147 ∧ stabT (fun K' => faT P T.winnowref16_Buffer t145 3 w K') w t146 ∧ stabT (fun K' => nilT a0 w K') w t145 ∧ stabT (fun K' => K' a0 w) w a0 ∧ biT P .append #[T.sl_api_Span, T.sl_api_Span] T.sl_api_Span [false, false] [t149, t157] w fun t158 w =>
  stabT (fun K' => ldT P T.api_Span t4 w K') w t159 ∧ stabT (fun K' => K' t20 w) w t20 ∧ stabT (fun K' => ldT P T.sl_winnowref16_Trace t146 w K') w t147 ∧ stabT (fun K' => faT P T.winnowref16_Buffer t145 3 w K') w t146 ∧ stabT (fun K' => nilT a0 w K') w t145 ∧ stabT (fun K' => K' a0 w) w a0 ∧ biT P .append #[T.sl_api_Span, T.sl_api_Span] T.sl_api_Span [false, false] [t158, t160] w fun t161 w =>
  stabT (fun K' => K' t20 w) w t20 ∧ stabT (fun K' => ldT P T.sl_winnowref16_Trace t146 w K') w t147 ∧ stabT (fun K' => faT P T.winnowref16_Buffer t145 3 w K') w t146 ∧ stabT (fun K' => nilT a0 w K') w t145 ∧ stabT (fun K' => K' a0 w) w a0 ∧ quietT (fun K' => iaT P T.sl_winnowref16_Trace t147 t20 w K') w fun t162 =>
  quietT (fun K' => faT P T.winnowref16_Trace t162 2 w K') w fun t163 =>
  stT P T.sl_api_Span t163 t161 w fun _ w =>
  K13 [a0, t145, t146, t147, t20, t149, a0, t151, t152, t153, t20, t155, t156, t157, t158, t159, t160, t161, t162, t163] w)) ∧
  (bsT P T.sl_api_Span 1 #[(0, t159)] w fun t160 w =>
  stabT (fun K' => ldT P T.sl_api_Span t156 w K') w t157 ∧ stabT (fun K' => faT P T.winnowref16_Trace t155 2 w K') w t156 ∧ stabT (fun K' => iaT P T.sl_winnowref16_Trace t153 t20 w K') w t155 ∧ stabT (fun K' => K' t20 w) w t20 ∧ stabT (fun K' => ldT P T.sl_winnowref16_Trace t152 w K') w t153 ∧ stabT (fun K' => faT P T.winnowref16_Buffer t151 3 w K') w t152 ∧ stabT (fun K' => nilT a0 w K') w t151 ∧ stabT (fun K' => K' a0 w) w a0 ∧ stabT (fun K' => K' t20 w) w t20 ∧ stabT (fun K' => ldT P T.sl_winnowref16_Trace t146 w K') w t147 ∧ stabT (fun K' => faT P T.winnowref16_Buffer t145 3 w K') w t146 ∧ stabT (fun K' => nilT a0 w K') w t145 ∧ stabT (fun K' => K' a0 w) w a0 ∧ bsT P T.sl_api_Span 0 #[] w fun t149 w =>
  stabT (fun K' => ldT P T.api_Span t4 w K') w t159 ∧ stabT (fun K' => ldT P T.sl_api_Span t156 w K') w t157 ∧ stabT (fun K' => faT P T.winnowref16_Trace t155 2 w K') w t156 ∧ stabT (fun K' => iaT P T.sl_winnowref16_Trace t153 t20 w K') w t155 ∧ stabT (fun K' => K' t20 w) w t20 ∧ stabT (fun K' => ldT P T.sl_winnowref16_Trace t152 w K') w t153 ∧ stabT (fun K' => faT P T.winnowref16_Buffer t151 3 w K') w t152 ∧ stabT (fun K' => nilT a0 w K') w t151 ∧ stabT (fun K' => K' a0 w) w a0 ∧ stabT (fun K' => K' t20 w) w t20 ∧ stabT (fun K' => ldT P T.sl_winnowref16_Trace t146 w K') w t147 ∧ stabT (fun K' => faT P T.winnowref16_Buffer t145 3 w K') w t146 ∧ stabT (fun K' => nilT a0 w K') w t145 ∧ stabT (fun K' => K' a0 w) w a0 ∧ biT P .append #[T.sl_api_Span, T.sl_api_Span] T.sl_api_Span [false, false] [t149, t157] w fun t158 w =>
  stabT (fun K' => ldT P T.api_Span t4 w K') w t159 ∧ stabT (fun K' => K' t20 w) w t20 ∧ stabT (fun K' => ldT P T.sl_winnowref16_Trace t146 w K') w t147 ∧ stabT (fun K' => faT P T.winnowref16_Buffer t145 3 w K') w t146 ∧ stabT (fun K' => nilT a0 w K') w t145 ∧ stabT (fun K' => K' a0 w) w a0 ∧ biT P .append #[T.sl_api_Span, T.sl_api_Span] T.sl_api_Span [false, false] [t158, t160] w fun t161 w =>
  stabT (fun K' => K' t20 w) w t20 ∧ stabT (fun K' => ldT P T.sl_winnowref16_Trace t146 w K') w t147 ∧ stabT (fun K' => faT P T.winnowref16_Buffer t145 3 w K') w t146 ∧ stabT (fun K' => nilT a0 w K') w t145 ∧ stabT (fun K' => K' a0 w) w a0 ∧ quietT (fun K' => iaT P T.sl_winnowref16_Trace t147 t20 w K') w fun t162 =>
  quietT (fun K' => faT P T.winnowref16_Trace t162 2 w K') w fun t163 =>
  stT P T.sl_api_Span t163 t161 w fun _ w =>
  K13 [a0, t145, t146, t147, t20, t149, a0, t151, t152, t153, t20, t155, t156, t157, t158, t159, t160, t161, t162, t163] w)) fun x13 w =>
  K (.int .i64 0) w
def M.pwinnowref16_Buffer_Put.j8 (a0 : Value) (t20 : Value) (x8 : List Value) (t4 : Value) (w : World) (K : KV) : Prop :=
  joinT (fun K12 =>
  drawT w fun w =>
  w = w ∧ quietT (fun K' => nilT a0 w K') w fun t124 =>
  quietT (fun K' => faT P T.winnowref16_Buffer t124 3 w K') w fun t125 =>
  quietT (fun K' => ldT P T.sl_winnowref16_Trace t125 w K') w fun t126 =>
  w = w ∧ quietT (fun K' => iaT P T.sl_winnowref16_Trace t126 t20 w K') w fun t128 =>
  quietT (fun K' => faT P T.winnowref16_Trace t128 2 w K') w fun t129 =>
  quietT (fun K' => ldT P T.sl_api_Span t129 w K') w fun t130 =>
  quietT (fun K' => biT P .len #[T.sl_api_Span] T.int [false] [t130] w K') w fun t131 =>
  w = w ∧ quietT (fun K' => nilT a0 w K') w fun t133 =>
  quietT (fun K' => faT P T.winnowref16_Buffer t133 1 w K') w fun t134 =>
  quietT (fun K' => ldT P T.int t134 w K') w fun t135 =>
  quietT (fun K' => binT P .geq T.int (.tmp 131) (.tmp 135) t131 t135 w K') w fun t136 =>
  condT t136 (
  nilT a0 w fun t138 w =>
  faT P T.winnowref16_Buffer t138 3 w fun t139 w =>
  ldT P T.sl_winnowref16_Trace t139 w fun t140 w =>
  iaT P T.sl_winnowref16_Trace t140 t20 w fun t142 w =>
  faT P T.winnowref16_Trace t142 3 w fun t143 w =>
  stT P T.bool t143 (.bool true) w fun _ w =>
  K (.int .i64 9) w) (
  K12 [(gv x8 1)] w)) fun x12 w =>
  M.pwinnowref16_Buffer_Put.j12 a0 t20 t4 w K
def M.pwinnowref16_Buffer_Put.j0 (t4 : Value) (a0 : Value) (x0 : List Value) (a2 : Value) (w : World) (K : KV) : Prop :=
  faT P T.api_Span t4 0 w fun t18 w =>
  ldT P T.uint64 t18 w fun t19 w =>
  fcallT P F.pwinnowref16_Buffer_Find [a0, t19] w fun t20 w =>
  joinT (fun K1 =>
  binT P .lss T.int (.tmp 21) (.const (.int .i64 0)) t20 (.int .i64 0) w fun t22 w =>
  condT t22 (
  joinT (fun K2 =>
  drawT w fun w =>
  w = w ∧ quietT (fun K' => nilT a0 w K') w fun t24 =>
  quietT (fun K' => faT P T.winnowref16_Buffer t24 3 w K') w fun t25 =>
  quietT (fun K' => ldT P T.sl_winnowref16_Trace t25 w K') w fun t26 =>
  quietT (fun K' => biT P .len #[T.sl_winnowref16_Trace] T.int [false] [t26] w K') w fun t27 =>
  w = w ∧ quietT (fun K' => nilT a0 w K') w fun t29 =>
  quietT (fun K' => faT P T.winnowref16_Buffer t29 0 w K') w fun t30 =>
  quietT (fun K' => ldT P T.int t30 w K') w fun t31 =>
  quietT (fun K' => binT P .geq T.int (.tmp 27) (.tmp 31) t27 t31 w K') w fun t32 =>
  condT t32 (
  K (.int .i64 8) w) (
  K2 [(gv x0 1)] w)) fun x2 w =>
  M.pwinnowref16_Buffer_Put.j2 a0 a2 t4 w K) (
  K1 [(gv x0 1), undef, undef] w)) fun x1 w =>
  joinT (fun K8 =>
  loopT [(gv x1 0), (.int .i64 0)] w fun K9 x9 w =>
  M.pwinnowref16_Buffer_Put.j9 a0 t20 x9 K8 t4 K9 w K) fun x8 w =>
  M.pwinnowref16_Buffer_Put.j8 a0 t20 x8 t4 w K
/-- (*winnow/winnowref16.Buffer).Put -/
def M.pwinnowref16_Buffer_Put (a0 a1 a2 : Value) (w : World) (K : KV) : Prop :=
  boxT P T.api_Span a1 w fun t4 w =>
  joinT (fun K0 =>
  ldT P T.api_Span t4 w fun t12 w =>
  fcallT P F.winnowref03_Right [t12] w fun t13 w =>
  binT P .neq T.api_Kind (.tmp 14) (.const (.int .i64 0)) t13 (.int .i64 0) w fun t15 w =>
  condT t15 (
  K t13 w) (
  K0 [t13, (.int .i64 0)] w)) fun x0 w =>
  M.pwinnowref16_Buffer_Put.j0 t4 a0 x0 a2 w K
def M.pwinnowref16_Buffer_Put.L : List Nat := [0, 1, 2, 6, 7, 8, 9, 10, 11, 4]
def M.pwinnowref16_Buffer_Put.pl : Nat → Plan := fun id => cond (Nat.beq id 6) ⟨(.go 0 (.go 1 (.go 2 (.go 3 (.go 4 (.go 5 (.go 6 (.go 7 (.go 8 (.go 9 .nil)))))))))), [], false, [0, 1, 3, 7, 15, 0, 32, 96, 224, 511]⟩ (cond (Nat.beq id 12) ⟨(.go 0 (.go 1 (.go 2 (.go 3 (.go 4 (.go 5 (.go 6 (.go 7 (.go 8 (.go 9 (.go 10 (.go 11 (.go 12 (.go 13 (.go 14 (.go 15 (.go 16 (.go 17 (.go 18 (.go 19 .nil)))))))))))))))))))), [], false, [0, 0, 2, 6, 14, 30, 63, 127, 255, 511, 1023, 2047, 255, 8191, 16383, 32767, 255, 65791, 262143, 524287]⟩ (cond (Nat.beq id 14) ⟨(.go 0 (.go 2 (.go 3 (.go 4 (.go 5 (.go 6 (.go 7 (.go 9 (.go 10 (.go 11 (.go 12 (.go 17 (.go 18 (.go 19 (.go 20 (.go 21 (.go 22 (.eff 1 (.eff 8 (.eff 13 (.go 14 (.eff 15 (.eff 16 (.eff 23 (.go 24 (.go 25 (.eff 26 .nil .stop))) .stop) .stop) .stop)) .stop) (.eff 13 (.go 14 (.eff 8 (.eff 15 (.eff 16 (.eff 23 (.go 24 (.go 25 (.eff 26 .nil .stop))) .stop) .stop) .stop) (.eff 15 (.eff 8 (.eff 16 (.eff 23 (.go 24 (.go 25 (.eff 26 .nil .stop))) .stop) .stop) .stop) .stop))) .stop)) (.eff 13 (.go 14 (.eff 1 (.eff 8 (.eff 15 (.eff 16 (.eff 23 (.go 24 (.go 25 (.eff 26 .nil .stop))) .stop) .stop) .stop) (.eff 15 (.eff 8 (.eff 16 (.eff 23 (.go 24 (.go 25 (.eff 26 .nil .stop))) .stop) .stop) .stop) .stop)) (.eff 15 (.eff 1 (.eff 8 (.eff 16 (.eff 23 (.go 24 (.go 25 (.eff 26 .nil .stop))) .stop) .stop) .stop) .stop) .stop))) .stop))))))))))))))))))), [1, 8, 13, 15, 16, 23, 26], true, [0, 0, 0, 4, 12, 28, 0, 124, 254, 0, 512, 0, 0, 4096, 15872, 32256, 65534, 0, 131072, 393216, 917504, 0, 4063232, 8388606, 16777215, 33554431, 67108863]⟩ (cond (Nat.beq id 19) ⟨(.go 0 (.go 1 (.go 2 (.go 3 (.go 4 (.go 5 (.go 6 (.go 7 (.go 8 (.go 9 (.go 10 (.go 11 (.go 12 (.go 13 (.go 14 .nil))))))))))))))), [], false, [0, 1, 3, 7, 0, 31, 63, 127, 0, 511, 1023, 2047, 0, 4096, 16383]⟩ (cond (Nat.beq id 21) ⟨(.go 0 (.go 1 (.go 2 (.go 3 (.go 4 (.go 5 (.go 6 (.go 7 (.go 8 (.go 9 (.go 10 (.go 11 (.go 12 (.go 13 .nil)))))))))))))), [], false, [0, 1, 3, 7, 0, 31, 63, 127, 255, 0, 512, 1536, 3584, 8191]⟩ (cond (Nat.beq id 24) ⟨(.go 0 (.go 1 (.go 2 (.go 3 (.go 4 (.go 6 (.go 7 (.go 8 (.go 9 (.go 10 (.go 11 (.go 12 (.go 13 (.go 15 (.eff 5 (.eff 14 (.eff 16 (.eff 17 (.go 18 (.go 19 (.eff 20 .nil .stop))) .stop) .stop) (.eff 16 (.eff 14 (.eff 17 (.go 18 (.go 19 (.eff 20 .nil .stop))) .stop) .stop) .stop)) (.eff 16 (.eff 5 (.eff 14 (.eff 17 (.go 18 (.go 19 (.eff 20 .nil .stop))) .stop) .stop) .stop) .stop)))))))))))))))), [5, 14, 16, 17, 20], true, [0, 1, 3, 7, 0, 0, 0, 64, 192, 448, 0, 1984, 4032, 8128, 16352, 0, 32768, 131040, 262143, 524287, 1048575]⟩ (⟨.nil, [], false, []⟩))))))
theorem M.pwinnowref16_Buffer_Put.eq (a0 a1 a2 : Value) (w : World) (K : KV) : M.pwinnowref16_Buffer_Put a0 a1 a2 w K = den P M.pwinnowref16_Buffer_Put.L M.pwinnowref16_Buffer_Put.pl (Try.f19.body.getD .skip) (argE [a0, a1, a2]) w (bodyQ P Try.f19.results.toList K) := by kernel_rfl
theorem M.pwinnowref16_Buffer_Put.ok : okFn M.pwinnowref16_Buffer_Put.L M.pwinnowref16_Buffer_Put.pl Try.f19 (Try.f19.body.getD .skip) 3 = true := by kernel_rfl
theorem M.pwinnowref16_Buffer_Put.calls (a0 a1 a2 : Value) {w : World} {K : KV} (h : M.pwinnowref16_Buffer_Put a0 a1 a2 w K) : callT P F.pwinnowref16_Buffer_Put [a0, a1, a2] w K :=
  callT_of_den (by kernel_rfl) Try.func19 (by kernel_rfl) M.pwinnowref16_Buffer_Put.ok (M.pwinnowref16_Buffer_Put.eq a0 a1 a2 w K ▸ h)
theorem M.pwinnowref16_Buffer_Put.fcall (args : List Value) (w : World) (K : KV) : fcallT P F.pwinnowref16_Buffer_Put args w K = callT P F.pwinnowref16_Buffer_Put args w K := fcallT_eq Try.func19 (by kernel_rfl) (by kernel_rfl) args w K
theorem M.pwinnowref16_Buffer_Put.rcall (a c args : List Value) (w : World) (K : KV) : callRT P (.func (.func F.pwinnowref16_Buffer_Put) a.toArray c.toArray) args w K = callT P F.pwinnowref16_Buffer_Put (a ++ args ++ c) w K := callR_fn Try.func19 (by kernel_rfl) (by kernel_rfl) a c args w K

def M.pwinnowref16_Buffer_Find.j2 (a0 : Value) (x1 : List Value) (a1 : Value) (K1 : KL) (w : World) (K : KV) : Prop :=
  joinT (fun K3 =>
  nilT a0 w fun t16 w =>
  faT P T.winnowref16_Buffer t16 3 w fun t17 w =>
  ldT P T.sl_winnowref16_Trace t17 w fun t18 w =>
  iaT P T.sl_winnowref16_Trace t18 (gv x1 1) w fun t20 w =>
  faT P T.winnowref16_Trace t20 0 w fun t21 w =>
  ldT P T.uint64 t21 w fun t22 w =>
  binT P .eql T.uint64 (.tmp 22) (.tmp 23) t22 a1 w fun t24 w =>
  condT t24 (
  K (gv x1 1) w) (
  K3 [(gv x1 0)] w)) fun x3 w =>
  binT P .add T.int (.tmp 13) (.const (.int .i64 1)) (gv x1 1) (.int .i64 1) w fun t14 w =>
  K1 [(gv x3 0), t14] w
def M.pwinnowref16_Buffer_Find.j1 (a0 : Value) (x1 : List Value) (K0 : KL) (a1 : Value) (K1 : KL) (w : World) (K : KV) : Prop :=
  joinT (fun K2 =>
  nilT a0 w fun t8 w =>
  faT P T.winnowref16_Buffer t8 3 w fun t9 w =>
  ldT P T.sl_winnowref16_Trace t9 w fun t10 w =>
  biT P .len #[T.sl_winnowref16_Trace] T.int [false] [t10] w fun t11 w =>
  binT P .lss T.int (.tmp 6) (.tmp 11) (gv x1 1) t11 w fun t12 w =>
  condT t12 (
  K2 [] w) (
  K0 [(gv x1 1), (gv x1 0)] w)) fun x2 w =>
  M.pwinnowref16_Buffer_Find.j2 a0 x1 a1 K1 w K
/-- (*winnow/winnowref16.Buffer).Find -/
def M.pwinnowref16_Buffer_Find (a0 a1 : Value) (w : World) (K : KV) : Prop :=
  joinT (fun K0 =>
  loopT [(.int .i64 0), (.int .i64 0)] w fun K1 x1 w =>
  M.pwinnowref16_Buffer_Find.j1 a0 x1 K0 a1 K1 w K) fun x0 w =>
  K (.int .i64 (-1)) w
def M.pwinnowref16_Buffer_Find.L : List Nat := [0, 1, 4, 5]
def M.pwinnowref16_Buffer_Find.pl : Nat → Plan := fun id => ⟨.nil, [], false, []⟩
theorem M.pwinnowref16_Buffer_Find.eq (a0 a1 : Value) (w : World) (K : KV) : M.pwinnowref16_Buffer_Find a0 a1 w K = den P M.pwinnowref16_Buffer_Find.L M.pwinnowref16_Buffer_Find.pl (Try.f20.body.getD .skip) (argE [a0, a1]) w (bodyQ P Try.f20.results.toList K) := by kernel_rfl
theorem M.pwinnowref16_Buffer_Find.ok : okFn M.pwinnowref16_Buffer_Find.L M.pwinnowref16_Buffer_Find.pl Try.f20 (Try.f20.body.getD .skip) 2 = true := by kernel_rfl
theorem M.pwinnowref16_Buffer_Find.calls (a0 a1 : Value) {w : World} {K : KV} (h : M.pwinnowref16_Buffer_Find a0 a1 w K) : callT P F.pwinnowref16_Buffer_Find [a0, a1] w K :=
  callT_of_den (by kernel_rfl) Try.func20 (by kernel_rfl) M.pwinnowref16_Buffer_Find.ok (M.pwinnowref16_Buffer_Find.eq a0 a1 w K ▸ h)
theorem M.pwinnowref16_Buffer_Find.fcall (args : List Value) (w : World) (K : KV) : fcallT P F.pwinnowref16_Buffer_Find args w K = callT P F.pwinnowref16_Buffer_Find args w K := fcallT_eq Try.func20 (by kernel_rfl) (by kernel_rfl) args w K
theorem M.pwinnowref16_Buffer_Find.rcall (a c args : List Value) (w : World) (K : KV) : callRT P (.func (.func F.pwinnowref16_Buffer_Find) a.toArray c.toArray) args w K = callT P F.pwinnowref16_Buffer_Find (a ++ args ++ c) w K := callR_fn Try.func20 (by kernel_rfl) (by kernel_rfl) a c args w K

/-- (*winnow/buffer.Buffer).Delay -/
def M.pbuffer_Buffer_Delay (a0 a1 a2 : Value) (w : World) (K : KV) : Prop :=
  joinT (fun K0 =>
  binT P .eql T.p_buffer_Buffer (.tmp 7) (.const (.pointer none)) a0 (.pointer none) w fun t8 w =>
  guardT (isB t8 false) (fun K' => K' a0 w) w fun t10 w =>
  guardT (isB t8 false) (fun K' => nilT t10 w K') w fun t11 w =>
  guardT (isB t8 false) (fun K' => faT P T.buffer_Buffer t11 4 w K') w fun t12 w =>
  guardT (isB t8 false) (fun K' => ldT P T.map_uint64_p_buffer_entry t12 w K') w fun t13 w =>
  guardT (isB t8 false) (fun K' => K' a1 w) w fun t14 w =>
  guardT (isB t8 false) (fun K' => luT P T.map_uint64_p_buffer_entry t13 t14 false w K') w fun t15 w =>
  guardT (isB t8 false) (fun K' => binT P .eql T.p_buffer_entry (.tmp 15) (.const (.pointer none)) t15 (.pointer none) w K') w fun t16 w =>
  pickT t8 (.bool true) t16 w fun t17 w =>
  condT t17 (
  K (.bool false) w) (
  K0 [(.bool false)] w)) fun x0 w =>
  nilT a0 w fun t19 w =>
  faT P T.buffer_Buffer t19 0 w fun t20 w =>
  fcallT P F.ptimers_Heap_Set [t20, a1, a2] w fun t23 w =>
  K (.bool true) w
def M.pbuffer_Buffer_Delay.L : List Nat := [0, 1, 2, 6]
def M.pbuffer_Buffer_Delay.pl : Nat → Plan := fun id => ⟨.nil, [], false, []⟩
theorem M.pbuffer_Buffer_Delay.eq (a0 a1 a2 : Value) (w : World) (K : KV) : M.pbuffer_Buffer_Delay a0 a1 a2 w K = den P M.pbuffer_Buffer_Delay.L M.pbuffer_Buffer_Delay.pl (Try.f21.body.getD .skip) (argE [a0, a1, a2]) w (bodyQ P Try.f21.results.toList K) := by kernel_rfl
theorem M.pbuffer_Buffer_Delay.ok : okFn M.pbuffer_Buffer_Delay.L M.pbuffer_Buffer_Delay.pl Try.f21 (Try.f21.body.getD .skip) 3 = true := by kernel_rfl
theorem M.pbuffer_Buffer_Delay.calls (a0 a1 a2 : Value) {w : World} {K : KV} (h : M.pbuffer_Buffer_Delay a0 a1 a2 w K) : callT P F.pbuffer_Buffer_Delay [a0, a1, a2] w K :=
  callT_of_den (by kernel_rfl) Try.func21 (by kernel_rfl) M.pbuffer_Buffer_Delay.ok (M.pbuffer_Buffer_Delay.eq a0 a1 a2 w K ▸ h)
theorem M.pbuffer_Buffer_Delay.fcall (args : List Value) (w : World) (K : KV) : fcallT P F.pbuffer_Buffer_Delay args w K = callT P F.pbuffer_Buffer_Delay args w K := fcallT_eq Try.func21 (by kernel_rfl) (by kernel_rfl) args w K
theorem M.pbuffer_Buffer_Delay.rcall (a c args : List Value) (w : World) (K : KV) : callRT P (.func (.func F.pbuffer_Buffer_Delay) a.toArray c.toArray) args w K = callT P F.pbuffer_Buffer_Delay (a ++ args ++ c) w K := callR_fn Try.func21 (by kernel_rfl) (by kernel_rfl) a c args w K

def M.winnowref03_Spans.j3 (a0 : Value) (x2 : List Value) (a1 : Value) (K2 : KL) (w : World) (K : KV) : Prop :=
  joinT (fun K4 =>
  drawT w fun w =>
  w = w ∧ w = w ∧ quietT (fun K' => iaT P T.sl_api_Span a0 (gv x2 1) w K') w fun t19 =>
  quietT (fun K' => ldT P T.api_Span t19 w K') w fun t20 =>
  w = w ∧ w = w ∧ quietT (fun K' => iaT P T.sl_api_Span a1 (gv x2 1) w K') w fun t23 =>
  quietT (fun K' => ldT P T.api_Span t23 w K') w fun t24 =>
  quietT (fun K' => binT P .neq T.api_Span (.tmp 20) (.tmp 24) t20 t24 w K') w fun t25 =>
  condT t25 (
  K (.bool false) w) (
  K4 [(gv x2 0)] w)) fun x4 w =>
  binT P .add T.int (.tmp 15) (.const (.int .i64 1)) (gv x2 1) (.int .i64 1) w fun t16 w =>
  K2 [(gv x4 0), t16] w
def M.winnowref03_Spans.j0 (x0 : List Value) (a0 : Value) (a1 : Value) (w : World) (K : KV) : Prop :=
  joinT (fun K1 =>
  loopT [(gv x0 0), (.int .i64 0)] w fun K2 x2 w =>
  joinT (fun K3 =>
  biT P .len #[T.sl_api_Span] T.int [false] [a0] w fun t13 w =>
  binT P .lss T.int (.tmp 11) (.tmp 13) (gv x2 1) t13 w fun t14 w =>
  condT t14 (
  K3 [] w) (
  K1 [(gv x2 1), (gv x2 0)] w)) fun x3 w =>
  M.winnowref03_Spans.j3 a0 x2 a1 K2 w K) fun x1 w =>
  K (.bool true) w
/-- winnow/winnowref03.Spans -/
def M.winnowref03_Spans (a0 a1 : Value) (w : World) (K : KV) : Prop :=
  joinT (fun K0 =>
  biT P .len #[T.sl_api_Span] T.int [false] [a0] w fun t7 w =>
  biT P .len #[T.sl_api_Span] T.int [false] [a1] w fun t9 w =>
  binT P .neq T.int (.tmp 7) (.tmp 9) t7 t9 w fun t10 w =>
  condT t10 (
  K (.bool false) w) (
  K0 [(.bool false)] w)) fun x0 w =>
  M.winnowref03_Spans.j0 x0 a0 a1 w K
def M.winnowref03_Spans.L : List Nat := [0, 1, 4, 5]
def M.winnowref03_Spans.pl : Nat → Plan := fun id => cond (Nat.beq id 6) ⟨(.go 0 (.go 1 (.go 2 (.go 3 (.go 4 (.go 5 (.go 6 (.go 7 (.go 8 .nil))))))))), [], false, [0, 0, 3, 7, 0, 0, 48, 112, 255]⟩ (⟨.nil, [], false, []⟩)
theorem M.winnowref03_Spans.eq (a0 a1 : Value) (w : World) (K : KV) : M.winnowref03_Spans a0 a1 w K = den P M.winnowref03_Spans.L M.winnowref03_Spans.pl (Try.f22.body.getD .skip) (argE [a0, a1]) w (bodyQ P Try.f22.results.toList K) := by kernel_rfl
theorem M.winnowref03_Spans.ok : okFn M.winnowref03_Spans.L M.winnowref03_Spans.pl Try.f22 (Try.f22.body.getD .skip) 2 = true := by kernel_rfl
theorem M.winnowref03_Spans.calls (a0 a1 : Value) {w : World} {K : KV} (h : M.winnowref03_Spans a0 a1 w K) : callT P F.winnowref03_Spans [a0, a1] w K :=
  callT_of_den (by kernel_rfl) Try.func22 (by kernel_rfl) M.winnowref03_Spans.ok (M.winnowref03_Spans.eq a0 a1 w K ▸ h)
theorem M.winnowref03_Spans.fcall (args : List Value) (w : World) (K : KV) : fcallT P F.winnowref03_Spans args w K = callT P F.winnowref03_Spans args w K := fcallT_eq Try.func22 (by kernel_rfl) (by kernel_rfl) args w K
theorem M.winnowref03_Spans.rcall (a c args : List Value) (w : World) (K : KV) : callRT P (.func (.func F.winnowref03_Spans) a.toArray c.toArray) args w K = callT P F.winnowref03_Spans (a ++ args ++ c) w K := callR_fn Try.func22 (by kernel_rfl) (by kernel_rfl) a c args w K

def M.pbuffer_Buffer_Take.j0 (a0 : Value) (a1 : Value) (w : World) (K : KV) : Prop :=
  nilT a0 w fun t18 w =>
  faT P T.buffer_Buffer t18 4 w fun t19 w =>
  ldT P T.map_uint64_p_buffer_entry t19 w fun t20 w =>
  luT P T.map_uint64_p_buffer_entry t20 a1 false w fun t22 w =>
  nilT t22 w fun t23 w =>
  faT P T.buffer_entry t23 0 w fun t24 w =>
  ldT P T.sl_api_Span t24 w fun t25 w =>
  nilT a0 w fun t27 w =>
  faT P T.buffer_Buffer t27 4 w fun t28 w =>
  ldT P T.map_uint64_p_buffer_entry t28 w fun t29 w =>
  biT P .delete #[T.map_uint64_p_buffer_entry, T.uint64] T._ [false, false] [t29, a1] w fun _ w =>
  nilT a0 w fun t32 w =>
  faT P T.buffer_Buffer t32 0 w fun t33 w =>
  fcallT P F.ptimers_Heap_Del [t33, a1] w fun t35 w =>
  K t25 w
/-- (*winnow/buffer.Buffer).Take -/
def M.pbuffer_Buffer_Take (a0 a1 : Value) (w : World) (K : KV) : Prop :=
  joinT (fun K0 =>
  binT P .eql T.p_buffer_Buffer (.tmp 6) (.const (.pointer none)) a0 (.pointer none) w fun t7 w =>
  guardT (isB t7 false) (fun K' => K' a0 w) w fun t9 w =>
  guardT (isB t7 false) (fun K' => nilT t9 w K') w fun t10 w =>
  guardT (isB t7 false) (fun K' => faT P T.buffer_Buffer t10 4 w K') w fun t11 w =>
  guardT (isB t7 false) (fun K' => ldT P T.map_uint64_p_buffer_entry t11 w K') w fun t12 w =>
  guardT (isB t7 false) (fun K' => K' a1 w) w fun t13 w =>
  guardT (isB t7 false) (fun K' => luT P T.map_uint64_p_buffer_entry t12 t13 false w K') w fun t14 w =>
  guardT (isB t7 false) (fun K' => binT P .eql T.p_buffer_entry (.tmp 14) (.const (.pointer none)) t14 (.pointer none) w K') w fun t15 w =>
  pickT t7 (.bool true) t15 w fun t16 w =>
  condT t16 (
  K (.slice none 0 0) w) (
  K0 [(.slice none 0 0)] w)) fun x0 w =>
  M.pbuffer_Buffer_Take.j0 a0 a1 w K
def M.pbuffer_Buffer_Take.L : List Nat := [0, 1, 4, 5]
def M.pbuffer_Buffer_Take.pl : Nat → Plan := fun id => ⟨.nil, [], false, []⟩
theorem M.pbuffer_Buffer_Take.eq (a0 a1 : Value) (w : World) (K : KV) : M.pbuffer_Buffer_Take a0 a1 w K = den P M.pbuffer_Buffer_Take.L M.pbuffer_Buffer_Take.pl (Try.f23.body.getD .skip) (argE [a0, a1]) w (bodyQ P Try.f23.results.toList K) := by kernel_rfl
theorem M.pbuffer_Buffer_Take.ok : okFn M.pbuffer_Buffer_Take.L M.pbuffer_Buffer_Take.pl Try.f23 (Try.f23.body.getD .skip) 2 = true := by kernel_rfl
theorem M.pbuffer_Buffer_Take.calls (a0 a1 : Value) {w : World} {K : KV} (h : M.pbuffer_Buffer_Take a0 a1 w K) : callT P F.pbuffer_Buffer_Take [a0, a1] w K :=
  callT_of_den (by kernel_rfl) Try.func23 (by kernel_rfl) M.pbuffer_Buffer_Take.ok (M.pbuffer_Buffer_Take.eq a0 a1 w K ▸ h)
theorem M.pbuffer_Buffer_Take.fcall (args : List Value) (w : World) (K : KV) : fcallT P F.pbuffer_Buffer_Take args w K = callT P F.pbuffer_Buffer_Take args w K := fcallT_eq Try.func23 (by kernel_rfl) (by kernel_rfl) args w K
theorem M.pbuffer_Buffer_Take.rcall (a c args : List Value) (w : World) (K : KV) : callRT P (.func (.func F.pbuffer_Buffer_Take) a.toArray c.toArray) args w K = callT P F.pbuffer_Buffer_Take (a ++ args ++ c) w K := callR_fn Try.func23 (by kernel_rfl) (by kernel_rfl) a c args w K

end Go.Proofs.Ytkjhekflgghbdaa
