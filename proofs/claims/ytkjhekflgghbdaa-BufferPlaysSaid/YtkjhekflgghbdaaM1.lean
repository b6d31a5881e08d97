/-
  Printed by wip/Shallow.lean: functions of the program, read shallow; each is what its code does. No condition.
-/
import Derived.Test.YtkjhekflgghbdaaN
set_option maxRecDepth 1000000
namespace Go.Proofs.Ytkjhekflgghbdaa
open Go.Eng

def M.pwinnowref16_Buffer_Take.j0 (a0 : Value) (t9 : Value) (w : World) (K : KV) : Prop :=
  nilT a0 w fun t13 w =>
  faT P T.winnowref16_Buffer t13 3 w fun t14 w =>
  ldT P T.sl_winnowref16_Trace t14 w fun t15 w =>
  iaT P T.sl_winnowref16_Trace t15 t9 w fun t17 w =>
  faT P T.winnowref16_Trace t17 2 w fun t18 w =>
  ldT P T.sl_api_Span t18 w fun t19 w =>
  drawT w fun w =>
  w = w ∧ w = w ∧ quietT (fun K' => nilT a0 w K') w fun t23 =>
  quietT (fun K' => faT P T.winnowref16_Buffer t23 3 w K') w fun t24 =>
  quietT (fun K' => ldT P T.sl_winnowref16_Trace t24 w K') w fun t25 =>
  w = w ∧ quietT (fun K' => slT P T.sl_winnowref16_Trace t25 none (some t9) none w K') w fun t27 =>
  w = w ∧ quietT (fun K' => nilT a0 w K') w fun t30 =>
  quietT (fun K' => faT P T.winnowref16_Buffer t30 3 w K') w fun t31 =>
  quietT (fun K' => ldT P T.sl_winnowref16_Trace t31 w K') w fun t32 =>
  w = w ∧ quietT (fun K' => binT P .add T.int (.tmp 33) (.const (.int .i64 1)) t9 (.int .i64 1) w K') w fun t34 =>
  quietT (fun K' => slT P T.sl_winnowref16_Trace t32 (some t34) none none w K') w fun t35 =>
  bsT P T.sl_winnowref16_Trace 0 #[] w fun t21 w =>
  stabT (fun K' => slT P T.sl_winnowref16_Trace t32 (some t34) none none w K') w t35 ∧ stabT (fun K' => binT P .add T.int (.tmp 33) (.const (.int .i64 1)) t9 (.int .i64 1) w K') w t34 ∧ stabT (fun K' => K' t9 w) w t9 ∧ stabT (fun K' => ldT P T.sl_winnowref16_Trace t31 w K') w t32 ∧ stabT (fun K' => faT P T.winnowref16_Buffer t30 3 w K') w t31 ∧ stabT (fun K' => nilT a0 w K') w t30 ∧ stabT (fun K' => K' a0 w) w a0 ∧ stabT (fun K' => slT P T.sl_winnowref16_Trace t25 none (some t9) none w K') w t27 ∧ stabT (fun K' => K' t9 w) w t9 ∧ stabT (fun K' => ldT P T.sl_winnowref16_Trace t24 w K') w t25 ∧ stabT (fun K' => faT P T.winnowref16_Buffer t23 3 w K') w t24 ∧ stabT (fun K' => nilT a0 w K') w t23 ∧ stabT (fun K' => K' a0 w) w a0 ∧ stabT (fun K' => K' a0 w) w a0 ∧ biT P .append #[T.sl_winnowref16_Trace, T.sl_winnowref16_Trace] T.sl_winnowref16_Trace [false, false] [t21, t27] w fun t28 w =>
  stabT (fun K' => slT P T.sl_winnowref16_Trace t32 (some t34) none none w K') w t35 ∧ stabT (fun K' => binT P .add T.int (.tmp 33) (.const (.int .i64 1)) t9 (.int .i64 1) w K') w t34 ∧ stabT (fun K' => K' t9 w) w t9 ∧ stabT (fun K' => ldT P T.sl_winnowref16_Trace t31 w K') w t32 ∧ stabT (fun K' => faT P T.winnowref16_Buffer t30 3 w K') w t31 ∧ stabT (fun K' => nilT a0 w K') w t30 ∧ stabT (fun K' => K' a0 w) w a0 ∧ stabT (fun K' => K' a0 w) w a0 ∧ biT P .append #[T.sl_winnowref16_Trace, T.sl_winnowref16_Trace] T.sl_winnowref16_Trace [false, false] [t28, t35] w fun t36 w =>
  stabT (fun K' => K' a0 w) w a0 ∧ quietT (fun K' => nilT a0 w K') w fun t37 =>
  quietT (fun K' => faT P T.winnowref16_Buffer t37 3 w K') w fun t38 =>
  stT P T.sl_winnowref16_Trace t38 t36 w fun _ w =>
  K t19 w
/-- (*winnow/winnowref16.Buffer).Take -/
def M.pwinnowref16_Buffer_Take (a0 a1 : Value) (w : World) (K : KV) : Prop :=
  fcallT P F.pwinnowref16_Buffer_Find [a0, a1] w fun t9 w =>
  joinT (fun K0 =>
  binT P .lss T.int (.tmp 10) (.const (.int .i64 0)) t9 (.int .i64 0) w fun t11 w =>
  condT t11 (
  K (.slice none 0 0) w) (
  K0 [(.slice none 0 0)] w)) fun x0 w =>
  M.pwinnowref16_Buffer_Take.j0 a0 t9 w K
def M.pwinnowref16_Buffer_Take.L : List Nat := [0, 1, 4, 5, 6]
def M.pwinnowref16_Buffer_Take.pl : Nat → Plan := fun id => cond (Nat.beq id 5) ⟨(.go 0 (.go 2 (.go 3 (.go 4 (.go 5 (.go 6 (.go 7 (.go 9 (.go 10 (.go 11 (.go 12 (.go 13 (.go 14 (.go 15 (.eff 1 (.eff 8 (.eff 16 (.go 17 (.go 18 (.eff 19 .nil .stop))) .stop) .stop) .stop))))))))))))))), [1, 8, 16, 19], false, [0, 0, 0, 4, 12, 28, 0, 124, 254, 0, 512, 1536, 3584, 0, 8192, 32256, 65534, 131071, 262143, 524287]⟩ (⟨.nil, [], false, []⟩)
theorem M.pwinnowref16_Buffer_Take.eq (a0 a1 : Value) (w : World) (K : KV) : M.pwinnowref16_Buffer_Take a0 a1 w K = den P M.pwinnowref16_Buffer_Take.L M.pwinnowref16_Buffer_Take.pl (Try.f24.body.getD .skip) (argE [a0, a1]) w (bodyQ P Try.f24.results.toList K) := by kernel_rfl
theorem M.pwinnowref16_Buffer_Take.ok : okFn M.pwinnowref16_Buffer_Take.L M.pwinnowref16_Buffer_Take.pl Try.f24 (Try.f24.body.getD .skip) 2 = true := by kernel_rfl
theorem M.pwinnowref16_Buffer_Take.calls (a0 a1 : Value) {w : World} {K : KV} (h : M.pwinnowref16_Buffer_Take a0 a1 w K) : callT P F.pwinnowref16_Buffer_Take [a0, a1] w K :=
  callT_of_den (by kernel_rfl) Try.func24 (by kernel_rfl) M.pwinnowref16_Buffer_Take.ok (M.pwinnowref16_Buffer_Take.eq a0 a1 w K ▸ h)
theorem M.pwinnowref16_Buffer_Take.fcall (args : List Value) (w : World) (K : KV) : fcallT P F.pwinnowref16_Buffer_Take args w K = callT P F.pwinnowref16_Buffer_Take args w K := fcallT_eq Try.func24 (by kernel_rfl) (by kernel_rfl) args w K
theorem M.pwinnowref16_Buffer_Take.rcall (a c args : List Value) (w : World) (K : KV) : callRT P (.func (.func F.pwinnowref16_Buffer_Take) a.toArray c.toArray) args w K = callT P F.pwinnowref16_Buffer_Take (a ++ args ++ c) w K := callR_fn Try.func24 (by kernel_rfl) (by kernel_rfl) a c args w K

def M.winnowlaw16_same.j3 (t16 : Value) (x2 : List Value) (a0 : Value) (a1 : Value) (K2 : KL) (w : World) (K : KV) : Prop :=
  joinT (fun K4 =>
  iaT P T.sl_uint64 t16 (gv x2 4) w fun t53 w =>
  ldT P T.uint64 t53 w fun t54 w =>
  fcallT P F.pbuffer_Buffer_Get [a0, t54] w fun t55 w =>
  exT P t55 0 w fun t56 w =>
  exT P t55 1 w fun t57 w =>
  exT P t55 2 w fun t58 w =>
  drawT w fun w =>
  w = w ∧ w = w ∧ quietT (fun K' => iaT P T.sl_uint64 t16 (gv x2 4) w K') w fun t61 =>
  quietT (fun K' => ldT P T.uint64 t61 w K') w fun t62 =>
  w = w ∧ quietT (fun K' => nilT a1 w K') w fun t64 =>
  quietT (fun K' => faT P T.winnowref16_Buffer t64 3 w K') w fun t65 =>
  quietT (fun K' => ldT P T.sl_winnowref16_Trace t65 w K') w fun t66 =>
  w = w ∧ quietT (fun K' => iaT P T.sl_winnowref16_Trace t66 (gv x2 4) w K') w fun t68 =>
  quietT (fun K' => faT P T.winnowref16_Trace t68 0 w K') w fun t69 =>
  quietT (fun K' => ldT P T.uint64 t69 w K') w fun t70 =>
  quietT (fun K' => binT P .neq T.uint64 (.tmp 62) (.tmp 70) t62 t70 w K') w fun t71 =>
  w = w ∧ quietT (fun K' => guardT (isB t71 false) (fun K' => K' t56 w) w K') w fun t73 =>
  quietT (fun K' => guardT (isB t71 false) (fun K' => K' a1 w) w K') w fun t74 =>
  quietT (fun K' => guardT (isB t71 false) (fun K' => nilT t74 w K') w K') w fun t75 =>
  quietT (fun K' => guardT (isB t71 false) (fun K' => faT P T.winnowref16_Buffer t75 3 w K') w K') w fun t76 =>
  quietT (fun K' => guardT (isB t71 false) (fun K' => ldT P T.sl_winnowref16_Trace t76 w K') w K') w fun t77 =>
  quietT (fun K' => guardT (isB t71 false) (fun K' => K' (gv x2 4) w) w K') w fun t78 =>
  quietT (fun K' => guardT (isB t71 false) (fun K' => iaT P T.sl_winnowref16_Trace t77 t78 w K') w K') w fun t79 =>
  quietT (fun K' => guardT (isB t71 false) (fun K' => faT P T.winnowref16_Trace t79 2 w K') w K') w fun t80 =>
  quietT (fun K' => guardT (isB t71 false) (fun K' => ldT P T.sl_api_Span t80 w K') w K') w fun t81 =>
  guardT (isB t71 false) (fun K' => fcallT P F.winnowref03_Spans [t73, t81] w K') w fun t82 w =>
  quietT (fun K' => guardT (isB t71 false) (fun K' => unT P .not t82 w K') w K') w fun t83 =>
  quietT (fun K' => pickT t71 (.bool true) t83 w K') w fun t84 =>
  w = w ∧ quietT (fun K' => guardT (isB t84 false) (fun K' => K' t57 w) w K') w fun t86 =>
  quietT (fun K' => guardT (isB t84 false) (fun K' => K' a1 w) w K') w fun t87 =>
  quietT (fun K' => guardT (isB t84 false) (fun K' => nilT t87 w K') w K') w fun t88 =>
  quietT (fun K' => guardT (isB t84 false) (fun K' => faT P T.winnowref16_Buffer t88 3 w K') w K') w fun t89 =>
  quietT (fun K' => guardT (isB t84 false) (fun K' => ldT P T.sl_winnowref16_Trace t89 w K') w K') w fun t90 =>
  quietT (fun K' => guardT (isB t84 false) (fun K' => K' (gv x2 4) w) w K') w fun t91 =>
  quietT (fun K' => guardT (isB t84 false) (fun K' => iaT P T.sl_winnowref16_Trace t90 t91 w K') w K') w fun t92 =>
  quietT (fun K' => guardT (isB t84 false) (fun K' => faT P T.winnowref16_Trace t92 3 w K') w K') w fun t93 =>
  quietT (fun K' => guardT (isB t84 false) (fun K' => ldT P T.bool t93 w K') w K') w fun t94 =>
  quietT (fun K' => guardT (isB t84 false) (fun K' => binT P .neq T.bool (.tmp 86) (.tmp 94) t86 t94 w K') w K') w fun t95 =>
  quietT (fun K' => pickT t84 (.bool true) t95 w K') w fun t96 =>
  w = w ∧ quietT (fun K' => guardT (isB t96 false) (fun K' => K' t58 w) w K') w fun t98 =>
  quietT (fun K' => guardT (isB t96 false) (fun K' => unT P .not t98 w K') w K') w fun t99 =>
  quietT (fun K' => pickT t96 (.bool true) t99 w K') w fun t100 =>
  condT t100 (
  K (.bool false) w) (
  K4 [t56, t57, t58, (gv x2 3)] w)) fun x4 w =>
  binT P .add T.int (.tmp 47) (.const (.int .i64 1)) (gv x2 4) (.int .i64 1) w fun t48 w =>
  K2 [(gv x4 0), (gv x4 1), (gv x4 2), (gv x4 3), t48] w
def M.winnowlaw16_same.j2 (t16 : Value) (x2 : List Value) (K1 : KL) (a0 : Value) (a1 : Value) (K2 : KL) (w : World) (K : KV) : Prop :=
  joinT (fun K3 =>
  biT P .len #[T.sl_uint64] T.int [false] [t16] w fun t45 w =>
  binT P .lss T.int (.tmp 43) (.tmp 45) (gv x2 4) t45 w fun t46 w =>
  condT t46 (
  K3 [] w) (
  K1 [(gv x2 4), (gv x2 0), (gv x2 1), (gv x2 2), (gv x2 3)] w)) fun x3 w =>
  M.winnowlaw16_same.j3 t16 x2 a0 a1 K2 w K
def M.winnowlaw16_same.j0 (x0 : List Value) (t16 : Value) (a0 : Value) (a1 : Value) (w : World) (K : KV) : Prop :=
  joinT (fun K1 =>
  loopT [undef, undef, undef, (gv x0 0), (.int .i64 0)] w fun K2 x2 w =>
  M.winnowlaw16_same.j2 t16 x2 K1 a0 a1 K2 w K) fun x1 w =>
  fcallT P F.pbuffer_Buffer_Get [a0, (.int .u64 0)] w fun t103 w =>
  exT P t103 0 w fun t104 w =>
  exT P t103 1 w fun t105 w =>
  exT P t103 2 w fun t106 w =>
  unT P .not t106 w fun t108 w =>
  K t108 w
/-- winnow/winnowlaw16.same -/
def M.winnowlaw16_same (a0 a1 a2 : Value) (w : World) (K : KV) : Prop :=
  fcallT P F.pbuffer_Buffer_Traces [a0] w fun t16 w =>
  joinT (fun K0 =>
  biT P .len #[T.sl_uint64] T.int [false] [t16] w fun t18 w =>
  nilT a1 w fun t20 w =>
  faT P T.winnowref16_Buffer t20 3 w fun t21 w =>
  ldT P T.sl_winnowref16_Trace t21 w fun t22 w =>
  biT P .len #[T.sl_winnowref16_Trace] T.int [false] [t22] w fun t23 w =>
  binT P .neq T.int (.tmp 18) (.tmp 23) t18 t23 w fun t24 w =>
  guardT (isB t24 false) (fun K' => K' a0 w) w fun t26 w =>
  guardT (isB t24 false) (fun K' => K' a2 w) w fun t27 w =>
  guardT (isB t24 false) (fun K' => fcallT P F.pbuffer_Buffer_Due [t26, t27] w K') w fun t28 w =>
  guardT (isB t24 false) (fun K' => K' a1 w) w fun t29 w =>
  guardT (isB t24 false) (fun K' => K' a2 w) w fun t30 w =>
  guardT (isB t24 false) (fun K' => fcallT P F.pwinnowref16_Buffer_Due [t29, t30] w K') w fun t31 w =>
  guardT (isB t24 false) (fun K' => fcallT P F.winnowlaw16_uints [t28, t31] w K') w fun t32 w =>
  guardT (isB t24 false) (fun K' => unT P .not t32 w K') w fun t33 w =>
  pickT t24 (.bool true) t33 w fun t34 w =>
  guardT (isB t34 false) (fun K' => K' a0 w) w fun t36 w =>
  guardT (isB t34 false) (fun K' => fcallT P F.pbuffer_Buffer_Due [t36, (.int .u64 18446744073709551615)] w K') w fun t37 w =>
  guardT (isB t34 false) (fun K' => K' a1 w) w fun t38 w =>
  guardT (isB t34 false) (fun K' => fcallT P F.pwinnowref16_Buffer_Due [t38, (.int .u64 18446744073709551615)] w K') w fun t39 w =>
  guardT (isB t34 false) (fun K' => fcallT P F.winnowlaw16_uints [t37, t39] w K') w fun t40 w =>
  guardT (isB t34 false) (fun K' => unT P .not t40 w K') w fun t41 w =>
  pickT t34 (.bool true) t41 w fun t42 w =>
  condT t42 (
  K (.bool false) w) (
  K0 [(.bool false)] w)) fun x0 w =>
  M.winnowlaw16_same.j0 x0 t16 a0 a1 w K
def M.winnowlaw16_same.L : List Nat := [0, 1, 2, 6, 7, 8, 9, 10, 11, 12, 13, 14]
def M.winnowlaw16_same.pl : Nat → Plan := fun id => cond (Nat.beq id 8) ⟨(.go 0 (.go 1 (.go 2 (.go 3 (.go 4 (.go 5 (.go 6 (.go 7 (.go 8 (.go 9 (.go 10 (.go 11 (.go 12 (.go 13 (.go 14 (.go 15 (.go 16 (.go 17 (.go 18 (.go 19 (.go 20 (.go 21 (.go 22 (.eff 23 (.go 24 (.go 25 (.go 26 (.go 27 (.go 28 (.go 29 (.go 30 (.go 31 (.go 32 (.go 33 (.go 34 (.go 35 (.go 36 (.go 37 (.go 38 (.go 39 (.go 40 (.go 41 .nil)))))))))))))))))) .stop)))))))))))))))))))))))), [23], false, [0, 0, 3, 7, 0, 16, 48, 112, 0, 496, 1008, 2032, 4095, 8191, 16383, 16383, 49151, 114687, 245759, 16383, 1032191, 2080767, 4177919, 8388607, 16777215, 33554431, 67108863, 134217727, 134217727, 402653183, 939524095, 2013265919, 134217727, 8455716863, 17045651455, 34225520639, 68719476735, 137438953471, 274877906943, 549755813887, 1099511627775, 2199023255551]⟩ (⟨.nil, [], false, []⟩)
theorem M.winnowlaw16_same.eq (a0 a1 a2 : Value) (w : World) (K : KV) : M.winnowlaw16_same a0 a1 a2 w K = den P M.winnowlaw16_same.L M.winnowlaw16_same.pl (Try.f25.body.getD .skip) (argE [a0, a1, a2]) w (bodyQ P Try.f25.results.toList K) := by kernel_rfl
theorem M.winnowlaw16_same.ok : okFn M.winnowlaw16_same.L M.winnowlaw16_same.pl Try.f25 (Try.f25.body.getD .skip) 3 = true := by kernel_rfl
theorem M.winnowlaw16_same.calls (a0 a1 a2 : Value) {w : World} {K : KV} (h : M.winnowlaw16_same a0 a1 a2 w K) : callT P F.winnowlaw16_same [a0, a1, a2] w K :=
  callT_of_den (by kernel_rfl) Try.func25 (by kernel_rfl) M.winnowlaw16_same.ok (M.winnowlaw16_same.eq a0 a1 a2 w K ▸ h)
theorem M.winnowlaw16_same.fcall (args : List Value) (w : World) (K : KV) : fcallT P F.winnowlaw16_same args w K = callT P F.winnowlaw16_same args w K := fcallT_eq Try.func25 (by kernel_rfl) (by kernel_rfl) args w K
theorem M.winnowlaw16_same.rcall (a c args : List Value) (w : World) (K : KV) : callRT P (.func (.func F.winnowlaw16_same) a.toArray c.toArray) args w K = callT P F.winnowlaw16_same (a ++ args ++ c) w K := callR_fn Try.func25 (by kernel_rfl) (by kernel_rfl) a c args w K

def M.pbuffer_Buffer_Get.j0 (a0 : Value) (a1 : Value) (w : World) (K : KV) : Prop :=
  nilT a0 w fun t20 w =>
  faT P T.buffer_Buffer t20 4 w fun t21 w =>
  ldT P T.map_uint64_p_buffer_entry t21 w fun t22 w =>
  luT P T.map_uint64_p_buffer_entry t22 a1 false w fun t24 w =>
  drawT w fun w =>
  w = w ∧ quietT (fun K' => nilT t24 w K') w fun t26 =>
  quietT (fun K' => faT P T.buffer_entry t26 0 w K') w fun t27 =>
  quietT (fun K' => ldT P T.sl_api_Span t27 w K') w fun t28 =>
  w = w ∧ quietT (fun K' => nilT t24 w K') w fun t31 =>
  quietT (fun K' => faT P T.buffer_entry t31 1 w K') w fun t32 =>
  quietT (fun K' => ldT P T.bool t32 w K') w fun t33 =>
  fcallT P F.slices_Clone_api_Span_api_Span [t28] w fun t29 w =>
  stabT (fun K' => ldT P T.bool t32 w K') w t33 ∧ stabT (fun K' => faT P T.buffer_entry t31 1 w K') w t32 ∧ stabT (fun K' => nilT t24 w K') w t31 ∧ stabT (fun K' => K' t24 w) w t24 ∧ stabT (fun K' => ldT P T.bool t32 w K') w t33 ∧ stabT (fun K' => faT P T.buffer_entry t31 1 w K') w t32 ∧ stabT (fun K' => nilT t24 w K') w t31 ∧ stabT (fun K' => K' t24 w) w t24 ∧ K (.tuple #[t29, t33, (.bool true)]) w
/-- (*winnow/buffer.Buffer).Get -/
def M.pbuffer_Buffer_Get (a0 a1 : Value) (w : World) (K : KV) : Prop :=
  joinT (fun K0 =>
  binT P .eql T.p_buffer_Buffer (.tmp 8) (.const (.pointer none)) a0 (.pointer none) w fun t9 w =>
  guardT (isB t9 false) (fun K' => K' a0 w) w fun t11 w =>
  guardT (isB t9 false) (fun K' => nilT t11 w K') w fun t12 w =>
  guardT (isB t9 false) (fun K' => faT P T.buffer_Buffer t12 4 w K') w fun t13 w =>
  guardT (isB t9 false) (fun K' => ldT P T.map_uint64_p_buffer_entry t13 w K') w fun t14 w =>
  guardT (isB t9 false) (fun K' => K' a1 w) w fun t15 w =>
  guardT (isB t9 false) (fun K' => luT P T.map_uint64_p_buffer_entry t14 t15 false w K') w fun t16 w =>
  guardT (isB t9 false) (fun K' => binT P .eql T.p_buffer_entry (.tmp 16) (.const (.pointer none)) t16 (.pointer none) w K') w fun t17 w =>
  pickT t9 (.bool true) t17 w fun t18 w =>
  condT t18 (
  K (.tuple #[(.slice none 0 0), (.bool false), (.bool false)]) w) (
  K0 [(.slice none 0 0), (.bool false), (.bool false)] w)) fun x0 w =>
  M.pbuffer_Buffer_Get.j0 a0 a1 w K
def M.pbuffer_Buffer_Get.L : List Nat := [0, 1, 4, 5, 6, 7]
def M.pbuffer_Buffer_Get.pl : Nat → Plan := fun id => cond (Nat.beq id 4) ⟨(.go 0 (.go 1 (.go 2 (.go 3 (.go 5 (.go 6 (.go 7 (.go 8 (.eff 4 (.eff 9 (.eff 10 (.eff 11 .nil .stop) .stop) .stop) .stop))))))))), [4, 9, 10, 11], false, [0, 1, 3, 7, 15, 0, 32, 96, 224, 31, 1023, 2047]⟩ (⟨.nil, [], false, []⟩)
theorem M.pbuffer_Buffer_Get.eq (a0 a1 : Value) (w : World) (K : KV) : M.pbuffer_Buffer_Get a0 a1 w K = den P M.pbuffer_Buffer_Get.L M.pbuffer_Buffer_Get.pl (Try.f57.body.getD .skip) (argE [a0, a1]) w (bodyQ P Try.f57.results.toList K) := by kernel_rfl
theorem M.pbuffer_Buffer_Get.ok : okFn M.pbuffer_Buffer_Get.L M.pbuffer_Buffer_Get.pl Try.f57 (Try.f57.body.getD .skip) 2 = true := by kernel_rfl
theorem M.pbuffer_Buffer_Get.calls (a0 a1 : Value) {w : World} {K : KV} (h : M.pbuffer_Buffer_Get a0 a1 w K) : callT P F.pbuffer_Buffer_Get [a0, a1] w K :=
  callT_of_den (by kernel_rfl) Try.func57 (by kernel_rfl) M.pbuffer_Buffer_Get.ok (M.pbuffer_Buffer_Get.eq a0 a1 w K ▸ h)
theorem M.pbuffer_Buffer_Get.fcall (args : List Value) (w : World) (K : KV) : fcallT P F.pbuffer_Buffer_Get args w K = callT P F.pbuffer_Buffer_Get args w K := fcallT_eq Try.func57 (by kernel_rfl) (by kernel_rfl) args w K
theorem M.pbuffer_Buffer_Get.rcall (a c args : List Value) (w : World) (K : KV) : callRT P (.func (.func F.pbuffer_Buffer_Get) a.toArray c.toArray) args w K = callT P F.pbuffer_Buffer_Get (a ++ args ++ c) w K := callR_fn Try.func57 (by kernel_rfl) (by kernel_rfl) a c args w K

def M.pbuffer_Buffer_Due.j3 (t17 : Value) (a0 : Value) (t12 : Value) (K2 : KL) (w : World) (K : KV) : Prop :=
  enT P t17 w fun t20 w =>
  exT P t20 0 w fun t21 w =>
  nilT a0 w fun t26 w =>
  faT P T.buffer_Buffer t26 0 w fun t27 w =>
  fcallT P F.ptimers_Heap_At [t27, t21] w fun t29 w =>
  exT P t29 0 w fun t30 w =>
  exT P t29 1 w fun t31 w =>
  muT P T.map_uint64_uint64 t12 t21 t30 w fun _ w =>
  K2 [t21] w
def M.pbuffer_Buffer_Due.j6 (t36 : Value) (x5 : List Value) (a0 : Value) (t12 : Value) (K5 : KL) (w : World) (K : KV) : Prop :=
  joinT (fun K7 =>
  iaT P T.sl_uint64 t36 (gv x5 1) w fun t41 w =>
  ldT P T.uint64 t41 w fun t42 w =>
  drawT w fun w =>
  w = w ∧ quietT (fun K' => nilT a0 w K') w fun t44 =>
  quietT (fun K' => faT P T.buffer_Buffer t44 0 w K') w fun t45 =>
  w = w ∧ w = w ∧ w = w ∧ quietT (fun K' => luT P T.map_uint64_uint64 t12 t42 false w K') w fun t49 =>
  fcallT P F.ptimers_Heap_Set [t45, t42, t49] w fun t50 w =>
  K7 [t42] w) fun x7 w =>
  binT P .add T.int (.tmp 39) (.const (.int .i64 1)) (gv x5 1) (.int .i64 1) w fun t51 w =>
  K5 [(gv x7 0), t51] w
def M.pbuffer_Buffer_Due.j1 (a0 : Value) (a1 : Value) (t12 : Value) (w : World) (K : KV) : Prop :=
  nilT a0 w fun t33 w =>
  faT P T.buffer_Buffer t33 0 w fun t34 w =>
  fcallT P F.ptimers_Heap_Pop [t34, a1] w fun t36 w =>
  joinT (fun K4 =>
  biT P .len #[T.sl_uint64] T.int [false] [t36] w fun t38 w =>
  loopT [undef, (.int .i64 0)] w fun K5 x5 w =>
  binT P .lss T.int (.tmp 39) (.tmp 38) (gv x5 1) t38 w fun t40 w =>
  joinT (fun K6 =>
  condT t40 (
  K6 [] w) (
  K4 [t36, t38, (gv x5 1), (gv x5 0)] w)) fun x6 w =>
  M.pbuffer_Buffer_Due.j6 t36 x5 a0 t12 K5 w K) fun x4 w =>
  K t36 w
def M.pbuffer_Buffer_Due.j0 (a0 : Value) (a1 : Value) (w : World) (K : KV) : Prop :=
  mkmT P T.map_uint64_uint64 none w fun t12 w =>
  joinT (fun K1 =>
  nilT a0 w fun t14 w =>
  faT P T.buffer_Buffer t14 4 w fun t15 w =>
  ldT P T.map_uint64_p_buffer_entry t15 w fun t16 w =>
  rgT P T.map_uint64_p_buffer_entry t16 w fun t17 w =>
  loopT [undef] w fun K2 x2 w =>
  nxT P t17 false T._ w fun t18 w =>
  exT P t18 0 w fun t19 w =>
  joinT (fun K3 =>
  condT t19 (
  K3 [] w) (
  K1 [t17, (gv x2 0)] w)) fun x3 w =>
  M.pbuffer_Buffer_Due.j3 t17 a0 t12 K2 w K) fun x1 w =>
  M.pbuffer_Buffer_Due.j1 a0 a1 t12 w K
/-- (*winnow/buffer.Buffer).Due -/
def M.pbuffer_Buffer_Due (a0 a1 : Value) (w : World) (K : KV) : Prop :=
  joinT (fun K0 =>
  binT P .eql T.p_buffer_Buffer (.tmp 10) (.const (.pointer none)) a0 (.pointer none) w fun t11 w =>
  condT t11 (
  K (.slice none 0 0) w) (
  K0 [(.slice none 0 0)] w)) fun x0 w =>
  M.pbuffer_Buffer_Due.j0 a0 a1 w K
def M.pbuffer_Buffer_Due.L : List Nat := [0, 1, 4, 5, 6, 7, 9, 17, 39, 38, 37]
def M.pbuffer_Buffer_Due.pl : Nat → Plan := fun id => cond (Nat.beq id 12) ⟨(.go 0 (.go 1 (.go 2 (.go 3 (.go 4 (.go 5 (.go 6 (.eff 7 .nil .stop)))))))), [7], false, [0, 1, 3, 0, 0, 0, 48, 127]⟩ (⟨.nil, [], false, []⟩)
theorem M.pbuffer_Buffer_Due.eq (a0 a1 : Value) (w : World) (K : KV) : M.pbuffer_Buffer_Due a0 a1 w K = den P M.pbuffer_Buffer_Due.L M.pbuffer_Buffer_Due.pl (Try.f58.body.getD .skip) (argE [a0, a1]) w (bodyQ P Try.f58.results.toList K) := by kernel_rfl
theorem M.pbuffer_Buffer_Due.ok : okFn M.pbuffer_Buffer_Due.L M.pbuffer_Buffer_Due.pl Try.f58 (Try.f58.body.getD .skip) 2 = true := by kernel_rfl
theorem M.pbuffer_Buffer_Due.calls (a0 a1 : Value) {w : World} {K : KV} (h : M.pbuffer_Buffer_Due a0 a1 w K) : callT P F.pbuffer_Buffer_Due [a0, a1] w K :=
  callT_of_den (by kernel_rfl) Try.func58 (by kernel_rfl) M.pbuffer_Buffer_Due.ok (M.pbuffer_Buffer_Due.eq a0 a1 w K ▸ h)
theorem M.pbuffer_Buffer_Due.fcall (args : List Value) (w : World) (K : KV) : fcallT P F.pbuffer_Buffer_Due args w K = callT P F.pbuffer_Buffer_Due args w K := fcallT_eq Try.func58 (by kernel_rfl) (by kernel_rfl) args w K
theorem M.pbuffer_Buffer_Due.rcall (a c args : List Value) (w : World) (K : KV) : callRT P (.func (.func F.pbuffer_Buffer_Due) a.toArray c.toArray) args w K = callT P F.pbuffer_Buffer_Due (a ++ args ++ c) w K := callR_fn Try.func58 (by kernel_rfl) (by kernel_rfl) a c args w K

def M.span_Right.j0 (t1 : Value) (w : World) (K : KV) : Prop :=
  drawT w fun w =>
  quietT (fun K' => faT P T.api_Span t1 5 w K') w fun t19 =>
  quietT (fun K' => ldT P T.string t19 w K') w fun t20 =>
  quietT (fun K' => faT P T.api_Span t1 6 w K') w fun t22 =>
  quietT (fun K' => ldT P T.string t22 w K') w fun t23 =>
  fcallT P F.span_Name [t20] w fun t21 w =>
  stabT (fun K' => ldT P T.string t22 w K') w t23 ∧ stabT (fun K' => faT P T.api_Span t1 6 w K') w t22 ∧ fcallT P F.span_Name [t23] w fun t24 w =>
  bsT P T.sl_api_Kind 2 #[(0, t21), (1, t24)] w fun t25 w =>
  fcallT P F.cmp_Or_api_Kind [t25] w fun t26 w =>
  K t26 w
/-- winnow/span.Right -/
def M.span_Right (a0 : Value) (w : World) (K : KV) : Prop :=
  boxT P T.api_Span a0 w fun t1 w =>
  joinT (fun K0 =>
  faT P T.api_Span t1 0 w fun t3 w =>
  ldT P T.uint64 t3 w fun t4 w =>
  binT P .eql T.uint64 (.tmp 4) (.const (.int .u64 0)) t4 (.int .u64 0) w fun t5 w =>
  guardT (isB t5 false) (fun K' => faT P T.api_Span t1 1 w K') w fun t7 w =>
  guardT (isB t5 false) (fun K' => ldT P T.uint64 t7 w K') w fun t8 w =>
  guardT (isB t5 false) (fun K' => binT P .eql T.uint64 (.tmp 8) (.const (.int .u64 0)) t8 (.int .u64 0) w K') w fun t9 w =>
  pickT t5 (.bool true) t9 w fun t10 w =>
  guardT (isB t10 false) (fun K' => faT P T.api_Span t1 3 w K') w fun t12 w =>
  guardT (isB t10 false) (fun K' => ldT P T.uint64 t12 w K') w fun t13 w =>
  guardT (isB t10 false) (fun K' => faT P T.api_Span t1 4 w K') w fun t14 w =>
  guardT (isB t10 false) (fun K' => ldT P T.uint64 t14 w K') w fun t15 w =>
  guardT (isB t10 false) (fun K' => biT P .max #[T.uint64, T.uint64] T.uint64 [false, false] [t13, t15] w K') w fun t16 w =>
  guardT (isB t10 false) (fun K' => binT P .gtr T.uint64 (.tmp 16) (.const (.int .u64 1099511627776)) t16 (.int .u64 1099511627776) w K') w fun t17 w =>
  pickT t10 (.bool true) t17 w fun t18 w =>
  condT t18 (
  K (.int .i64 1) w) (
  K0 [(.int .i64 0)] w)) fun x0 w =>
  M.span_Right.j0 t1 w K
def M.span_Right.L : List Nat := [0, 2, 1]
def M.span_Right.pl : Nat → Plan := fun id => cond (Nat.beq id 3) ⟨(.go 0 (.go 1 (.go 3 (.go 4 (.eff 2 (.eff 5 (.eff 6 (.eff 7 (.eff 8 .nil .stop) .stop) .stop) .stop) .stop))))), [2, 5, 6, 7, 8], false, [0, 1, 3, 0, 8, 31, 63, 127, 255]⟩ (⟨.nil, [], false, []⟩)
theorem M.span_Right.eq (a0 : Value) (w : World) (K : KV) : M.span_Right a0 w K = den P M.span_Right.L M.span_Right.pl (Try.f59.body.getD .skip) (argE [a0]) w (bodyQ P Try.f59.results.toList K) := by kernel_rfl
theorem M.span_Right.ok : okFn M.span_Right.L M.span_Right.pl Try.f59 (Try.f59.body.getD .skip) 1 = true := by kernel_rfl
theorem M.span_Right.calls (a0 : Value) {w : World} {K : KV} (h : M.span_Right a0 w K) : callT P F.span_Right [a0] w K :=
  callT_of_den (by kernel_rfl) Try.func59 (by kernel_rfl) M.span_Right.ok (M.span_Right.eq a0 w K ▸ h)
theorem M.span_Right.fcall (args : List Value) (w : World) (K : KV) : fcallT P F.span_Right args w K = callT P F.span_Right args w K := fcallT_eq Try.func59 (by kernel_rfl) (by kernel_rfl) args w K
theorem M.span_Right.rcall (a c args : List Value) (w : World) (K : KV) : callRT P (.func (.func F.span_Right) a.toArray c.toArray) args w K = callT P F.span_Right (a ++ args ++ c) w K := callR_fn Try.func59 (by kernel_rfl) (by kernel_rfl) a c args w K

def M.ptimers_Heap_Set.j1 (a1 : Value) (a2 : Value) (a0 : Value) (w : World) (K : KV) : Prop :=
  bldT P T.timers_item #[(0, a1), (1, a2)] w fun t47 w =>
  boxT P T.timers_item t47 w fun t48 w =>
  nilT a0 w fun t50 w =>
  faT P T.timers_Heap t50 1 w fun t51 w =>
  ldT P T.map_uint64_p_timers_item t51 w fun t52 w =>
  muT P T.map_uint64_p_timers_item t52 a1 t48 w fun _ w =>
  nilT a0 w fun t56 w =>
  faT P T.timers_Heap t56 0 w fun t57 w =>
  mkiT P T.p_timers_line t57 w fun t58 w =>
  mkiT P T.p_timers_item t48 w fun t60 w =>
  fcallT P F.heap_Push [t58, t60] w fun t61 w =>
  K (.tuple #[]) w
def M.ptimers_Heap_Set.j0 (a0 : Value) (a1 : Value) (a2 : Value) (w : World) (K : KV) : Prop :=
  joinT (fun K1 =>
  nilT a0 w fun t24 w =>
  faT P T.timers_Heap t24 1 w fun t25 w =>
  ldT P T.map_uint64_p_timers_item t25 w fun t26 w =>
  luT P T.map_uint64_p_timers_item t26 a1 true w fun t28 w =>
  exT P t28 0 w fun t29 w =>
  exT P t28 1 w fun t30 w =>
  condT t30 (
  nilT t29 w fun t34 w =>
  faT P T.timers_item t34 1 w fun t35 w =>
  stT P T.uint64 t35 a2 w fun _ w =>
  drawT w fun w =>
  w = w ∧ quietT (fun K' => nilT a0 w K') w fun t37 =>
  quietT (fun K' => faT P T.timers_Heap t37 0 w K') w fun t38 =>
  quietT (fun K' => mkiT P T.p_timers_line t38 w K') w fun t39 =>
  w = w ∧ quietT (fun K' => nilT t29 w K') w fun t41 =>
  quietT (fun K' => faT P T.timers_item t41 2 w K') w fun t42 =>
  quietT (fun K' => ldT P T.int t42 w K') w fun t43 =>
  fcallT P F.heap_Fix [t39, t43] w fun t44 w =>
  K (.tuple #[]) w) (
  K1 [t29, t30] w)) fun x1 w =>
  M.ptimers_Heap_Set.j1 a1 a2 a0 w K
/-- (*winnow/timers.Heap).Set -/
def M.ptimers_Heap_Set (a0 a1 a2 : Value) (w : World) (K : KV) : Prop :=
  joinT (fun K0 =>
  binT P .eql T.p_timers_Heap (.tmp 10) (.const (.pointer none)) a0 (.pointer none) w fun t11 w =>
  condT t11 (
  K (.tuple #[]) w) (
  nilT a0 w fun t14 w =>
  faT P T.timers_Heap t14 1 w fun t15 w =>
  ldT P T.map_uint64_p_timers_item t15 w fun t16 w =>
  binT P .eql T.map_uint64_p_timers_item (.tmp 16) (.const (.map none)) t16 (.map none) w fun t17 w =>
  condT t17 (
  mkmT P T.map_uint64_p_timers_item none w fun t19 w =>
  nilT a0 w fun t20 w =>
  faT P T.timers_Heap t20 1 w fun t21 w =>
  stT P T.map_uint64_p_timers_item t21 t19 w fun _ w =>
  K0 [t11, t17] w) (
  K0 [t11, t17] w))) fun x0 w =>
  M.ptimers_Heap_Set.j0 a0 a1 a2 w K
def M.ptimers_Heap_Set.L : List Nat := [0, 1, 2, 9, 12, 6, 7, 8]
def M.ptimers_Heap_Set.pl : Nat → Plan := fun id => cond (Nat.beq id 6) ⟨(.go 0 (.go 1 (.go 2 (.go 3 (.go 4 (.go 5 (.go 6 (.go 7 (.eff 8 .nil .stop))))))))), [8], false, [0, 1, 3, 7, 0, 16, 48, 112, 255]⟩ (⟨.nil, [], false, []⟩)
theorem M.ptimers_Heap_Set.eq (a0 a1 a2 : Value) (w : World) (K : KV) : M.ptimers_Heap_Set a0 a1 a2 w K = den P M.ptimers_Heap_Set.L M.ptimers_Heap_Set.pl (Try.f60.body.getD .skip) (argE [a0, a1, a2]) w (bodyQ P Try.f60.results.toList K) := by kernel_rfl
theorem M.ptimers_Heap_Set.ok : okFn M.ptimers_Heap_Set.L M.ptimers_Heap_Set.pl Try.f60 (Try.f60.body.getD .skip) 3 = true := by kernel_rfl
theorem M.ptimers_Heap_Set.calls (a0 a1 a2 : Value) {w : World} {K : KV} (h : M.ptimers_Heap_Set a0 a1 a2 w K) : callT P F.ptimers_Heap_Set [a0, a1, a2] w K :=
  callT_of_den (by kernel_rfl) Try.func60 (by kernel_rfl) M.ptimers_Heap_Set.ok (M.ptimers_Heap_Set.eq a0 a1 a2 w K ▸ h)
theorem M.ptimers_Heap_Set.fcall (args : List Value) (w : World) (K : KV) : fcallT P F.ptimers_Heap_Set args w K = callT P F.ptimers_Heap_Set args w K := fcallT_eq Try.func60 (by kernel_rfl) (by kernel_rfl) args w K
theorem M.ptimers_Heap_Set.rcall (a c args : List Value) (w : World) (K : KV) : callRT P (.func (.func F.ptimers_Heap_Set) a.toArray c.toArray) args w K = callT P F.ptimers_Heap_Set (a ++ args ++ c) w K := callR_fn Try.func60 (by kernel_rfl) (by kernel_rfl) a c args w K

/-- slices.ContainsFunc[[]winnow/api.Span,winnow/api.Span] -/
def M.slices_ContainsFunc_api_Span_api_Span (a0 a1 : Value) (w : World) (K : KV) : Prop :=
  fcallT P F.slices_IndexFunc_api_Span_api_Span [a0, a1] w fun t7 w =>
  binT P .geq T.int (.tmp 7) (.const (.int .i64 0)) t7 (.int .i64 0) w fun t8 w =>
  K t8 w
def M.slices_ContainsFunc_api_Span_api_Span.L : List Nat := [0, 1, 4]
def M.slices_ContainsFunc_api_Span_api_Span.pl : Nat → Plan := fun id => ⟨.nil, [], false, []⟩
theorem M.slices_ContainsFunc_api_Span_api_Span.eq (a0 a1 : Value) (w : World) (K : KV) : M.slices_ContainsFunc_api_Span_api_Span a0 a1 w K = den P M.slices_ContainsFunc_api_Span_api_Span.L M.slices_ContainsFunc_api_Span_api_Span.pl (Try.f61.body.getD .skip) (argE [a0, a1]) w (bodyQ P Try.f61.results.toList K) := by kernel_rfl
theorem M.slices_ContainsFunc_api_Span_api_Span.ok : okFn M.slices_ContainsFunc_api_Span_api_Span.L M.slices_ContainsFunc_api_Span_api_Span.pl Try.f61 (Try.f61.body.getD .skip) 2 = true := by kernel_rfl
theorem M.slices_ContainsFunc_api_Span_api_Span.calls (a0 a1 : Value) {w : World} {K : KV} (h : M.slices_ContainsFunc_api_Span_api_Span a0 a1 w K) : callT P F.slices_ContainsFunc_api_Span_api_Span [a0, a1] w K :=
  callT_of_den (by kernel_rfl) Try.func61 (by kernel_rfl) M.slices_ContainsFunc_api_Span_api_Span.ok (M.slices_ContainsFunc_api_Span_api_Span.eq a0 a1 w K ▸ h)
theorem M.slices_ContainsFunc_api_Span_api_Span.fcall (args : List Value) (w : World) (K : KV) : fcallT P F.slices_ContainsFunc_api_Span_api_Span args w K = callT P F.slices_ContainsFunc_api_Span_api_Span args w K := fcallT_eq Try.func61 (by kernel_rfl) (by kernel_rfl) args w K
theorem M.slices_ContainsFunc_api_Span_api_Span.rcall (a c args : List Value) (w : World) (K : KV) : callRT P (.func (.func F.slices_ContainsFunc_api_Span_api_Span) a.toArray c.toArray) args w K = callT P F.slices_ContainsFunc_api_Span_api_Span (a ++ args ++ c) w K := callR_fn Try.func61 (by kernel_rfl) (by kernel_rfl) a c args w K

/-- (*winnow/buffer.Buffer).Put$1 -/
def M.pbuffer_Buffer_Put_1 (a0 a1 : Value) (w : World) (K : KV) : Prop :=
  boxT P T.api_Span a0 w fun t2 w =>
  faT P T.api_Span t2 1 w fun t4 w =>
  ldT P T.uint64 t4 w fun t5 w =>
  faT P T.api_Span a1 1 w fun t6 w =>
  ldT P T.uint64 t6 w fun t7 w =>
  binT P .eql T.uint64 (.tmp 5) (.tmp 7) t5 t7 w fun t8 w =>
  K t8 w
def M.pbuffer_Buffer_Put_1.L : List Nat := [0, 1, 3]
def M.pbuffer_Buffer_Put_1.pl : Nat → Plan := fun id => ⟨.nil, [], false, []⟩
theorem M.pbuffer_Buffer_Put_1.eq (a0 a1 : Value) (w : World) (K : KV) : M.pbuffer_Buffer_Put_1 a0 a1 w K = den P M.pbuffer_Buffer_Put_1.L M.pbuffer_Buffer_Put_1.pl (Try.f62.body.getD .skip) (argE [a0, a1]) w (bodyQ P Try.f62.results.toList K) := by kernel_rfl
theorem M.pbuffer_Buffer_Put_1.ok : okFn M.pbuffer_Buffer_Put_1.L M.pbuffer_Buffer_Put_1.pl Try.f62 (Try.f62.body.getD .skip) 2 = true := by kernel_rfl
theorem M.pbuffer_Buffer_Put_1.calls (a0 a1 : Value) {w : World} {K : KV} (h : M.pbuffer_Buffer_Put_1 a0 a1 w K) : callT P F.pbuffer_Buffer_Put_1 [a0, a1] w K :=
  callT_of_den (by kernel_rfl) Try.func62 (by kernel_rfl) M.pbuffer_Buffer_Put_1.ok (M.pbuffer_Buffer_Put_1.eq a0 a1 w K ▸ h)
theorem M.pbuffer_Buffer_Put_1.fcall (args : List Value) (w : World) (K : KV) : fcallT P F.pbuffer_Buffer_Put_1 args w K = callT P F.pbuffer_Buffer_Put_1 args w K := fcallT_eq Try.func62 (by kernel_rfl) (by kernel_rfl) args w K
theorem M.pbuffer_Buffer_Put_1.rcall (a c args : List Value) (w : World) (K : KV) : callRT P (.func (.func F.pbuffer_Buffer_Put_1) a.toArray c.toArray) args w K = callT P F.pbuffer_Buffer_Put_1 (a ++ args ++ c) w K := callR_fn Try.func62 (by kernel_rfl) (by kernel_rfl) a c args w K

def M.winnowref03_Right.j0 (t1 : Value) (x0 : List Value) (w : World) (K : KV) : Prop :=
  joinT (fun K1 =>
  faT P T.api_Span t1 5 w fun t21 w =>
  ldT P T.string t21 w fun t22 w =>
  fcallT P F.winnowref03_Name [t22] w fun t23 w =>
  binT P .neq T.api_Kind (.tmp 23) (.const (.int .i64 0)) t23 (.int .i64 0) w fun t24 w =>
  guardT (isB t24 false) (fun K' => faT P T.api_Span t1 6 w K') w fun t26 w =>
  guardT (isB t24 false) (fun K' => ldT P T.string t26 w K') w fun t27 w =>
  guardT (isB t24 false) (fun K' => fcallT P F.winnowref03_Name [t27] w K') w fun t28 w =>
  guardT (isB t24 false) (fun K' => binT P .neq T.api_Kind (.tmp 28) (.const (.int .i64 0)) t28 (.int .i64 0) w K') w fun t29 w =>
  pickT t24 (.bool true) t29 w fun t30 w =>
  condT t30 (
  K (.int .i64 5) w) (
  K1 [(gv x0 0)] w)) fun x1 w =>
  K (.int .i64 0) w
/-- winnow/winnowref03.Right -/
def M.winnowref03_Right (a0 : Value) (w : World) (K : KV) : Prop :=
  boxT P T.api_Span a0 w fun t1 w =>
  joinT (fun K0 =>
  faT P T.api_Span t1 0 w fun t3 w =>
  ldT P T.uint64 t3 w fun t4 w =>
  binT P .eql T.uint64 (.tmp 4) (.const (.int .u64 0)) t4 (.int .u64 0) w fun t5 w =>
  guardT (isB t5 false) (fun K' => faT P T.api_Span t1 1 w K') w fun t7 w =>
  guardT (isB t5 false) (fun K' => ldT P T.uint64 t7 w K') w fun t8 w =>
  guardT (isB t5 false) (fun K' => binT P .eql T.uint64 (.tmp 8) (.const (.int .u64 0)) t8 (.int .u64 0) w K') w fun t9 w =>
  pickT t5 (.bool true) t9 w fun t10 w =>
  guardT (isB t10 false) (fun K' => faT P T.api_Span t1 3 w K') w fun t12 w =>
  guardT (isB t10 false) (fun K' => ldT P T.uint64 t12 w K') w fun t13 w =>
  guardT (isB t10 false) (fun K' => binT P .gtr T.uint64 (.tmp 13) (.const (.int .u64 1099511627776)) t13 (.int .u64 1099511627776) w K') w fun t14 w =>
  pickT t10 (.bool true) t14 w fun t15 w =>
  guardT (isB t15 false) (fun K' => faT P T.api_Span t1 4 w K') w fun t17 w =>
  guardT (isB t15 false) (fun K' => ldT P T.uint64 t17 w K') w fun t18 w =>
  guardT (isB t15 false) (fun K' => binT P .gtr T.uint64 (.tmp 18) (.const (.int .u64 1099511627776)) t18 (.int .u64 1099511627776) w K') w fun t19 w =>
  pickT t15 (.bool true) t19 w fun t20 w =>
  condT t20 (
  K (.int .i64 1) w) (
  K0 [(.int .i64 0)] w)) fun x0 w =>
  M.winnowref03_Right.j0 t1 x0 w K
def M.winnowref03_Right.L : List Nat := [0, 2, 1]
def M.winnowref03_Right.pl : Nat → Plan := fun id => ⟨.nil, [], false, []⟩
theorem M.winnowref03_Right.eq (a0 : Value) (w : World) (K : KV) : M.winnowref03_Right a0 w K = den P M.winnowref03_Right.L M.winnowref03_Right.pl (Try.f63.body.getD .skip) (argE [a0]) w (bodyQ P Try.f63.results.toList K) := by kernel_rfl
theorem M.winnowref03_Right.ok : okFn M.winnowref03_Right.L M.winnowref03_Right.pl Try.f63 (Try.f63.body.getD .skip) 1 = true := by kernel_rfl
theorem M.winnowref03_Right.calls (a0 : Value) {w : World} {K : KV} (h : M.winnowref03_Right a0 w K) : callT P F.winnowref03_Right [a0] w K :=
  callT_of_den (by kernel_rfl) Try.func63 (by kernel_rfl) M.winnowref03_Right.ok (M.winnowref03_Right.eq a0 w K ▸ h)
theorem M.winnowref03_Right.fcall (args : List Value) (w : World) (K : KV) : fcallT P F.winnowref03_Right args w K = callT P F.winnowref03_Right args w K := fcallT_eq Try.func63 (by kernel_rfl) (by kernel_rfl) args w K
theorem M.winnowref03_Right.rcall (a c args : List Value) (w : World) (K : KV) : callRT P (.func (.func F.winnowref03_Right) a.toArray c.toArray) args w K = callT P F.winnowref03_Right (a ++ args ++ c) w K := callR_fn Try.func63 (by kernel_rfl) (by kernel_rfl) a c args w K

def M.ptimers_Heap_Del.j0 (a0 : Value) (a1 : Value) (w : World) (K : KV) : Prop :=
  drawT w fun w =>
  w = w ∧ quietT (fun K' => nilT a0 w K') w fun t17 =>
  quietT (fun K' => faT P T.timers_Heap t17 0 w K') w fun t18 =>
  quietT (fun K' => mkiT P T.p_timers_line t18 w K') w fun t19 =>
  w = w ∧ quietT (fun K' => nilT a0 w K') w fun t21 =>
  quietT (fun K' => faT P T.timers_Heap t21 1 w K') w fun t22 =>
  quietT (fun K' => ldT P T.map_uint64_p_timers_item t22 w K') w fun t23 =>
  w = w ∧ quietT (fun K' => luT P T.map_uint64_p_timers_item t23 a1 false w K') w fun t25 =>
  quietT (fun K' => nilT t25 w K') w fun t26 =>
  quietT (fun K' => faT P T.timers_item t26 2 w K') w fun t27 =>
  quietT (fun K' => ldT P T.int t27 w K') w fun t28 =>
  fcallT P F.heap_Remove [t19, t28] w fun t29 w =>
  nilT a0 w fun t31 w =>
  faT P T.timers_Heap t31 1 w fun t32 w =>
  ldT P T.map_uint64_p_timers_item t32 w fun t33 w =>
  biT P .delete #[T.map_uint64_p_timers_item, T.uint64] T._ [false, false] [t33, a1] w fun _ w =>
  K (.bool true) w
/-- (*winnow/timers.Heap).Del -/
def M.ptimers_Heap_Del (a0 a1 : Value) (w : World) (K : KV) : Prop :=
  joinT (fun K0 =>
  binT P .eql T.p_timers_Heap (.tmp 5) (.const (.pointer none)) a0 (.pointer none) w fun t6 w =>
  guardT (isB t6 false) (fun K' => K' a0 w) w fun t8 w =>
  guardT (isB t6 false) (fun K' => nilT t8 w K') w fun t9 w =>
  guardT (isB t6 false) (fun K' => faT P T.timers_Heap t9 1 w K') w fun t10 w =>
  guardT (isB t6 false) (fun K' => ldT P T.map_uint64_p_timers_item t10 w K') w fun t11 w =>
  guardT (isB t6 false) (fun K' => K' a1 w) w fun t12 w =>
  guardT (isB t6 false) (fun K' => luT P T.map_uint64_p_timers_item t11 t12 false w K') w fun t13 w =>
  guardT (isB t6 false) (fun K' => binT P .eql T.p_timers_item (.tmp 13) (.const (.pointer none)) t13 (.pointer none) w K') w fun t14 w =>
  pickT t6 (.bool true) t14 w fun t15 w =>
  condT t15 (
  K (.bool false) w) (
  K0 [(.bool false)] w)) fun x0 w =>
  M.ptimers_Heap_Del.j0 a0 a1 w K
def M.ptimers_Heap_Del.L : List Nat := [0, 1, 4]
def M.ptimers_Heap_Del.pl : Nat → Plan := fun id => cond (Nat.beq id 3) ⟨(.go 0 (.go 1 (.go 2 (.go 3 (.go 4 (.go 5 (.go 6 (.go 7 (.go 8 (.go 9 (.go 10 (.go 11 (.go 12 (.eff 13 .nil .stop)))))))))))))), [13], false, [0, 1, 3, 7, 0, 16, 48, 112, 0, 496, 1008, 2032, 4080, 8191]⟩ (⟨.nil, [], false, []⟩)
theorem M.ptimers_Heap_Del.eq (a0 a1 : Value) (w : World) (K : KV) : M.ptimers_Heap_Del a0 a1 w K = den P M.ptimers_Heap_Del.L M.ptimers_Heap_Del.pl (Try.f64.body.getD .skip) (argE [a0, a1]) w (bodyQ P Try.f64.results.toList K) := by kernel_rfl
theorem M.ptimers_Heap_Del.ok : okFn M.ptimers_Heap_Del.L M.ptimers_Heap_Del.pl Try.f64 (Try.f64.body.getD .skip) 2 = true := by kernel_rfl
theorem M.ptimers_Heap_Del.calls (a0 a1 : Value) {w : World} {K : KV} (h : M.ptimers_Heap_Del a0 a1 w K) : callT P F.ptimers_Heap_Del [a0, a1] w K :=
  callT_of_den (by kernel_rfl) Try.func64 (by kernel_rfl) M.ptimers_Heap_Del.ok (M.ptimers_Heap_Del.eq a0 a1 w K ▸ h)
theorem M.ptimers_Heap_Del.fcall (args : List Value) (w : World) (K : KV) : fcallT P F.ptimers_Heap_Del args w K = callT P F.ptimers_Heap_Del args w K := fcallT_eq Try.func64 (by kernel_rfl) (by kernel_rfl) args w K
theorem M.ptimers_Heap_Del.rcall (a c args : List Value) (w : World) (K : KV) : callRT P (.func (.func F.ptimers_Heap_Del) a.toArray c.toArray) args w K = callT P F.ptimers_Heap_Del (a ++ args ++ c) w K := callR_fn Try.func64 (by kernel_rfl) (by kernel_rfl) a c args w K

def M.pbuffer_Buffer_Traces.j0 (a0 : Value) (w : World) (K : KV) : Prop :=
  nilT a0 w fun t6 w =>
  faT P T.buffer_Buffer t6 4 w fun t7 w =>
  ldT P T.map_uint64_p_buffer_entry t7 w fun t8 w =>
  fcallT P F.maps_Keys_map_uint64_buffer_entry_uint64_buffer_entry [t8] w fun t9 w =>
  fcallT P F.slices_Sorted_uint64 [t9] w fun t10 w =>
  K t10 w
/-- (*winnow/buffer.Buffer).Traces -/
def M.pbuffer_Buffer_Traces (a0 : Value) (w : World) (K : KV) : Prop :=
  joinT (fun K0 =>
  binT P .eql T.p_buffer_Buffer (.tmp 3) (.const (.pointer none)) a0 (.pointer none) w fun t4 w =>
  condT t4 (
  K (.slice none 0 0) w) (
  K0 [(.slice none 0 0)] w)) fun x0 w =>
  M.pbuffer_Buffer_Traces.j0 a0 w K
def M.pbuffer_Buffer_Traces.L : List Nat := [0, 2]
def M.pbuffer_Buffer_Traces.pl : Nat → Plan := fun id => ⟨.nil, [], false, []⟩
theorem M.pbuffer_Buffer_Traces.eq (a0 : Value) (w : World) (K : KV) : M.pbuffer_Buffer_Traces a0 w K = den P M.pbuffer_Buffer_Traces.L M.pbuffer_Buffer_Traces.pl (Try.f65.body.getD .skip) (argE [a0]) w (bodyQ P Try.f65.results.toList K) := by kernel_rfl
theorem M.pbuffer_Buffer_Traces.ok : okFn M.pbuffer_Buffer_Traces.L M.pbuffer_Buffer_Traces.pl Try.f65 (Try.f65.body.getD .skip) 1 = true := by kernel_rfl
theorem M.pbuffer_Buffer_Traces.calls (a0 : Value) {w : World} {K : KV} (h : M.pbuffer_Buffer_Traces a0 w K) : callT P F.pbuffer_Buffer_Traces [a0] w K :=
  callT_of_den (by kernel_rfl) Try.func65 (by kernel_rfl) M.pbuffer_Buffer_Traces.ok (M.pbuffer_Buffer_Traces.eq a0 w K ▸ h)
theorem M.pbuffer_Buffer_Traces.fcall (args : List Value) (w : World) (K : KV) : fcallT P F.pbuffer_Buffer_Traces args w K = callT P F.pbuffer_Buffer_Traces args w K := fcallT_eq Try.func65 (by kernel_rfl) (by kernel_rfl) args w K
theorem M.pbuffer_Buffer_Traces.rcall (a c args : List Value) (w : World) (K : KV) : callRT P (.func (.func F.pbuffer_Buffer_Traces) a.toArray c.toArray) args w K = callT P F.pbuffer_Buffer_Traces (a ++ args ++ c) w K := callR_fn Try.func65 (by kernel_rfl) (by kernel_rfl) a c args w K

def M.winnowlaw16_uints.j3 (a0 : Value) (x2 : List Value) (a1 : Value) (K2 : KL) (w : World) (K : KV) : Prop :=
  joinT (fun K4 =>
  drawT w fun w =>
  w = w ∧ w = w ∧ quietT (fun K' => iaT P T.sl_uint64 a0 (gv x2 1) w K') w fun t19 =>
  quietT (fun K' => ldT P T.uint64 t19 w K') w fun t20 =>
  w = w ∧ w = w ∧ quietT (fun K' => iaT P T.sl_uint64 a1 (gv x2 1) w K') w fun t23 =>
  quietT (fun K' => ldT P T.uint64 t23 w K') w fun t24 =>
  quietT (fun K' => binT P .neq T.uint64 (.tmp 20) (.tmp 24) t20 t24 w K') w fun t25 =>
  condT t25 (
  K (.bool false) w) (
  K4 [(gv x2 0)] w)) fun x4 w =>
  binT P .add T.int (.tmp 15) (.const (.int .i64 1)) (gv x2 1) (.int .i64 1) w fun t16 w =>
  K2 [(gv x4 0), t16] w
def M.winnowlaw16_uints.j0 (x0 : List Value) (a0 : Value) (a1 : Value) (w : World) (K : KV) : Prop :=
  joinT (fun K1 =>
  loopT [(gv x0 0), (.int .i64 0)] w fun K2 x2 w =>
  joinT (fun K3 =>
  biT P .len #[T.sl_uint64] T.int [false] [a0] w fun t13 w =>
  binT P .lss T.int (.tmp 11) (.tmp 13) (gv x2 1) t13 w fun t14 w =>
  condT t14 (
  K3 [] w) (
  K1 [(gv x2 1), (gv x2 0)] w)) fun x3 w =>
  M.winnowlaw16_uints.j3 a0 x2 a1 K2 w K) fun x1 w =>
  K (.bool true) w
/-- winnow/winnowlaw16.uints -/
def M.winnowlaw16_uints (a0 a1 : Value) (w : World) (K : KV) : Prop :=
  joinT (fun K0 =>
  biT P .len #[T.sl_uint64] T.int [false] [a0] w fun t7 w =>
  biT P .len #[T.sl_uint64] T.int [false] [a1] w fun t9 w =>
  binT P .neq T.int (.tmp 7) (.tmp 9) t7 t9 w fun t10 w =>
  condT t10 (
  K (.bool false) w) (
  K0 [(.bool false)] w)) fun x0 w =>
  M.winnowlaw16_uints.j0 x0 a0 a1 w K
def M.winnowlaw16_uints.L : List Nat := [0, 1, 4, 5]
def M.winnowlaw16_uints.pl : Nat → Plan := fun id => cond (Nat.beq id 6) ⟨(.go 0 (.go 1 (.go 2 (.go 3 (.go 4 (.go 5 (.go 6 (.go 7 (.go 8 .nil))))))))), [], false, [0, 0, 3, 7, 0, 0, 48, 112, 255]⟩ (⟨.nil, [], false, []⟩)
theorem M.winnowlaw16_uints.eq (a0 a1 : Value) (w : World) (K : KV) : M.winnowlaw16_uints a0 a1 w K = den P M.winnowlaw16_uints.L M.winnowlaw16_uints.pl (Try.f66.body.getD .skip) (argE [a0, a1]) w (bodyQ P Try.f66.results.toList K) := by kernel_rfl
theorem M.winnowlaw16_uints.ok : okFn M.winnowlaw16_uints.L M.winnowlaw16_uints.pl Try.f66 (Try.f66.body.getD .skip) 2 = true := by kernel_rfl
theorem M.winnowlaw16_uints.calls (a0 a1 : Value) {w : World} {K : KV} (h : M.winnowlaw16_uints a0 a1 w K) : callT P F.winnowlaw16_uints [a0, a1] w K :=
  callT_of_den (by kernel_rfl) Try.func66 (by kernel_rfl) M.winnowlaw16_uints.ok (M.winnowlaw16_uints.eq a0 a1 w K ▸ h)
theorem M.winnowlaw16_uints.fcall (args : List Value) (w : World) (K : KV) : fcallT P F.winnowlaw16_uints args w K = callT P F.winnowlaw16_uints args w K := fcallT_eq Try.func66 (by kernel_rfl) (by kernel_rfl) args w K
theorem M.winnowlaw16_uints.rcall (a c args : List Value) (w : World) (K : KV) : callRT P (.func (.func F.winnowlaw16_uints) a.toArray c.toArray) args w K = callT P F.winnowlaw16_uints (a ++ args ++ c) w K := callR_fn Try.func66 (by kernel_rfl) (by kernel_rfl) a c args w K

def M.pwinnowref16_Buffer_Due.j6 (x6 : List Value) (x1 : List Value) (a0 : Value) (K5 : KL) (K6 : KL) (w : World) (K : KV) : Prop :=
  joinT (fun K7 =>
  drawT w fun w =>
  w = w ∧ quietT (fun K' => binT P .gtr T.int (.tmp 31) (.const (.int .i64 0)) (gv x6 0) (.int .i64 0) w K') w fun t32 =>
  w = w ∧ quietT (fun K' => guardT (isB t32 true) (fun K' => K' (gv x1 1) w) w K') w fun t34 =>
  quietT (fun K' => guardT (isB t32 true) (fun K' => K' (gv x6 0) w) w K') w fun t35 =>
  quietT (fun K' => guardT (isB t32 true) (fun K' => binT P .sub T.int (.tmp 35) (.const (.int .i64 1)) t35 (.int .i64 1) w K') w K') w fun t36 =>
  quietT (fun K' => guardT (isB t32 true) (fun K' => iaT P T.sl_winnowref16_Trace t34 t36 w K') w K') w fun t37 =>
  quietT (fun K' => guardT (isB t32 true) (fun K' => faT P T.winnowref16_Trace t37 1 w K') w K') w fun t38 =>
  quietT (fun K' => guardT (isB t32 true) (fun K' => ldT P T.uint64 t38 w K') w K') w fun t39 =>
  quietT (fun K' => guardT (isB t32 true) (fun K' => K' a0 w) w K') w fun t40 =>
  quietT (fun K' => guardT (isB t32 true) (fun K' => nilT t40 w K') w K') w fun t41 =>
  quietT (fun K' => guardT (isB t32 true) (fun K' => faT P T.winnowref16_Buffer t41 3 w K') w K') w fun t42 =>
  quietT (fun K' => guardT (isB t32 true) (fun K' => ldT P T.sl_winnowref16_Trace t42 w K') w K') w fun t43 =>
  quietT (fun K' => guardT (isB t32 true) (fun K' => K' (gv x1 2) w) w K') w fun t44 =>
  quietT (fun K' => guardT (isB t32 true) (fun K' => iaT P T.sl_winnowref16_Trace t43 t44 w K') w K') w fun t45 =>
  quietT (fun K' => guardT (isB t32 true) (fun K' => faT P T.winnowref16_Trace t45 1 w K') w K') w fun t46 =>
  quietT (fun K' => guardT (isB t32 true) (fun K' => ldT P T.uint64 t46 w K') w K') w fun t47 =>
  quietT (fun K' => guardT (isB t32 true) (fun K' => binT P .gtr T.uint64 (.tmp 39) (.tmp 47) t39 t47 w K') w K') w fun t48 =>
  quietT (fun K' => pickT t32 t48 (.bool false) w K') w fun t49 =>
  condT t49 (
  K7 [] w) (
  K5 [(gv x6 0)] w)) fun x7 w =>
  binT P .sub T.int (.tmp 50) (.const (.int .i64 1)) (gv x6 0) (.int .i64 1) w fun t51 w =>
  K6 [t51] w
def M.pwinnowref16_Buffer_Due.j5 (x1 : List Value) (x5 : List Value) (a0 : Value) (K3 : KL) (w : World) (K : KV) : Prop :=
  drawT w fun w =>
  joinT (fun K8 =>
  w = w ∧ w = w ∧ quietT (fun K' => slT P T.sl_winnowref16_Trace (gv x1 1) none (some (gv x5 0)) none w K') w fun t55 =>
  w = w ∧ quietT (fun K' => nilT a0 w K') w fun t58 =>
  quietT (fun K' => faT P T.winnowref16_Buffer t58 3 w K') w fun t59 =>
  quietT (fun K' => ldT P T.sl_winnowref16_Trace t59 w K') w fun t60 =>
  w = w ∧ quietT (fun K' => iaT P T.sl_winnowref16_Trace t60 (gv x1 2) w K') w fun t62 =>
  quietT (fun K' => ldT P T.winnowref16_Trace t62 w K') w fun t63 =>
  w = w ∧ w = w ∧ quietT (fun K' => slT P T.sl_winnowref16_Trace (gv x1 1) (some (gv x5 0)) none none w K') w fun t68 =>
  (bsT P T.sl_winnowref16_Trace 0 #[] w fun t52 w =>
  stabT (fun K' => slT P T.sl_winnowref16_Trace (gv x1 1) (some (gv x5 0)) none none w K') w t68 ∧ stabT (fun K' => K' (gv x5 0) w) w (gv x5 0) ∧ stabT (fun K' => K' (gv x1 1) w) w (gv x1 1) ∧ stabT (fun K' => ldT P T.winnowref16_Trace t62 w K') w t63 ∧ stabT (fun K' => iaT P T.sl_winnowref16_Trace t60 (gv x1 2) w K') w t62 ∧ stabT (fun K' => K' (gv x1 2) w) w (gv x1 2) ∧ stabT (fun K' => ldT P T.sl_winnowref16_Trace t59 w K') w t60 ∧ stabT (fun K' => faT P T.winnowref16_Buffer t58 3 w K') w t59 ∧ stabT (fun K' => nilT a0 w K') w t58 ∧ stabT (fun K' => K' a0 w) w a0 ∧ stabT (fun K' => slT P T.sl_winnowref16_Trace (gv x1 1) none (some (gv x5 0)) none w K') w t55 ∧ stabT (fun K' => K' (gv x5 0) w) w (gv x5 0) ∧ stabT (fun K' => K' (gv x1 1) w) w (gv x1 1) ∧ (biT P .append #[T.sl_winnowref16_Trace, T.sl_winnowref16_Trace] T.sl_winnowref16_Trace [false, false] [t52, t55] w fun t56 w =>
  stabT (fun K' => slT P T.sl_winnowref16_Trace (gv x1 1) (some (gv x5 0)) none none w K') w t68 ∧ stabT (fun K' => K' (gv x5 0) w) w (gv x5 0) ∧ stabT (fun K' => K' (gv x1 1) w) w (gv x1 1) ∧ stabT (fun K' => ldT P T.winnowref16_Trace t62 w K') w t63 ∧ stabT (fun K' => iaT P T.sl_winnowref16_Trace t60 (gv x1 2) w K') w t62 ∧ stabT (fun K' => K' (gv x1 2) w) w (gv x1 2) ∧ stabT (fun K' => ldT P T.sl_winnowref16_Trace t59 w K') w t60 ∧ stabT (fun K' => faT P T.winnowref16_Buffer t58 3 w K') w t59 ∧ stabT (fun K' => nilT a0 w K') w t58 ∧ stabT (fun K' => K' a0 w) w a0 ∧ bsT P T.sl_winnowref16_Trace 1 #[(0, t63)] w fun t64 w =>
  stabT (fun K' => slT P T.sl_winnowref16_Trace (gv x1 1) (some (gv x5 0)) none none w K') w t68 ∧ stabT (fun K' => K' (gv x5 0) w) w (gv x5 0) ∧ stabT (fun K' => K' (gv x1 1) w) w (gv x1 1) ∧ stabT (fun K' => slT P T.sl_winnowref16_Trace (gv x1 1) none (some (gv x5 0)) none w K') w t55 ∧ stabT (fun K' => K' (gv x5 0) w) w (gv x5 0) ∧ stabT (fun K' => K' (gv x1 1) w) w (gv x1 1) ∧ biT P .append #[T.sl_winnowref16_Trace, T.sl_winnowref16_Trace] T.sl_winnowref16_Trace [false, false] [t56, t64] w fun t65 w =>
  stabT (fun K' => slT P T.sl_winnowref16_Trace (gv x1 1) (some (gv x5 0)) none none w K') w t68 ∧ stabT (fun K' => K' (gv x5 0) w) w (gv x5 0) ∧ stabT (fun K' => K' (gv x1 1) w) w (gv x1 1) ∧ biT P .append #[T.sl_winnowref16_Trace, T.sl_winnowref16_Trace] T.sl_winnowref16_Trace [false, false] [t65, t68] w fun t69 w =>
  K8 [t52, (gv x1 1), (gv x5 0), t55, t56, a0, t58, t59, t60, (gv x1 2), t62, t63, t64, t65, (gv x1 1), (gv x5 0), t68, t69, t69] w) ∧
  (bsT P T.sl_winnowref16_Trace 1 #[(0, t63)] w fun t64 w =>
  stabT (fun K' => slT P T.sl_winnowref16_Trace (gv x1 1) (some (gv x5 0)) none none w K') w t68 ∧ stabT (fun K' => K' (gv x5 0) w) w (gv x5 0) ∧ stabT (fun K' => K' (gv x1 1) w) w (gv x1 1) ∧ stabT (fun K' => slT P T.sl_winnowref16_Trace (gv x1 1) none (some (gv x5 0)) none w K') w t55 ∧ stabT (fun K' => K' (gv x5 0) w) w (gv x5 0) ∧ stabT (fun K' => K' (gv x1 1) w) w (gv x1 1) ∧ biT P .append #[T.sl_winnowref16_Trace, T.sl_winnowref16_Trace] T.sl_winnowref16_Trace [false, false] [t52, t55] w fun t56 w =>
  stabT (fun K' => slT P T.sl_winnowref16_Trace (gv x1 1) (some (gv x5 0)) none none w K') w t68 ∧ stabT (fun K' => K' (gv x5 0) w) w (gv x5 0) ∧ stabT (fun K' => K' (gv x1 1) w) w (gv x1 1) ∧ stabT (fun K' => ldT P T.winnowref16_Trace t62 w K') w t63 ∧ stabT (fun K' => iaT P T.sl_winnowref16_Trace t60 (gv x1 2) w K') w t62 ∧ stabT (fun K' => K' (gv x1 2) w) w (gv x1 2) ∧ stabT (fun K' => ldT P T.sl_winnowref16_Trace t59 w K') w t60 ∧ stabT (fun K' => faT P T.winnowref16_Buffer t58 3 w K') w t59 ∧ stabT (fun K' => nilT a0 w K') w t58 ∧ stabT (fun K' => K' a0 w) w a0 ∧ biT P .append #[T.sl_winnowref16_Trace, T.sl_winnowref16_Trace] T.sl_winnowref16_Trace [false, false] [t56, t64] w fun t65 w =>
  stabT (fun K' => slT P T.sl_winnowref16_Trace (gv x1 1) (some (gv x5 0)) none none w K') w t68 ∧ stabT (fun K' => K' (gv x5 0) w) w (gv x5 0) ∧ stabT (fun K' => K' (gv x1 1) w) w (gv x1 1) ∧ biT P .append #[T.sl_winnowref16_Trace, T.sl_winnowref16_Trace] T.sl_winnowref16_Trace [false, false] [t65, t68] w fun t69 w =>
  K8 [t52, (gv x1 1), (gv x5 0), t55, t56, a0, t58, t59, t60, (gv x1 2), t62, t63, t64, t65, (gv x1 1), (gv x5 0), t68, t69, t69] w)) ∧
  (bsT P T.sl_winnowref16_Trace 1 #[(0, t63)] w fun t64 w =>
  stabT (fun K' => slT P T.sl_winnowref16_Trace (gv x1 1) (some (gv x5 0)) none none w K') w t68 ∧ stabT (fun K' => K' (gv x5 0) w) w (gv x5 0) ∧ stabT (fun K' => K' (gv x1 1) w) w (gv x1 1) ∧ stabT (fun K' => slT P T.sl_winnowref16_Trace (gv x1 1) none (some (gv x5 0)) none w K') w t55 ∧ stabT (fun K' => K' (gv x5 0) w) w (gv x5 0) ∧ stabT (fun K' => K' (gv x1 1) w) w (gv x1 1) ∧ bsT P T.sl_winnowref16_Trace 0 #[] w fun t52 w =>
  stabT (fun K' => slT P T.sl_winnowref16_Trace (gv x1 1) (some (gv x5 0)) none none w K') w t68 ∧ stabT (fun K' => K' (gv x5 0) w) w (gv x5 0) ∧ stabT (fun K' => K' (gv x1 1) w) w (gv x1 1) ∧ stabT (fun K' => ldT P T.winnowref16_Trace t62 w K') w t63 ∧ stabT (fun K' => iaT P T.sl_winnowref16_Trace t60 (gv x1 2) w K') w t62 ∧ stabT (fun K' => K' (gv x1 2) w) w (gv x1 2) ∧ stabT (fun K' => ldT P T.sl_winnowref16_Trace t59 w K') w t60 ∧ stabT (fun K' => faT P T.winnowref16_Buffer t58 3 w K') w t59 ∧ stabT (fun K' => nilT a0 w K') w t58 ∧ stabT (fun K' => K' a0 w) w a0 ∧ stabT (fun K' => slT P T.sl_winnowref16_Trace (gv x1 1) none (some (gv x5 0)) none w K') w t55 ∧ stabT (fun K' => K' (gv x5 0) w) w (gv x5 0) ∧ stabT (fun K' => K' (gv x1 1) w) w (gv x1 1) ∧ biT P .append #[T.sl_winnowref16_Trace, T.sl_winnowref16_Trace] T.sl_winnowref16_Trace [false, false] [t52, t55] w fun t56 w =>
  stabT (fun K' => slT P T.sl_winnowref16_Trace (gv x1 1) (some (gv x5 0)) none none w K') w t68 ∧ stabT (fun K' => K' (gv x5 0) w) w (gv x5 0) ∧ stabT (fun K' => K' (gv x1 1) w) w (gv x1 1) ∧ stabT (fun K' => ldT P T.winnowref16_Trace t62 w K') w t63 ∧ stabT (fun K' => iaT P T.sl_winnowref16_Trace t60 (gv x1 2) w K') w t62 ∧ stabT (fun K' => K' (gv x1 2) w) w (gv x1 2) ∧ stabT (fun K' => ldT P T.sl_winnowref16_Trace t59 w K') w t60 ∧ stabT (fun K' => faT P T.winnowref16_Buffer t58 3 w K') w t59 ∧ stabT (fun K' => nilT a0 w K') w t58 ∧ stabT (fun K' => K' a0 w) w a0 ∧ biT P .append #[T.sl_winnowref16_Trace, T.sl_winnowref16_Trace] T.sl_winnowref16_Trace [false, false] [t56, t64] w fun t65 w =>
  stabT (fun K' => slT P T.sl_winnowref16_Trace (gv x1 1) (some (gv x5 0)) none none w K') w t68 ∧ stabT (fun K' => K' (gv x5 0) w) w (gv x5 0) ∧ stabT (fun K' => K' (gv x1 1) w) w (gv x1 1) ∧ biT P .append #[T.sl_winnowref16_Trace, T.sl_winnowref16_Trace] T.sl_winnowref16_Trace [false, false] [t65, t68] w fun t69 w =>
  K8 [t52, (gv x1 1), (gv x5 0), t55, t56, a0, t58, t59, t60, (gv x1 2), t62, t63, t64, t65, (gv x1 1), (gv x5 0), t68, t69, t69] w)) fun x8 w =>
  K3 [(gv x5 0), (gv x8 18)] w
def M.pwinnowref16_Buffer_Due.j2 (a0 : Value) (x1 : List Value) (a1 : Value) (K1 : KL) (w : World) (K : KV) : Prop :=
  joinT (fun K3 =>
  joinT (fun K4 =>
  nilT a0 w fun t20 w =>
  faT P T.winnowref16_Buffer t20 3 w fun t21 w =>
  ldT P T.sl_winnowref16_Trace t21 w fun t22 w =>
  iaT P T.sl_winnowref16_Trace t22 (gv x1 2) w fun t24 w =>
  faT P T.winnowref16_Trace t24 1 w fun t25 w =>
  ldT P T.uint64 t25 w fun t26 w =>
  binT P .gtr T.uint64 (.tmp 26) (.tmp 27) t26 a1 w fun t28 w =>
  condT t28 (
  K3 [(gv x1 0), (gv x1 1)] w) (
  K4 [] w)) fun x4 w =>
  biT P .len #[T.sl_winnowref16_Trace] T.int [false] [(gv x1 1)] w fun t30 w =>
  joinT (fun K5 =>
  loopT [t30] w fun K6 x6 w =>
  M.pwinnowref16_Buffer_Due.j6 x6 x1 a0 K5 K6 w K) fun x5 w =>
  M.pwinnowref16_Buffer_Due.j5 x1 x5 a0 K3 w K) fun x3 w =>
  binT P .add T.int (.tmp 17) (.const (.int .i64 1)) (gv x1 2) (.int .i64 1) w fun t18 w =>
  K1 [(gv x3 0), (gv x3 1), t18] w
def M.pwinnowref16_Buffer_Due.j1 (a0 : Value) (x1 : List Value) (K0 : KL) (a1 : Value) (K1 : KL) (w : World) (K : KV) : Prop :=
  joinT (fun K2 =>
  nilT a0 w fun t12 w =>
  faT P T.winnowref16_Buffer t12 3 w fun t13 w =>
  ldT P T.sl_winnowref16_Trace t13 w fun t14 w =>
  biT P .len #[T.sl_winnowref16_Trace] T.int [false] [t14] w fun t15 w =>
  binT P .lss T.int (.tmp 10) (.tmp 15) (gv x1 2) t15 w fun t16 w =>
  condT t16 (
  K2 [] w) (
  K0 [(gv x1 2), (gv x1 0), (gv x1 1)] w)) fun x2 w =>
  M.pwinnowref16_Buffer_Due.j2 a0 x1 a1 K1 w K
def M.pwinnowref16_Buffer_Due.j11 (x0 : List Value) (x10 : List Value) (K10 : KL) (w : World) (K : KV) : Prop :=
  joinT (fun K12 =>
  iaT P T.sl_winnowref16_Trace (gv x0 2) (gv x10 1) w fun t79 w =>
  faT P T.winnowref16_Trace t79 0 w fun t80 w =>
  ldT P T.uint64 t80 w fun t81 w =>
  bsT P T.sl_uint64 1 #[(0, t81)] w fun t82 w =>
  biT P .append #[T.sl_uint64, T.sl_uint64] T.sl_uint64 [false, false] [(gv x10 0), t82] w fun t83 w =>
  K12 [t83] w) fun x12 w =>
  binT P .add T.int (.tmp 74) (.const (.int .i64 1)) (gv x10 1) (.int .i64 1) w fun t75 w =>
  K10 [(gv x12 0), t75] w
def M.pwinnowref16_Buffer_Due.j10 (x0 : List Value) (x10 : List Value) (K9 : KL) (K10 : KL) (w : World) (K : KV) : Prop :=
  joinT (fun K11 =>
  biT P .len #[T.sl_winnowref16_Trace] T.int [false] [(gv x0 2)] w fun t72 w =>
  binT P .lss T.int (.tmp 70) (.tmp 72) (gv x10 1) t72 w fun t73 w =>
  condT t73 (
  K11 [] w) (
  K9 [(gv x10 1), (gv x10 0)] w)) fun x11 w =>
  M.pwinnowref16_Buffer_Due.j11 x0 x10 K10 w K
/-- (*winnow/winnowref16.Buffer).Due -/
def M.pwinnowref16_Buffer_Due (a0 a1 : Value) (w : World) (K : KV) : Prop :=
  joinT (fun K0 =>
  loopT [undef, (.slice none 0 0), (.int .i64 0)] w fun K1 x1 w =>
  M.pwinnowref16_Buffer_Due.j1 a0 x1 K0 a1 K1 w K) fun x0 w =>
  joinT (fun K9 =>
  loopT [(.slice none 0 0), (.int .i64 0)] w fun K10 x10 w =>
  M.pwinnowref16_Buffer_Due.j10 x0 x10 K9 K10 w K) fun x9 w =>
  K (gv x9 1) w
def M.pwinnowref16_Buffer_Due.L : List Nat := [0, 1, 4, 5, 6, 7, 8, 9]
def M.pwinnowref16_Buffer_Due.pl : Nat → Plan := fun id => cond (Nat.beq id 7) ⟨(.go 0 (.go 1 (.go 2 (.go 3 (.go 4 (.go 5 (.go 6 (.go 7 (.go 8 (.go 9 (.go 10 (.go 11 (.go 12 (.go 13 (.go 14 (.go 15 (.go 16 (.go 17 (.go 18 .nil))))))))))))))))))), [], false, [0, 1, 3, 7, 7, 23, 63, 127, 255, 7, 519, 1543, 3591, 7, 15879, 32263, 65031, 131071, 262143]⟩ (cond (Nat.beq id 9) ⟨(.go 1 (.go 2 (.go 3 (.go 5 (.go 6 (.go 7 (.go 8 (.go 9 (.go 10 (.go 11 (.go 14 (.go 15 (.go 16 (.eff 0 (.eff 4 (.eff 12 (.eff 13 (.eff 17 (.eff 18 .nil .stop) .stop) .stop) .stop) (.eff 12 (.eff 4 (.eff 13 (.eff 17 (.eff 18 .nil .stop) .stop) .stop) .stop) .stop)) (.eff 12 (.eff 0 (.eff 4 (.eff 13 (.eff 17 (.eff 18 .nil .stop) .stop) .stop) .stop) .stop) .stop))))))))))))))), [0, 4, 12, 13, 17, 18], true, [0, 0, 0, 6, 15, 0, 32, 96, 224, 0, 992, 2016, 4064, 8191, 0, 0, 49152, 131071, 262143]⟩ (⟨.nil, [], false, []⟩))
theorem M.pwinnowref16_Buffer_Due.eq (a0 a1 : Value) (w : World) (K : KV) : M.pwinnowref16_Buffer_Due a0 a1 w K = den P M.pwinnowref16_Buffer_Due.L M.pwinnowref16_Buffer_Due.pl (Try.f67.body.getD .skip) (argE [a0, a1]) w (bodyQ P Try.f67.results.toList K) := by kernel_rfl
theorem M.pwinnowref16_Buffer_Due.ok : okFn M.pwinnowref16_Buffer_Due.L M.pwinnowref16_Buffer_Due.pl Try.f67 (Try.f67.body.getD .skip) 2 = true := by kernel_rfl
theorem M.pwinnowref16_Buffer_Due.calls (a0 a1 : Value) {w : World} {K : KV} (h : M.pwinnowref16_Buffer_Due a0 a1 w K) : callT P F.pwinnowref16_Buffer_Due [a0, a1] w K :=
  callT_of_den (by kernel_rfl) Try.func67 (by kernel_rfl) M.pwinnowref16_Buffer_Due.ok (M.pwinnowref16_Buffer_Due.eq a0 a1 w K ▸ h)
theorem M.pwinnowref16_Buffer_Due.fcall (args : List Value) (w : World) (K : KV) : fcallT P F.pwinnowref16_Buffer_Due args w K = callT P F.pwinnowref16_Buffer_Due args w K := fcallT_eq Try.func67 (by kernel_rfl) (by kernel_rfl) args w K
theorem M.pwinnowref16_Buffer_Due.rcall (a c args : List Value) (w : World) (K : KV) : callRT P (.func (.func F.pwinnowref16_Buffer_Due) a.toArray c.toArray) args w K = callT P F.pwinnowref16_Buffer_Due (a ++ args ++ c) w K := callR_fn Try.func67 (by kernel_rfl) (by kernel_rfl) a c args w K

def M.cmp_Or_api_Kind.j2 (a0 : Value) (x1 : List Value) (K1 : KL) (w : World) (K : KV) : Prop :=
  joinT (fun K3 =>
  iaT P T.sl_api_Kind a0 (gv x1 2) w fun t10 w =>
  ldT P T.api_Kind t10 w fun t11 w =>
  binT P .neq T.api_Kind (.tmp 12) (.tmp 13) t11 (.int .i64 0) w fun t14 w =>
  condT t14 (
  K t11 w) (
  K3 [t11, (gv x1 1)] w)) fun x3 w =>
  binT P .add T.int (.tmp 8) (.const (.int .i64 1)) (gv x1 2) (.int .i64 1) w fun t16 w =>
  K1 [(gv x3 0), (gv x3 1), t16] w
/-- cmp.Or[winnow/api.Kind] -/
def M.cmp_Or_api_Kind (a0 : Value) (w : World) (K : KV) : Prop :=
  joinT (fun K0 =>
  biT P .len #[T.sl_api_Kind] T.int [false] [a0] w fun t7 w =>
  loopT [undef, (.int .i64 0), (.int .i64 0)] w fun K1 x1 w =>
  binT P .lss T.int (.tmp 8) (.tmp 7) (gv x1 2) t7 w fun t9 w =>
  joinT (fun K2 =>
  condT t9 (
  K2 [] w) (
  K0 [a0, t7, (gv x1 2), (gv x1 0), (gv x1 1)] w)) fun x2 w =>
  M.cmp_Or_api_Kind.j2 a0 x1 K1 w K) fun x0 w =>
  K (.int .i64 0) w
def M.cmp_Or_api_Kind.L : List Nat := [0, 2, 3, 5, 8, 7, 6]
def M.cmp_Or_api_Kind.pl : Nat → Plan := fun id => ⟨.nil, [], false, []⟩
theorem M.cmp_Or_api_Kind.eq (a0 : Value) (w : World) (K : KV) : M.cmp_Or_api_Kind a0 w K = den P M.cmp_Or_api_Kind.L M.cmp_Or_api_Kind.pl (Try.f70.body.getD .skip) (argE [a0]) w (bodyQ P Try.f70.results.toList K) := by kernel_rfl
theorem M.cmp_Or_api_Kind.ok : okFn M.cmp_Or_api_Kind.L M.cmp_Or_api_Kind.pl Try.f70 (Try.f70.body.getD .skip) 1 = true := by kernel_rfl
theorem M.cmp_Or_api_Kind.calls (a0 : Value) {w : World} {K : KV} (h : M.cmp_Or_api_Kind a0 w K) : callT P F.cmp_Or_api_Kind [a0] w K :=
  callT_of_den (by kernel_rfl) Try.func70 (by kernel_rfl) M.cmp_Or_api_Kind.ok (M.cmp_Or_api_Kind.eq a0 w K ▸ h)
theorem M.cmp_Or_api_Kind.fcall (args : List Value) (w : World) (K : KV) : fcallT P F.cmp_Or_api_Kind args w K = callT P F.cmp_Or_api_Kind args w K := fcallT_eq Try.func70 (by kernel_rfl) (by kernel_rfl) args w K
theorem M.cmp_Or_api_Kind.rcall (a c args : List Value) (w : World) (K : KV) : callRT P (.func (.func F.cmp_Or_api_Kind) a.toArray c.toArray) args w K = callT P F.cmp_Or_api_Kind (a ++ args ++ c) w K := callR_fn Try.func70 (by kernel_rfl) (by kernel_rfl) a c args w K

/-- slices.Sorted[uint64] -/
def M.slices_Sorted_uint64 (a0 : Value) (w : World) (K : KV) : Prop :=
  fcallT P F.slices_Collect_uint64 [a0] w fun t5 w =>
  fcallT P F.slices_Sort_uint64_uint64 [t5] w fun t7 w =>
  K t5 w
def M.slices_Sorted_uint64.L : List Nat := [0, 2, 3]
def M.slices_Sorted_uint64.pl : Nat → Plan := fun id => ⟨.nil, [], false, []⟩
theorem M.slices_Sorted_uint64.eq (a0 : Value) (w : World) (K : KV) : M.slices_Sorted_uint64 a0 w K = den P M.slices_Sorted_uint64.L M.slices_Sorted_uint64.pl (Try.f73.body.getD .skip) (argE [a0]) w (bodyQ P Try.f73.results.toList K) := by kernel_rfl
theorem M.slices_Sorted_uint64.ok : okFn M.slices_Sorted_uint64.L M.slices_Sorted_uint64.pl Try.f73 (Try.f73.body.getD .skip) 1 = true := by kernel_rfl
theorem M.slices_Sorted_uint64.calls (a0 : Value) {w : World} {K : KV} (h : M.slices_Sorted_uint64 a0 w K) : callT P F.slices_Sorted_uint64 [a0] w K :=
  callT_of_den (by kernel_rfl) Try.func73 (by kernel_rfl) M.slices_Sorted_uint64.ok (M.slices_Sorted_uint64.eq a0 w K ▸ h)
theorem M.slices_Sorted_uint64.fcall (args : List Value) (w : World) (K : KV) : fcallT P F.slices_Sorted_uint64 args w K = callT P F.slices_Sorted_uint64 args w K := fcallT_eq Try.func73 (by kernel_rfl) (by kernel_rfl) args w K
theorem M.slices_Sorted_uint64.rcall (a c args : List Value) (w : World) (K : KV) : callRT P (.func (.func F.slices_Sorted_uint64) a.toArray c.toArray) args w K = callT P F.slices_Sorted_uint64 (a ++ args ++ c) w K := callR_fn Try.func73 (by kernel_rfl) (by kernel_rfl) a c args w K

/-- slices.Clone[[]winnow/api.Span,winnow/api.Span] -/
def M.slices_Clone_api_Span_api_Span (a0 : Value) (w : World) (K : KV) : Prop :=
  joinT (fun K0 =>
  binT P .eql T.sl_api_Span (.tmp 3) (.const (.slice none 0 0)) a0 (.slice none 0 0) w fun t4 w =>
  condT t4 (
  K (.slice none 0 0) w) (
  K0 [(.slice none 0 0)] w)) fun x0 w =>
  bsT P T.sl_api_Span 0 #[] w fun t5 w =>
  biT P .append #[T.sl_api_Span, T.sl_api_Span] T.sl_api_Span [false, false] [t5, a0] w fun t7 w =>
  K t7 w
def M.slices_Clone_api_Span_api_Span.L : List Nat := [0, 2]
def M.slices_Clone_api_Span_api_Span.pl : Nat → Plan := fun id => ⟨.nil, [], false, []⟩
theorem M.slices_Clone_api_Span_api_Span.eq (a0 : Value) (w : World) (K : KV) : M.slices_Clone_api_Span_api_Span a0 w K = den P M.slices_Clone_api_Span_api_Span.L M.slices_Clone_api_Span_api_Span.pl (Try.f94.body.getD .skip) (argE [a0]) w (bodyQ P Try.f94.results.toList K) := by kernel_rfl
theorem M.slices_Clone_api_Span_api_Span.ok : okFn M.slices_Clone_api_Span_api_Span.L M.slices_Clone_api_Span_api_Span.pl Try.f94 (Try.f94.body.getD .skip) 1 = true := by kernel_rfl
theorem M.slices_Clone_api_Span_api_Span.calls (a0 : Value) {w : World} {K : KV} (h : M.slices_Clone_api_Span_api_Span a0 w K) : callT P F.slices_Clone_api_Span_api_Span [a0] w K :=
  callT_of_den (by kernel_rfl) Try.func94 (by kernel_rfl) M.slices_Clone_api_Span_api_Span.ok (M.slices_Clone_api_Span_api_Span.eq a0 w K ▸ h)
theorem M.slices_Clone_api_Span_api_Span.fcall (args : List Value) (w : World) (K : KV) : fcallT P F.slices_Clone_api_Span_api_Span args w K = callT P F.slices_Clone_api_Span_api_Span args w K := fcallT_eq Try.func94 (by kernel_rfl) (by kernel_rfl) args w K
theorem M.slices_Clone_api_Span_api_Span.rcall (a c args : List Value) (w : World) (K : KV) : callRT P (.func (.func F.slices_Clone_api_Span_api_Span) a.toArray c.toArray) args w K = callT P F.slices_Clone_api_Span_api_Span (a ++ args ++ c) w K := callR_fn Try.func94 (by kernel_rfl) (by kernel_rfl) a c args w K

def M.ptimers_Heap_At.j0 (a0 : Value) (a1 : Value) (w : World) (K : KV) : Prop :=
  nilT a0 w fun t18 w =>
  faT P T.timers_Heap t18 1 w fun t19 w =>
  ldT P T.map_uint64_p_timers_item t19 w fun t20 w =>
  luT P T.map_uint64_p_timers_item t20 a1 false w fun t22 w =>
  nilT t22 w fun t23 w =>
  faT P T.timers_item t23 1 w fun t24 w =>
  ldT P T.uint64 t24 w fun t25 w =>
  K (.tuple #[t25, (.bool true)]) w
/-- (*winnow/timers.Heap).At -/
def M.ptimers_Heap_At (a0 a1 : Value) (w : World) (K : KV) : Prop :=
  joinT (fun K0 =>
  binT P .eql T.p_timers_Heap (.tmp 6) (.const (.pointer none)) a0 (.pointer none) w fun t7 w =>
  guardT (isB t7 false) (fun K' => K' a0 w) w fun t9 w =>
  guardT (isB t7 false) (fun K' => nilT t9 w K') w fun t10 w =>
  guardT (isB t7 false) (fun K' => faT P T.timers_Heap t10 1 w K') w fun t11 w =>
  guardT (isB t7 false) (fun K' => ldT P T.map_uint64_p_timers_item t11 w K') w fun t12 w =>
  guardT (isB t7 false) (fun K' => K' a1 w) w fun t13 w =>
  guardT (isB t7 false) (fun K' => luT P T.map_uint64_p_timers_item t12 t13 false w K') w fun t14 w =>
  guardT (isB t7 false) (fun K' => binT P .eql T.p_timers_item (.tmp 14) (.const (.pointer none)) t14 (.pointer none) w K') w fun t15 w =>
  pickT t7 (.bool true) t15 w fun t16 w =>
  condT t16 (
  K (.tuple #[(.int .u64 0), (.bool false)]) w) (
  K0 [(.int .u64 0), (.bool false)] w)) fun x0 w =>
  M.ptimers_Heap_At.j0 a0 a1 w K
def M.ptimers_Heap_At.L : List Nat := [0, 1, 4, 5]
def M.ptimers_Heap_At.pl : Nat → Plan := fun id => ⟨.nil, [], false, []⟩
theorem M.ptimers_Heap_At.eq (a0 a1 : Value) (w : World) (K : KV) : M.ptimers_Heap_At a0 a1 w K = den P M.ptimers_Heap_At.L M.ptimers_Heap_At.pl (Try.f95.body.getD .skip) (argE [a0, a1]) w (bodyQ P Try.f95.results.toList K) := by kernel_rfl
theorem M.ptimers_Heap_At.ok : okFn M.ptimers_Heap_At.L M.ptimers_Heap_At.pl Try.f95 (Try.f95.body.getD .skip) 2 = true := by kernel_rfl
theorem M.ptimers_Heap_At.calls (a0 a1 : Value) {w : World} {K : KV} (h : M.ptimers_Heap_At a0 a1 w K) : callT P F.ptimers_Heap_At [a0, a1] w K :=
  callT_of_den (by kernel_rfl) Try.func95 (by kernel_rfl) M.ptimers_Heap_At.ok (M.ptimers_Heap_At.eq a0 a1 w K ▸ h)
theorem M.ptimers_Heap_At.fcall (args : List Value) (w : World) (K : KV) : fcallT P F.ptimers_Heap_At args w K = callT P F.ptimers_Heap_At args w K := fcallT_eq Try.func95 (by kernel_rfl) (by kernel_rfl) args w K
theorem M.ptimers_Heap_At.rcall (a c args : List Value) (w : World) (K : KV) : callRT P (.func (.func F.ptimers_Heap_At) a.toArray c.toArray) args w K = callT P F.ptimers_Heap_At (a ++ args ++ c) w K := callR_fn Try.func95 (by kernel_rfl) (by kernel_rfl) a c args w K

def M.ptimers_Heap_Pop.j0 (a0 : Value) (a1 : Value) (x0 : List Value) (K0 : KL) (w : World) (K : KV) : Prop :=
  fcallT P F.ptimers_Heap_Next [a0] w fun t10 w =>
  exT P t10 0 w fun t11 w =>
  exT P t10 1 w fun t12 w =>
  exT P t10 2 w fun t13 w =>
  joinT (fun K1 =>
  unT P .not t13 w fun t15 w =>
  guardT (isB t15 false) (fun K' => K' t12 w) w fun t17 w =>
  guardT (isB t15 false) (fun K' => K' a1 w) w fun t18 w =>
  guardT (isB t15 false) (fun K' => binT P .gtr T.uint64 (.tmp 17) (.tmp 18) t17 t18 w K') w fun t19 w =>
  pickT t15 (.bool true) t19 w fun t20 w =>
  condT t20 (
  K (gv x0 3) w) (
  K1 [(gv x0 3)] w)) fun x1 w =>
  bsT P T.sl_uint64 1 #[(0, t11)] w fun t24 w =>
  biT P .append #[T.sl_uint64, T.sl_uint64] T.sl_uint64 [false, false] [(gv x1 0), t24] w fun t25 w =>
  fcallT P F.ptimers_Heap_Del [a0, t11] w fun t28 w =>
  K0 [t11, t12, t13, t25] w
/-- (*winnow/timers.Heap).Pop -/
def M.ptimers_Heap_Pop (a0 a1 : Value) (w : World) (K : KV) : Prop :=
  loopT [undef, undef, undef, (.slice none 0 0)] w fun K0 x0 w =>
  M.ptimers_Heap_Pop.j0 a0 a1 x0 K0 w K
def M.ptimers_Heap_Pop.L : List Nat := [0, 1, 4, 5, 6, 7]
def M.ptimers_Heap_Pop.pl : Nat → Plan := fun id => ⟨.nil, [], false, []⟩
theorem M.ptimers_Heap_Pop.eq (a0 a1 : Value) (w : World) (K : KV) : M.ptimers_Heap_Pop a0 a1 w K = den P M.ptimers_Heap_Pop.L M.ptimers_Heap_Pop.pl (Try.f96.body.getD .skip) (argE [a0, a1]) w (bodyQ P Try.f96.results.toList K) := by kernel_rfl
theorem M.ptimers_Heap_Pop.ok : okFn M.ptimers_Heap_Pop.L M.ptimers_Heap_Pop.pl Try.f96 (Try.f96.body.getD .skip) 2 = true := by kernel_rfl
theorem M.ptimers_Heap_Pop.calls (a0 a1 : Value) {w : World} {K : KV} (h : M.ptimers_Heap_Pop a0 a1 w K) : callT P F.ptimers_Heap_Pop [a0, a1] w K :=
  callT_of_den (by kernel_rfl) Try.func96 (by kernel_rfl) M.ptimers_Heap_Pop.ok (M.ptimers_Heap_Pop.eq a0 a1 w K ▸ h)
theorem M.ptimers_Heap_Pop.fcall (args : List Value) (w : World) (K : KV) : fcallT P F.ptimers_Heap_Pop args w K = callT P F.ptimers_Heap_Pop args w K := fcallT_eq Try.func96 (by kernel_rfl) (by kernel_rfl) args w K
theorem M.ptimers_Heap_Pop.rcall (a c args : List Value) (w : World) (K : KV) : callRT P (.func (.func F.ptimers_Heap_Pop) a.toArray c.toArray) args w K = callT P F.ptimers_Heap_Pop (a ++ args ++ c) w K := callR_fn Try.func96 (by kernel_rfl) (by kernel_rfl) a c args w K

def M.span_Name.j4 (x4 : List Value) (t17 : Value) (a0 : Value) (t16 : Value) (K2 : KL) (t14 : Value) (x2 : List Value) (w : World) (K : KV) : Prop :=
  condT (gv x4 0) (
  K (.int .i64 5) w) (
  binT P .eql T.int32 (.tmp 28) (.const (.int .i32 65533)) t17 (.int .i32 65533) w fun t29 w =>
  guardT (isB t29 true) (fun K' => K' a0 w) w fun t31 w =>
  guardT (isB t29 true) (fun K' => K' t16 w) w fun t32 w =>
  guardT (isB t29 true) (fun K' => slT P T.string t31 (some t32) none none w K') w fun t33 w =>
  guardT (isB t29 true) (fun K' => fcallT P F.strings_HasPrefix [t33, (.string ⟨#[239, 191, 189]⟩)] w K') w fun t34 w =>
  guardT (isB t29 true) (fun K' => unT P .not t34 w K') w fun t35 w =>
  pickT t29 t35 (.bool false) w fun t36 w =>
  condT t36 (
  K (.int .i64 5) w) (
  K2 [t14, t16, t17, (gv x4 0), (gv x2 4), t36] w))
def M.span_Name.j3 (t14 : Value) (a0 : Value) (K2 : KL) (x2 : List Value) (w : World) (K : KV) : Prop :=
  exT P t14 1 w fun t16 w =>
  exT P t14 2 w fun t17 w =>
  joinT (fun K4 =>
  binT P .lss T.int32 (.tmp 19) (.const (.int .i32 32)) t17 (.int .i32 32) w fun t20 w =>
  condT t20 (
  K4 [t20] w) (
  binT P .leq T.int32 (.const (.int .i32 127)) (.tmp 21) (.int .i32 127) t17 w fun t22 w =>
  guardT (isB t22 true) (fun K' => K' t17 w) w fun t24 w =>
  guardT (isB t22 true) (fun K' => binT P .leq T.int32 (.tmp 24) (.const (.int .i32 159)) t24 (.int .i32 159) w K') w fun t25 w =>
  pickT t22 t25 (.bool false) w fun t26 w =>
  K4 [t26] w)) fun x4 w =>
  M.span_Name.j4 x4 t17 a0 t16 K2 t14 x2 w K
def M.span_Name.j0 (a0 : Value) (x0 : List Value) (w : World) (K : KV) : Prop :=
  joinT (fun K1 =>
  rgT P T.string a0 w fun t13 w =>
  loopT [undef, undef, undef, undef, (gv x0 0), undef] w fun K2 x2 w =>
  nxT P t13 true T._ w fun t14 w =>
  exT P t14 0 w fun t15 w =>
  joinT (fun K3 =>
  condT t15 (
  K3 [] w) (
  K1 [t13, t14, (gv x2 1), (gv x2 2), (gv x2 3), (gv x2 4), (gv x2 5)] w)) fun x3 w =>
  M.span_Name.j3 t14 a0 K2 x2 w K) fun x1 w =>
  K (.int .i64 0) w
/-- winnow/span.Name -/
def M.span_Name (a0 : Value) (w : World) (K : KV) : Prop :=
  joinT (fun K0 =>
  binT P .eql T.string (.tmp 5) (.const (.string ⟨#[]⟩)) a0 (.string ⟨#[]⟩) w fun t6 w =>
  guardT (isB t6 false) (fun K' => K' a0 w) w fun t8 w =>
  guardT (isB t6 false) (fun K' => biT P .len #[T.string] T.int [false] [t8] w K') w fun t9 w =>
  guardT (isB t6 false) (fun K' => binT P .gtr T.int (.tmp 9) (.const (.int .i64 32)) t9 (.int .i64 32) w K') w fun t10 w =>
  pickT t6 (.bool true) t10 w fun t11 w =>
  condT t11 (
  K (.int .i64 5) w) (
  K0 [(.int .i64 0)] w)) fun x0 w =>
  M.span_Name.j0 a0 x0 w K
def M.span_Name.L : List Nat := [0, 2, 3, 4, 18, 27, 13, 14]
def M.span_Name.pl : Nat → Plan := fun id => ⟨.nil, [], false, []⟩
theorem M.span_Name.eq (a0 : Value) (w : World) (K : KV) : M.span_Name a0 w K = den P M.span_Name.L M.span_Name.pl (Try.f97.body.getD .skip) (argE [a0]) w (bodyQ P Try.f97.results.toList K) := by kernel_rfl
theorem M.span_Name.ok : okFn M.span_Name.L M.span_Name.pl Try.f97 (Try.f97.body.getD .skip) 1 = true := by kernel_rfl
theorem M.span_Name.calls (a0 : Value) {w : World} {K : KV} (h : M.span_Name a0 w K) : callT P F.span_Name [a0] w K :=
  callT_of_den (by kernel_rfl) Try.func97 (by kernel_rfl) M.span_Name.ok (M.span_Name.eq a0 w K ▸ h)
theorem M.span_Name.fcall (args : List Value) (w : World) (K : KV) : fcallT P F.span_Name args w K = callT P F.span_Name args w K := fcallT_eq Try.func97 (by kernel_rfl) (by kernel_rfl) args w K
theorem M.span_Name.rcall (a c args : List Value) (w : World) (K : KV) : callRT P (.func (.func F.span_Name) a.toArray c.toArray) args w K = callT P F.span_Name (a ++ args ++ c) w K := callR_fn Try.func97 (by kernel_rfl) (by kernel_rfl) a c args w K

/-- container/heap.Fix -/
def M.heap_Fix (a0 a1 : Value) (w : World) (K : KV) : Prop :=
  invokeT P a0 "Len" [] w fun t7 w =>
  fcallT P F.heap_down [a0, a1, t7] w fun t8 w =>
  unT P .not t8 w fun t9 w =>
  condT t9 (
  fcallT P F.heap_up [a0, a1] w fun t12 w =>
  K (.tuple #[]) w) (
  K (.tuple #[]) w)
def M.heap_Fix.L : List Nat := [0, 1]
def M.heap_Fix.pl : Nat → Plan := fun id => ⟨.nil, [], false, []⟩
theorem M.heap_Fix.eq (a0 a1 : Value) (w : World) (K : KV) : M.heap_Fix a0 a1 w K = den P M.heap_Fix.L M.heap_Fix.pl (Try.f98.body.getD .skip) (argE [a0, a1]) w (bodyQ P Try.f98.results.toList K) := by kernel_rfl
theorem M.heap_Fix.ok : okFn M.heap_Fix.L M.heap_Fix.pl Try.f98 (Try.f98.body.getD .skip) 2 = true := by kernel_rfl
theorem M.heap_Fix.calls (a0 a1 : Value) {w : World} {K : KV} (h : M.heap_Fix a0 a1 w K) : callT P F.heap_Fix [a0, a1] w K :=
  callT_of_den (by kernel_rfl) Try.func98 (by kernel_rfl) M.heap_Fix.ok (M.heap_Fix.eq a0 a1 w K ▸ h)
theorem M.heap_Fix.fcall (args : List Value) (w : World) (K : KV) : fcallT P F.heap_Fix args w K = callT P F.heap_Fix args w K := fcallT_eq Try.func98 (by kernel_rfl) (by kernel_rfl) args w K
theorem M.heap_Fix.rcall (a c args : List Value) (w : World) (K : KV) : callRT P (.func (.func F.heap_Fix) a.toArray c.toArray) args w K = callT P F.heap_Fix (a ++ args ++ c) w K := callR_fn Try.func98 (by kernel_rfl) (by kernel_rfl) a c args w K

/-- container/heap.Push -/
def M.heap_Push (a0 a1 : Value) (w : World) (K : KV) : Prop :=
  invokeT P a0 "Push" [a1] w fun t6 w =>
  invokeT P a0 "Len" [] w fun t9 w =>
  binT P .sub T.int (.tmp 9) (.const (.int .i64 1)) t9 (.int .i64 1) w fun t10 w =>
  fcallT P F.heap_up [a0, t10] w fun t11 w =>
  K (.tuple #[]) w
def M.heap_Push.L : List Nat := [0, 1]
def M.heap_Push.pl : Nat → Plan := fun id => ⟨.nil, [], false, []⟩
theorem M.heap_Push.eq (a0 a1 : Value) (w : World) (K : KV) : M.heap_Push a0 a1 w K = den P M.heap_Push.L M.heap_Push.pl (Try.f99.body.getD .skip) (argE [a0, a1]) w (bodyQ P Try.f99.results.toList K) := by kernel_rfl
theorem M.heap_Push.ok : okFn M.heap_Push.L M.heap_Push.pl Try.f99 (Try.f99.body.getD .skip) 2 = true := by kernel_rfl
theorem M.heap_Push.calls (a0 a1 : Value) {w : World} {K : KV} (h : M.heap_Push a0 a1 w K) : callT P F.heap_Push [a0, a1] w K :=
  callT_of_den (by kernel_rfl) Try.func99 (by kernel_rfl) M.heap_Push.ok (M.heap_Push.eq a0 a1 w K ▸ h)
theorem M.heap_Push.fcall (args : List Value) (w : World) (K : KV) : fcallT P F.heap_Push args w K = callT P F.heap_Push args w K := fcallT_eq Try.func99 (by kernel_rfl) (by kernel_rfl) args w K
theorem M.heap_Push.rcall (a c args : List Value) (w : World) (K : KV) : callRT P (.func (.func F.heap_Push) a.toArray c.toArray) args w K = callT P F.heap_Push (a ++ args ++ c) w K := callR_fn Try.func99 (by kernel_rfl) (by kernel_rfl) a c args w K

def M.slices_IndexFunc_api_Span_api_Span.j2 (a0 : Value) (x1 : List Value) (a1 : Value) (K1 : KL) (w : World) (K : KV) : Prop :=
  joinT (fun K3 =>
  iaT P T.sl_api_Span a0 (gv x1 2) w fun t14 w =>
  ldT P T.api_Span t14 w fun t15 w =>
  callRT P a1 [t15] w fun t16 w =>
  condT t16 (
  K (gv x1 2) w) (
  K3 [(gv x1 2), (gv x1 1)] w)) fun x3 w =>
  binT P .add T.int (.tmp 8) (.const (.int .i64 1)) (gv x1 2) (.int .i64 1) w fun t18 w =>
  K1 [(gv x3 0), (gv x3 1), t18] w
/-- slices.IndexFunc[[]winnow/api.Span,winnow/api.Span] -/
def M.slices_IndexFunc_api_Span_api_Span (a0 a1 : Value) (w : World) (K : KV) : Prop :=
  joinT (fun K0 =>
  biT P .len #[T.sl_api_Span] T.int [false] [a0] w fun t7 w =>
  loopT [undef, (.int .i64 0), (.int .i64 0)] w fun K1 x1 w =>
  binT P .lss T.int (.tmp 8) (.tmp 7) (gv x1 2) t7 w fun t9 w =>
  joinT (fun K2 =>
  condT t9 (
  K2 [] w) (
  K0 [t7, (gv x1 2), (gv x1 0), (gv x1 1)] w)) fun x2 w =>
  M.slices_IndexFunc_api_Span_api_Span.j2 a0 x1 a1 K1 w K) fun x0 w =>
  K (.int .i64 (-1)) w
def M.slices_IndexFunc_api_Span_api_Span.L : List Nat := [0, 1, 4, 5, 8, 7]
def M.slices_IndexFunc_api_Span_api_Span.pl : Nat → Plan := fun id => ⟨.nil, [], false, []⟩
theorem M.slices_IndexFunc_api_Span_api_Span.eq (a0 a1 : Value) (w : World) (K : KV) : M.slices_IndexFunc_api_Span_api_Span a0 a1 w K = den P M.slices_IndexFunc_api_Span_api_Span.L M.slices_IndexFunc_api_Span_api_Span.pl (Try.f100.body.getD .skip) (argE [a0, a1]) w (bodyQ P Try.f100.results.toList K) := by kernel_rfl
theorem M.slices_IndexFunc_api_Span_api_Span.ok : okFn M.slices_IndexFunc_api_Span_api_Span.L M.slices_IndexFunc_api_Span_api_Span.pl Try.f100 (Try.f100.body.getD .skip) 2 = true := by kernel_rfl
theorem M.slices_IndexFunc_api_Span_api_Span.calls (a0 a1 : Value) {w : World} {K : KV} (h : M.slices_IndexFunc_api_Span_api_Span a0 a1 w K) : callT P F.slices_IndexFunc_api_Span_api_Span [a0, a1] w K :=
  callT_of_den (by kernel_rfl) Try.func100 (by kernel_rfl) M.slices_IndexFunc_api_Span_api_Span.ok (M.slices_IndexFunc_api_Span_api_Span.eq a0 a1 w K ▸ h)
theorem M.slices_IndexFunc_api_Span_api_Span.fcall (args : List Value) (w : World) (K : KV) : fcallT P F.slices_IndexFunc_api_Span_api_Span args w K = callT P F.slices_IndexFunc_api_Span_api_Span args w K := fcallT_eq Try.func100 (by kernel_rfl) (by kernel_rfl) args w K
theorem M.slices_IndexFunc_api_Span_api_Span.rcall (a c args : List Value) (w : World) (K : KV) : callRT P (.func (.func F.slices_IndexFunc_api_Span_api_Span) a.toArray c.toArray) args w K = callT P F.slices_IndexFunc_api_Span_api_Span (a ++ args ++ c) w K := callR_fn Try.func100 (by kernel_rfl) (by kernel_rfl) a c args w K

def M.winnowref03_Name.j3 (t17 : Value) (x2 : List Value) (K2 : KL) (w : World) (K : KV) : Prop :=
  joinT (fun K4 =>
  iaT P T.sl_int32 t17 (gv x2 1) w fun t27 w =>
  ldT P T.int32 t27 w fun t28 w =>
  binT P .lss T.int32 (.tmp 28) (.const (.int .i32 32)) t28 (.int .i32 32) w fun t29 w =>
  guardT (isB t29 false) (fun K' => K' t17 w) w fun t31 w =>
  guardT (isB t29 false) (fun K' => K' (gv x2 1) w) w fun t32 w =>
  guardT (isB t29 false) (fun K' => iaT P T.sl_int32 t31 t32 w K') w fun t33 w =>
  guardT (isB t29 false) (fun K' => ldT P T.int32 t33 w K') w fun t34 w =>
  guardT (isB t29 false) (fun K' => binT P .geq T.int32 (.tmp 34) (.const (.int .i32 127)) t34 (.int .i32 127) w K') w fun t35 w =>
  guardT (isB t29 false) (fun K' => K' t35 w) w fun t36 w =>
  guardT (isB t36 true) (fun K' => K' t17 w) w fun t37 w =>
  guardT (isB t36 true) (fun K' => K' (gv x2 1) w) w fun t38 w =>
  guardT (isB t36 true) (fun K' => iaT P T.sl_int32 t37 t38 w K') w fun t39 w =>
  guardT (isB t36 true) (fun K' => ldT P T.int32 t39 w K') w fun t40 w =>
  guardT (isB t36 true) (fun K' => binT P .leq T.int32 (.tmp 40) (.const (.int .i32 159)) t40 (.int .i32 159) w K') w fun t41 w =>
  guardT (isB t29 false) (fun K' => pickT t36 t41 (.bool false) w K') w fun t42 w =>
  pickT t29 (.bool true) t42 w fun t43 w =>
  condT t43 (
  K (.int .i64 5) w) (
  K4 [(gv x2 0)] w)) fun x4 w =>
  binT P .add T.int (.tmp 23) (.const (.int .i64 1)) (gv x2 1) (.int .i64 1) w fun t24 w =>
  K2 [(gv x4 0), t24] w
def M.winnowref03_Name.j0 (a0 : Value) (x0 : List Value) (w : World) (K : KV) : Prop :=
  fcallT P F.winnowref03_Runes [a0] w fun t16 w =>
  exT P t16 0 w fun t17 w =>
  exT P t16 1 w fun t18 w =>
  joinT (fun K1 =>
  loopT [(gv x0 0), (.int .i64 0)] w fun K2 x2 w =>
  joinT (fun K3 =>
  biT P .len #[T.sl_int32] T.int [false] [t17] w fun t21 w =>
  binT P .lss T.int (.tmp 19) (.tmp 21) (gv x2 1) t21 w fun t22 w =>
  condT t22 (
  K3 [] w) (
  K1 [(gv x2 1), (gv x2 0)] w)) fun x3 w =>
  M.winnowref03_Name.j3 t17 x2 K2 w K) fun x1 w =>
  joinT (fun K5 =>
  unT P .not t18 w fun t45 w =>
  condT t45 (
  K (.int .i64 5) w) (
  K5 [(gv x1 1)] w)) fun x5 w =>
  K (.int .i64 0) w
/-- winnow/winnowref03.Name -/
def M.winnowref03_Name (a0 : Value) (w : World) (K : KV) : Prop :=
  joinT (fun K0 =>
  biT P .len #[T.string] T.int [false] [a0] w fun t7 w =>
  binT P .lss T.int (.tmp 7) (.const (.int .i64 1)) t7 (.int .i64 1) w fun t8 w =>
  guardT (isB t8 false) (fun K' => K' a0 w) w fun t10 w =>
  guardT (isB t8 false) (fun K' => biT P .len #[T.string] T.int [false] [t10] w K') w fun t11 w =>
  guardT (isB t8 false) (fun K' => binT P .gtr T.int (.tmp 11) (.const (.int .i64 32)) t11 (.int .i64 32) w K') w fun t12 w =>
  pickT t8 (.bool true) t12 w fun t13 w =>
  condT t13 (
  K (.int .i64 5) w) (
  K0 [(.int .i64 0)] w)) fun x0 w =>
  M.winnowref03_Name.j0 a0 x0 w K
def M.winnowref03_Name.L : List Nat := [0, 2, 3, 4, 5]
def M.winnowref03_Name.pl : Nat → Plan := fun id => ⟨.nil, [], false, []⟩
theorem M.winnowref03_Name.eq (a0 : Value) (w : World) (K : KV) : M.winnowref03_Name a0 w K = den P M.winnowref03_Name.L M.winnowref03_Name.pl (Try.f101.body.getD .skip) (argE [a0]) w (bodyQ P Try.f101.results.toList K) := by kernel_rfl
theorem M.winnowref03_Name.ok : okFn M.winnowref03_Name.L M.winnowref03_Name.pl Try.f101 (Try.f101.body.getD .skip) 1 = true := by kernel_rfl
theorem M.winnowref03_Name.calls (a0 : Value) {w : World} {K : KV} (h : M.winnowref03_Name a0 w K) : callT P F.winnowref03_Name [a0] w K :=
  callT_of_den (by kernel_rfl) Try.func101 (by kernel_rfl) M.winnowref03_Name.ok (M.winnowref03_Name.eq a0 w K ▸ h)
theorem M.winnowref03_Name.fcall (args : List Value) (w : World) (K : KV) : fcallT P F.winnowref03_Name args w K = callT P F.winnowref03_Name args w K := fcallT_eq Try.func101 (by kernel_rfl) (by kernel_rfl) args w K
theorem M.winnowref03_Name.rcall (a c args : List Value) (w : World) (K : KV) : callRT P (.func (.func F.winnowref03_Name) a.toArray c.toArray) args w K = callT P F.winnowref03_Name (a ++ args ++ c) w K := callR_fn Try.func101 (by kernel_rfl) (by kernel_rfl) a c args w K

/-- container/heap.Remove -/
def M.heap_Remove (a0 a1 : Value) (w : World) (K : KV) : Prop :=
  invokeT P a0 "Len" [] w fun t7 w =>
  binT P .sub T.int (.tmp 7) (.const (.int .i64 1)) t7 (.int .i64 1) w fun t8 w =>
  joinT (fun K0 =>
  binT P .neq T.int (.tmp 9) (.tmp 10) t8 a1 w fun t11 w =>
  condT t11 (
  invokeT P a0 "Swap" [a1, t8] w fun t15 w =>
  fcallT P F.heap_down [a0, a1, t8] w fun t19 w =>
  unT P .not t19 w fun t20 w =>
  condT t20 (
  fcallT P F.heap_up [a0, a1] w fun t23 w =>
  K0 [] w) (
  K0 [] w)) (
  K0 [] w)) fun x0 w =>
  invokeT P a0 "Pop" [] w fun t25 w =>
  K t25 w
def M.heap_Remove.L : List Nat := [0, 1, 4, 5]
def M.heap_Remove.pl : Nat → Plan := fun id => ⟨.nil, [], false, []⟩
theorem M.heap_Remove.eq (a0 a1 : Value) (w : World) (K : KV) : M.heap_Remove a0 a1 w K = den P M.heap_Remove.L M.heap_Remove.pl (Try.f102.body.getD .skip) (argE [a0, a1]) w (bodyQ P Try.f102.results.toList K) := by kernel_rfl
theorem M.heap_Remove.ok : okFn M.heap_Remove.L M.heap_Remove.pl Try.f102 (Try.f102.body.getD .skip) 2 = true := by kernel_rfl
theorem M.heap_Remove.calls (a0 a1 : Value) {w : World} {K : KV} (h : M.heap_Remove a0 a1 w K) : callT P F.heap_Remove [a0, a1] w K :=
  callT_of_den (by kernel_rfl) Try.func102 (by kernel_rfl) M.heap_Remove.ok (M.heap_Remove.eq a0 a1 w K ▸ h)
theorem M.heap_Remove.fcall (args : List Value) (w : World) (K : KV) : fcallT P F.heap_Remove args w K = callT P F.heap_Remove args w K := fcallT_eq Try.func102 (by kernel_rfl) (by kernel_rfl) args w K
theorem M.heap_Remove.rcall (a c args : List Value) (w : World) (K : KV) : callRT P (.func (.func F.heap_Remove) a.toArray c.toArray) args w K = callT P F.heap_Remove (a ++ args ++ c) w K := callR_fn Try.func102 (by kernel_rfl) (by kernel_rfl) a c args w K

/-- maps.Keys[map[uint64]*winnow/buffer.entry,uint64,*winnow/buffer.entry] -/
def M.maps_Keys_map_uint64_buffer_entry_uint64_buffer_entry (a0 : Value) (w : World) (K : KV) : Prop :=
  boxT P T.map_uint64_p_buffer_entry a0 w fun t1 w =>
  mkfT P (.func F.maps_Keys_map_uint64_buffer_entry_uint64_buffer_entry_1) [] [t1] w fun t3 w =>
  K t3 w
def M.maps_Keys_map_uint64_buffer_entry_uint64_buffer_entry.L : List Nat := [0, 2]
def M.maps_Keys_map_uint64_buffer_entry_uint64_buffer_entry.pl : Nat → Plan := fun id => ⟨.nil, [], false, []⟩
theorem M.maps_Keys_map_uint64_buffer_entry_uint64_buffer_entry.eq (a0 : Value) (w : World) (K : KV) : M.maps_Keys_map_uint64_buffer_entry_uint64_buffer_entry a0 w K = den P M.maps_Keys_map_uint64_buffer_entry_uint64_buffer_entry.L M.maps_Keys_map_uint64_buffer_entry_uint64_buffer_entry.pl (Try.f103.body.getD .skip) (argE [a0]) w (bodyQ P Try.f103.results.toList K) := by kernel_rfl
theorem M.maps_Keys_map_uint64_buffer_entry_uint64_buffer_entry.ok : okFn M.maps_Keys_map_uint64_buffer_entry_uint64_buffer_entry.L M.maps_Keys_map_uint64_buffer_entry_uint64_buffer_entry.pl Try.f103 (Try.f103.body.getD .skip) 1 = true := by kernel_rfl
theorem M.maps_Keys_map_uint64_buffer_entry_uint64_buffer_entry.calls (a0 : Value) {w : World} {K : KV} (h : M.maps_Keys_map_uint64_buffer_entry_uint64_buffer_entry a0 w K) : callT P F.maps_Keys_map_uint64_buffer_entry_uint64_buffer_entry [a0] w K :=
  callT_of_den (by kernel_rfl) Try.func103 (by kernel_rfl) M.maps_Keys_map_uint64_buffer_entry_uint64_buffer_entry.ok (M.maps_Keys_map_uint64_buffer_entry_uint64_buffer_entry.eq a0 w K ▸ h)
theorem M.maps_Keys_map_uint64_buffer_entry_uint64_buffer_entry.fcall (args : List Value) (w : World) (K : KV) : fcallT P F.maps_Keys_map_uint64_buffer_entry_uint64_buffer_entry args w K = callT P F.maps_Keys_map_uint64_buffer_entry_uint64_buffer_entry args w K := fcallT_eq Try.func103 (by kernel_rfl) (by kernel_rfl) args w K
theorem M.maps_Keys_map_uint64_buffer_entry_uint64_buffer_entry.rcall (a c args : List Value) (w : World) (K : KV) : callRT P (.func (.func F.maps_Keys_map_uint64_buffer_entry_uint64_buffer_entry) a.toArray c.toArray) args w K = callT P F.maps_Keys_map_uint64_buffer_entry_uint64_buffer_entry (a ++ args ++ c) w K := callR_fn Try.func103 (by kernel_rfl) (by kernel_rfl) a c args w K

/-- slices.Collect[uint64] -/
def M.slices_Collect_uint64 (a0 : Value) (w : World) (K : KV) : Prop :=
  fcallT P F.slices_AppendSeq_uint64_uint64 [(.slice none 0 0), a0] w fun t4 w =>
  K t4 w
def M.slices_Collect_uint64.L : List Nat := [0, 2]
def M.slices_Collect_uint64.pl : Nat → Plan := fun id => ⟨.nil, [], false, []⟩
theorem M.slices_Collect_uint64.eq (a0 : Value) (w : World) (K : KV) : M.slices_Collect_uint64 a0 w K = den P M.slices_Collect_uint64.L M.slices_Collect_uint64.pl (Try.f110.body.getD .skip) (argE [a0]) w (bodyQ P Try.f110.results.toList K) := by kernel_rfl
theorem M.slices_Collect_uint64.ok : okFn M.slices_Collect_uint64.L M.slices_Collect_uint64.pl Try.f110 (Try.f110.body.getD .skip) 1 = true := by kernel_rfl
theorem M.slices_Collect_uint64.calls (a0 : Value) {w : World} {K : KV} (h : M.slices_Collect_uint64 a0 w K) : callT P F.slices_Collect_uint64 [a0] w K :=
  callT_of_den (by kernel_rfl) Try.func110 (by kernel_rfl) M.slices_Collect_uint64.ok (M.slices_Collect_uint64.eq a0 w K ▸ h)
theorem M.slices_Collect_uint64.fcall (args : List Value) (w : World) (K : KV) : fcallT P F.slices_Collect_uint64 args w K = callT P F.slices_Collect_uint64 args w K := fcallT_eq Try.func110 (by kernel_rfl) (by kernel_rfl) args w K
theorem M.slices_Collect_uint64.rcall (a c args : List Value) (w : World) (K : KV) : callRT P (.func (.func F.slices_Collect_uint64) a.toArray c.toArray) args w K = callT P F.slices_Collect_uint64 (a ++ args ++ c) w K := callR_fn Try.func110 (by kernel_rfl) (by kernel_rfl) a c args w K

end Go.Proofs.Ytkjhekflgghbdaa
