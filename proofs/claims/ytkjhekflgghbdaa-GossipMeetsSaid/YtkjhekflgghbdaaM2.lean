/-
  Printed by wip/Shallow.lean: functions of the program, read shallow; each is what its code does. No condition.
-/
import Derived.Test.YtkjhekflgghbdaaN
set_option maxRecDepth 1000000
namespace Go.Proofs.Ytkjhekflgghbdaa
open Go.Eng

def M.message_thing.j3 (x3 : List Value) (t1 : Value) (t4 : Value) (K0 : KL) (x1 : List Value) (t19 : Value) (x2 : List Value) (w : World) (K : KV) : Prop :=
  condT (gv x3 0) (
  faT P T.api_Packet t1 1 w fun t39 w =>
  ldT P T.uint64 t39 w fun t40 w =>
  faT P T.api_Packet t1 2 w fun t41 w =>
  ldT P T.api_Ballot t41 w fun t42 w =>
  faT P T.api_Packet t1 5 w fun t43 w =>
  ldT P T.bool t43 w fun t44 w =>
  faT P T.api_Packet t1 3 w fun t45 w =>
  ldT P T.api_Ballot t45 w fun t46 w =>
  faT P T.api_Packet t1 4 w fun t47 w =>
  ldT P T.api_Verdict t47 w fun t48 w =>
  faT P T.api_Packet t1 0 w fun t49 w =>
  ldT P T.int t49 w fun t50 w =>
  binT P .eql T.int (.tmp 50) (.const (.int .i64 7)) t50 (.int .i64 7) w fun t51 w =>
  bldT P T.message_Reply #[(0, t40), (1, t42), (2, t44), (3, t46), (4, t48), (5, t51)] w fun t52 w =>
  mkiT P T.message_Reply t52 w fun t53 w =>
  K t53 w) (
  binT P .eql T.int (.tmp 4) (.const (.int .i64 8)) t4 (.int .i64 8) w fun t55 w =>
  condT t55 (
  faT P T.api_Packet t1 1 w fun t56 w =>
  ldT P T.uint64 t56 w fun t57 w =>
  faT P T.api_Packet t1 4 w fun t58 w =>
  ldT P T.api_Verdict t58 w fun t59 w =>
  bldT P T.message_Told #[(0, t57), (1, t59)] w fun t60 w =>
  mkiT P T.message_Told t60 w fun t61 w =>
  K t61 w) (
  binT P .eql T.int (.tmp 4) (.const (.int .i64 9)) t4 (.int .i64 9) w fun t63 w =>
  condT t63 (
  drawT w fun w =>
  quietT (fun K' => faT P T.api_Packet t1 1 w K') w fun t64 =>
  quietT (fun K' => ldT P T.uint64 t64 w K') w fun t65 =>
  quietT (fun K' => faT P T.api_Packet t1 2 w K') w fun t66 =>
  quietT (fun K' => ldT P T.api_Ballot t66 w K') w fun t67 =>
  quietT (fun K' => faT P T.api_Packet t1 6 w K') w fun t68 =>
  quietT (fun K' => ldT P T.sl_api_Span t68 w K') w fun t69 =>
  fcallT P F.slices_Clone_api_Span_api_Span [t69] w fun t70 w =>
  stabT (fun K' => ldT P T.api_Ballot t66 w K') w t67 ∧ stabT (fun K' => faT P T.api_Packet t1 2 w K') w t66 ∧ stabT (fun K' => ldT P T.uint64 t64 w K') w t65 ∧ stabT (fun K' => faT P T.api_Packet t1 1 w K') w t64 ∧ quietT (fun K' => bldT P T.message_Stored #[(0, t65), (1, t67), (2, t70)] w K') w fun t71 =>
  quietT (fun K' => mkiT P T.message_Stored t71 w K') w fun t72 =>
  K t72 w) (
  binT P .eql T.int (.tmp 4) (.const (.int .i64 10)) t4 (.int .i64 10) w fun t74 w =>
  condT t74 (
  drawT w fun w =>
  quietT (fun K' => faT P T.api_Packet t1 1 w K') w fun t75 =>
  quietT (fun K' => ldT P T.uint64 t75 w K') w fun t76 =>
  quietT (fun K' => faT P T.api_Packet t1 8 w K') w fun t77 =>
  quietT (fun K' => ldT P T.sl_uint64 t77 w K') w fun t78 =>
  fcallT P F.slices_Clone_uint64_uint64 [t78] w fun t79 w =>
  stabT (fun K' => ldT P T.uint64 t75 w K') w t76 ∧ stabT (fun K' => faT P T.api_Packet t1 1 w K') w t75 ∧ quietT (fun K' => bldT P T.message_Acked #[(0, t76), (1, t79)] w K') w fun t80 =>
  quietT (fun K' => mkiT P T.message_Acked t80 w K') w fun t81 =>
  K t81 w) (
  K0 [t4, (gv x1 0), .nilIface, t19, (gv x2 0), (gv x3 0), t55, t63, t74] w))))
def M.message_thing.j2 (x2 : List Value) (t1 : Value) (t4 : Value) (K0 : KL) (x1 : List Value) (t19 : Value) (w : World) (K : KV) : Prop :=
  condT (gv x2 0) (
  faT P T.api_Packet t1 1 w fun t28 w =>
  ldT P T.uint64 t28 w fun t29 w =>
  faT P T.api_Packet t1 2 w fun t30 w =>
  ldT P T.api_Ballot t30 w fun t31 w =>
  faT P T.api_Packet t1 4 w fun t32 w =>
  ldT P T.api_Verdict t32 w fun t33 w =>
  bldT P T.message_Ask #[(0, t29), (1, t31), (2, t33)] w fun t34 w =>
  mkiT P T.message_Ask t34 w fun t35 w =>
  K t35 w) (
  joinT (fun K3 =>
  binT P .eql T.int (.tmp 4) (.const (.int .i64 5)) t4 (.int .i64 5) w fun t37 w =>
  condT t37 (
  K3 [t37] w) (
  binT P .eql T.int (.tmp 4) (.const (.int .i64 7)) t4 (.int .i64 7) w fun t38 w =>
  K3 [t38] w)) fun x3 w =>
  M.message_thing.j3 x3 t1 t4 K0 x1 t19 x2 w K)
def M.message_thing.j1 (x1 : List Value) (t1 : Value) (t4 : Value) (K0 : KL) (w : World) (K : KV) : Prop :=
  condT (gv x1 0) (
  drawT w fun w =>
  quietT (fun K' => faT P T.api_Packet t1 1 w K') w fun t8 =>
  quietT (fun K' => ldT P T.uint64 t8 w K') w fun t9 =>
  quietT (fun K' => faT P T.api_Packet t1 0 w K') w fun t10 =>
  quietT (fun K' => ldT P T.int t10 w K') w fun t11 =>
  quietT (fun K' => binT P .eql T.int (.tmp 11) (.const (.int .i64 2)) t11 (.int .i64 2) w K') w fun t12 =>
  quietT (fun K' => faT P T.api_Packet t1 6 w K') w fun t13 =>
  quietT (fun K' => ldT P T.sl_api_Span t13 w K') w fun t14 =>
  fcallT P F.slices_Clone_api_Span_api_Span [t14] w fun t15 w =>
  stabT (fun K' => binT P .eql T.int (.tmp 11) (.const (.int .i64 2)) t11 (.int .i64 2) w K') w t12 ∧ stabT (fun K' => ldT P T.int t10 w K') w t11 ∧ stabT (fun K' => faT P T.api_Packet t1 0 w K') w t10 ∧ stabT (fun K' => ldT P T.uint64 t8 w K') w t9 ∧ stabT (fun K' => faT P T.api_Packet t1 1 w K') w t8 ∧ quietT (fun K' => bldT P T.message_Spans #[(0, t9), (1, t12), (2, t15)] w K') w fun t16 =>
  quietT (fun K' => mkiT P T.message_Spans t16 w K') w fun t17 =>
  K t17 w) (
  binT P .eql T.int (.tmp 4) (.const (.int .i64 3)) t4 (.int .i64 3) w fun t19 w =>
  condT t19 (
  faT P T.api_Packet t1 7 w fun t20 w =>
  ldT P T.sl_api_Member t20 w fun t21 w =>
  fcallT P F.slices_Clone_api_Member_api_Member [t21] w fun t22 w =>
  bldT P T.message_Members #[(0, t22)] w fun t23 w =>
  mkiT P T.message_Members t23 w fun t24 w =>
  K t24 w) (
  joinT (fun K2 =>
  binT P .eql T.int (.tmp 4) (.const (.int .i64 4)) t4 (.int .i64 4) w fun t26 w =>
  condT t26 (
  K2 [t26] w) (
  binT P .eql T.int (.tmp 4) (.const (.int .i64 6)) t4 (.int .i64 6) w fun t27 w =>
  K2 [t27] w)) fun x2 w =>
  M.message_thing.j2 x2 t1 t4 K0 x1 t19 w K))
/-- winnow/message.thing -/
def M.message_thing (a0 : Value) (w : World) (K : KV) : Prop :=
  boxT P T.api_Packet a0 w fun t1 w =>
  joinT (fun K0 =>
  faT P T.api_Packet t1 0 w fun t3 w =>
  ldT P T.int t3 w fun t4 w =>
  joinT (fun K1 =>
  binT P .eql T.int (.tmp 4) (.const (.int .i64 1)) t4 (.int .i64 1) w fun t6 w =>
  condT t6 (
  K1 [t6] w) (
  binT P .eql T.int (.tmp 4) (.const (.int .i64 2)) t4 (.int .i64 2) w fun t7 w =>
  K1 [t7] w)) fun x1 w =>
  M.message_thing.j1 x1 t1 t4 K0 w K) fun x0 w =>
  K .nilIface w
def M.message_thing.L : List Nat := [0, 2, 5, 18, 25, 36, 54, 62, 73, 1, 4]
def M.message_thing.pl : Nat → Plan := fun id => cond (Nat.beq id 4) ⟨(.go 0 (.go 1 (.go 2 (.go 3 (.go 4 (.go 5 (.go 6 (.eff 7 (.go 8 (.go 9 (.eff 10 .nil .stop))) .stop)))))))), [7, 10], false, [0, 1, 0, 4, 12, 0, 32, 96, 255, 511, 1023]⟩ (cond (Nat.beq id 16) ⟨(.go 0 (.go 1 (.go 2 (.go 3 (.go 4 (.go 5 (.eff 6 (.go 7 (.go 8 (.eff 9 .nil .stop))) .stop))))))), [6, 9], false, [0, 1, 0, 4, 0, 16, 48, 127, 255, 511]⟩ (cond (Nat.beq id 18) ⟨(.go 0 (.go 1 (.go 2 (.go 3 (.eff 4 (.go 5 (.go 6 (.eff 7 .nil .stop))) .stop))))), [4, 7], false, [0, 1, 0, 4, 12, 31, 63, 127]⟩ (⟨.nil, [], false, []⟩)))
theorem M.message_thing.eq (a0 : Value) (w : World) (K : KV) : M.message_thing a0 w K = den P M.message_thing.L M.message_thing.pl (Try.f135.body.getD .skip) (argE [a0]) w (bodyQ P Try.f135.results.toList K) := by kernel_rfl
theorem M.message_thing.ok : okFn M.message_thing.L M.message_thing.pl Try.f135 (Try.f135.body.getD .skip) 1 = true := by kernel_rfl
theorem M.message_thing.calls (a0 : Value) {w : World} {K : KV} (h : M.message_thing a0 w K) : callT P F.message_thing [a0] w K :=
  callT_of_den (by kernel_rfl) Try.func135 (by kernel_rfl) M.message_thing.ok (M.message_thing.eq a0 w K ▸ h)
theorem M.message_thing.fcall (args : List Value) (w : World) (K : KV) : fcallT P F.message_thing args w K = callT P F.message_thing args w K := fcallT_eq Try.func135 (by kernel_rfl) (by kernel_rfl) args w K
theorem M.message_thing.rcall (a c args : List Value) (w : World) (K : KV) : callRT P (.func (.func F.message_thing) a.toArray c.toArray) args w K = callT P F.message_thing (a ++ args ++ c) w K := callR_fn Try.func135 (by kernel_rfl) (by kernel_rfl) a c args w K

def M.message_right.j1 (t8 : Value) (t3 : Value) (w : World) (K : KV) : Prop :=
  faT P T.message_Reply t8 4 w fun t100 w =>
  ldT P T.api_Verdict t100 w fun t101 w =>
  fcallT P F.message_told [t101] w fun t102 w =>
  guardT (isB t102 true) (fun K' => faT P T.message_Reply t8 3 w K') w fun t104 w =>
  guardT (isB t102 true) (fun K' => ldT P T.api_Ballot t104 w K') w fun t105 w =>
  guardT (isB t102 true) (fun K' => ldT P T.api_Ballot t3 w K') w fun t106 w =>
  guardT (isB t102 true) (fun K' => binT P .neq T.api_Ballot (.tmp 105) (.tmp 106) t105 t106 w K') w fun t107 w =>
  pickT t102 t107 (.bool false) w fun t108 w =>
  guardT (isB t108 false) (fun K' => faT P T.message_Reply t8 4 w K') w fun t110 w =>
  guardT (isB t108 false) (fun K' => ldT P T.api_Verdict t110 w K') w fun t111 w =>
  guardT (isB t108 false) (fun K' => binT P .eql T.api_Verdict (.tmp 111) (.const (.int .i64 0)) t111 (.int .i64 0) w K') w fun t112 w =>
  guardT (isB t108 false) (fun K' => K' t112 w) w fun t113 w =>
  guardT (isB t113 true) (fun K' => faT P T.message_Reply t8 3 w K') w fun t114 w =>
  guardT (isB t113 true) (fun K' => ldT P T.api_Ballot t114 w K') w fun t115 w =>
  guardT (isB t113 true) (fun K' => ldT P T.api_Ballot t3 w K') w fun t116 w =>
  guardT (isB t113 true) (fun K' => binT P .eql T.api_Ballot (.tmp 115) (.tmp 116) t115 t116 w K') w fun t117 w =>
  guardT (isB t108 false) (fun K' => pickT t113 t117 (.bool false) w K') w fun t118 w =>
  pickT t108 (.bool true) t118 w fun t119 w =>
  K t119 w
/-- winnow/message.right -/
def M.message_right (a0 : Value) (w : World) (K : KV) : Prop :=
  bldT P T.api_Ballot #[] w fun t12 w =>
  alT P T.api_Ballot w fun t3 w =>
  stT P T.api_Ballot t3 t12 w fun _ w =>
  joinT (fun K0 =>
  taT P a0 T.any T.message_Spans true w fun t14 w =>
  exT P t14 1 w fun t15 w =>
  exT P t14 0 w fun t16 w =>
  condT t15 (
  alT P T.message_Spans w fun t4 w =>
  stT P T.message_Spans t4 t16 w fun _ w =>
  faT P T.message_Spans t4 0 w fun t17 w =>
  ldT P T.uint64 t17 w fun t18 w =>
  binT P .gtr T.uint64 (.tmp 18) (.const (.int .u64 0)) t18 (.int .u64 0) w fun t19 w =>
  guardT (isB t19 true) (fun K' => faT P T.message_Spans t4 0 w K') w fun t21 w =>
  guardT (isB t19 true) (fun K' => ldT P T.uint64 t21 w K') w fun t22 w =>
  guardT (isB t19 true) (fun K' => faT P T.message_Spans t4 2 w K') w fun t23 w =>
  guardT (isB t19 true) (fun K' => ldT P T.sl_api_Span t23 w K') w fun t24 w =>
  guardT (isB t19 true) (fun K' => fcallT P F.message_spans [t22, t24] w K') w fun t25 w =>
  pickT t19 t25 (.bool false) w fun t26 w =>
  K t26 w) (
  taT P a0 T.any T.message_Members true w fun t27 w =>
  exT P t27 1 w fun t28 w =>
  exT P t27 0 w fun t29 w =>
  condT t28 (
  alT P T.message_Members w fun t5 w =>
  stT P T.message_Members t5 t29 w fun _ w =>
  faT P T.message_Members t5 0 w fun t30 w =>
  ldT P T.sl_api_Member t30 w fun t31 w =>
  fcallT P F.message_rise_api_Member [t31, (.int .i64 16), (.func (.func F.message_right_2) #[] #[])] w fun t32 w =>
  guardT (isB t32 true) (fun K' => faT P T.message_Members t5 0 w K') w fun t34 w =>
  guardT (isB t32 true) (fun K' => ldT P T.sl_api_Member t34 w K') w fun t35 w =>
  guardT (isB t32 true) (fun K' => K' (.func (.func F.message_right_1) #[] #[]) w) w fun t36 w =>
  guardT (isB t32 true) (fun K' => fcallT P F.slices_ContainsFunc_api_Member_api_Member [t35, t36] w K') w fun t37 w =>
  guardT (isB t32 true) (fun K' => unT P .not t37 w K') w fun t38 w =>
  pickT t32 t38 (.bool false) w fun t39 w =>
  K t39 w) (
  taT P a0 T.any T.message_Ask true w fun t40 w =>
  exT P t40 1 w fun t41 w =>
  exT P t40 0 w fun t42 w =>
  condT t41 (
  alT P T.message_Ask w fun t7 w =>
  stT P T.message_Ask t7 t42 w fun _ w =>
  faT P T.message_Ask t7 0 w fun t43 w =>
  ldT P T.uint64 t43 w fun t44 w =>
  binT P .gtr T.uint64 (.tmp 44) (.const (.int .u64 0)) t44 (.int .u64 0) w fun t45 w =>
  guardT (isB t45 true) (fun K' => faT P T.message_Ask t7 1 w K') w fun t47 w =>
  guardT (isB t45 true) (fun K' => faT P T.api_Ballot t47 0 w K') w fun t48 w =>
  guardT (isB t45 true) (fun K' => ldT P T.uint64 t48 w K') w fun t49 w =>
  guardT (isB t45 true) (fun K' => binT P .gtr T.uint64 (.tmp 49) (.const (.int .u64 0)) t49 (.int .u64 0) w K') w fun t50 w =>
  pickT t45 t50 (.bool false) w fun t51 w =>
  guardT (isB t51 true) (fun K' => faT P T.message_Ask t7 2 w K') w fun t53 w =>
  guardT (isB t51 true) (fun K' => ldT P T.api_Verdict t53 w K') w fun t54 w =>
  guardT (isB t51 true) (fun K' => binT P .eql T.api_Verdict (.tmp 54) (.const (.int .i64 0)) t54 (.int .i64 0) w K') w fun t55 w =>
  guardT (isB t51 true) (fun K' => K' t55 w) w fun t56 w =>
  guardT (isB t56 false) (fun K' => faT P T.message_Ask t7 2 w K') w fun t57 w =>
  guardT (isB t56 false) (fun K' => ldT P T.api_Verdict t57 w K') w fun t58 w =>
  guardT (isB t56 false) (fun K' => fcallT P F.message_told [t58] w K') w fun t59 w =>
  guardT (isB t51 true) (fun K' => pickT t56 (.bool true) t59 w K') w fun t60 w =>
  pickT t51 t60 (.bool false) w fun t61 w =>
  K t61 w) (
  taT P a0 T.any T.message_Reply true w fun t62 w =>
  exT P t62 1 w fun t63 w =>
  exT P t62 0 w fun t64 w =>
  condT t63 (
  alT P T.message_Reply w fun t8 w =>
  stT P T.message_Reply t8 t64 w fun _ w =>
  joinT (fun K1 =>
  faT P T.message_Reply t8 0 w fun t66 w =>
  ldT P T.uint64 t66 w fun t67 w =>
  binT P .eql T.uint64 (.tmp 67) (.const (.int .u64 0)) t67 (.int .u64 0) w fun t68 w =>
  guardT (isB t68 false) (fun K' => faT P T.message_Reply t8 1 w K') w fun t70 w =>
  guardT (isB t68 false) (fun K' => faT P T.api_Ballot t70 0 w K') w fun t71 w =>
  guardT (isB t68 false) (fun K' => ldT P T.uint64 t71 w K') w fun t72 w =>
  guardT (isB t68 false) (fun K' => binT P .eql T.uint64 (.tmp 72) (.const (.int .u64 0)) t72 (.int .u64 0) w K') w fun t73 w =>
  pickT t68 (.bool true) t73 w fun t74 w =>
  condT t74 (
  K (.bool false) w) (
  faT P T.message_Reply t8 2 w fun t76 w =>
  ldT P T.bool t76 w fun t77 w =>
  unT P .not t77 w fun t78 w =>
  condT t78 (
  faT P T.message_Reply t8 4 w fun t79 w =>
  ldT P T.api_Verdict t79 w fun t80 w =>
  binT P .eql T.api_Verdict (.tmp 80) (.const (.int .i64 0)) t80 (.int .i64 0) w fun t81 w =>
  guardT (isB t81 true) (fun K' => faT P T.message_Reply t8 3 w K') w fun t83 w =>
  guardT (isB t81 true) (fun K' => ldT P T.api_Ballot t83 w K') w fun t84 w =>
  guardT (isB t81 true) (fun K' => ldT P T.api_Ballot t3 w K') w fun t85 w =>
  guardT (isB t81 true) (fun K' => binT P .neq T.api_Ballot (.tmp 84) (.tmp 85) t84 t85 w K') w fun t86 w =>
  pickT t81 t86 (.bool false) w fun t87 w =>
  K t87 w) (
  faT P T.message_Reply t8 5 w fun t89 w =>
  ldT P T.bool t89 w fun t90 w =>
  condT t90 (
  faT P T.message_Reply t8 4 w fun t91 w =>
  ldT P T.api_Verdict t91 w fun t92 w =>
  binT P .eql T.api_Verdict (.tmp 92) (.const (.int .i64 0)) t92 (.int .i64 0) w fun t93 w =>
  guardT (isB t93 true) (fun K' => faT P T.message_Reply t8 3 w K') w fun t95 w =>
  guardT (isB t93 true) (fun K' => ldT P T.api_Ballot t95 w K') w fun t96 w =>
  guardT (isB t93 true) (fun K' => ldT P T.api_Ballot t3 w K') w fun t97 w =>
  guardT (isB t93 true) (fun K' => binT P .eql T.api_Ballot (.tmp 96) (.tmp 97) t96 t97 w K') w fun t98 w =>
  pickT t93 t98 (.bool false) w fun t99 w =>
  K t99 w) (
  K1 [t74, (.bool false), t78, t90] w)))) fun x1 w =>
  M.message_right.j1 t8 t3 w K) (
  taT P a0 T.any T.message_Told true w fun t120 w =>
  exT P t120 1 w fun t121 w =>
  exT P t120 0 w fun t122 w =>
  condT t121 (
  alT P T.message_Told w fun t9 w =>
  stT P T.message_Told t9 t122 w fun _ w =>
  faT P T.message_Told t9 0 w fun t123 w =>
  ldT P T.uint64 t123 w fun t124 w =>
  binT P .gtr T.uint64 (.tmp 124) (.const (.int .u64 0)) t124 (.int .u64 0) w fun t125 w =>
  guardT (isB t125 true) (fun K' => faT P T.message_Told t9 1 w K') w fun t127 w =>
  guardT (isB t125 true) (fun K' => ldT P T.api_Verdict t127 w K') w fun t128 w =>
  guardT (isB t125 true) (fun K' => fcallT P F.message_told [t128] w K') w fun t129 w =>
  pickT t125 t129 (.bool false) w fun t130 w =>
  K t130 w) (
  taT P a0 T.any T.message_Stored true w fun t131 w =>
  exT P t131 1 w fun t132 w =>
  exT P t131 0 w fun t133 w =>
  condT t132 (
  alT P T.message_Stored w fun t10 w =>
  stT P T.message_Stored t10 t133 w fun _ w =>
  faT P T.message_Stored t10 0 w fun t134 w =>
  ldT P T.uint64 t134 w fun t135 w =>
  binT P .gtr T.uint64 (.tmp 135) (.const (.int .u64 0)) t135 (.int .u64 0) w fun t136 w =>
  guardT (isB t136 true) (fun K' => faT P T.message_Stored t10 1 w K') w fun t138 w =>
  guardT (isB t136 true) (fun K' => faT P T.api_Ballot t138 0 w K') w fun t139 w =>
  guardT (isB t136 true) (fun K' => ldT P T.uint64 t139 w K') w fun t140 w =>
  guardT (isB t136 true) (fun K' => binT P .gtr T.uint64 (.tmp 140) (.const (.int .u64 0)) t140 (.int .u64 0) w K') w fun t141 w =>
  pickT t136 t141 (.bool false) w fun t142 w =>
  guardT (isB t142 true) (fun K' => faT P T.message_Stored t10 0 w K') w fun t144 w =>
  guardT (isB t142 true) (fun K' => ldT P T.uint64 t144 w K') w fun t145 w =>
  guardT (isB t142 true) (fun K' => faT P T.message_Stored t10 2 w K') w fun t146 w =>
  guardT (isB t142 true) (fun K' => ldT P T.sl_api_Span t146 w K') w fun t147 w =>
  guardT (isB t142 true) (fun K' => fcallT P F.message_spans [t145, t147] w K') w fun t148 w =>
  pickT t142 t148 (.bool false) w fun t149 w =>
  K t149 w) (
  taT P a0 T.any T.message_Acked true w fun t150 w =>
  exT P t150 1 w fun t151 w =>
  exT P t150 0 w fun t152 w =>
  condT t151 (
  alT P T.message_Acked w fun t11 w =>
  stT P T.message_Acked t11 t152 w fun _ w =>
  faT P T.message_Acked t11 0 w fun t153 w =>
  ldT P T.uint64 t153 w fun t154 w =>
  binT P .gtr T.uint64 (.tmp 154) (.const (.int .u64 0)) t154 (.int .u64 0) w fun t155 w =>
  guardT (isB t155 true) (fun K' => faT P T.message_Acked t11 1 w K') w fun t157 w =>
  guardT (isB t155 true) (fun K' => ldT P T.sl_uint64 t157 w K') w fun t158 w =>
  guardT (isB t155 true) (fun K' => fcallT P F.message_rise_uint64 [t158, (.int .i64 16), (.func (.func F.message_right_3) #[] #[])] w K') w fun t159 w =>
  pickT t155 t159 (.bool false) w fun t160 w =>
  K t160 w) (
  K0 [(.bool false), undef, undef, undef, undef, undef] w)))))))) fun x0 w =>
  K (.bool false) w
def M.message_right.L : List Nat := [0, 2, 6, 65, 75, 88, 8, 3]
def M.message_right.pl : Nat → Plan := fun id => ⟨.nil, [], false, []⟩
theorem M.message_right.eq (a0 : Value) (w : World) (K : KV) : M.message_right a0 w K = den P M.message_right.L M.message_right.pl (Try.f136.body.getD .skip) (argE [a0]) w (bodyQ P Try.f136.results.toList K) := by kernel_rfl
theorem M.message_right.ok : okFn M.message_right.L M.message_right.pl Try.f136 (Try.f136.body.getD .skip) 1 = true := by kernel_rfl
theorem M.message_right.calls (a0 : Value) {w : World} {K : KV} (h : M.message_right a0 w K) : callT P F.message_right [a0] w K :=
  callT_of_den (by kernel_rfl) Try.func136 (by kernel_rfl) M.message_right.ok (M.message_right.eq a0 w K ▸ h)
theorem M.message_right.fcall (args : List Value) (w : World) (K : KV) : fcallT P F.message_right args w K = callT P F.message_right args w K := fcallT_eq Try.func136 (by kernel_rfl) (by kernel_rfl) args w K
theorem M.message_right.rcall (a c args : List Value) (w : World) (K : KV) : callRT P (.func (.func F.message_right) a.toArray c.toArray) args w K = callT P F.message_right (a ++ args ++ c) w K := callR_fn Try.func136 (by kernel_rfl) (by kernel_rfl) a c args w K

/-- winnow/message.alike -/
def M.message_alike (a0 a1 : Value) (w : World) (K : KV) : Prop :=
  boxT P T.api_Packet a0 w fun t2 w =>
  boxT P T.api_Packet a1 w fun t3 w =>
  faT P T.api_Packet t2 0 w fun t5 w =>
  ldT P T.int t5 w fun t6 w =>
  faT P T.api_Packet t3 0 w fun t7 w =>
  ldT P T.int t7 w fun t8 w =>
  binT P .eql T.int (.tmp 6) (.tmp 8) t6 t8 w fun t9 w =>
  guardT (isB t9 true) (fun K' => faT P T.api_Packet t2 1 w K') w fun t11 w =>
  guardT (isB t9 true) (fun K' => ldT P T.uint64 t11 w K') w fun t12 w =>
  guardT (isB t9 true) (fun K' => faT P T.api_Packet t3 1 w K') w fun t13 w =>
  guardT (isB t9 true) (fun K' => ldT P T.uint64 t13 w K') w fun t14 w =>
  guardT (isB t9 true) (fun K' => binT P .eql T.uint64 (.tmp 12) (.tmp 14) t12 t14 w K') w fun t15 w =>
  pickT t9 t15 (.bool false) w fun t16 w =>
  guardT (isB t16 true) (fun K' => faT P T.api_Packet t2 2 w K') w fun t18 w =>
  guardT (isB t16 true) (fun K' => ldT P T.api_Ballot t18 w K') w fun t19 w =>
  guardT (isB t16 true) (fun K' => faT P T.api_Packet t3 2 w K') w fun t20 w =>
  guardT (isB t16 true) (fun K' => ldT P T.api_Ballot t20 w K') w fun t21 w =>
  guardT (isB t16 true) (fun K' => binT P .eql T.api_Ballot (.tmp 19) (.tmp 21) t19 t21 w K') w fun t22 w =>
  pickT t16 t22 (.bool false) w fun t23 w =>
  guardT (isB t23 true) (fun K' => faT P T.api_Packet t2 3 w K') w fun t25 w =>
  guardT (isB t23 true) (fun K' => ldT P T.api_Ballot t25 w K') w fun t26 w =>
  guardT (isB t23 true) (fun K' => faT P T.api_Packet t3 3 w K') w fun t27 w =>
  guardT (isB t23 true) (fun K' => ldT P T.api_Ballot t27 w K') w fun t28 w =>
  guardT (isB t23 true) (fun K' => binT P .eql T.api_Ballot (.tmp 26) (.tmp 28) t26 t28 w K') w fun t29 w =>
  pickT t23 t29 (.bool false) w fun t30 w =>
  guardT (isB t30 true) (fun K' => faT P T.api_Packet t2 4 w K') w fun t32 w =>
  guardT (isB t30 true) (fun K' => ldT P T.api_Verdict t32 w K') w fun t33 w =>
  guardT (isB t30 true) (fun K' => faT P T.api_Packet t3 4 w K') w fun t34 w =>
  guardT (isB t30 true) (fun K' => ldT P T.api_Verdict t34 w K') w fun t35 w =>
  guardT (isB t30 true) (fun K' => binT P .eql T.api_Verdict (.tmp 33) (.tmp 35) t33 t35 w K') w fun t36 w =>
  pickT t30 t36 (.bool false) w fun t37 w =>
  guardT (isB t37 true) (fun K' => faT P T.api_Packet t2 5 w K') w fun t39 w =>
  guardT (isB t37 true) (fun K' => ldT P T.bool t39 w K') w fun t40 w =>
  guardT (isB t37 true) (fun K' => faT P T.api_Packet t3 5 w K') w fun t41 w =>
  guardT (isB t37 true) (fun K' => ldT P T.bool t41 w K') w fun t42 w =>
  guardT (isB t37 true) (fun K' => binT P .eql T.bool (.tmp 40) (.tmp 42) t40 t42 w K') w fun t43 w =>
  pickT t37 t43 (.bool false) w fun t44 w =>
  guardT (isB t44 true) (fun K' => faT P T.api_Packet t2 6 w K') w fun t46 w =>
  guardT (isB t44 true) (fun K' => ldT P T.sl_api_Span t46 w K') w fun t47 w =>
  guardT (isB t44 true) (fun K' => faT P T.api_Packet t3 6 w K') w fun t48 w =>
  guardT (isB t44 true) (fun K' => ldT P T.sl_api_Span t48 w K') w fun t49 w =>
  guardT (isB t44 true) (fun K' => fcallT P F.slices_Equal_api_Span_api_Span [t47, t49] w K') w fun t50 w =>
  pickT t44 t50 (.bool false) w fun t51 w =>
  guardT (isB t51 true) (fun K' => faT P T.api_Packet t2 7 w K') w fun t53 w =>
  guardT (isB t51 true) (fun K' => ldT P T.sl_api_Member t53 w K') w fun t54 w =>
  guardT (isB t51 true) (fun K' => faT P T.api_Packet t3 7 w K') w fun t55 w =>
  guardT (isB t51 true) (fun K' => ldT P T.sl_api_Member t55 w K') w fun t56 w =>
  guardT (isB t51 true) (fun K' => fcallT P F.slices_Equal_api_Member_api_Member [t54, t56] w K') w fun t57 w =>
  pickT t51 t57 (.bool false) w fun t58 w =>
  guardT (isB t58 true) (fun K' => faT P T.api_Packet t2 8 w K') w fun t60 w =>
  guardT (isB t58 true) (fun K' => ldT P T.sl_uint64 t60 w K') w fun t61 w =>
  guardT (isB t58 true) (fun K' => faT P T.api_Packet t3 8 w K') w fun t62 w =>
  guardT (isB t58 true) (fun K' => ldT P T.sl_uint64 t62 w K') w fun t63 w =>
  guardT (isB t58 true) (fun K' => fcallT P F.slices_Equal_uint64_uint64 [t61, t63] w K') w fun t64 w =>
  pickT t58 t64 (.bool false) w fun t65 w =>
  K t65 w
def M.message_alike.L : List Nat := [0, 1, 4]
def M.message_alike.pl : Nat → Plan := fun id => ⟨.nil, [], false, []⟩
theorem M.message_alike.eq (a0 a1 : Value) (w : World) (K : KV) : M.message_alike a0 a1 w K = den P M.message_alike.L M.message_alike.pl (Try.f137.body.getD .skip) (argE [a0, a1]) w (bodyQ P Try.f137.results.toList K) := by kernel_rfl
theorem M.message_alike.ok : okFn M.message_alike.L M.message_alike.pl Try.f137 (Try.f137.body.getD .skip) 2 = true := by kernel_rfl
theorem M.message_alike.calls (a0 a1 : Value) {w : World} {K : KV} (h : M.message_alike a0 a1 w K) : callT P F.message_alike [a0, a1] w K :=
  callT_of_den (by kernel_rfl) Try.func137 (by kernel_rfl) M.message_alike.ok (M.message_alike.eq a0 a1 w K ▸ h)
theorem M.message_alike.fcall (args : List Value) (w : World) (K : KV) : fcallT P F.message_alike args w K = callT P F.message_alike args w K := fcallT_eq Try.func137 (by kernel_rfl) (by kernel_rfl) args w K
theorem M.message_alike.rcall (a c args : List Value) (w : World) (K : KV) : callRT P (.func (.func F.message_alike) a.toArray c.toArray) args w K = callT P F.message_alike (a ++ args ++ c) w K := callR_fn Try.func137 (by kernel_rfl) (by kernel_rfl) a c args w K

/-- winnow/message.packet -/
def M.message_packet (a0 : Value) (w : World) (K : KV) : Prop :=
  alT P T.api_Packet w fun t2 w =>
  joinT (fun K0 =>
  taT P a0 T.any T.message_Spans true w fun t11 w =>
  exT P t11 1 w fun t12 w =>
  exT P t11 0 w fun t13 w =>
  condT t12 (
  alT P T.message_Spans w fun t3 w =>
  stT P T.message_Spans t3 t13 w fun _ w =>
  drawT w fun w =>
  quietT (fun K' => faT P T.message_Spans t3 0 w K') w fun t14 =>
  quietT (fun K' => ldT P T.uint64 t14 w K') w fun t15 =>
  quietT (fun K' => faT P T.message_Spans t3 2 w K') w fun t16 =>
  quietT (fun K' => ldT P T.sl_api_Span t16 w K') w fun t17 =>
  fcallT P F.slices_Clone_api_Span_api_Span [t17] w fun t18 w =>
  stabT (fun K' => ldT P T.uint64 t14 w K') w t15 ∧ stabT (fun K' => faT P T.message_Spans t3 0 w K') w t14 ∧ quietT (fun K' => bldT P T.api_Packet #[(0, (.int .i64 1)), (1, t15), (6, t18)] w K') w fun t19 =>
  stT P T.api_Packet t2 t19 w fun _ w =>
  faT P T.message_Spans t3 1 w fun t20 w =>
  ldT P T.bool t20 w fun t21 w =>
  condT t21 (
  faT P T.api_Packet t2 0 w fun t22 w =>
  stT P T.int t22 (.int .i64 2) w fun _ w =>
  K0 [] w) (
  K0 [] w)) (
  taT P a0 T.any T.message_Members true w fun t23 w =>
  exT P t23 1 w fun t24 w =>
  exT P t23 0 w fun t25 w =>
  condT t24 (
  alT P T.message_Members w fun t4 w =>
  stT P T.message_Members t4 t25 w fun _ w =>
  faT P T.message_Members t4 0 w fun t26 w =>
  ldT P T.sl_api_Member t26 w fun t27 w =>
  fcallT P F.slices_Clone_api_Member_api_Member [t27] w fun t28 w =>
  bldT P T.api_Packet #[(0, (.int .i64 3)), (7, t28)] w fun t29 w =>
  stT P T.api_Packet t2 t29 w fun _ w =>
  K0 [] w) (
  taT P a0 T.any T.message_Ask true w fun t30 w =>
  exT P t30 1 w fun t31 w =>
  exT P t30 0 w fun t32 w =>
  condT t31 (
  alT P T.message_Ask w fun t5 w =>
  stT P T.message_Ask t5 t32 w fun _ w =>
  faT P T.message_Ask t5 0 w fun t33 w =>
  ldT P T.uint64 t33 w fun t34 w =>
  faT P T.message_Ask t5 1 w fun t35 w =>
  ldT P T.api_Ballot t35 w fun t36 w =>
  faT P T.message_Ask t5 2 w fun t37 w =>
  ldT P T.api_Verdict t37 w fun t38 w =>
  bldT P T.api_Packet #[(0, (.int .i64 4)), (1, t34), (2, t36), (4, t38)] w fun t39 w =>
  stT P T.api_Packet t2 t39 w fun _ w =>
  faT P T.message_Ask t5 2 w fun t40 w =>
  ldT P T.api_Verdict t40 w fun t41 w =>
  binT P .neq T.api_Verdict (.tmp 41) (.const (.int .i64 0)) t41 (.int .i64 0) w fun t42 w =>
  condT t42 (
  faT P T.api_Packet t2 0 w fun t43 w =>
  stT P T.int t43 (.int .i64 6) w fun _ w =>
  K0 [] w) (
  K0 [] w)) (
  taT P a0 T.any T.message_Reply true w fun t44 w =>
  exT P t44 1 w fun t45 w =>
  exT P t44 0 w fun t46 w =>
  condT t45 (
  alT P T.message_Reply w fun t6 w =>
  stT P T.message_Reply t6 t46 w fun _ w =>
  faT P T.message_Reply t6 0 w fun t47 w =>
  ldT P T.uint64 t47 w fun t48 w =>
  faT P T.message_Reply t6 1 w fun t49 w =>
  ldT P T.api_Ballot t49 w fun t50 w =>
  faT P T.message_Reply t6 2 w fun t51 w =>
  ldT P T.bool t51 w fun t52 w =>
  faT P T.message_Reply t6 3 w fun t53 w =>
  ldT P T.api_Ballot t53 w fun t54 w =>
  faT P T.message_Reply t6 4 w fun t55 w =>
  ldT P T.api_Verdict t55 w fun t56 w =>
  bldT P T.api_Packet #[(0, (.int .i64 5)), (1, t48), (2, t50), (5, t52), (3, t54), (4, t56)] w fun t57 w =>
  stT P T.api_Packet t2 t57 w fun _ w =>
  faT P T.message_Reply t6 5 w fun t58 w =>
  ldT P T.bool t58 w fun t59 w =>
  condT t59 (
  faT P T.api_Packet t2 0 w fun t60 w =>
  stT P T.int t60 (.int .i64 7) w fun _ w =>
  K0 [] w) (
  K0 [] w)) (
  taT P a0 T.any T.message_Told true w fun t61 w =>
  exT P t61 1 w fun t62 w =>
  exT P t61 0 w fun t63 w =>
  condT t62 (
  alT P T.message_Told w fun t7 w =>
  stT P T.message_Told t7 t63 w fun _ w =>
  faT P T.message_Told t7 0 w fun t64 w =>
  ldT P T.uint64 t64 w fun t65 w =>
  faT P T.message_Told t7 1 w fun t66 w =>
  ldT P T.api_Verdict t66 w fun t67 w =>
  bldT P T.api_Packet #[(0, (.int .i64 8)), (1, t65), (4, t67)] w fun t68 w =>
  stT P T.api_Packet t2 t68 w fun _ w =>
  K0 [] w) (
  taT P a0 T.any T.message_Stored true w fun t69 w =>
  exT P t69 1 w fun t70 w =>
  exT P t69 0 w fun t71 w =>
  condT t70 (
  alT P T.message_Stored w fun t8 w =>
  stT P T.message_Stored t8 t71 w fun _ w =>
  drawT w fun w =>
  quietT (fun K' => faT P T.message_Stored t8 0 w K') w fun t72 =>
  quietT (fun K' => ldT P T.uint64 t72 w K') w fun t73 =>
  quietT (fun K' => faT P T.message_Stored t8 1 w K') w fun t74 =>
  quietT (fun K' => ldT P T.api_Ballot t74 w K') w fun t75 =>
  quietT (fun K' => faT P T.message_Stored t8 2 w K') w fun t76 =>
  quietT (fun K' => ldT P T.sl_api_Span t76 w K') w fun t77 =>
  fcallT P F.slices_Clone_api_Span_api_Span [t77] w fun t78 w =>
  stabT (fun K' => ldT P T.api_Ballot t74 w K') w t75 ∧ stabT (fun K' => faT P T.message_Stored t8 1 w K') w t74 ∧ stabT (fun K' => ldT P T.uint64 t72 w K') w t73 ∧ stabT (fun K' => faT P T.message_Stored t8 0 w K') w t72 ∧ quietT (fun K' => bldT P T.api_Packet #[(0, (.int .i64 9)), (1, t73), (2, t75), (6, t78)] w K') w fun t79 =>
  stT P T.api_Packet t2 t79 w fun _ w =>
  K0 [] w) (
  taT P a0 T.any T.message_Acked true w fun t80 w =>
  exT P t80 1 w fun t81 w =>
  exT P t80 0 w fun t82 w =>
  condT t81 (
  alT P T.message_Acked w fun t9 w =>
  stT P T.message_Acked t9 t82 w fun _ w =>
  drawT w fun w =>
  quietT (fun K' => faT P T.message_Acked t9 0 w K') w fun t83 =>
  quietT (fun K' => ldT P T.uint64 t83 w K') w fun t84 =>
  quietT (fun K' => faT P T.message_Acked t9 1 w K') w fun t85 =>
  quietT (fun K' => ldT P T.sl_uint64 t85 w K') w fun t86 =>
  fcallT P F.slices_Clone_uint64_uint64 [t86] w fun t87 w =>
  stabT (fun K' => ldT P T.uint64 t83 w K') w t84 ∧ stabT (fun K' => faT P T.message_Acked t9 0 w K') w t83 ∧ quietT (fun K' => bldT P T.api_Packet #[(0, (.int .i64 10)), (1, t84), (8, t87)] w K') w fun t88 =>
  stT P T.api_Packet t2 t88 w fun _ w =>
  K0 [] w) (
  K0 [] w)))))))) fun x0 w =>
  ldT P T.api_Packet t2 w fun t89 w =>
  stT P T.api_Packet t2 t89 w fun _ w =>
  quietT (fun K' => resT P T.api_Packet t2 w K') w fun r0 =>
  K r0 w
def M.message_packet.L : List Nat := [0, 2]
def M.message_packet.pl : Nat → Plan := fun id => cond (Nat.beq id 4) ⟨(.go 0 (.go 1 (.go 2 (.go 3 (.eff 4 (.go 5 (.eff 6 .nil .stop)) .stop))))), [4, 6], false, [0, 1, 0, 4, 12, 31, 63]⟩ (cond (Nat.beq id 25) ⟨(.go 0 (.go 1 (.go 2 (.go 3 (.go 4 (.go 5 (.eff 6 (.go 7 (.eff 8 .nil .stop)) .stop))))))), [6, 8], false, [0, 1, 0, 4, 0, 16, 48, 127, 255]⟩ (cond (Nat.beq id 28) ⟨(.go 0 (.go 1 (.go 2 (.go 3 (.eff 4 (.go 5 (.eff 6 .nil .stop)) .stop))))), [4, 6], false, [0, 1, 0, 4, 12, 31, 63]⟩ (⟨.nil, [], false, []⟩)))
theorem M.message_packet.eq (a0 : Value) (w : World) (K : KV) : M.message_packet a0 w K = den P M.message_packet.L M.message_packet.pl (Try.f138.body.getD .skip) (argE [a0]) w (bodyQ P Try.f138.results.toList K) := by kernel_rfl
theorem M.message_packet.ok : okFn M.message_packet.L M.message_packet.pl Try.f138 (Try.f138.body.getD .skip) 1 = true := by kernel_rfl
theorem M.message_packet.calls (a0 : Value) {w : World} {K : KV} (h : M.message_packet a0 w K) : callT P F.message_packet [a0] w K :=
  callT_of_den (by kernel_rfl) Try.func138 (by kernel_rfl) M.message_packet.ok (M.message_packet.eq a0 w K ▸ h)
theorem M.message_packet.fcall (args : List Value) (w : World) (K : KV) : fcallT P F.message_packet args w K = callT P F.message_packet args w K := fcallT_eq Try.func138 (by kernel_rfl) (by kernel_rfl) args w K
theorem M.message_packet.rcall (a c args : List Value) (w : World) (K : KV) : callRT P (.func (.func F.message_packet) a.toArray c.toArray) args w K = callT P F.message_packet (a ++ args ++ c) w K := callR_fn Try.func138 (by kernel_rfl) (by kernel_rfl) a c args w K

def M.slices_pdqsortOrdered_uint64.j6 (a0 : Value) (x6 : List Value) (x0 : List Value) (x4 : List Value) (t21 : Value) (x3 : List Value) (K0 : KL) (w : World) (K : KV) : Prop :=
  fcallT P F.slices_partitionOrdered_uint64 [a0, (gv x6 1), (gv x0 13), (gv x4 0)] w fun t99 w =>
  exT P t99 0 w fun t100 w =>
  exT P t99 1 w fun t101 w =>
  binT P .sub T.int (.tmp 103) (.tmp 104) t100 (gv x6 1) w fun t105 w =>
  binT P .sub T.int (.tmp 106) (.tmp 107) (gv x0 13) t100 w fun t108 w =>
  binT P .quo T.int (.tmp 109) (.const (.int .i64 8)) t21 (.int .i64 8) w fun t110 w =>
  binT P .lss T.int (.tmp 111) (.tmp 112) t105 t108 w fun t113 w =>
  condT t113 (
  binT P .geq T.int (.tmp 114) (.tmp 115) t105 t110 w fun t116 w =>
  fcallT P F.slices_pdqsortOrdered_uint64 [a0, (gv x6 1), t100, (gv x3 0)] w fun t121 w =>
  binT P .add T.int (.tmp 122) (.const (.int .i64 1)) t100 (.int .i64 1) w fun t123 w =>
  K0 [t21, (gv x3 0), (gv x4 0), (gv x4 1), (gv x6 0), t123, t100, t101, t101, t105, t108, t110, t116, (gv x0 13)] w) (
  binT P .geq T.int (.tmp 124) (.tmp 125) t108 t110 w fun t126 w =>
  binT P .add T.int (.tmp 128) (.const (.int .i64 1)) t100 (.int .i64 1) w fun t129 w =>
  fcallT P F.slices_pdqsortOrdered_uint64 [a0, t129, (gv x0 13), (gv x3 0)] w fun t132 w =>
  K0 [t21, (gv x3 0), (gv x4 0), (gv x4 1), (gv x6 0), (gv x6 1), t100, t101, t101, t105, t108, t110, t126, t100] w)
def M.slices_pdqsortOrdered_uint64.j5 (x0 : List Value) (a0 : Value) (x4 : List Value) (K0 : KL) (t21 : Value) (x3 : List Value) (w : World) (K : KV) : Prop :=
  joinT (fun K6 =>
  drawT w fun w =>
  w = w ∧ quietT (fun K' => binT P .gtr T.int (.tmp 73) (.const (.int .i64 0)) (gv x0 5) (.int .i64 0) w K') w fun t74 =>
  w = w ∧ quietT (fun K' => guardT (isB t74 true) (fun K' => K' a0 w) w K') w fun t76 =>
  quietT (fun K' => guardT (isB t74 true) (fun K' => K' (gv x0 5) w) w K') w fun t77 =>
  quietT (fun K' => guardT (isB t74 true) (fun K' => binT P .sub T.int (.tmp 77) (.const (.int .i64 1)) t77 (.int .i64 1) w K') w K') w fun t78 =>
  quietT (fun K' => guardT (isB t74 true) (fun K' => iaT P T.sl_uint64 t76 t78 w K') w K') w fun t79 =>
  quietT (fun K' => guardT (isB t74 true) (fun K' => ldT P T.uint64 t79 w K') w K') w fun t80 =>
  quietT (fun K' => guardT (isB t74 true) (fun K' => K' a0 w) w K') w fun t81 =>
  quietT (fun K' => guardT (isB t74 true) (fun K' => K' (gv x4 0) w) w K') w fun t82 =>
  quietT (fun K' => guardT (isB t74 true) (fun K' => iaT P T.sl_uint64 t81 t82 w K') w K') w fun t83 =>
  quietT (fun K' => guardT (isB t74 true) (fun K' => ldT P T.uint64 t83 w K') w K') w fun t84 =>
  guardT (isB t74 true) (fun K' => fcallT P F.cmp_Less_uint64 [t80, t84] w K') w fun t85 w =>
  quietT (fun K' => guardT (isB t74 true) (fun K' => unT P .not t85 w K') w K') w fun t86 =>
  quietT (fun K' => pickT t74 t86 (.bool false) w K') w fun t87 =>
  condT t87 (
  fcallT P F.slices_partitionEqualOrdered_uint64 [a0, (gv x0 5), (gv x0 13), (gv x4 0)] w fun t92 w =>
  K0 [t21, (gv x3 0), (gv x4 0), (gv x4 1), t92, t92, (gv x0 6), (gv x0 7), (gv x0 8), (gv x0 9), (gv x0 10), (gv x0 11), (gv x0 12), (gv x0 13)] w) (
  K6 [(gv x0 4), (gv x0 5)] w)) fun x6 w =>
  M.slices_pdqsortOrdered_uint64.j6 a0 x6 x0 x4 t21 x3 K0 w K
def M.slices_pdqsortOrdered_uint64.j4 (x0 : List Value) (x4 : List Value) (a0 : Value) (K0 : KL) (t21 : Value) (x3 : List Value) (w : World) (K : KV) : Prop :=
  joinT (fun K5 =>
  guardT (isB (gv x0 12) true) (fun K' => K' (gv x0 8) w) w fun t63 w =>
  pickT (gv x0 12) t63 (.bool false) w fun t64 w =>
  guardT (isB t64 true) (fun K' => K' (gv x4 1) w) w fun t66 w =>
  guardT (isB t64 true) (fun K' => binT P .eql T.slices_sortedHint (.tmp 66) (.const (.int .i64 1)) t66 (.int .i64 1) w K') w fun t67 w =>
  pickT t64 t67 (.bool false) w fun t68 w =>
  condT t68 (
  fcallT P F.slices_partialInsertionSortOrdered_uint64 [a0, (gv x0 5), (gv x0 13)] w fun t72 w =>
  condT t72 (
  K (.tuple #[]) w) (
  K5 [] w)) (
  K5 [] w)) fun x5 w =>
  M.slices_pdqsortOrdered_uint64.j5 x0 a0 x4 K0 t21 x3 w K
def M.slices_pdqsortOrdered_uint64.j3 (a0 : Value) (x0 : List Value) (K0 : KL) (t21 : Value) (x3 : List Value) (w : World) (K : KV) : Prop :=
  fcallT P F.slices_choosePivotOrdered_uint64 [a0, (gv x0 5), (gv x0 13)] w fun t46 w =>
  exT P t46 0 w fun t47 w =>
  exT P t46 1 w fun t48 w =>
  joinT (fun K4 =>
  binT P .eql T.slices_sortedHint (.tmp 49) (.const (.int .i64 2)) t48 (.int .i64 2) w fun t50 w =>
  condT t50 (
  fcallT P F.slices_reverseRangeOrdered_uint64 [a0, (gv x0 5), (gv x0 13)] w fun t54 w =>
  binT P .sub T.int (.tmp 55) (.const (.int .i64 1)) (gv x0 13) (.int .i64 1) w fun t56 w =>
  binT P .sub T.int (.tmp 57) (.tmp 58) t47 (gv x0 5) w fun t59 w =>
  binT P .sub T.int (.tmp 56) (.tmp 59) t56 t59 w fun t60 w =>
  K4 [t60, (.int .i64 1)] w) (
  K4 [t47, t48] w)) fun x4 w =>
  M.slices_pdqsortOrdered_uint64.j4 x0 x4 a0 K0 t21 x3 w K
def M.slices_pdqsortOrdered_uint64.j2 (x0 : List Value) (a0 : Value) (K0 : KL) (t21 : Value) (w : World) (K : KV) : Prop :=
  joinT (fun K3 =>
  unT P .not (gv x0 12) w fun t35 w =>
  condT t35 (
  fcallT P F.slices_breakPatternsOrdered_uint64 [a0, (gv x0 5), (gv x0 13)] w fun t39 w =>
  binT P .sub T.int (.tmp 40) (.const (.int .i64 1)) (gv x0 1) (.int .i64 1) w fun t41 w =>
  K3 [t41] w) (
  K3 [(gv x0 1)] w)) fun x3 w =>
  M.slices_pdqsortOrdered_uint64.j3 a0 x0 K0 t21 x3 w K
def M.slices_pdqsortOrdered_uint64.j1 (x0 : List Value) (a0 : Value) (K0 : KL) (t21 : Value) (w : World) (K : KV) : Prop :=
  joinT (fun K2 =>
  binT P .eql T.int (.tmp 28) (.const (.int .i64 0)) (gv x0 1) (.int .i64 0) w fun t29 w =>
  condT t29 (
  fcallT P F.slices_heapSortOrdered_uint64 [a0, (gv x0 5), (gv x0 13)] w fun t33 w =>
  K (.tuple #[]) w) (
  K2 [] w)) fun x2 w =>
  M.slices_pdqsortOrdered_uint64.j2 x0 a0 K0 t21 w K
def M.slices_pdqsortOrdered_uint64.j0 (x0 : List Value) (a0 : Value) (K0 : KL) (w : World) (K : KV) : Prop :=
  binT P .sub T.int (.tmp 19) (.tmp 20) (gv x0 13) (gv x0 5) w fun t21 w =>
  joinT (fun K1 =>
  binT P .leq T.int (.tmp 22) (.const (.int .i64 12)) t21 (.int .i64 12) w fun t23 w =>
  condT t23 (
  fcallT P F.slices_insertionSortOrdered_uint64 [a0, (gv x0 5), (gv x0 13)] w fun t27 w =>
  K (.tuple #[]) w) (
  K1 [] w)) fun x1 w =>
  M.slices_pdqsortOrdered_uint64.j1 x0 a0 K0 t21 w K
/-- slices.pdqsortOrdered[uint64] -/
def M.slices_pdqsortOrdered_uint64 (a0 a1 a2 a3 : Value) (w : World) (K : KV) : Prop :=
  loopT [undef, a3, undef, undef, undef, a1, undef, undef, (.bool true), undef, undef, undef, (.bool true), a2] w fun K0 x0 w =>
  M.slices_pdqsortOrdered_uint64.j0 x0 a0 K0 w K
def M.slices_pdqsortOrdered_uint64.L : List Nat := [0, 1, 2, 3, 8, 9, 10, 11, 12, 13, 14, 15, 16, 17, 18]
def M.slices_pdqsortOrdered_uint64.pl : Nat → Plan := fun id => cond (Nat.beq id 17) ⟨(.go 0 (.go 1 (.go 2 (.go 3 (.go 4 (.go 5 (.go 6 (.go 7 (.go 8 (.go 9 (.go 10 (.go 11 (.eff 12 (.go 13 (.go 14 .nil)) .stop))))))))))))), [12], false, [0, 1, 3, 7, 7, 23, 63, 127, 7, 7, 775, 1799, 4095, 8191, 16383]⟩ (⟨.nil, [], false, []⟩)
theorem M.slices_pdqsortOrdered_uint64.eq (a0 a1 a2 a3 : Value) (w : World) (K : KV) : M.slices_pdqsortOrdered_uint64 a0 a1 a2 a3 w K = den P M.slices_pdqsortOrdered_uint64.L M.slices_pdqsortOrdered_uint64.pl (Try.f140.body.getD .skip) (argE [a0, a1, a2, a3]) w (bodyQ P Try.f140.results.toList K) := by kernel_rfl
theorem M.slices_pdqsortOrdered_uint64.ok : okFn M.slices_pdqsortOrdered_uint64.L M.slices_pdqsortOrdered_uint64.pl Try.f140 (Try.f140.body.getD .skip) 4 = true := by kernel_rfl
theorem M.slices_pdqsortOrdered_uint64.calls (a0 a1 a2 a3 : Value) {w : World} {K : KV} (h : M.slices_pdqsortOrdered_uint64 a0 a1 a2 a3 w K) : callT P F.slices_pdqsortOrdered_uint64 [a0, a1, a2, a3] w K :=
  callT_of_den (by kernel_rfl) Try.func140 (by kernel_rfl) M.slices_pdqsortOrdered_uint64.ok (M.slices_pdqsortOrdered_uint64.eq a0 a1 a2 a3 w K ▸ h)
theorem M.slices_pdqsortOrdered_uint64.fcall (args : List Value) (w : World) (K : KV) : fcallT P F.slices_pdqsortOrdered_uint64 args w K = callT P F.slices_pdqsortOrdered_uint64 args w K := fcallT_eq Try.func140 (by kernel_rfl) (by kernel_rfl) args w K
theorem M.slices_pdqsortOrdered_uint64.rcall (a c args : List Value) (w : World) (K : KV) : callRT P (.func (.func F.slices_pdqsortOrdered_uint64) a.toArray c.toArray) args w K = callT P F.slices_pdqsortOrdered_uint64 (a ++ args ++ c) w K := callR_fn Try.func140 (by kernel_rfl) (by kernel_rfl) a c args w K

/-- math/bits.Len -/
def M.math_bits_Len (a0 : Value) (w : World) (K : KV) : Prop :=
  joinT (fun K0 =>
  condT (.bool false) (
  cvT P T.uint T.uint32 a0 w fun t4 w =>
  fcallT P F.math_bits_Len32 [t4] w fun t5 w =>
  K t5 w) (
  K0 [(.int .i64 0)] w)) fun x0 w =>
  fcallT P F.math_bits_Len64 [a0] w fun t7 w =>
  K t7 w
def M.math_bits_Len.L : List Nat := [0, 2]
def M.math_bits_Len.pl : Nat → Plan := fun id => ⟨.nil, [], false, []⟩
theorem M.math_bits_Len.eq (a0 : Value) (w : World) (K : KV) : M.math_bits_Len a0 w K = den P M.math_bits_Len.L M.math_bits_Len.pl (Try.f141.body.getD .skip) (argE [a0]) w (bodyQ P Try.f141.results.toList K) := by kernel_rfl
theorem M.math_bits_Len.ok : okFn M.math_bits_Len.L M.math_bits_Len.pl Try.f141 (Try.f141.body.getD .skip) 1 = true := by kernel_rfl
theorem M.math_bits_Len.calls (a0 : Value) {w : World} {K : KV} (h : M.math_bits_Len a0 w K) : callT P F.math_bits_Len [a0] w K :=
  callT_of_den (by kernel_rfl) Try.func141 (by kernel_rfl) M.math_bits_Len.ok (M.math_bits_Len.eq a0 w K ▸ h)
theorem M.math_bits_Len.fcall (args : List Value) (w : World) (K : KV) : fcallT P F.math_bits_Len args w K = callT P F.math_bits_Len args w K := fcallT_eq Try.func141 (by kernel_rfl) (by kernel_rfl) args w K
theorem M.math_bits_Len.rcall (a c args : List Value) (w : World) (K : KV) : callRT P (.func (.func F.math_bits_Len) a.toArray c.toArray) args w K = callT P F.math_bits_Len (a ++ args ++ c) w K := callR_fn Try.func141 (by kernel_rfl) (by kernel_rfl) a c args w K

/-- internal/stringslite.HasPrefix -/
def M.internal_stringslite_HasPrefix (a0 a1 : Value) (w : World) (K : KV) : Prop :=
  biT P .len #[T.string] T.int [false] [a0] w fun t6 w =>
  biT P .len #[T.string] T.int [false] [a1] w fun t8 w =>
  binT P .geq T.int (.tmp 6) (.tmp 8) t6 t8 w fun t9 w =>
  guardT (isB t9 true) (fun K' => K' a0 w) w fun t11 w =>
  guardT (isB t9 true) (fun K' => K' a1 w) w fun t12 w =>
  guardT (isB t9 true) (fun K' => biT P .len #[T.string] T.int [false] [t12] w K') w fun t13 w =>
  guardT (isB t9 true) (fun K' => slT P T.string t11 none (some t13) none w K') w fun t14 w =>
  guardT (isB t9 true) (fun K' => K' a1 w) w fun t15 w =>
  guardT (isB t9 true) (fun K' => binT P .eql T.string (.tmp 14) (.tmp 15) t14 t15 w K') w fun t16 w =>
  pickT t9 t16 (.bool false) w fun t17 w =>
  K t17 w
def M.internal_stringslite_HasPrefix.L : List Nat := [0, 1, 4]
def M.internal_stringslite_HasPrefix.pl : Nat → Plan := fun id => ⟨.nil, [], false, []⟩
theorem M.internal_stringslite_HasPrefix.eq (a0 a1 : Value) (w : World) (K : KV) : M.internal_stringslite_HasPrefix a0 a1 w K = den P M.internal_stringslite_HasPrefix.L M.internal_stringslite_HasPrefix.pl (Try.f150.body.getD .skip) (argE [a0, a1]) w (bodyQ P Try.f150.results.toList K) := by kernel_rfl
theorem M.internal_stringslite_HasPrefix.ok : okFn M.internal_stringslite_HasPrefix.L M.internal_stringslite_HasPrefix.pl Try.f150 (Try.f150.body.getD .skip) 2 = true := by kernel_rfl
theorem M.internal_stringslite_HasPrefix.calls (a0 a1 : Value) {w : World} {K : KV} (h : M.internal_stringslite_HasPrefix a0 a1 w K) : callT P F.internal_stringslite_HasPrefix [a0, a1] w K :=
  callT_of_den (by kernel_rfl) Try.func150 (by kernel_rfl) M.internal_stringslite_HasPrefix.ok (M.internal_stringslite_HasPrefix.eq a0 a1 w K ▸ h)
theorem M.internal_stringslite_HasPrefix.fcall (args : List Value) (w : World) (K : KV) : fcallT P F.internal_stringslite_HasPrefix args w K = callT P F.internal_stringslite_HasPrefix args w K := fcallT_eq Try.func150 (by kernel_rfl) (by kernel_rfl) args w K
theorem M.internal_stringslite_HasPrefix.rcall (a c args : List Value) (w : World) (K : KV) : callRT P (.func (.func F.internal_stringslite_HasPrefix) a.toArray c.toArray) args w K = callT P F.internal_stringslite_HasPrefix (a ++ args ++ c) w K := callR_fn Try.func150 (by kernel_rfl) (by kernel_rfl) a c args w K

/-- winnow/message.right$1 -/
def M.message_right_1 (a0 : Value) (w : World) (K : KV) : Prop :=
  boxT P T.api_Member a0 w fun t1 w =>
  faT P T.api_Member t1 1 w fun t3 w =>
  ldT P T.uint64 t3 w fun t4 w =>
  binT P .eql T.uint64 (.tmp 4) (.const (.int .u64 0)) t4 (.int .u64 0) w fun t5 w =>
  guardT (isB t5 false) (fun K' => faT P T.api_Member t1 2 w K') w fun t7 w =>
  guardT (isB t5 false) (fun K' => ldT P T.int t7 w K') w fun t8 w =>
  guardT (isB t5 false) (fun K' => binT P .lss T.int (.tmp 8) (.const (.int .i64 0)) t8 (.int .i64 0) w K') w fun t9 w =>
  pickT t5 (.bool true) t9 w fun t10 w =>
  guardT (isB t10 false) (fun K' => faT P T.api_Member t1 2 w K') w fun t12 w =>
  guardT (isB t10 false) (fun K' => ldT P T.int t12 w K') w fun t13 w =>
  guardT (isB t10 false) (fun K' => binT P .gtr T.int (.tmp 13) (.const (.int .i64 2)) t13 (.int .i64 2) w K') w fun t14 w =>
  pickT t10 (.bool true) t14 w fun t15 w =>
  K t15 w
def M.message_right_1.L : List Nat := [0, 2]
def M.message_right_1.pl : Nat → Plan := fun id => ⟨.nil, [], false, []⟩
theorem M.message_right_1.eq (a0 : Value) (w : World) (K : KV) : M.message_right_1 a0 w K = den P M.message_right_1.L M.message_right_1.pl (Try.f154.body.getD .skip) (argE [a0]) w (bodyQ P Try.f154.results.toList K) := by kernel_rfl
theorem M.message_right_1.ok : okFn M.message_right_1.L M.message_right_1.pl Try.f154 (Try.f154.body.getD .skip) 1 = true := by kernel_rfl
theorem M.message_right_1.calls (a0 : Value) {w : World} {K : KV} (h : M.message_right_1 a0 w K) : callT P F.message_right_1 [a0] w K :=
  callT_of_den (by kernel_rfl) Try.func154 (by kernel_rfl) M.message_right_1.ok (M.message_right_1.eq a0 w K ▸ h)
theorem M.message_right_1.fcall (args : List Value) (w : World) (K : KV) : fcallT P F.message_right_1 args w K = callT P F.message_right_1 args w K := fcallT_eq Try.func154 (by kernel_rfl) (by kernel_rfl) args w K
theorem M.message_right_1.rcall (a c args : List Value) (w : World) (K : KV) : callRT P (.func (.func F.message_right_1) a.toArray c.toArray) args w K = callT P F.message_right_1 (a ++ args ++ c) w K := callR_fn Try.func154 (by kernel_rfl) (by kernel_rfl) a c args w K

def M.message_rise_api_Member.j2 (a0 : Value) (x1 : List Value) (a2 : Value) (K1 : KL) (w : World) (K : KV) : Prop :=
  joinT (fun K3 =>
  iaT P T.sl_api_Member a0 (gv x1 3) w fun t14 w =>
  ldT P T.api_Member t14 w fun t15 w =>
  alT P T.api_Member w fun t9 w =>
  stT P T.api_Member t9 t15 w fun _ w =>
  joinT (fun K4 =>
  ldT P T.api_Member t9 w fun t17 w =>
  callRT P a2 [t17] w fun t18 w =>
  binT P .leq T.uint64 (.tmp 18) (.tmp 19) t18 (gv x1 2) w fun t20 w =>
  condT t20 (
  K (.bool false) w) (
  K4 [(gv x1 1)] w)) fun x4 w =>
  ldT P T.api_Member t9 w fun t22 w =>
  callRT P a2 [t22] w fun t23 w =>
  K3 [t9, (gv x4 0), t23] w) fun x3 w =>
  binT P .add T.int (.tmp 12) (.const (.int .i64 1)) (gv x1 3) (.int .i64 1) w fun t24 w =>
  K1 [(gv x3 0), (gv x3 1), (gv x3 2), t24] w
def M.message_rise_api_Member.j0 (a0 : Value) (a1 : Value) (w : World) (K : KV) : Prop :=
  biT P .len #[T.sl_api_Member] T.int [false] [a0] w fun t26 w =>
  binT P .gtr T.int (.tmp 26) (.const (.int .i64 0)) t26 (.int .i64 0) w fun t27 w =>
  guardT (isB t27 true) (fun K' => K' a0 w) w fun t29 w =>
  guardT (isB t27 true) (fun K' => biT P .len #[T.sl_api_Member] T.int [false] [t29] w K') w fun t30 w =>
  guardT (isB t27 true) (fun K' => K' a1 w) w fun t31 w =>
  guardT (isB t27 true) (fun K' => binT P .leq T.int (.tmp 30) (.tmp 31) t30 t31 w K') w fun t32 w =>
  pickT t27 t32 (.bool false) w fun t33 w =>
  K t33 w
/-- winnow/message.rise[winnow/api.Member] -/
def M.message_rise_api_Member (a0 a1 a2 : Value) (w : World) (K : KV) : Prop :=
  joinT (fun K0 =>
  biT P .len #[T.sl_api_Member] T.int [false] [a0] w fun t11 w =>
  loopT [undef, (.bool false), (.int .u64 0), (.int .i64 0)] w fun K1 x1 w =>
  binT P .lss T.int (.tmp 12) (.tmp 11) (gv x1 3) t11 w fun t13 w =>
  joinT (fun K2 =>
  condT t13 (
  K2 [] w) (
  K0 [a0, t11, (gv x1 3), (gv x1 0), (gv x1 1), (gv x1 2)] w)) fun x2 w =>
  M.message_rise_api_Member.j2 a0 x1 a2 K1 w K) fun x0 w =>
  M.message_rise_api_Member.j0 a0 a1 w K
def M.message_rise_api_Member.L : List Nat := [0, 1, 2, 6, 7, 12, 11, 10, 9]
def M.message_rise_api_Member.pl : Nat → Plan := fun id => ⟨.nil, [], false, []⟩
theorem M.message_rise_api_Member.eq (a0 a1 a2 : Value) (w : World) (K : KV) : M.message_rise_api_Member a0 a1 a2 w K = den P M.message_rise_api_Member.L M.message_rise_api_Member.pl (Try.f155.body.getD .skip) (argE [a0, a1, a2]) w (bodyQ P Try.f155.results.toList K) := by kernel_rfl
theorem M.message_rise_api_Member.ok : okFn M.message_rise_api_Member.L M.message_rise_api_Member.pl Try.f155 (Try.f155.body.getD .skip) 3 = true := by kernel_rfl
theorem M.message_rise_api_Member.calls (a0 a1 a2 : Value) {w : World} {K : KV} (h : M.message_rise_api_Member a0 a1 a2 w K) : callT P F.message_rise_api_Member [a0, a1, a2] w K :=
  callT_of_den (by kernel_rfl) Try.func155 (by kernel_rfl) M.message_rise_api_Member.ok (M.message_rise_api_Member.eq a0 a1 a2 w K ▸ h)
theorem M.message_rise_api_Member.fcall (args : List Value) (w : World) (K : KV) : fcallT P F.message_rise_api_Member args w K = callT P F.message_rise_api_Member args w K := fcallT_eq Try.func155 (by kernel_rfl) (by kernel_rfl) args w K
theorem M.message_rise_api_Member.rcall (a c args : List Value) (w : World) (K : KV) : callRT P (.func (.func F.message_rise_api_Member) a.toArray c.toArray) args w K = callT P F.message_rise_api_Member (a ++ args ++ c) w K := callR_fn Try.func155 (by kernel_rfl) (by kernel_rfl) a c args w K

/-- winnow/message.right$2 -/
def M.message_right_2 (a0 : Value) (w : World) (K : KV) : Prop :=
  boxT P T.api_Member a0 w fun t1 w =>
  faT P T.api_Member t1 0 w fun t3 w =>
  ldT P T.uint64 t3 w fun t4 w =>
  K t4 w
def M.message_right_2.L : List Nat := [0, 2]
def M.message_right_2.pl : Nat → Plan := fun id => ⟨.nil, [], false, []⟩
theorem M.message_right_2.eq (a0 : Value) (w : World) (K : KV) : M.message_right_2 a0 w K = den P M.message_right_2.L M.message_right_2.pl (Try.f156.body.getD .skip) (argE [a0]) w (bodyQ P Try.f156.results.toList K) := by kernel_rfl
theorem M.message_right_2.ok : okFn M.message_right_2.L M.message_right_2.pl Try.f156 (Try.f156.body.getD .skip) 1 = true := by kernel_rfl
theorem M.message_right_2.calls (a0 : Value) {w : World} {K : KV} (h : M.message_right_2 a0 w K) : callT P F.message_right_2 [a0] w K :=
  callT_of_den (by kernel_rfl) Try.func156 (by kernel_rfl) M.message_right_2.ok (M.message_right_2.eq a0 w K ▸ h)
theorem M.message_right_2.fcall (args : List Value) (w : World) (K : KV) : fcallT P F.message_right_2 args w K = callT P F.message_right_2 args w K := fcallT_eq Try.func156 (by kernel_rfl) (by kernel_rfl) args w K
theorem M.message_right_2.rcall (a c args : List Value) (w : World) (K : KV) : callRT P (.func (.func F.message_right_2) a.toArray c.toArray) args w K = callT P F.message_right_2 (a ++ args ++ c) w K := callR_fn Try.func156 (by kernel_rfl) (by kernel_rfl) a c args w K

/-- slices.ContainsFunc[[]winnow/api.Member,winnow/api.Member] -/
def M.slices_ContainsFunc_api_Member_api_Member (a0 a1 : Value) (w : World) (K : KV) : Prop :=
  fcallT P F.slices_IndexFunc_api_Member_api_Member [a0, a1] w fun t7 w =>
  binT P .geq T.int (.tmp 7) (.const (.int .i64 0)) t7 (.int .i64 0) w fun t8 w =>
  K t8 w
def M.slices_ContainsFunc_api_Member_api_Member.L : List Nat := [0, 1, 4]
def M.slices_ContainsFunc_api_Member_api_Member.pl : Nat → Plan := fun id => ⟨.nil, [], false, []⟩
theorem M.slices_ContainsFunc_api_Member_api_Member.eq (a0 a1 : Value) (w : World) (K : KV) : M.slices_ContainsFunc_api_Member_api_Member a0 a1 w K = den P M.slices_ContainsFunc_api_Member_api_Member.L M.slices_ContainsFunc_api_Member_api_Member.pl (Try.f157.body.getD .skip) (argE [a0, a1]) w (bodyQ P Try.f157.results.toList K) := by kernel_rfl
theorem M.slices_ContainsFunc_api_Member_api_Member.ok : okFn M.slices_ContainsFunc_api_Member_api_Member.L M.slices_ContainsFunc_api_Member_api_Member.pl Try.f157 (Try.f157.body.getD .skip) 2 = true := by kernel_rfl
theorem M.slices_ContainsFunc_api_Member_api_Member.calls (a0 a1 : Value) {w : World} {K : KV} (h : M.slices_ContainsFunc_api_Member_api_Member a0 a1 w K) : callT P F.slices_ContainsFunc_api_Member_api_Member [a0, a1] w K :=
  callT_of_den (by kernel_rfl) Try.func157 (by kernel_rfl) M.slices_ContainsFunc_api_Member_api_Member.ok (M.slices_ContainsFunc_api_Member_api_Member.eq a0 a1 w K ▸ h)
theorem M.slices_ContainsFunc_api_Member_api_Member.fcall (args : List Value) (w : World) (K : KV) : fcallT P F.slices_ContainsFunc_api_Member_api_Member args w K = callT P F.slices_ContainsFunc_api_Member_api_Member args w K := fcallT_eq Try.func157 (by kernel_rfl) (by kernel_rfl) args w K
theorem M.slices_ContainsFunc_api_Member_api_Member.rcall (a c args : List Value) (w : World) (K : KV) : callRT P (.func (.func F.slices_ContainsFunc_api_Member_api_Member) a.toArray c.toArray) args w K = callT P F.slices_ContainsFunc_api_Member_api_Member (a ++ args ++ c) w K := callR_fn Try.func157 (by kernel_rfl) (by kernel_rfl) a c args w K

def M.slices_Equal_api_Span_api_Span.j3 (a0 : Value) (x2 : List Value) (a1 : Value) (K2 : KL) (w : World) (K : KV) : Prop :=
  joinT (fun K4 =>
  drawT w fun w =>
  w = w ∧ w = w ∧ quietT (fun K' => iaT P T.sl_api_Span a0 (gv x2 2) w K') w fun t18 =>
  quietT (fun K' => ldT P T.api_Span t18 w K') w fun t19 =>
  w = w ∧ w = w ∧ quietT (fun K' => iaT P T.sl_api_Span a1 (gv x2 2) w K') w fun t22 =>
  quietT (fun K' => ldT P T.api_Span t22 w K') w fun t23 =>
  quietT (fun K' => binT P .neq T.api_Span (.tmp 19) (.tmp 23) t19 t23 w K') w fun t24 =>
  condT t24 (
  K (.bool false) w) (
  K4 [(gv x2 2), (gv x2 1)] w)) fun x4 w =>
  binT P .add T.int (.tmp 13) (.const (.int .i64 1)) (gv x2 2) (.int .i64 1) w fun t25 w =>
  K2 [(gv x4 0), (gv x4 1), t25] w
def M.slices_Equal_api_Span_api_Span.j0 (a0 : Value) (x0 : List Value) (a1 : Value) (w : World) (K : KV) : Prop :=
  joinT (fun K1 =>
  biT P .len #[T.sl_api_Span] T.int [false] [a0] w fun t12 w =>
  loopT [undef, (gv x0 0), (.int .i64 0)] w fun K2 x2 w =>
  binT P .lss T.int (.tmp 13) (.tmp 12) (gv x2 2) t12 w fun t14 w =>
  joinT (fun K3 =>
  condT t14 (
  K3 [] w) (
  K1 [t12, (gv x2 2), (gv x2 0), (gv x2 1)] w)) fun x3 w =>
  M.slices_Equal_api_Span_api_Span.j3 a0 x2 a1 K2 w K) fun x1 w =>
  K (.bool true) w
/-- slices.Equal[[]winnow/api.Span,winnow/api.Span] -/
def M.slices_Equal_api_Span_api_Span (a0 a1 : Value) (w : World) (K : KV) : Prop :=
  joinT (fun K0 =>
  biT P .len #[T.sl_api_Span] T.int [false] [a0] w fun t7 w =>
  biT P .len #[T.sl_api_Span] T.int [false] [a1] w fun t9 w =>
  binT P .neq T.int (.tmp 7) (.tmp 9) t7 t9 w fun t10 w =>
  condT t10 (
  K (.bool false) w) (
  K0 [(.bool false)] w)) fun x0 w =>
  M.slices_Equal_api_Span_api_Span.j0 a0 x0 a1 w K
def M.slices_Equal_api_Span_api_Span.L : List Nat := [0, 1, 4, 5, 13, 12]
def M.slices_Equal_api_Span_api_Span.pl : Nat → Plan := fun id => cond (Nat.beq id 6) ⟨(.go 0 (.go 1 (.go 2 (.go 3 (.go 4 (.go 5 (.go 6 (.go 7 (.go 8 .nil))))))))), [], false, [0, 0, 3, 7, 0, 0, 48, 112, 255]⟩ (⟨.nil, [], false, []⟩)
theorem M.slices_Equal_api_Span_api_Span.eq (a0 a1 : Value) (w : World) (K : KV) : M.slices_Equal_api_Span_api_Span a0 a1 w K = den P M.slices_Equal_api_Span_api_Span.L M.slices_Equal_api_Span_api_Span.pl (Try.f161.body.getD .skip) (argE [a0, a1]) w (bodyQ P Try.f161.results.toList K) := by kernel_rfl
theorem M.slices_Equal_api_Span_api_Span.ok : okFn M.slices_Equal_api_Span_api_Span.L M.slices_Equal_api_Span_api_Span.pl Try.f161 (Try.f161.body.getD .skip) 2 = true := by kernel_rfl
theorem M.slices_Equal_api_Span_api_Span.calls (a0 a1 : Value) {w : World} {K : KV} (h : M.slices_Equal_api_Span_api_Span a0 a1 w K) : callT P F.slices_Equal_api_Span_api_Span [a0, a1] w K :=
  callT_of_den (by kernel_rfl) Try.func161 (by kernel_rfl) M.slices_Equal_api_Span_api_Span.ok (M.slices_Equal_api_Span_api_Span.eq a0 a1 w K ▸ h)
theorem M.slices_Equal_api_Span_api_Span.fcall (args : List Value) (w : World) (K : KV) : fcallT P F.slices_Equal_api_Span_api_Span args w K = callT P F.slices_Equal_api_Span_api_Span args w K := fcallT_eq Try.func161 (by kernel_rfl) (by kernel_rfl) args w K
theorem M.slices_Equal_api_Span_api_Span.rcall (a c args : List Value) (w : World) (K : KV) : callRT P (.func (.func F.slices_Equal_api_Span_api_Span) a.toArray c.toArray) args w K = callT P F.slices_Equal_api_Span_api_Span (a ++ args ++ c) w K := callR_fn Try.func161 (by kernel_rfl) (by kernel_rfl) a c args w K

def M.slices_Equal_uint64_uint64.j3 (a0 : Value) (x2 : List Value) (a1 : Value) (K2 : KL) (w : World) (K : KV) : Prop :=
  joinT (fun K4 =>
  drawT w fun w =>
  w = w ∧ w = w ∧ quietT (fun K' => iaT P T.sl_uint64 a0 (gv x2 2) w K') w fun t18 =>
  quietT (fun K' => ldT P T.uint64 t18 w K') w fun t19 =>
  w = w ∧ w = w ∧ quietT (fun K' => iaT P T.sl_uint64 a1 (gv x2 2) w K') w fun t22 =>
  quietT (fun K' => ldT P T.uint64 t22 w K') w fun t23 =>
  quietT (fun K' => binT P .neq T.uint64 (.tmp 19) (.tmp 23) t19 t23 w K') w fun t24 =>
  condT t24 (
  K (.bool false) w) (
  K4 [(gv x2 2), (gv x2 1)] w)) fun x4 w =>
  binT P .add T.int (.tmp 13) (.const (.int .i64 1)) (gv x2 2) (.int .i64 1) w fun t25 w =>
  K2 [(gv x4 0), (gv x4 1), t25] w
def M.slices_Equal_uint64_uint64.j0 (a0 : Value) (x0 : List Value) (a1 : Value) (w : World) (K : KV) : Prop :=
  joinT (fun K1 =>
  biT P .len #[T.sl_uint64] T.int [false] [a0] w fun t12 w =>
  loopT [undef, (gv x0 0), (.int .i64 0)] w fun K2 x2 w =>
  binT P .lss T.int (.tmp 13) (.tmp 12) (gv x2 2) t12 w fun t14 w =>
  joinT (fun K3 =>
  condT t14 (
  K3 [] w) (
  K1 [t12, (gv x2 2), (gv x2 0), (gv x2 1)] w)) fun x3 w =>
  M.slices_Equal_uint64_uint64.j3 a0 x2 a1 K2 w K) fun x1 w =>
  K (.bool true) w
/-- slices.Equal[[]uint64,uint64] -/
def M.slices_Equal_uint64_uint64 (a0 a1 : Value) (w : World) (K : KV) : Prop :=
  joinT (fun K0 =>
  biT P .len #[T.sl_uint64] T.int [false] [a0] w fun t7 w =>
  biT P .len #[T.sl_uint64] T.int [false] [a1] w fun t9 w =>
  binT P .neq T.int (.tmp 7) (.tmp 9) t7 t9 w fun t10 w =>
  condT t10 (
  K (.bool false) w) (
  K0 [(.bool false)] w)) fun x0 w =>
  M.slices_Equal_uint64_uint64.j0 a0 x0 a1 w K
def M.slices_Equal_uint64_uint64.L : List Nat := [0, 1, 4, 5, 13, 12]
def M.slices_Equal_uint64_uint64.pl : Nat → Plan := fun id => cond (Nat.beq id 6) ⟨(.go 0 (.go 1 (.go 2 (.go 3 (.go 4 (.go 5 (.go 6 (.go 7 (.go 8 .nil))))))))), [], false, [0, 0, 3, 7, 0, 0, 48, 112, 255]⟩ (⟨.nil, [], false, []⟩)
theorem M.slices_Equal_uint64_uint64.eq (a0 a1 : Value) (w : World) (K : KV) : M.slices_Equal_uint64_uint64 a0 a1 w K = den P M.slices_Equal_uint64_uint64.L M.slices_Equal_uint64_uint64.pl (Try.f162.body.getD .skip) (argE [a0, a1]) w (bodyQ P Try.f162.results.toList K) := by kernel_rfl
theorem M.slices_Equal_uint64_uint64.ok : okFn M.slices_Equal_uint64_uint64.L M.slices_Equal_uint64_uint64.pl Try.f162 (Try.f162.body.getD .skip) 2 = true := by kernel_rfl
theorem M.slices_Equal_uint64_uint64.calls (a0 a1 : Value) {w : World} {K : KV} (h : M.slices_Equal_uint64_uint64 a0 a1 w K) : callT P F.slices_Equal_uint64_uint64 [a0, a1] w K :=
  callT_of_den (by kernel_rfl) Try.func162 (by kernel_rfl) M.slices_Equal_uint64_uint64.ok (M.slices_Equal_uint64_uint64.eq a0 a1 w K ▸ h)
theorem M.slices_Equal_uint64_uint64.fcall (args : List Value) (w : World) (K : KV) : fcallT P F.slices_Equal_uint64_uint64 args w K = callT P F.slices_Equal_uint64_uint64 args w K := fcallT_eq Try.func162 (by kernel_rfl) (by kernel_rfl) args w K
theorem M.slices_Equal_uint64_uint64.rcall (a c args : List Value) (w : World) (K : KV) : callRT P (.func (.func F.slices_Equal_uint64_uint64) a.toArray c.toArray) args w K = callT P F.slices_Equal_uint64_uint64 (a ++ args ++ c) w K := callR_fn Try.func162 (by kernel_rfl) (by kernel_rfl) a c args w K

def M.slices_insertionSortOrdered_uint64.j4 (x3 : List Value) (a0 : Value) (K3 : KL) (w : World) (K : KV) : Prop :=
  joinT (fun K5 =>
  drawT w fun w =>
  w = w ∧ w = w ∧ w = w ∧ w = w ∧ quietT (fun K' => binT P .sub T.int (.tmp 36) (.const (.int .i64 1)) (gv x3 0) (.int .i64 1) w K') w fun t37 =>
  w = w ∧ w = w ∧ quietT (fun K' => binT P .sub T.int (.tmp 39) (.const (.int .i64 1)) (gv x3 0) (.int .i64 1) w K') w fun t40 =>
  quietT (fun K' => iaT P T.sl_uint64 a0 t40 w K') w fun t41 =>
  quietT (fun K' => ldT P T.uint64 t41 w K') w fun t42 =>
  w = w ∧ w = w ∧ quietT (fun K' => iaT P T.sl_uint64 a0 (gv x3 0) w K') w fun t45 =>
  quietT (fun K' => ldT P T.uint64 t45 w K') w fun t46 =>
  quietT (fun K' => iaT P T.sl_uint64 a0 (gv x3 0) w K') w fun t47 =>
  stT P T.uint64 t47 t42 w fun _ w =>
  stabT (fun K' => binT P .sub T.int (.tmp 36) (.const (.int .i64 1)) (gv x3 0) (.int .i64 1) w K') w t37 ∧ stabT (fun K' => K' (gv x3 0) w) w (gv x3 0) ∧ stabT (fun K' => K' a0 w) w a0 ∧ quietT (fun K' => iaT P T.sl_uint64 a0 t37 w K') w fun t48 =>
  stT P T.uint64 t48 t46 w fun _ w =>
  K5 [] w) fun x5 w =>
  binT P .sub T.int (.tmp 31) (.const (.int .i64 1)) (gv x3 0) (.int .i64 1) w fun t32 w =>
  K3 [t32] w
def M.slices_insertionSortOrdered_uint64.j3 (x3 : List Value) (a1 : Value) (a0 : Value) (K2 : KL) (K3 : KL) (w : World) (K : KV) : Prop :=
  joinT (fun K4 =>
  drawT w fun w =>
  w = w ∧ w = w ∧ quietT (fun K' => binT P .gtr T.int (.tmp 16) (.tmp 17) (gv x3 0) a1 w K') w fun t18 =>
  w = w ∧ quietT (fun K' => guardT (isB t18 true) (fun K' => K' a0 w) w K') w fun t20 =>
  quietT (fun K' => guardT (isB t18 true) (fun K' => K' (gv x3 0) w) w K') w fun t21 =>
  quietT (fun K' => guardT (isB t18 true) (fun K' => iaT P T.sl_uint64 t20 t21 w K') w K') w fun t22 =>
  quietT (fun K' => guardT (isB t18 true) (fun K' => ldT P T.uint64 t22 w K') w K') w fun t23 =>
  quietT (fun K' => guardT (isB t18 true) (fun K' => K' a0 w) w K') w fun t24 =>
  quietT (fun K' => guardT (isB t18 true) (fun K' => K' (gv x3 0) w) w K') w fun t25 =>
  quietT (fun K' => guardT (isB t18 true) (fun K' => binT P .sub T.int (.tmp 25) (.const (.int .i64 1)) t25 (.int .i64 1) w K') w K') w fun t26 =>
  quietT (fun K' => guardT (isB t18 true) (fun K' => iaT P T.sl_uint64 t24 t26 w K') w K') w fun t27 =>
  quietT (fun K' => guardT (isB t18 true) (fun K' => ldT P T.uint64 t27 w K') w K') w fun t28 =>
  guardT (isB t18 true) (fun K' => fcallT P F.cmp_Less_uint64 [t23, t28] w K') w fun t29 w =>
  quietT (fun K' => pickT t18 t29 (.bool false) w K') w fun t30 =>
  condT t30 (
  K4 [] w) (
  K2 [(gv x3 0)] w)) fun x4 w =>
  M.slices_insertionSortOrdered_uint64.j4 x3 a0 K3 w K
def M.slices_insertionSortOrdered_uint64.j0 (x0 : List Value) (a2 : Value) (a1 : Value) (a0 : Value) (K0 : KL) (w : World) (K : KV) : Prop :=
  joinT (fun K1 =>
  binT P .lss T.int (.tmp 10) (.tmp 11) (gv x0 1) a2 w fun t12 w =>
  condT t12 (
  K1 [] w) (
  K (.tuple #[]) w)) fun x1 w =>
  joinT (fun K2 =>
  loopT [(gv x0 1)] w fun K3 x3 w =>
  M.slices_insertionSortOrdered_uint64.j3 x3 a1 a0 K2 K3 w K) fun x2 w =>
  binT P .add T.int (.tmp 13) (.const (.int .i64 1)) (gv x0 1) (.int .i64 1) w fun t14 w =>
  K0 [(gv x2 0), t14] w
/-- slices.insertionSortOrdered[uint64] -/
def M.slices_insertionSortOrdered_uint64 (a0 a1 a2 : Value) (w : World) (K : KV) : Prop :=
  binT P .add T.int (.tmp 8) (.const (.int .i64 1)) a1 (.int .i64 1) w fun t9 w =>
  loopT [undef, t9] w fun K0 x0 w =>
  M.slices_insertionSortOrdered_uint64.j0 x0 a2 a1 a0 K0 w K
def M.slices_insertionSortOrdered_uint64.L : List Nat := [0, 1, 2, 6, 7]
def M.slices_insertionSortOrdered_uint64.pl : Nat → Plan := fun id => cond (Nat.beq id 4) ⟨(.go 0 (.go 1 (.go 2 (.go 3 (.go 4 (.go 5 (.go 6 (.go 7 (.go 8 (.go 9 (.go 10 (.go 11 (.go 12 (.eff 13 (.go 14 .nil) .stop)))))))))))))), [13], false, [0, 0, 3, 7, 15, 15, 63, 127, 15, 15, 527, 1807, 3855, 8191, 16383]⟩ (cond (Nat.beq id 6) ⟨(.go 0 (.go 1 (.go 2 (.go 3 (.go 4 (.go 5 (.go 6 (.go 7 (.go 8 (.go 9 (.go 10 (.go 11 (.go 12 (.go 13 (.go 14 (.eff 15 (.go 16 (.eff 17 .nil .stop)) .stop)))))))))))))))), [15, 17], false, [0, 0, 0, 0, 8, 0, 0, 64, 224, 480, 0, 0, 3072, 7168, 16355, 32739, 65535, 131071]⟩ (⟨.nil, [], false, []⟩))
theorem M.slices_insertionSortOrdered_uint64.eq (a0 a1 a2 : Value) (w : World) (K : KV) : M.slices_insertionSortOrdered_uint64 a0 a1 a2 w K = den P M.slices_insertionSortOrdered_uint64.L M.slices_insertionSortOrdered_uint64.pl (Try.f163.body.getD .skip) (argE [a0, a1, a2]) w (bodyQ P Try.f163.results.toList K) := by kernel_rfl
theorem M.slices_insertionSortOrdered_uint64.ok : okFn M.slices_insertionSortOrdered_uint64.L M.slices_insertionSortOrdered_uint64.pl Try.f163 (Try.f163.body.getD .skip) 3 = true := by kernel_rfl
theorem M.slices_insertionSortOrdered_uint64.calls (a0 a1 a2 : Value) {w : World} {K : KV} (h : M.slices_insertionSortOrdered_uint64 a0 a1 a2 w K) : callT P F.slices_insertionSortOrdered_uint64 [a0, a1, a2] w K :=
  callT_of_den (by kernel_rfl) Try.func163 (by kernel_rfl) M.slices_insertionSortOrdered_uint64.ok (M.slices_insertionSortOrdered_uint64.eq a0 a1 a2 w K ▸ h)
theorem M.slices_insertionSortOrdered_uint64.fcall (args : List Value) (w : World) (K : KV) : fcallT P F.slices_insertionSortOrdered_uint64 args w K = callT P F.slices_insertionSortOrdered_uint64 args w K := fcallT_eq Try.func163 (by kernel_rfl) (by kernel_rfl) args w K
theorem M.slices_insertionSortOrdered_uint64.rcall (a c args : List Value) (w : World) (K : KV) : callRT P (.func (.func F.slices_insertionSortOrdered_uint64) a.toArray c.toArray) args w K = callT P F.slices_insertionSortOrdered_uint64 (a ++ args ++ c) w K := callR_fn Try.func163 (by kernel_rfl) (by kernel_rfl) a c args w K

def M.slices_heapSortOrdered_uint64.j1 (x1 : List Value) (K0 : KL) (a0 : Value) (t14 : Value) (a1 : Value) (K1 : KL) (w : World) (K : KV) : Prop :=
  joinT (fun K2 =>
  binT P .geq T.int (.tmp 18) (.const (.int .i64 0)) (gv x1 0) (.int .i64 0) w fun t19 w =>
  condT t19 (
  K2 [] w) (
  K0 [(gv x1 0)] w)) fun x2 w =>
  joinT (fun K3 =>
  fcallT P F.slices_siftDownOrdered_uint64 [a0, (gv x1 0), t14, a1] w fun t26 w =>
  K3 [] w) fun x3 w =>
  binT P .sub T.int (.tmp 20) (.const (.int .i64 1)) (gv x1 0) (.int .i64 1) w fun t21 w =>
  K1 [t21] w
def M.slices_heapSortOrdered_uint64.j5 (a1 : Value) (x4 : List Value) (a0 : Value) (K4 : KL) (w : World) (K : KV) : Prop :=
  joinT (fun K6 =>
  drawT w fun w =>
  w = w ∧ w = w ∧ w = w ∧ w = w ∧ w = w ∧ quietT (fun K' => binT P .add T.int (.tmp 36) (.tmp 37) a1 (gv x4 0) w K') w fun t38 =>
  w = w ∧ w = w ∧ w = w ∧ quietT (fun K' => binT P .add T.int (.tmp 40) (.tmp 41) a1 (gv x4 0) w K') w fun t42 =>
  quietT (fun K' => iaT P T.sl_uint64 a0 t42 w K') w fun t43 =>
  quietT (fun K' => ldT P T.uint64 t43 w K') w fun t44 =>
  w = w ∧ w = w ∧ quietT (fun K' => iaT P T.sl_uint64 a0 a1 w K') w fun t47 =>
  quietT (fun K' => ldT P T.uint64 t47 w K') w fun t48 =>
  quietT (fun K' => iaT P T.sl_uint64 a0 a1 w K') w fun t49 =>
  stT P T.uint64 t49 t44 w fun _ w =>
  stabT (fun K' => binT P .add T.int (.tmp 36) (.tmp 37) a1 (gv x4 0) w K') w t38 ∧ stabT (fun K' => K' (gv x4 0) w) w (gv x4 0) ∧ stabT (fun K' => K' a1 w) w a1 ∧ stabT (fun K' => K' a0 w) w a0 ∧ quietT (fun K' => iaT P T.sl_uint64 a0 t38 w K') w fun t50 =>
  stT P T.uint64 t50 t48 w fun _ w =>
  fcallT P F.slices_siftDownOrdered_uint64 [a0, (.int .i64 0), (gv x4 0), a1] w fun t55 w =>
  K6 [] w) fun x6 w =>
  binT P .sub T.int (.tmp 31) (.const (.int .i64 1)) (gv x4 0) (.int .i64 1) w fun t32 w =>
  K4 [t32] w
def M.slices_heapSortOrdered_uint64.j0 (t14 : Value) (a1 : Value) (a0 : Value) (w : World) (K : KV) : Prop :=
  binT P .sub T.int (.tmp 27) (.const (.int .i64 1)) t14 (.int .i64 1) w fun t28 w =>
  loopT [t28] w fun K4 x4 w =>
  joinT (fun K5 =>
  binT P .geq T.int (.tmp 29) (.const (.int .i64 0)) (gv x4 0) (.int .i64 0) w fun t30 w =>
  condT t30 (
  K5 [] w) (
  K (.tuple #[]) w)) fun x5 w =>
  M.slices_heapSortOrdered_uint64.j5 a1 x4 a0 K4 w K
/-- slices.heapSortOrdered[uint64] -/
def M.slices_heapSortOrdered_uint64 (a0 a1 a2 : Value) (w : World) (K : KV) : Prop :=
  binT P .sub T.int (.tmp 12) (.tmp 13) a2 a1 w fun t14 w =>
  joinT (fun K0 =>
  binT P .sub T.int (.tmp 15) (.const (.int .i64 1)) t14 (.int .i64 1) w fun t16 w =>
  binT P .quo T.int (.tmp 16) (.const (.int .i64 2)) t16 (.int .i64 2) w fun t17 w =>
  loopT [t17] w fun K1 x1 w =>
  M.slices_heapSortOrdered_uint64.j1 x1 K0 a0 t14 a1 K1 w K) fun x0 w =>
  M.slices_heapSortOrdered_uint64.j0 t14 a1 a0 w K
def M.slices_heapSortOrdered_uint64.L : List Nat := [0, 1, 2, 6, 7, 8, 9, 10]
def M.slices_heapSortOrdered_uint64.pl : Nat → Plan := fun id => cond (Nat.beq id 10) ⟨(.go 0 (.go 1 (.go 2 (.go 3 (.go 4 (.go 5 (.go 6 (.go 7 (.go 8 (.go 9 (.go 10 (.go 11 (.go 12 (.go 13 (.go 14 (.go 15 (.go 16 (.eff 17 (.go 18 (.eff 19 .nil .stop)) .stop)))))))))))))))))), [17, 19], false, [0, 0, 0, 0, 0, 24, 0, 0, 0, 384, 960, 1984, 0, 0, 12288, 28672, 65475, 131011, 262143, 524287]⟩ (⟨.nil, [], false, []⟩)
theorem M.slices_heapSortOrdered_uint64.eq (a0 a1 a2 : Value) (w : World) (K : KV) : M.slices_heapSortOrdered_uint64 a0 a1 a2 w K = den P M.slices_heapSortOrdered_uint64.L M.slices_heapSortOrdered_uint64.pl (Try.f164.body.getD .skip) (argE [a0, a1, a2]) w (bodyQ P Try.f164.results.toList K) := by kernel_rfl
theorem M.slices_heapSortOrdered_uint64.ok : okFn M.slices_heapSortOrdered_uint64.L M.slices_heapSortOrdered_uint64.pl Try.f164 (Try.f164.body.getD .skip) 3 = true := by kernel_rfl
theorem M.slices_heapSortOrdered_uint64.calls (a0 a1 a2 : Value) {w : World} {K : KV} (h : M.slices_heapSortOrdered_uint64 a0 a1 a2 w K) : callT P F.slices_heapSortOrdered_uint64 [a0, a1, a2] w K :=
  callT_of_den (by kernel_rfl) Try.func164 (by kernel_rfl) M.slices_heapSortOrdered_uint64.ok (M.slices_heapSortOrdered_uint64.eq a0 a1 a2 w K ▸ h)
theorem M.slices_heapSortOrdered_uint64.fcall (args : List Value) (w : World) (K : KV) : fcallT P F.slices_heapSortOrdered_uint64 args w K = callT P F.slices_heapSortOrdered_uint64 args w K := fcallT_eq Try.func164 (by kernel_rfl) (by kernel_rfl) args w K
theorem M.slices_heapSortOrdered_uint64.rcall (a c args : List Value) (w : World) (K : KV) : callRT P (.func (.func F.slices_heapSortOrdered_uint64) a.toArray c.toArray) args w K = callT P F.slices_heapSortOrdered_uint64 (a ++ args ++ c) w K := callR_fn Try.func164 (by kernel_rfl) (by kernel_rfl) a c args w K

def M.slices_breakPatternsOrdered_uint64.j3 (a1 : Value) (x3 : List Value) (a0 : Value) (x0 : List Value) (K2 : KL) (w : World) (K : KV) : Prop :=
  drawT w fun w =>
  w = w ∧ w = w ∧ w = w ∧ w = w ∧ w = w ∧ quietT (fun K' => binT P .add T.int (.tmp 50) (.tmp 51) a1 (gv x3 0) w K') w fun t52 =>
  w = w ∧ w = w ∧ w = w ∧ quietT (fun K' => binT P .add T.int (.tmp 54) (.tmp 55) a1 (gv x3 0) w K') w fun t56 =>
  quietT (fun K' => iaT P T.sl_uint64 a0 t56 w K') w fun t57 =>
  quietT (fun K' => ldT P T.uint64 t57 w K') w fun t58 =>
  w = w ∧ w = w ∧ quietT (fun K' => iaT P T.sl_uint64 a0 (gv x0 1) w K') w fun t61 =>
  quietT (fun K' => ldT P T.uint64 t61 w K') w fun t62 =>
  quietT (fun K' => iaT P T.sl_uint64 a0 (gv x0 1) w K') w fun t63 =>
  stT P T.uint64 t63 t58 w fun _ w =>
  stabT (fun K' => binT P .add T.int (.tmp 50) (.tmp 51) a1 (gv x3 0) w K') w t52 ∧ stabT (fun K' => K' (gv x3 0) w) w (gv x3 0) ∧ stabT (fun K' => K' a1 w) w a1 ∧ stabT (fun K' => K' a0 w) w a0 ∧ quietT (fun K' => iaT P T.sl_uint64 a0 t52 w K') w fun t64 =>
  stT P T.uint64 t64 t62 w fun _ w =>
  K2 [(gv x3 0)] w
def M.slices_breakPatternsOrdered_uint64.j1 (t7 : Value) (t19 : Value) (t13 : Value) (a1 : Value) (a0 : Value) (x0 : List Value) (K0 : KL) (w : World) (K : KV) : Prop :=
  joinT (fun K2 =>
  fcallT P F.pslices_xorshift_Next [t7] w fun t36 w =>
  binT P .sub T.uint (.tmp 37) (.const (.int .u64 1)) t19 (.int .u64 1) w fun t38 w =>
  binT P .and T.uint (.tmp 36) (.tmp 38) t36 t38 w fun t39 w =>
  cvT P T.uint T.int t39 w fun t40 w =>
  joinT (fun K3 =>
  binT P .geq T.int (.tmp 41) (.tmp 42) t40 t13 w fun t43 w =>
  condT t43 (
  binT P .sub T.int (.tmp 44) (.tmp 45) t40 t13 w fun t46 w =>
  K3 [t46] w) (
  K3 [t40] w)) fun x3 w =>
  M.slices_breakPatternsOrdered_uint64.j3 a1 x3 a0 x0 K2 w K) fun x2 w =>
  binT P .add T.int (.tmp 34) (.const (.int .i64 1)) (gv x0 1) (.int .i64 1) w fun t35 w =>
  K0 [(gv x2 0), t35] w
def M.slices_breakPatternsOrdered_uint64.j0 (t13 : Value) (a1 : Value) (x0 : List Value) (t7 : Value) (t19 : Value) (a0 : Value) (K0 : KL) (w : World) (K : KV) : Prop :=
  joinT (fun K1 =>
  binT P .quo T.int (.tmp 28) (.const (.int .i64 4)) t13 (.int .i64 4) w fun t29 w =>
  binT P .mul T.int (.tmp 29) (.const (.int .i64 2)) t29 (.int .i64 2) w fun t30 w =>
  binT P .add T.int (.tmp 27) (.tmp 30) a1 t30 w fun t31 w =>
  binT P .add T.int (.tmp 31) (.const (.int .i64 1)) t31 (.int .i64 1) w fun t32 w =>
  binT P .leq T.int (.tmp 26) (.tmp 32) (gv x0 1) t32 w fun t33 w =>
  condT t33 (
  K1 [] w) (
  K (.tuple #[]) w)) fun x1 w =>
  M.slices_breakPatternsOrdered_uint64.j1 t7 t19 t13 a1 a0 x0 K0 w K
/-- slices.breakPatternsOrdered[uint64] -/
def M.slices_breakPatternsOrdered_uint64 (a0 a1 a2 : Value) (w : World) (K : KV) : Prop :=
  binT P .sub T.int (.tmp 11) (.tmp 12) a2 a1 w fun t13 w =>
  binT P .geq T.int (.tmp 14) (.const (.int .i64 8)) t13 (.int .i64 8) w fun t15 w =>
  condT t15 (
  cvT P T.int T.slices_xorshift t13 w fun t17 w =>
  alT P T.slices_xorshift w fun t7 w =>
  stT P T.slices_xorshift t7 t17 w fun _ w =>
  fcallT P F.slices_nextPowerOfTwo [t13] w fun t19 w =>
  binT P .quo T.int (.tmp 21) (.const (.int .i64 4)) t13 (.int .i64 4) w fun t22 w =>
  binT P .mul T.int (.tmp 22) (.const (.int .i64 2)) t22 (.int .i64 2) w fun t23 w =>
  binT P .add T.int (.tmp 20) (.tmp 23) a1 t23 w fun t24 w =>
  binT P .sub T.int (.tmp 24) (.const (.int .i64 1)) t24 (.int .i64 1) w fun t25 w =>
  loopT [undef, t25] w fun K0 x0 w =>
  M.slices_breakPatternsOrdered_uint64.j0 t13 a1 x0 t7 t19 a0 K0 w K) (
  K (.tuple #[]) w)
def M.slices_breakPatternsOrdered_uint64.L : List Nat := [0, 1, 2, 6, 8, 9, 10, 7]
def M.slices_breakPatternsOrdered_uint64.pl : Nat → Plan := fun id => cond (Nat.beq id 10) ⟨(.go 0 (.go 1 (.go 2 (.go 3 (.go 4 (.go 5 (.go 6 (.go 7 (.go 8 (.go 9 (.go 10 (.go 11 (.go 12 (.go 13 (.go 14 (.go 15 (.go 16 (.eff 17 (.go 18 (.eff 19 .nil .stop)) .stop)))))))))))))))))), [17, 19], false, [0, 0, 0, 0, 0, 24, 0, 0, 0, 384, 960, 1984, 0, 0, 12288, 28672, 65475, 131011, 262143, 524287]⟩ (⟨.nil, [], false, []⟩)
theorem M.slices_breakPatternsOrdered_uint64.eq (a0 a1 a2 : Value) (w : World) (K : KV) : M.slices_breakPatternsOrdered_uint64 a0 a1 a2 w K = den P M.slices_breakPatternsOrdered_uint64.L M.slices_breakPatternsOrdered_uint64.pl (Try.f165.body.getD .skip) (argE [a0, a1, a2]) w (bodyQ P Try.f165.results.toList K) := by kernel_rfl
theorem M.slices_breakPatternsOrdered_uint64.ok : okFn M.slices_breakPatternsOrdered_uint64.L M.slices_breakPatternsOrdered_uint64.pl Try.f165 (Try.f165.body.getD .skip) 3 = true := by kernel_rfl
theorem M.slices_breakPatternsOrdered_uint64.calls (a0 a1 a2 : Value) {w : World} {K : KV} (h : M.slices_breakPatternsOrdered_uint64 a0 a1 a2 w K) : callT P F.slices_breakPatternsOrdered_uint64 [a0, a1, a2] w K :=
  callT_of_den (by kernel_rfl) Try.func165 (by kernel_rfl) M.slices_breakPatternsOrdered_uint64.ok (M.slices_breakPatternsOrdered_uint64.eq a0 a1 a2 w K ▸ h)
theorem M.slices_breakPatternsOrdered_uint64.fcall (args : List Value) (w : World) (K : KV) : fcallT P F.slices_breakPatternsOrdered_uint64 args w K = callT P F.slices_breakPatternsOrdered_uint64 args w K := fcallT_eq Try.func165 (by kernel_rfl) (by kernel_rfl) args w K
theorem M.slices_breakPatternsOrdered_uint64.rcall (a c args : List Value) (w : World) (K : KV) : callRT P (.func (.func F.slices_breakPatternsOrdered_uint64) a.toArray c.toArray) args w K = callT P F.slices_breakPatternsOrdered_uint64 (a ++ args ++ c) w K := callR_fn Try.func165 (by kernel_rfl) (by kernel_rfl) a c args w K

def M.slices_choosePivotOrdered_uint64.j0 (t9 : Value) (x0 : List Value) (w : World) (K : KV) : Prop :=
  ldT P T.int t9 w fun t49 w =>
  binT P .eql T.int (.tmp 49) (.const (.int .i64 0)) t49 (.int .i64 0) w fun t52 w =>
  condT t52 (
  K (.tuple #[(gv x0 1), (.int .i64 1)]) w) (
  binT P .eql T.int (.tmp 49) (.const (.int .i64 12)) t49 (.int .i64 12) w fun t55 w =>
  condT t55 (
  K (.tuple #[(gv x0 1), (.int .i64 2)]) w) (
  K (.tuple #[(gv x0 1), (.int .i64 0)]) w))
/-- slices.choosePivotOrdered[uint64] -/
def M.slices_choosePivotOrdered_uint64 (a0 a1 a2 : Value) (w : World) (K : KV) : Prop :=
  binT P .sub T.int (.tmp 13) (.tmp 14) a2 a1 w fun t15 w =>
  alT P T.int w fun t9 w =>
  binT P .quo T.int (.tmp 17) (.const (.int .i64 4)) t15 (.int .i64 4) w fun t18 w =>
  binT P .mul T.int (.tmp 18) (.const (.int .i64 1)) t18 (.int .i64 1) w fun t19 w =>
  binT P .add T.int (.tmp 16) (.tmp 19) a1 t19 w fun t20 w =>
  binT P .quo T.int (.tmp 22) (.const (.int .i64 4)) t15 (.int .i64 4) w fun t23 w =>
  binT P .mul T.int (.tmp 23) (.const (.int .i64 2)) t23 (.int .i64 2) w fun t24 w =>
  binT P .add T.int (.tmp 21) (.tmp 24) a1 t24 w fun t25 w =>
  binT P .quo T.int (.tmp 27) (.const (.int .i64 4)) t15 (.int .i64 4) w fun t28 w =>
  binT P .mul T.int (.tmp 28) (.const (.int .i64 3)) t28 (.int .i64 3) w fun t29 w =>
  binT P .add T.int (.tmp 26) (.tmp 29) a1 t29 w fun t30 w =>
  joinT (fun K0 =>
  binT P .geq T.int (.tmp 31) (.const (.int .i64 8)) t15 (.int .i64 8) w fun t32 w =>
  condT t32 (
  joinT (fun K1 =>
  binT P .geq T.int (.tmp 33) (.const (.int .i64 50)) t15 (.int .i64 50) w fun t34 w =>
  condT t34 (
  fcallT P F.slices_medianAdjacentOrdered_uint64 [a0, t20, t9] w fun t37 w =>
  fcallT P F.slices_medianAdjacentOrdered_uint64 [a0, t25, t9] w fun t40 w =>
  fcallT P F.slices_medianAdjacentOrdered_uint64 [a0, t30, t9] w fun t43 w =>
  K1 [t37, t40, t43] w) (
  K1 [t20, t25, t30] w)) fun x1 w =>
  fcallT P F.slices_medianOrdered_uint64 [a0, (gv x1 0), (gv x1 1), (gv x1 2), t9] w fun t48 w =>
  K0 [(gv x1 0), t48, (gv x1 2)] w) (
  K0 [t20, t25, t30] w)) fun x0 w =>
  M.slices_choosePivotOrdered_uint64.j0 t9 x0 w K
def M.slices_choosePivotOrdered_uint64.L : List Nat := [0, 1, 2, 6, 7, 8, 10, 11, 12, 51, 54, 9]
def M.slices_choosePivotOrdered_uint64.pl : Nat → Plan := fun id => ⟨.nil, [], false, []⟩
theorem M.slices_choosePivotOrdered_uint64.eq (a0 a1 a2 : Value) (w : World) (K : KV) : M.slices_choosePivotOrdered_uint64 a0 a1 a2 w K = den P M.slices_choosePivotOrdered_uint64.L M.slices_choosePivotOrdered_uint64.pl (Try.f166.body.getD .skip) (argE [a0, a1, a2]) w (bodyQ P Try.f166.results.toList K) := by kernel_rfl
theorem M.slices_choosePivotOrdered_uint64.ok : okFn M.slices_choosePivotOrdered_uint64.L M.slices_choosePivotOrdered_uint64.pl Try.f166 (Try.f166.body.getD .skip) 3 = true := by kernel_rfl
theorem M.slices_choosePivotOrdered_uint64.calls (a0 a1 a2 : Value) {w : World} {K : KV} (h : M.slices_choosePivotOrdered_uint64 a0 a1 a2 w K) : callT P F.slices_choosePivotOrdered_uint64 [a0, a1, a2] w K :=
  callT_of_den (by kernel_rfl) Try.func166 (by kernel_rfl) M.slices_choosePivotOrdered_uint64.ok (M.slices_choosePivotOrdered_uint64.eq a0 a1 a2 w K ▸ h)
theorem M.slices_choosePivotOrdered_uint64.fcall (args : List Value) (w : World) (K : KV) : fcallT P F.slices_choosePivotOrdered_uint64 args w K = callT P F.slices_choosePivotOrdered_uint64 args w K := fcallT_eq Try.func166 (by kernel_rfl) (by kernel_rfl) args w K
theorem M.slices_choosePivotOrdered_uint64.rcall (a c args : List Value) (w : World) (K : KV) : callRT P (.func (.func F.slices_choosePivotOrdered_uint64) a.toArray c.toArray) args w K = callT P F.slices_choosePivotOrdered_uint64 (a ++ args ++ c) w K := callR_fn Try.func166 (by kernel_rfl) (by kernel_rfl) a c args w K

def M.slices_reverseRangeOrdered_uint64.j1 (a0 : Value) (x0 : List Value) (K0 : KL) (w : World) (K : KV) : Prop :=
  drawT w fun w =>
  w = w ∧ w = w ∧ w = w ∧ w = w ∧ w = w ∧ w = w ∧ quietT (fun K' => iaT P T.sl_uint64 a0 (gv x0 1) w K') w fun t20 =>
  quietT (fun K' => ldT P T.uint64 t20 w K') w fun t21 =>
  w = w ∧ w = w ∧ quietT (fun K' => iaT P T.sl_uint64 a0 (gv x0 0) w K') w fun t24 =>
  quietT (fun K' => ldT P T.uint64 t24 w K') w fun t25 =>
  quietT (fun K' => iaT P T.sl_uint64 a0 (gv x0 0) w K') w fun t26 =>
  stT P T.uint64 t26 t21 w fun _ w =>
  stabT (fun K' => K' (gv x0 1) w) w (gv x0 1) ∧ stabT (fun K' => K' a0 w) w a0 ∧ quietT (fun K' => iaT P T.sl_uint64 a0 (gv x0 1) w K') w fun t27 =>
  stT P T.uint64 t27 t25 w fun _ w =>
  binT P .add T.int (.tmp 28) (.const (.int .i64 1)) (gv x0 0) (.int .i64 1) w fun t29 w =>
  binT P .sub T.int (.tmp 30) (.const (.int .i64 1)) (gv x0 1) (.int .i64 1) w fun t31 w =>
  K0 [t29, t31] w
/-- slices.reverseRangeOrdered[uint64] -/
def M.slices_reverseRangeOrdered_uint64 (a0 a1 a2 : Value) (w : World) (K : KV) : Prop :=
  binT P .sub T.int (.tmp 9) (.const (.int .i64 1)) a2 (.int .i64 1) w fun t10 w =>
  loopT [a1, t10] w fun K0 x0 w =>
  joinT (fun K1 =>
  binT P .lss T.int (.tmp 11) (.tmp 12) (gv x0 0) (gv x0 1) w fun t13 w =>
  condT t13 (
  K1 [] w) (
  K (.tuple #[]) w)) fun x1 w =>
  M.slices_reverseRangeOrdered_uint64.j1 a0 x0 K0 w K
def M.slices_reverseRangeOrdered_uint64.L : List Nat := [0, 1, 2, 6, 7]
def M.slices_reverseRangeOrdered_uint64.pl : Nat → Plan := fun id => cond (Nat.beq id 3) ⟨(.go 0 (.go 1 (.go 2 (.go 3 (.go 4 (.go 5 (.go 6 (.go 7 (.go 8 (.go 9 (.go 10 (.go 11 (.go 12 (.eff 13 (.go 14 (.eff 15 .nil .stop)) .stop)))))))))))))), [13, 15], false, [0, 0, 0, 0, 0, 0, 48, 112, 0, 0, 768, 1792, 4083, 8179, 16383, 32767]⟩ (⟨.nil, [], false, []⟩)
theorem M.slices_reverseRangeOrdered_uint64.eq (a0 a1 a2 : Value) (w : World) (K : KV) : M.slices_reverseRangeOrdered_uint64 a0 a1 a2 w K = den P M.slices_reverseRangeOrdered_uint64.L M.slices_reverseRangeOrdered_uint64.pl (Try.f167.body.getD .skip) (argE [a0, a1, a2]) w (bodyQ P Try.f167.results.toList K) := by kernel_rfl
theorem M.slices_reverseRangeOrdered_uint64.ok : okFn M.slices_reverseRangeOrdered_uint64.L M.slices_reverseRangeOrdered_uint64.pl Try.f167 (Try.f167.body.getD .skip) 3 = true := by kernel_rfl
theorem M.slices_reverseRangeOrdered_uint64.calls (a0 a1 a2 : Value) {w : World} {K : KV} (h : M.slices_reverseRangeOrdered_uint64 a0 a1 a2 w K) : callT P F.slices_reverseRangeOrdered_uint64 [a0, a1, a2] w K :=
  callT_of_den (by kernel_rfl) Try.func167 (by kernel_rfl) M.slices_reverseRangeOrdered_uint64.ok (M.slices_reverseRangeOrdered_uint64.eq a0 a1 a2 w K ▸ h)
theorem M.slices_reverseRangeOrdered_uint64.fcall (args : List Value) (w : World) (K : KV) : fcallT P F.slices_reverseRangeOrdered_uint64 args w K = callT P F.slices_reverseRangeOrdered_uint64 args w K := fcallT_eq Try.func167 (by kernel_rfl) (by kernel_rfl) args w K
theorem M.slices_reverseRangeOrdered_uint64.rcall (a c args : List Value) (w : World) (K : KV) : callRT P (.func (.func F.slices_reverseRangeOrdered_uint64) a.toArray c.toArray) args w K = callT P F.slices_reverseRangeOrdered_uint64 (a ++ args ++ c) w K := callR_fn Try.func167 (by kernel_rfl) (by kernel_rfl) a c args w K

end Go.Proofs.Ytkjhekflgghbdaa
