/-
  Printed by wip/Shallow.lean: functions of the program, read shallow; each is what its code does. No condition.
-/
import Derived.Test.YtgcpljghnlohbaaN
set_option maxRecDepth 1000000
namespace Go.Proofs.Ytgcpljghnlohbaa
open Go.Eng

def M.pbuffer_Buffer_Put.j2 (x2 : List Value) (t4 : Value) (w : World) (K : KV) : Prop :=
  drawT w fun w =>
  w = w ∧ w = w ∧ quietT (fun K' => nilT (gv x2 3) w K') w fun t88 =>
  quietT (fun K' => faT P T.buffer_entry t88 0 w K') w fun t89 =>
  quietT (fun K' => ldT P T.sl_api_Span t89 w K') w fun t90 =>
  quietT (fun K' => ldT P T.api_Span t4 w K') w fun t91 =>
  bsT P T.sl_api_Span 1 #[(0, t91)] w fun t92 w =>
  stabT (fun K' => ldT P T.sl_api_Span t89 w K') w t90 ∧ stabT (fun K' => faT P T.buffer_entry t88 0 w K') w t89 ∧ stabT (fun K' => nilT (gv x2 3) w K') w t88 ∧ stabT (fun K' => K' (gv x2 3) w) w (gv x2 3) ∧ stabT (fun K' => K' (gv x2 3) w) w (gv x2 3) ∧ biT P .append #[T.sl_api_Span, T.sl_api_Span] T.sl_api_Span [false, false] [t90, t92] w fun t93 w =>
  stabT (fun K' => K' (gv x2 3) w) w (gv x2 3) ∧ quietT (fun K' => nilT (gv x2 3) w K') w fun t94 =>
  quietT (fun K' => faT P T.buffer_entry t94 0 w K') w fun t95 =>
  stT P T.sl_api_Span t95 t93 w fun _ w =>
  K (.int .i64 0) w
def M.pbuffer_Buffer_Put.j1 (a0 : Value) (t4 : Value) (a2 : Value) (x1 : List Value) (w : World) (K : KV) : Prop :=
  drawT w fun w =>
  w = w ∧ quietT (fun K' => nilT a0 w K') w fun t17 =>
  quietT (fun K' => faT P T.buffer_Buffer t17 4 w K') w fun t18 =>
  quietT (fun K' => ldT P T.map_uint64_p_buffer_entry t18 w K') w fun t19 =>
  quietT (fun K' => faT P T.api_Span t4 0 w K') w fun t20 =>
  quietT (fun K' => ldT P T.uint64 t20 w K') w fun t21 =>
  quietT (fun K' => luT P T.map_uint64_p_buffer_entry t19 t21 false w K') w fun t22 =>
  joinT (fun K2 =>
  drawT w fun w =>
  w = w ∧ quietT (fun K' => binT P .eql T.p_buffer_entry (.tmp 24) (.const (.pointer none)) t22 (.pointer none) w K') w fun t25 =>
  w = w ∧ quietT (fun K' => guardT (isB t25 true) (fun K' => K' a0 w) w K') w fun t27 =>
  quietT (fun K' => guardT (isB t25 true) (fun K' => nilT t27 w K') w K') w fun t28 =>
  quietT (fun K' => guardT (isB t25 true) (fun K' => faT P T.buffer_Buffer t28 4 w K') w K') w fun t29 =>
  quietT (fun K' => guardT (isB t25 true) (fun K' => ldT P T.map_uint64_p_buffer_entry t29 w K') w K') w fun t30 =>
  quietT (fun K' => guardT (isB t25 true) (fun K' => biT P .len #[T.map_uint64_p_buffer_entry] T.int [false] [t30] w K') w K') w fun t31 =>
  quietT (fun K' => guardT (isB t25 true) (fun K' => K' a0 w) w K') w fun t32 =>
  quietT (fun K' => guardT (isB t25 true) (fun K' => nilT t32 w K') w K') w fun t33 =>
  quietT (fun K' => guardT (isB t25 true) (fun K' => faT P T.buffer_Buffer t33 1 w K') w K') w fun t34 =>
  quietT (fun K' => guardT (isB t25 true) (fun K' => ldT P T.int t34 w K') w K') w fun t35 =>
  quietT (fun K' => guardT (isB t25 true) (fun K' => binT P .geq T.int (.tmp 31) (.tmp 35) t31 t35 w K') w K') w fun t36 =>
  quietT (fun K' => pickT t25 t36 (.bool false) w K') w fun t37 =>
  condT t37 (
  K (.int .i64 8) w) (
  binT P .eql T.p_buffer_entry (.tmp 39) (.const (.pointer none)) t22 (.pointer none) w fun t40 w =>
  condT t40 (
  bldT P T.buffer_entry #[] w fun t41 w =>
  boxT P T.buffer_entry t41 w fun t42 w =>
  drawT w fun w =>
  w = w ∧ quietT (fun K' => nilT a0 w K') w fun t44 =>
  quietT (fun K' => faT P T.buffer_Buffer t44 4 w K') w fun t45 =>
  quietT (fun K' => ldT P T.map_uint64_p_buffer_entry t45 w K') w fun t46 =>
  quietT (fun K' => faT P T.api_Span t4 0 w K') w fun t47 =>
  quietT (fun K' => ldT P T.uint64 t47 w K') w fun t48 =>
  w = w ∧ muT P T.map_uint64_p_buffer_entry t46 t48 t42 w fun _ w =>
  drawT w fun w =>
  w = w ∧ quietT (fun K' => nilT a0 w K') w fun t51 =>
  quietT (fun K' => faT P T.buffer_Buffer t51 0 w K') w fun t52 =>
  quietT (fun K' => faT P T.api_Span t4 0 w K') w fun t53 =>
  quietT (fun K' => ldT P T.uint64 t53 w K') w fun t54 =>
  w = w ∧ w = w ∧ quietT (fun K' => nilT a0 w K') w fun t57 =>
  quietT (fun K' => faT P T.buffer_Buffer t57 3 w K') w fun t58 =>
  quietT (fun K' => ldT P T.uint64 t58 w K') w fun t59 =>
  w = w ∧ quietT (fun K' => binT P .sub T.uint64 (.const (.int .u64 18446744073709551615)) (.tmp 60) (.int .u64 18446744073709551615) a2 w K') w fun t61 =>
  quietT (fun K' => biT P .min #[T.uint64, T.uint64] T.uint64 [false, false] [t59, t61] w K') w fun t62 =>
  quietT (fun K' => binT P .add T.uint64 (.tmp 55) (.tmp 62) a2 t62 w K') w fun t63 =>
  fcallT P F.ptimers_Heap_Set [t52, t54, t63] w fun t64 w =>
  K2 [t37, (gv x1 1), t40, t42, undef, undef] w) (
  nilT t22 w fun t67 w =>
  faT P T.buffer_entry t67 0 w fun t68 w =>
  ldT P T.sl_api_Span t68 w fun t69 w =>
  mkfT P (.func F.pbuffer_Buffer_Put_1) [] [t4] w fun t70 w =>
  fcallT P F.slices_ContainsFunc_api_Span_api_Span [t69, t70] w fun t71 w =>
  condT t71 (
  K (.int .i64 0) w) (
  drawT w fun w =>
  w = w ∧ quietT (fun K' => nilT t22 w K') w fun t74 =>
  quietT (fun K' => faT P T.buffer_entry t74 0 w K') w fun t75 =>
  quietT (fun K' => ldT P T.sl_api_Span t75 w K') w fun t76 =>
  quietT (fun K' => biT P .len #[T.sl_api_Span] T.int [false] [t76] w K') w fun t77 =>
  w = w ∧ quietT (fun K' => nilT a0 w K') w fun t79 =>
  quietT (fun K' => faT P T.buffer_Buffer t79 2 w K') w fun t80 =>
  quietT (fun K' => ldT P T.int t80 w K') w fun t81 =>
  quietT (fun K' => binT P .geq T.int (.tmp 77) (.tmp 81) t77 t81 w K') w fun t82 =>
  condT t82 (
  nilT t22 w fun t84 w =>
  faT P T.buffer_entry t84 1 w fun t85 w =>
  stT P T.bool t85 (.bool true) w fun _ w =>
  K (.int .i64 9) w) (
  K2 [t37, (gv x1 1), t40, t22, t71, t82] w))))) fun x2 w =>
  M.pbuffer_Buffer_Put.j2 x2 t4 w K
def M.pbuffer_Buffer_Put.j0 (t4 : Value) (x0 : List Value) (a0 : Value) (a2 : Value) (w : World) (K : KV) : Prop :=
  joinT (fun K1 =>
  ldT P T.api_Span t4 w fun t11 w =>
  fcallT P F.span_Right [t11] w fun t12 w =>
  binT P .neq T.api_Kind (.tmp 13) (.const (.int .i64 0)) t12 (.int .i64 0) w fun t14 w =>
  condT t14 (
  K t12 w) (
  K1 [t12, (gv x0 0)] w)) fun x1 w =>
  M.pbuffer_Buffer_Put.j1 a0 t4 a2 x1 w K
/-- (*winnow/buffer.Buffer).Put -/
def M.pbuffer_Buffer_Put (a0 a1 a2 : Value) (w : World) (K : KV) : Prop :=
  boxT P T.api_Span a1 w fun t4 w =>
  joinT (fun K0 =>
  binT P .eql T.p_buffer_Buffer (.tmp 9) (.const (.pointer none)) a0 (.pointer none) w fun t10 w =>
  condT t10 (
  K (.int .i64 13) w) (
  K0 [(.int .i64 0)] w)) fun x0 w =>
  M.pbuffer_Buffer_Put.j0 t4 x0 a0 a2 w K
def M.pbuffer_Buffer_Put.L : List Nat := [0, 1, 2, 6, 7, 8, 23, 38, 65, 72, 4]
def M.pbuffer_Buffer_Put.pl : Nat → Plan := fun id => cond (Nat.beq id 6) ⟨(.go 0 (.go 1 (.go 2 (.go 3 (.go 4 (.go 5 (.go 6 (.eff 7 .nil .stop)))))))), [7], false⟩ (cond (Nat.beq id 7) ⟨(.go 0 (.go 1 (.go 2 (.go 3 (.go 4 (.go 5 (.go 6 (.go 7 (.go 8 (.go 9 (.go 10 (.go 11 (.go 12 (.go 13 (.eff 14 .nil .stop))))))))))))))), [14], false⟩ (cond (Nat.beq id 11) ⟨(.go 0 (.go 1 (.go 2 (.go 3 (.go 4 (.go 5 (.go 6 (.eff 7 .nil .stop)))))))), [7], false⟩ (cond (Nat.beq id 12) ⟨(.go 0 (.go 1 (.go 2 (.go 3 (.go 4 (.go 5 (.go 6 (.go 7 (.go 8 (.go 9 (.go 10 (.go 11 (.go 12 (.go 13 (.eff 14 .nil .stop))))))))))))))), [14], false⟩ (cond (Nat.beq id 15) ⟨(.go 0 (.go 1 (.go 2 (.go 3 (.go 4 (.go 5 (.go 6 (.go 7 (.go 8 (.go 9 (.eff 10 .nil .stop))))))))))), [10], false⟩ (cond (Nat.beq id 18) ⟨(.go 0 (.go 1 (.go 2 (.go 3 (.go 4 (.go 5 (.eff 6 (.eff 7 (.go 8 (.go 9 (.eff 10 .nil .stop))) .stop) .stop))))))), [6, 7, 10], false⟩ (⟨.nil, [], false⟩))))))
theorem M.pbuffer_Buffer_Put.eq (a0 a1 a2 : Value) (w : World) (K : KV) : M.pbuffer_Buffer_Put a0 a1 a2 w K = den P M.pbuffer_Buffer_Put.L M.pbuffer_Buffer_Put.pl (Try.f17.body.getD .skip) (argE [a0, a1, a2]) w (bodyQ P Try.f17.results.toList K) := by kernel_rfl
theorem M.pbuffer_Buffer_Put.ok : okFn M.pbuffer_Buffer_Put.L M.pbuffer_Buffer_Put.pl Try.f17 (Try.f17.body.getD .skip) 3 = true := by kernel_rfl
theorem M.pbuffer_Buffer_Put.calls (a0 a1 a2 : Value) {w : World} {K : KV} (h : M.pbuffer_Buffer_Put a0 a1 a2 w K) : callT P F.pbuffer_Buffer_Put [a0, a1, a2] w K :=
  callT_of_den (by kernel_rfl) Try.func17 (by kernel_rfl) M.pbuffer_Buffer_Put.ok (M.pbuffer_Buffer_Put.eq a0 a1 a2 w K ▸ h)
theorem M.pbuffer_Buffer_Put.fcall (args : List Value) (w : World) (K : KV) : fcallT P F.pbuffer_Buffer_Put args w K = callT P F.pbuffer_Buffer_Put args w K := fcallT_eq Try.func17 (by kernel_rfl) (by kernel_rfl) args w K

def M.pbuffer_Buffer_Due.j3 (t17 : Value) (a0 : Value) (t12 : Value) (K2 : KL) (w : World) (K : KV) : Prop :=
  enT P t17 w fun t20 w =>
  exT P t20 0 w fun t21 w =>
  nilT a0 w fun t26 w =>
  faT P T.buffer_Buffer t26 0 w fun t27 w =>
  fcallT P F.ptimers_Heap_At [t27, t21] w fun t29 w =>
  exT P t29 0 w fun t30 w =>
  exT P t29 1 w fun t31 w =>
  muT P T.map_uint64_uint64 t12 t21 t30 w fun _ w =>
  K2 [t21] w
def M.pbuffer_Buffer_Due.j6 (t36 : Value) (x5 : List Value) (a0 : Value) (t12 : Value) (K5 : KL) (w : World) (K : KV) : Prop :=
  joinT (fun K7 =>
  iaT P T.sl_uint64 t36 (gv x5 1) w fun t41 w =>
  ldT P T.uint64 t41 w fun t42 w =>
  drawT w fun w =>
  w = w ∧ quietT (fun K' => nilT a0 w K') w fun t44 =>
  quietT (fun K' => faT P T.buffer_Buffer t44 0 w K') w fun t45 =>
  w = w ∧ w = w ∧ w = w ∧ quietT (fun K' => luT P T.map_uint64_uint64 t12 t42 false w K') w fun t49 =>
  fcallT P F.ptimers_Heap_Set [t45, t42, t49] w fun t50 w =>
  K7 [t42] w) fun x7 w =>
  binT P .add T.int (.tmp 39) (.const (.int .i64 1)) (gv x5 1) (.int .i64 1) w fun t51 w =>
  K5 [(gv x7 0), t51] w
def M.pbuffer_Buffer_Due.j1 (a0 : Value) (a1 : Value) (t12 : Value) (w : World) (K : KV) : Prop :=
  nilT a0 w fun t33 w =>
  faT P T.buffer_Buffer t33 0 w fun t34 w =>
  fcallT P F.ptimers_Heap_Pop [t34, a1] w fun t36 w =>
  joinT (fun K4 =>
  biT P .len #[T.sl_uint64] T.int [false] [t36] w fun t38 w =>
  loopT [undef, (.int .i64 0)] w fun K5 x5 w =>
  binT P .lss T.int (.tmp 39) (.tmp 38) (gv x5 1) t38 w fun t40 w =>
  joinT (fun K6 =>
  condT t40 (
  K6 [] w) (
  K4 [t36, t38, (gv x5 1), (gv x5 0)] w)) fun x6 w =>
  M.pbuffer_Buffer_Due.j6 t36 x5 a0 t12 K5 w K) fun x4 w =>
  K t36 w
def M.pbuffer_Buffer_Due.j0 (a0 : Value) (a1 : Value) (w : World) (K : KV) : Prop :=
  mkmT P T.map_uint64_uint64 none w fun t12 w =>
  joinT (fun K1 =>
  nilT a0 w fun t14 w =>
  faT P T.buffer_Buffer t14 4 w fun t15 w =>
  ldT P T.map_uint64_p_buffer_entry t15 w fun t16 w =>
  rgT P T.map_uint64_p_buffer_entry t16 w fun t17 w =>
  loopT [undef] w fun K2 x2 w =>
  nxT P t17 false T._ w fun t18 w =>
  exT P t18 0 w fun t19 w =>
  joinT (fun K3 =>
  condT t19 (
  K3 [] w) (
  K1 [t17, (gv x2 0)] w)) fun x3 w =>
  M.pbuffer_Buffer_Due.j3 t17 a0 t12 K2 w K) fun x1 w =>
  M.pbuffer_Buffer_Due.j1 a0 a1 t12 w K
/-- (*winnow/buffer.Buffer).Due -/
def M.pbuffer_Buffer_Due (a0 a1 : Value) (w : World) (K : KV) : Prop :=
  joinT (fun K0 =>
  binT P .eql T.p_buffer_Buffer (.tmp 10) (.const (.pointer none)) a0 (.pointer none) w fun t11 w =>
  condT t11 (
  K (.slice none 0 0) w) (
  K0 [(.slice none 0 0)] w)) fun x0 w =>
  M.pbuffer_Buffer_Due.j0 a0 a1 w K
def M.pbuffer_Buffer_Due.L : List Nat := [0, 1, 4, 5, 6, 7, 9, 17, 39, 38, 37]
def M.pbuffer_Buffer_Due.pl : Nat → Plan := fun id => cond (Nat.beq id 12) ⟨(.go 0 (.go 1 (.go 2 (.go 3 (.go 4 (.go 5 (.go 6 (.eff 7 .nil .stop)))))))), [7], false⟩ (⟨.nil, [], false⟩)
theorem M.pbuffer_Buffer_Due.eq (a0 a1 : Value) (w : World) (K : KV) : M.pbuffer_Buffer_Due a0 a1 w K = den P M.pbuffer_Buffer_Due.L M.pbuffer_Buffer_Due.pl (Try.f18.body.getD .skip) (argE [a0, a1]) w (bodyQ P Try.f18.results.toList K) := by kernel_rfl
theorem M.pbuffer_Buffer_Due.ok : okFn M.pbuffer_Buffer_Due.L M.pbuffer_Buffer_Due.pl Try.f18 (Try.f18.body.getD .skip) 2 = true := by kernel_rfl
theorem M.pbuffer_Buffer_Due.calls (a0 a1 : Value) {w : World} {K : KV} (h : M.pbuffer_Buffer_Due a0 a1 w K) : callT P F.pbuffer_Buffer_Due [a0, a1] w K :=
  callT_of_den (by kernel_rfl) Try.func18 (by kernel_rfl) M.pbuffer_Buffer_Due.ok (M.pbuffer_Buffer_Due.eq a0 a1 w K ▸ h)
theorem M.pbuffer_Buffer_Due.fcall (args : List Value) (w : World) (K : KV) : fcallT P F.pbuffer_Buffer_Due args w K = callT P F.pbuffer_Buffer_Due args w K := fcallT_eq Try.func18 (by kernel_rfl) (by kernel_rfl) args w K

def M.winnowlaw16_uints.j3 (a0 : Value) (x2 : List Value) (a1 : Value) (K2 : KL) (w : World) (K : KV) : Prop :=
  joinT (fun K4 =>
  drawT w fun w =>
  w = w ∧ w = w ∧ quietT (fun K' => iaT P T.sl_uint64 a0 (gv x2 1) w K') w fun t19 =>
  quietT (fun K' => ldT P T.uint64 t19 w K') w fun t20 =>
  w = w ∧ w = w ∧ quietT (fun K' => iaT P T.sl_uint64 a1 (gv x2 1) w K') w fun t23 =>
  quietT (fun K' => ldT P T.uint64 t23 w K') w fun t24 =>
  quietT (fun K' => binT P .neq T.uint64 (.tmp 20) (.tmp 24) t20 t24 w K') w fun t25 =>
  condT t25 (
  K (.bool false) w) (
  K4 [(gv x2 0)] w)) fun x4 w =>
  binT P .add T.int (.tmp 15) (.const (.int .i64 1)) (gv x2 1) (.int .i64 1) w fun t16 w =>
  K2 [(gv x4 0), t16] w
def M.winnowlaw16_uints.j0 (x0 : List Value) (a0 : Value) (a1 : Value) (w : World) (K : KV) : Prop :=
  joinT (fun K1 =>
  loopT [(gv x0 0), (.int .i64 0)] w fun K2 x2 w =>
  joinT (fun K3 =>
  biT P .len #[T.sl_uint64] T.int [false] [a0] w fun t13 w =>
  binT P .lss T.int (.tmp 11) (.tmp 13) (gv x2 1) t13 w fun t14 w =>
  condT t14 (
  K3 [] w) (
  K1 [(gv x2 1), (gv x2 0)] w)) fun x3 w =>
  M.winnowlaw16_uints.j3 a0 x2 a1 K2 w K) fun x1 w =>
  K (.bool true) w
/-- winnow/winnowlaw16.uints -/
def M.winnowlaw16_uints (a0 a1 : Value) (w : World) (K : KV) : Prop :=
  joinT (fun K0 =>
  biT P .len #[T.sl_uint64] T.int [false] [a0] w fun t7 w =>
  biT P .len #[T.sl_uint64] T.int [false] [a1] w fun t9 w =>
  binT P .neq T.int (.tmp 7) (.tmp 9) t7 t9 w fun t10 w =>
  condT t10 (
  K (.bool false) w) (
  K0 [(.bool false)] w)) fun x0 w =>
  M.winnowlaw16_uints.j0 x0 a0 a1 w K
def M.winnowlaw16_uints.L : List Nat := [0, 1, 4, 5]
def M.winnowlaw16_uints.pl : Nat → Plan := fun id => cond (Nat.beq id 6) ⟨(.go 0 (.go 1 (.go 2 (.go 3 (.go 4 (.go 5 (.go 6 (.go 7 (.go 8 .nil))))))))), [], false⟩ (⟨.nil, [], false⟩)
theorem M.winnowlaw16_uints.eq (a0 a1 : Value) (w : World) (K : KV) : M.winnowlaw16_uints a0 a1 w K = den P M.winnowlaw16_uints.L M.winnowlaw16_uints.pl (Try.f19.body.getD .skip) (argE [a0, a1]) w (bodyQ P Try.f19.results.toList K) := by kernel_rfl
theorem M.winnowlaw16_uints.ok : okFn M.winnowlaw16_uints.L M.winnowlaw16_uints.pl Try.f19 (Try.f19.body.getD .skip) 2 = true := by kernel_rfl
theorem M.winnowlaw16_uints.calls (a0 a1 : Value) {w : World} {K : KV} (h : M.winnowlaw16_uints a0 a1 w K) : callT P F.winnowlaw16_uints [a0, a1] w K :=
  callT_of_den (by kernel_rfl) Try.func19 (by kernel_rfl) M.winnowlaw16_uints.ok (M.winnowlaw16_uints.eq a0 a1 w K ▸ h)
theorem M.winnowlaw16_uints.fcall (args : List Value) (w : World) (K : KV) : fcallT P F.winnowlaw16_uints args w K = callT P F.winnowlaw16_uints args w K := fcallT_eq Try.func19 (by kernel_rfl) (by kernel_rfl) args w K

def M.pbuffer_Buffer_Get.j0 (a0 : Value) (a1 : Value) (w : World) (K : KV) : Prop :=
  nilT a0 w fun t20 w =>
  faT P T.buffer_Buffer t20 4 w fun t21 w =>
  ldT P T.map_uint64_p_buffer_entry t21 w fun t22 w =>
  luT P T.map_uint64_p_buffer_entry t22 a1 false w fun t24 w =>
  drawT w fun w =>
  w = w ∧ quietT (fun K' => nilT t24 w K') w fun t26 =>
  quietT (fun K' => faT P T.buffer_entry t26 0 w K') w fun t27 =>
  quietT (fun K' => ldT P T.sl_api_Span t27 w K') w fun t28 =>
  w = w ∧ quietT (fun K' => nilT t24 w K') w fun t31 =>
  quietT (fun K' => faT P T.buffer_entry t31 1 w K') w fun t32 =>
  quietT (fun K' => ldT P T.bool t32 w K') w fun t33 =>
  fcallT P F.slices_Clone_api_Span_api_Span [t28] w fun t29 w =>
  stabT (fun K' => ldT P T.bool t32 w K') w t33 ∧ stabT (fun K' => faT P T.buffer_entry t31 1 w K') w t32 ∧ stabT (fun K' => nilT t24 w K') w t31 ∧ stabT (fun K' => K' t24 w) w t24 ∧ stabT (fun K' => ldT P T.bool t32 w K') w t33 ∧ stabT (fun K' => faT P T.buffer_entry t31 1 w K') w t32 ∧ stabT (fun K' => nilT t24 w K') w t31 ∧ stabT (fun K' => K' t24 w) w t24 ∧ K (.tuple #[t29, t33, (.bool true)]) w
/-- (*winnow/buffer.Buffer).Get -/
def M.pbuffer_Buffer_Get (a0 a1 : Value) (w : World) (K : KV) : Prop :=
  joinT (fun K0 =>
  binT P .eql T.p_buffer_Buffer (.tmp 8) (.const (.pointer none)) a0 (.pointer none) w fun t9 w =>
  guardT (isB t9 false) (fun K' => K' a0 w) w fun t11 w =>
  guardT (isB t9 false) (fun K' => nilT t11 w K') w fun t12 w =>
  guardT (isB t9 false) (fun K' => faT P T.buffer_Buffer t12 4 w K') w fun t13 w =>
  guardT (isB t9 false) (fun K' => ldT P T.map_uint64_p_buffer_entry t13 w K') w fun t14 w =>
  guardT (isB t9 false) (fun K' => K' a1 w) w fun t15 w =>
  guardT (isB t9 false) (fun K' => luT P T.map_uint64_p_buffer_entry t14 t15 false w K') w fun t16 w =>
  guardT (isB t9 false) (fun K' => binT P .eql T.p_buffer_entry (.tmp 16) (.const (.pointer none)) t16 (.pointer none) w K') w fun t17 w =>
  pickT t9 (.bool true) t17 w fun t18 w =>
  condT t18 (
  K (.tuple #[(.slice none 0 0), (.bool false), (.bool false)]) w) (
  K0 [(.slice none 0 0), (.bool false), (.bool false)] w)) fun x0 w =>
  M.pbuffer_Buffer_Get.j0 a0 a1 w K
def M.pbuffer_Buffer_Get.L : List Nat := [0, 1, 4, 5, 6, 7]
def M.pbuffer_Buffer_Get.pl : Nat → Plan := fun id => cond (Nat.beq id 4) ⟨(.go 0 (.go 1 (.go 2 (.go 3 (.go 5 (.go 6 (.go 7 (.go 8 (.eff 4 (.eff 9 (.eff 10 (.eff 11 .nil .stop) .stop) .stop) .stop))))))))), [4, 9, 10, 11], false⟩ (⟨.nil, [], false⟩)
theorem M.pbuffer_Buffer_Get.eq (a0 a1 : Value) (w : World) (K : KV) : M.pbuffer_Buffer_Get a0 a1 w K = den P M.pbuffer_Buffer_Get.L M.pbuffer_Buffer_Get.pl (Try.f20.body.getD .skip) (argE [a0, a1]) w (bodyQ P Try.f20.results.toList K) := by kernel_rfl
theorem M.pbuffer_Buffer_Get.ok : okFn M.pbuffer_Buffer_Get.L M.pbuffer_Buffer_Get.pl Try.f20 (Try.f20.body.getD .skip) 2 = true := by kernel_rfl
theorem M.pbuffer_Buffer_Get.calls (a0 a1 : Value) {w : World} {K : KV} (h : M.pbuffer_Buffer_Get a0 a1 w K) : callT P F.pbuffer_Buffer_Get [a0, a1] w K :=
  callT_of_den (by kernel_rfl) Try.func20 (by kernel_rfl) M.pbuffer_Buffer_Get.ok (M.pbuffer_Buffer_Get.eq a0 a1 w K ▸ h)
theorem M.pbuffer_Buffer_Get.fcall (args : List Value) (w : World) (K : KV) : fcallT P F.pbuffer_Buffer_Get args w K = callT P F.pbuffer_Buffer_Get args w K := fcallT_eq Try.func20 (by kernel_rfl) (by kernel_rfl) args w K

def M.winnowref03_Right.j0 (t1 : Value) (x0 : List Value) (w : World) (K : KV) : Prop :=
  joinT (fun K1 =>
  faT P T.api_Span t1 5 w fun t21 w =>
  ldT P T.string t21 w fun t22 w =>
  fcallT P F.winnowref03_Name [t22] w fun t23 w =>
  binT P .neq T.api_Kind (.tmp 23) (.const (.int .i64 0)) t23 (.int .i64 0) w fun t24 w =>
  guardT (isB t24 false) (fun K' => faT P T.api_Span t1 6 w K') w fun t26 w =>
  guardT (isB t24 false) (fun K' => ldT P T.string t26 w K') w fun t27 w =>
  guardT (isB t24 false) (fun K' => fcallT P F.winnowref03_Name [t27] w K') w fun t28 w =>
  guardT (isB t24 false) (fun K' => binT P .neq T.api_Kind (.tmp 28) (.const (.int .i64 0)) t28 (.int .i64 0) w K') w fun t29 w =>
  pickT t24 (.bool true) t29 w fun t30 w =>
  condT t30 (
  K (.int .i64 5) w) (
  K1 [(gv x0 0)] w)) fun x1 w =>
  K (.int .i64 0) w
/-- winnow/winnowref03.Right -/
def M.winnowref03_Right (a0 : Value) (w : World) (K : KV) : Prop :=
  boxT P T.api_Span a0 w fun t1 w =>
  joinT (fun K0 =>
  faT P T.api_Span t1 0 w fun t3 w =>
  ldT P T.uint64 t3 w fun t4 w =>
  binT P .eql T.uint64 (.tmp 4) (.const (.int .u64 0)) t4 (.int .u64 0) w fun t5 w =>
  guardT (isB t5 false) (fun K' => faT P T.api_Span t1 1 w K') w fun t7 w =>
  guardT (isB t5 false) (fun K' => ldT P T.uint64 t7 w K') w fun t8 w =>
  guardT (isB t5 false) (fun K' => binT P .eql T.uint64 (.tmp 8) (.const (.int .u64 0)) t8 (.int .u64 0) w K') w fun t9 w =>
  pickT t5 (.bool true) t9 w fun t10 w =>
  guardT (isB t10 false) (fun K' => faT P T.api_Span t1 3 w K') w fun t12 w =>
  guardT (isB t10 false) (fun K' => ldT P T.uint64 t12 w K') w fun t13 w =>
  guardT (isB t10 false) (fun K' => binT P .gtr T.uint64 (.tmp 13) (.const (.int .u64 1099511627776)) t13 (.int .u64 1099511627776) w K') w fun t14 w =>
  pickT t10 (.bool true) t14 w fun t15 w =>
  guardT (isB t15 false) (fun K' => faT P T.api_Span t1 4 w K') w fun t17 w =>
  guardT (isB t15 false) (fun K' => ldT P T.uint64 t17 w K') w fun t18 w =>
  guardT (isB t15 false) (fun K' => binT P .gtr T.uint64 (.tmp 18) (.const (.int .u64 1099511627776)) t18 (.int .u64 1099511627776) w K') w fun t19 w =>
  pickT t15 (.bool true) t19 w fun t20 w =>
  condT t20 (
  K (.int .i64 1) w) (
  K0 [(.int .i64 0)] w)) fun x0 w =>
  M.winnowref03_Right.j0 t1 x0 w K
def M.winnowref03_Right.L : List Nat := [0, 2, 1]
def M.winnowref03_Right.pl : Nat → Plan := fun id => ⟨.nil, [], false⟩
theorem M.winnowref03_Right.eq (a0 : Value) (w : World) (K : KV) : M.winnowref03_Right a0 w K = den P M.winnowref03_Right.L M.winnowref03_Right.pl (Try.f21.body.getD .skip) (argE [a0]) w (bodyQ P Try.f21.results.toList K) := by kernel_rfl
theorem M.winnowref03_Right.ok : okFn M.winnowref03_Right.L M.winnowref03_Right.pl Try.f21 (Try.f21.body.getD .skip) 1 = true := by kernel_rfl
theorem M.winnowref03_Right.calls (a0 : Value) {w : World} {K : KV} (h : M.winnowref03_Right a0 w K) : callT P F.winnowref03_Right [a0] w K :=
  callT_of_den (by kernel_rfl) Try.func21 (by kernel_rfl) M.winnowref03_Right.ok (M.winnowref03_Right.eq a0 w K ▸ h)
theorem M.winnowref03_Right.fcall (args : List Value) (w : World) (K : KV) : fcallT P F.winnowref03_Right args w K = callT P F.winnowref03_Right args w K := fcallT_eq Try.func21 (by kernel_rfl) (by kernel_rfl) args w K

def M.winnowref03_Spans.j3 (a0 : Value) (x2 : List Value) (a1 : Value) (K2 : KL) (w : World) (K : KV) : Prop :=
  joinT (fun K4 =>
  drawT w fun w =>
  w = w ∧ w = w ∧ quietT (fun K' => iaT P T.sl_api_Span a0 (gv x2 1) w K') w fun t19 =>
  quietT (fun K' => ldT P T.api_Span t19 w K') w fun t20 =>
  w = w ∧ w = w ∧ quietT (fun K' => iaT P T.sl_api_Span a1 (gv x2 1) w K') w fun t23 =>
  quietT (fun K' => ldT P T.api_Span t23 w K') w fun t24 =>
  quietT (fun K' => binT P .neq T.api_Span (.tmp 20) (.tmp 24) t20 t24 w K') w fun t25 =>
  condT t25 (
  K (.bool false) w) (
  K4 [(gv x2 0)] w)) fun x4 w =>
  binT P .add T.int (.tmp 15) (.const (.int .i64 1)) (gv x2 1) (.int .i64 1) w fun t16 w =>
  K2 [(gv x4 0), t16] w
def M.winnowref03_Spans.j0 (x0 : List Value) (a0 : Value) (a1 : Value) (w : World) (K : KV) : Prop :=
  joinT (fun K1 =>
  loopT [(gv x0 0), (.int .i64 0)] w fun K2 x2 w =>
  joinT (fun K3 =>
  biT P .len #[T.sl_api_Span] T.int [false] [a0] w fun t13 w =>
  binT P .lss T.int (.tmp 11) (.tmp 13) (gv x2 1) t13 w fun t14 w =>
  condT t14 (
  K3 [] w) (
  K1 [(gv x2 1), (gv x2 0)] w)) fun x3 w =>
  M.winnowref03_Spans.j3 a0 x2 a1 K2 w K) fun x1 w =>
  K (.bool true) w
/-- winnow/winnowref03.Spans -/
def M.winnowref03_Spans (a0 a1 : Value) (w : World) (K : KV) : Prop :=
  joinT (fun K0 =>
  biT P .len #[T.sl_api_Span] T.int [false] [a0] w fun t7 w =>
  biT P .len #[T.sl_api_Span] T.int [false] [a1] w fun t9 w =>
  binT P .neq T.int (.tmp 7) (.tmp 9) t7 t9 w fun t10 w =>
  condT t10 (
  K (.bool false) w) (
  K0 [(.bool false)] w)) fun x0 w =>
  M.winnowref03_Spans.j0 x0 a0 a1 w K
def M.winnowref03_Spans.L : List Nat := [0, 1, 4, 5]
def M.winnowref03_Spans.pl : Nat → Plan := fun id => cond (Nat.beq id 6) ⟨(.go 0 (.go 1 (.go 2 (.go 3 (.go 4 (.go 5 (.go 6 (.go 7 (.go 8 .nil))))))))), [], false⟩ (⟨.nil, [], false⟩)
theorem M.winnowref03_Spans.eq (a0 a1 : Value) (w : World) (K : KV) : M.winnowref03_Spans a0 a1 w K = den P M.winnowref03_Spans.L M.winnowref03_Spans.pl (Try.f22.body.getD .skip) (argE [a0, a1]) w (bodyQ P Try.f22.results.toList K) := by kernel_rfl
theorem M.winnowref03_Spans.ok : okFn M.winnowref03_Spans.L M.winnowref03_Spans.pl Try.f22 (Try.f22.body.getD .skip) 2 = true := by kernel_rfl
theorem M.winnowref03_Spans.calls (a0 a1 : Value) {w : World} {K : KV} (h : M.winnowref03_Spans a0 a1 w K) : callT P F.winnowref03_Spans [a0, a1] w K :=
  callT_of_den (by kernel_rfl) Try.func22 (by kernel_rfl) M.winnowref03_Spans.ok (M.winnowref03_Spans.eq a0 a1 w K ▸ h)
theorem M.winnowref03_Spans.fcall (args : List Value) (w : World) (K : KV) : fcallT P F.winnowref03_Spans args w K = callT P F.winnowref03_Spans args w K := fcallT_eq Try.func22 (by kernel_rfl) (by kernel_rfl) args w K

def M.pbuffer_Buffer_Take.j0 (a0 : Value) (a1 : Value) (w : World) (K : KV) : Prop :=
  nilT a0 w fun t18 w =>
  faT P T.buffer_Buffer t18 4 w fun t19 w =>
  ldT P T.map_uint64_p_buffer_entry t19 w fun t20 w =>
  luT P T.map_uint64_p_buffer_entry t20 a1 false w fun t22 w =>
  nilT t22 w fun t23 w =>
  faT P T.buffer_entry t23 0 w fun t24 w =>
  ldT P T.sl_api_Span t24 w fun t25 w =>
  nilT a0 w fun t27 w =>
  faT P T.buffer_Buffer t27 4 w fun t28 w =>
  ldT P T.map_uint64_p_buffer_entry t28 w fun t29 w =>
  biT P .delete #[T.map_uint64_p_buffer_entry, T.uint64] T._ [false, false] [t29, a1] w fun _ w =>
  nilT a0 w fun t32 w =>
  faT P T.buffer_Buffer t32 0 w fun t33 w =>
  fcallT P F.ptimers_Heap_Del [t33, a1] w fun t35 w =>
  K t25 w
/-- (*winnow/buffer.Buffer).Take -/
def M.pbuffer_Buffer_Take (a0 a1 : Value) (w : World) (K : KV) : Prop :=
  joinT (fun K0 =>
  binT P .eql T.p_buffer_Buffer (.tmp 6) (.const (.pointer none)) a0 (.pointer none) w fun t7 w =>
  guardT (isB t7 false) (fun K' => K' a0 w) w fun t9 w =>
  guardT (isB t7 false) (fun K' => nilT t9 w K') w fun t10 w =>
  guardT (isB t7 false) (fun K' => faT P T.buffer_Buffer t10 4 w K') w fun t11 w =>
  guardT (isB t7 false) (fun K' => ldT P T.map_uint64_p_buffer_entry t11 w K') w fun t12 w =>
  guardT (isB t7 false) (fun K' => K' a1 w) w fun t13 w =>
  guardT (isB t7 false) (fun K' => luT P T.map_uint64_p_buffer_entry t12 t13 false w K') w fun t14 w =>
  guardT (isB t7 false) (fun K' => binT P .eql T.p_buffer_entry (.tmp 14) (.const (.pointer none)) t14 (.pointer none) w K') w fun t15 w =>
  pickT t7 (.bool true) t15 w fun t16 w =>
  condT t16 (
  K (.slice none 0 0) w) (
  K0 [(.slice none 0 0)] w)) fun x0 w =>
  M.pbuffer_Buffer_Take.j0 a0 a1 w K
def M.pbuffer_Buffer_Take.L : List Nat := [0, 1, 4, 5]
def M.pbuffer_Buffer_Take.pl : Nat → Plan := fun id => ⟨.nil, [], false⟩
theorem M.pbuffer_Buffer_Take.eq (a0 a1 : Value) (w : World) (K : KV) : M.pbuffer_Buffer_Take a0 a1 w K = den P M.pbuffer_Buffer_Take.L M.pbuffer_Buffer_Take.pl (Try.f23.body.getD .skip) (argE [a0, a1]) w (bodyQ P Try.f23.results.toList K) := by kernel_rfl
theorem M.pbuffer_Buffer_Take.ok : okFn M.pbuffer_Buffer_Take.L M.pbuffer_Buffer_Take.pl Try.f23 (Try.f23.body.getD .skip) 2 = true := by kernel_rfl
theorem M.pbuffer_Buffer_Take.calls (a0 a1 : Value) {w : World} {K : KV} (h : M.pbuffer_Buffer_Take a0 a1 w K) : callT P F.pbuffer_Buffer_Take [a0, a1] w K :=
  callT_of_den (by kernel_rfl) Try.func23 (by kernel_rfl) M.pbuffer_Buffer_Take.ok (M.pbuffer_Buffer_Take.eq a0 a1 w K ▸ h)
theorem M.pbuffer_Buffer_Take.fcall (args : List Value) (w : World) (K : KV) : fcallT P F.pbuffer_Buffer_Take args w K = callT P F.pbuffer_Buffer_Take args w K := fcallT_eq Try.func23 (by kernel_rfl) (by kernel_rfl) args w K

/-- (*winnow/buffer.Buffer).Delay -/
def M.pbuffer_Buffer_Delay (a0 a1 a2 : Value) (w : World) (K : KV) : Prop :=
  joinT (fun K0 =>
  binT P .eql T.p_buffer_Buffer (.tmp 7) (.const (.pointer none)) a0 (.pointer none) w fun t8 w =>
  guardT (isB t8 false) (fun K' => K' a0 w) w fun t10 w =>
  guardT (isB t8 false) (fun K' => nilT t10 w K') w fun t11 w =>
  guardT (isB t8 false) (fun K' => faT P T.buffer_Buffer t11 4 w K') w fun t12 w =>
  guardT (isB t8 false) (fun K' => ldT P T.map_uint64_p_buffer_entry t12 w K') w fun t13 w =>
  guardT (isB t8 false) (fun K' => K' a1 w) w fun t14 w =>
  guardT (isB t8 false) (fun K' => luT P T.map_uint64_p_buffer_entry t13 t14 false w K') w fun t15 w =>
  guardT (isB t8 false) (fun K' => binT P .eql T.p_buffer_entry (.tmp 15) (.const (.pointer none)) t15 (.pointer none) w K') w fun t16 w =>
  pickT t8 (.bool true) t16 w fun t17 w =>
  condT t17 (
  K (.bool false) w) (
  K0 [(.bool false)] w)) fun x0 w =>
  nilT a0 w fun t19 w =>
  faT P T.buffer_Buffer t19 0 w fun t20 w =>
  fcallT P F.ptimers_Heap_Set [t20, a1, a2] w fun t23 w =>
  K (.bool true) w
def M.pbuffer_Buffer_Delay.L : List Nat := [0, 1, 2, 6]
def M.pbuffer_Buffer_Delay.pl : Nat → Plan := fun id => ⟨.nil, [], false⟩
theorem M.pbuffer_Buffer_Delay.eq (a0 a1 a2 : Value) (w : World) (K : KV) : M.pbuffer_Buffer_Delay a0 a1 a2 w K = den P M.pbuffer_Buffer_Delay.L M.pbuffer_Buffer_Delay.pl (Try.f24.body.getD .skip) (argE [a0, a1, a2]) w (bodyQ P Try.f24.results.toList K) := by kernel_rfl
theorem M.pbuffer_Buffer_Delay.ok : okFn M.pbuffer_Buffer_Delay.L M.pbuffer_Buffer_Delay.pl Try.f24 (Try.f24.body.getD .skip) 3 = true := by kernel_rfl
theorem M.pbuffer_Buffer_Delay.calls (a0 a1 a2 : Value) {w : World} {K : KV} (h : M.pbuffer_Buffer_Delay a0 a1 a2 w K) : callT P F.pbuffer_Buffer_Delay [a0, a1, a2] w K :=
  callT_of_den (by kernel_rfl) Try.func24 (by kernel_rfl) M.pbuffer_Buffer_Delay.ok (M.pbuffer_Buffer_Delay.eq a0 a1 a2 w K ▸ h)
theorem M.pbuffer_Buffer_Delay.fcall (args : List Value) (w : World) (K : KV) : fcallT P F.pbuffer_Buffer_Delay args w K = callT P F.pbuffer_Buffer_Delay args w K := fcallT_eq Try.func24 (by kernel_rfl) (by kernel_rfl) args w K

def M.winnowlaw06_light.j5 (a0 : Value) (x2 : List Value) (K4 : KL) (x5 : List Value) (w : World) (K : KV) : Prop :=
  iaT P T.sl_winnowlaw06_Op a0 (gv x2 2) w fun t24 w =>
  faT P T.winnowlaw06_Op t24 3 w fun t25 w =>
  ldT P T.sl_uint8 t25 w fun t26 w =>
  biT P .len #[T.sl_uint8] T.int [false] [t26] w fun t27 w =>
  binT P .add T.int (.tmp 21) (.tmp 27) (gv x2 1) t27 w fun t28 w =>
  K4 [(gv x5 0), t28] w
def M.winnowlaw06_light.j3 (a0 : Value) (x2 : List Value) (K2 : KL) (w : World) (K : KV) : Prop :=
  joinT (fun K4 =>
  joinT (fun K5 =>
  iaT P T.sl_winnowlaw06_Op a0 (gv x2 2) w fun t16 w =>
  faT P T.winnowlaw06_Op t16 3 w fun t17 w =>
  ldT P T.sl_uint8 t17 w fun t18 w =>
  biT P .len #[T.sl_uint8] T.int [false] [t18] w fun t19 w =>
  binT P .gtr T.int (.tmp 19) (.const (.int .i64 5000)) t19 (.int .i64 5000) w fun t20 w =>
  condT t20 (
  K (.bool false) w) (
  K5 [(gv x2 0)] w)) fun x5 w =>
  M.winnowlaw06_light.j5 a0 x2 K4 x5 w K) fun x4 w =>
  binT P .add T.int (.tmp 12) (.const (.int .i64 1)) (gv x2 2) (.int .i64 1) w fun t13 w =>
  K2 [(gv x4 0), (gv x4 1), t13] w
def M.winnowlaw06_light.j2 (a0 : Value) (x2 : List Value) (K1 : KL) (K2 : KL) (w : World) (K : KV) : Prop :=
  joinT (fun K3 =>
  biT P .len #[T.sl_winnowlaw06_Op] T.int [false] [a0] w fun t10 w =>
  binT P .lss T.int (.tmp 8) (.tmp 10) (gv x2 2) t10 w fun t11 w =>
  condT t11 (
  K3 [] w) (
  K1 [(gv x2 2), (gv x2 0), (gv x2 1)] w)) fun x3 w =>
  M.winnowlaw06_light.j3 a0 x2 K2 w K
/-- winnow/winnowlaw06.light -/
def M.winnowlaw06_light (a0 : Value) (w : World) (K : KV) : Prop :=
  joinT (fun K0 =>
  biT P .len #[T.sl_winnowlaw06_Op] T.int [false] [a0] w fun t6 w =>
  binT P .gtr T.int (.tmp 6) (.const (.int .i64 60)) t6 (.int .i64 60) w fun t7 w =>
  condT t7 (
  K (.bool false) w) (
  K0 [(.bool false)] w)) fun x0 w =>
  joinT (fun K1 =>
  loopT [(gv x0 0), (.int .i64 0), (.int .i64 0)] w fun K2 x2 w =>
  M.winnowlaw06_light.j2 a0 x2 K1 K2 w K) fun x1 w =>
  binT P .leq T.int (.tmp 29) (.const (.int .i64 20000)) (gv x1 2) (.int .i64 20000) w fun t30 w =>
  K t30 w
def M.winnowlaw06_light.L : List Nat := [0, 2, 3, 4]
def M.winnowlaw06_light.pl : Nat → Plan := fun id => ⟨.nil, [], false⟩
theorem M.winnowlaw06_light.eq (a0 : Value) (w : World) (K : KV) : M.winnowlaw06_light a0 w K = den P M.winnowlaw06_light.L M.winnowlaw06_light.pl (Try.f25.body.getD .skip) (argE [a0]) w (bodyQ P Try.f25.results.toList K) := by kernel_rfl
theorem M.winnowlaw06_light.ok : okFn M.winnowlaw06_light.L M.winnowlaw06_light.pl Try.f25 (Try.f25.body.getD .skip) 1 = true := by kernel_rfl
theorem M.winnowlaw06_light.calls (a0 : Value) {w : World} {K : KV} (h : M.winnowlaw06_light a0 w K) : callT P F.winnowlaw06_light [a0] w K :=
  callT_of_den (by kernel_rfl) Try.func25 (by kernel_rfl) M.winnowlaw06_light.ok (M.winnowlaw06_light.eq a0 w K ▸ h)
theorem M.winnowlaw06_light.fcall (args : List Value) (w : World) (K : KV) : fcallT P F.winnowlaw06_light args w K = callT P F.winnowlaw06_light args w K := fcallT_eq Try.func25 (by kernel_rfl) (by kernel_rfl) args w K

def M.winnowlaw06_alive.j0 (t10 : Value) (w : World) (K : KV) : Prop :=
  bsT P T.sl_uint8 2 #[(0, (.int .u8 97)), (1, (.int .u8 98))] w fun t19 w =>
  cvT P T.sl_uint8 T.sl_uint8 t19 w fun t20 w =>
  fcallT P F.pdisk_Disk_Append [t10, (.int .i64 1), t20] w fun t21 w =>
  fcallT P F.pdisk_Disk_Sync [t10, (.int .i64 1)] w fun t23 w =>
  bsT P T.sl_uint8 2 #[(0, (.int .u8 99)), (1, (.int .u8 100))] w fun t25 w =>
  cvT P T.sl_uint8 T.sl_uint8 t25 w fun t26 w =>
  fcallT P F.pdisk_Disk_Append [t10, (.int .i64 1), t26] w fun t27 w =>
  bsT P T.sl_int 1 #[(0, (.int .i64 1))] w fun t29 w =>
  fcallT P F.pdisk_Disk_Crash [t10, t29] w fun t30 w =>
  fcallT P F.pdisk_Disk_Read [t10, (.int .i64 1)] w fun t33 w =>
  exT P t33 0 w fun t34 w =>
  exT P t33 1 w fun t35 w =>
  binT P .eql T.api_Kind (.tmp 36) (.const (.int .i64 0)) t21 (.int .i64 0) w fun t37 w =>
  guardT (isB t37 true) (fun K' => K' t23 w) w fun t39 w =>
  guardT (isB t37 true) (fun K' => binT P .eql T.api_Kind (.tmp 39) (.const (.int .i64 0)) t39 (.int .i64 0) w K') w fun t40 w =>
  pickT t37 t40 (.bool false) w fun t41 w =>
  guardT (isB t41 true) (fun K' => K' t27 w) w fun t43 w =>
  guardT (isB t41 true) (fun K' => binT P .eql T.api_Kind (.tmp 43) (.const (.int .i64 0)) t43 (.int .i64 0) w K') w fun t44 w =>
  pickT t41 t44 (.bool false) w fun t45 w =>
  guardT (isB t45 true) (fun K' => K' t35 w) w fun t47 w =>
  guardT (isB t45 true) (fun K' => binT P .eql T.api_Kind (.tmp 47) (.const (.int .i64 0)) t47 (.int .i64 0) w K') w fun t48 w =>
  pickT t45 t48 (.bool false) w fun t49 w =>
  guardT (isB t49 true) (fun K' => K' t34 w) w fun t51 w =>
  guardT (isB t49 true) (fun K' => cvT P T.sl_uint8 T.string t51 w K') w fun t52 w =>
  guardT (isB t49 true) (fun K' => binT P .eql T.string (.tmp 52) (.const (.string ⟨#[97, 98, 99]⟩)) t52 (.string ⟨#[97, 98, 99]⟩) w K') w fun t53 w =>
  pickT t49 t53 (.bool false) w fun t54 w =>
  K t54 w
/-- winnow/winnowlaw06.alive -/
def M.winnowlaw06_alive (w : World) (K : KV) : Prop :=
  fcallT P F.disk_New [(.int .i64 10)] w fun t9 w =>
  exT P t9 0 w fun t10 w =>
  exT P t9 1 w fun t11 w =>
  joinT (fun K0 =>
  binT P .neq T.api_Kind (.tmp 12) (.const (.int .i64 0)) t11 (.int .i64 0) w fun t13 w =>
  guardT (isB t13 false) (fun K' => K' t10 w) w fun t15 w =>
  guardT (isB t13 false) (fun K' => binT P .eql T.p_disk_Disk (.tmp 15) (.const (.pointer none)) t15 (.pointer none) w K') w fun t16 w =>
  pickT t13 (.bool true) t16 w fun t17 w =>
  condT t17 (
  K (.bool false) w) (
  K0 [(.bool false)] w)) fun x0 w =>
  M.winnowlaw06_alive.j0 t10 w K
def M.winnowlaw06_alive.L : List Nat := [0, 1, 2, 3, 4, 5, 6, 7]
def M.winnowlaw06_alive.pl : Nat → Plan := fun id => ⟨.nil, [], false⟩
theorem M.winnowlaw06_alive.eq (w : World) (K : KV) : M.winnowlaw06_alive  w K = den P M.winnowlaw06_alive.L M.winnowlaw06_alive.pl (Try.f26.body.getD .skip) (argE []) w (bodyQ P Try.f26.results.toList K) := by kernel_rfl
theorem M.winnowlaw06_alive.ok : okFn M.winnowlaw06_alive.L M.winnowlaw06_alive.pl Try.f26 (Try.f26.body.getD .skip) 0 = true := by kernel_rfl
theorem M.winnowlaw06_alive.calls {w : World} {K : KV} (h : M.winnowlaw06_alive  w K) : callT P F.winnowlaw06_alive [] w K :=
  callT_of_den (by kernel_rfl) Try.func26 (by kernel_rfl) M.winnowlaw06_alive.ok (M.winnowlaw06_alive.eq  w K ▸ h)
theorem M.winnowlaw06_alive.fcall (args : List Value) (w : World) (K : KV) : fcallT P F.winnowlaw06_alive args w K = callT P F.winnowlaw06_alive args w K := fcallT_eq Try.func26 (by kernel_rfl) (by kernel_rfl) args w K

/-- winnow/disk.New -/
def M.disk_New (a0 : Value) (w : World) (K : KV) : Prop :=
  joinT (fun K0 =>
  binT P .lss T.int (.tmp 4) (.const (.int .i64 1)) a0 (.int .i64 1) w fun t5 w =>
  guardT (isB t5 false) (fun K' => K' a0 w) w fun t7 w =>
  guardT (isB t5 false) (fun K' => binT P .gtr T.int (.tmp 7) (.const (.int .i64 1048576)) t7 (.int .i64 1048576) w K') w fun t8 w =>
  pickT t5 (.bool true) t8 w fun t9 w =>
  condT t9 (
  K (.tuple #[(.pointer none), (.int .i64 1)]) w) (
  K0 [(.pointer none), (.int .i64 0)] w)) fun x0 w =>
  mkmT P T.map_int_p_disk_file none w fun t11 w =>
  bldT P T.disk_Disk #[(0, a0), (1, t11)] w fun t12 w =>
  boxT P T.disk_Disk t12 w fun t13 w =>
  K (.tuple #[t13, (.int .i64 0)]) w
def M.disk_New.L : List Nat := [0, 2, 3]
def M.disk_New.pl : Nat → Plan := fun id => ⟨.nil, [], false⟩
theorem M.disk_New.eq (a0 : Value) (w : World) (K : KV) : M.disk_New a0 w K = den P M.disk_New.L M.disk_New.pl (Try.f27.body.getD .skip) (argE [a0]) w (bodyQ P Try.f27.results.toList K) := by kernel_rfl
theorem M.disk_New.ok : okFn M.disk_New.L M.disk_New.pl Try.f27 (Try.f27.body.getD .skip) 1 = true := by kernel_rfl
theorem M.disk_New.calls (a0 : Value) {w : World} {K : KV} (h : M.disk_New a0 w K) : callT P F.disk_New [a0] w K :=
  callT_of_den (by kernel_rfl) Try.func27 (by kernel_rfl) M.disk_New.ok (M.disk_New.eq a0 w K ▸ h)
theorem M.disk_New.fcall (args : List Value) (w : World) (K : KV) : fcallT P F.disk_New args w K = callT P F.disk_New args w K := fcallT_eq Try.func27 (by kernel_rfl) (by kernel_rfl) args w K

def M.pdisk_Disk_Append.j2 (x1 : List Value) (x2 : List Value) (a0 : Value) (w : World) (K : KV) : Prop :=
  nilT (gv x1 0) w fun t83 w =>
  faT P T.disk_file t83 1 w fun t84 w =>
  ldT P T.sl_uint8 t84 w fun t85 w =>
  biT P .append #[T.sl_uint8, T.sl_uint8] T.sl_uint8 [false, false] [t85, (gv x2 0)] w fun t87 w =>
  nilT (gv x1 0) w fun t88 w =>
  faT P T.disk_file t88 1 w fun t89 w =>
  stT P T.sl_uint8 t89 t87 w fun _ w =>
  fcallT P F.pdisk_Disk_state [a0] w fun t91 w =>
  K t91 w
def M.pdisk_Disk_Append.j1 (a0 : Value) (a2 : Value) (x1 : List Value) (w : World) (K : KV) : Prop :=
  joinT (fun K2 =>
  nilT a0 w fun t50 w =>
  faT P T.disk_Disk t50 3 w fun t51 w =>
  ldT P T.bool t51 w fun t52 w =>
  condT t52 (
  biT P .len #[T.sl_uint8] T.int [false] [a2] w fun t55 w =>
  nilT a0 w fun t57 w =>
  faT P T.disk_Disk t57 2 w fun t58 w =>
  ldT P T.int t58 w fun t59 w =>
  binT P .gtr T.int (.tmp 55) (.tmp 59) t55 t59 w fun t60 w =>
  nilT a0 w fun t61 w =>
  faT P T.disk_Disk t61 4 w fun t62 w =>
  stT P T.bool t62 t60 w fun _ w =>
  biT P .len #[T.sl_uint8] T.int [false] [a2] w fun t65 w =>
  nilT a0 w fun t67 w =>
  faT P T.disk_Disk t67 2 w fun t68 w =>
  ldT P T.int t68 w fun t69 w =>
  biT P .min #[T.int, T.int] T.int [false, false] [t65, t69] w fun t70 w =>
  slT P T.sl_uint8 a2 none (some t70) none w fun t71 w =>
  nilT a0 w fun t73 w =>
  faT P T.disk_Disk t73 2 w fun t74 w =>
  ldT P T.int t74 w fun t75 w =>
  biT P .len #[T.sl_uint8] T.int [false] [t71] w fun t77 w =>
  binT P .sub T.int (.tmp 75) (.tmp 77) t75 t77 w fun t78 w =>
  nilT a0 w fun t79 w =>
  faT P T.disk_Disk t79 2 w fun t80 w =>
  stT P T.int t80 t78 w fun _ w =>
  K2 [t71] w) (
  K2 [a2] w)) fun x2 w =>
  M.pdisk_Disk_Append.j2 x1 x2 a0 w K
def M.pdisk_Disk_Append.j0 (a0 : Value) (a1 : Value) (a2 : Value) (w : World) (K : KV) : Prop :=
  nilT a0 w fun t34 w =>
  faT P T.disk_Disk t34 1 w fun t35 w =>
  ldT P T.map_int_p_disk_file t35 w fun t36 w =>
  luT P T.map_int_p_disk_file t36 a1 false w fun t38 w =>
  joinT (fun K1 =>
  binT P .eql T.p_disk_file (.tmp 39) (.const (.pointer none)) t38 (.pointer none) w fun t40 w =>
  condT t40 (
  bldT P T.disk_file #[] w fun t41 w =>
  boxT P T.disk_file t41 w fun t42 w =>
  nilT a0 w fun t44 w =>
  faT P T.disk_Disk t44 1 w fun t45 w =>
  ldT P T.map_int_p_disk_file t45 w fun t46 w =>
  muT P T.map_int_p_disk_file t46 a1 t42 w fun _ w =>
  K1 [t42] w) (
  K1 [t38] w)) fun x1 w =>
  M.pdisk_Disk_Append.j1 a0 a2 x1 w K
/-- (*winnow/disk.Disk).Append -/
def M.pdisk_Disk_Append (a0 a1 a2 : Value) (w : World) (K : KV) : Prop :=
  joinT (fun K0 =>
  fcallT P F.pdisk_Disk_state [a0] w fun t10 w =>
  binT P .neq T.api_Kind (.tmp 12) (.const (.int .i64 0)) t10 (.int .i64 0) w fun t13 w =>
  condT t13 (
  K t10 w) (
  binT P .lss T.int (.tmp 16) (.const (.int .i64 0)) a1 (.int .i64 0) w fun t17 w =>
  guardT (isB t17 false) (fun K' => K' a1 w) w fun t19 w =>
  guardT (isB t17 false) (fun K' => binT P .geq T.int (.tmp 19) (.const (.int .i64 64)) t19 (.int .i64 64) w K') w fun t20 w =>
  pickT t17 (.bool true) t20 w fun t21 w =>
  condT t21 (
  K (.int .i64 1) w) (
  drawT w fun w =>
  w = w ∧ w = w ∧ quietT (fun K' => biT P .len #[T.sl_uint8] T.int [false] [a2] w K') w fun t26 =>
  w = w ∧ quietT (fun K' => nilT a0 w K') w fun t29 =>
  quietT (fun K' => faT P T.disk_Disk t29 0 w K') w fun t30 =>
  quietT (fun K' => ldT P T.int t30 w K') w fun t31 =>
  fcallT P F.pdisk_Disk_Used [a0] w fun t24 w =>
  stabT (fun K' => ldT P T.int t30 w K') w t31 ∧ stabT (fun K' => faT P T.disk_Disk t29 0 w K') w t30 ∧ stabT (fun K' => nilT a0 w K') w t29 ∧ stabT (fun K' => K' a0 w) w a0 ∧ stabT (fun K' => biT P .len #[T.sl_uint8] T.int [false] [a2] w K') w t26 ∧ stabT (fun K' => K' a2 w) w a2 ∧ quietT (fun K' => binT P .add T.int (.tmp 24) (.tmp 26) t24 t26 w K') w fun t27 =>
  quietT (fun K' => binT P .gtr T.int (.tmp 27) (.tmp 31) t27 t31 w K') w fun t32 =>
  condT t32 (
  K (.int .i64 9) w) (
  K0 [t10, t13, (.int .i64 0), t21, t32] w)))) fun x0 w =>
  M.pdisk_Disk_Append.j0 a0 a1 a2 w K
def M.pdisk_Disk_Append.L : List Nat := [0, 1, 2, 6, 7, 11, 15, 22, 8]
def M.pdisk_Disk_Append.pl : Nat → Plan := fun id => cond (Nat.beq id 6) ⟨(.go 0 (.go 2 (.go 3 (.go 5 (.go 6 (.go 7 (.go 8 (.eff 1 (.go 4 (.go 9 (.eff 10 .nil .stop))) .stop)))))))), [1, 10], false⟩ (⟨.nil, [], false⟩)
theorem M.pdisk_Disk_Append.eq (a0 a1 a2 : Value) (w : World) (K : KV) : M.pdisk_Disk_Append a0 a1 a2 w K = den P M.pdisk_Disk_Append.L M.pdisk_Disk_Append.pl (Try.f28.body.getD .skip) (argE [a0, a1, a2]) w (bodyQ P Try.f28.results.toList K) := by kernel_rfl
theorem M.pdisk_Disk_Append.ok : okFn M.pdisk_Disk_Append.L M.pdisk_Disk_Append.pl Try.f28 (Try.f28.body.getD .skip) 3 = true := by kernel_rfl
theorem M.pdisk_Disk_Append.calls (a0 a1 a2 : Value) {w : World} {K : KV} (h : M.pdisk_Disk_Append a0 a1 a2 w K) : callT P F.pdisk_Disk_Append [a0, a1, a2] w K :=
  callT_of_den (by kernel_rfl) Try.func28 (by kernel_rfl) M.pdisk_Disk_Append.ok (M.pdisk_Disk_Append.eq a0 a1 a2 w K ▸ h)
theorem M.pdisk_Disk_Append.fcall (args : List Value) (w : World) (K : KV) : fcallT P F.pdisk_Disk_Append args w K = callT P F.pdisk_Disk_Append args w K := fcallT_eq Try.func28 (by kernel_rfl) (by kernel_rfl) args w K

/-- (*winnow/disk.Disk).Sync -/
def M.pdisk_Disk_Sync (a0 a1 : Value) (w : World) (K : KV) : Prop :=
  fcallT P F.pdisk_Disk_find [a0, a1] w fun t10 w =>
  exT P t10 0 w fun t11 w =>
  exT P t10 1 w fun t12 w =>
  joinT (fun K0 =>
  binT P .eql T.api_Kind (.tmp 13) (.const (.int .i64 0)) t12 (.int .i64 0) w fun t14 w =>
  condT t14 (
  fcallT P F.pdisk_file_all [t11] w fun t18 w =>
  nilT t11 w fun t19 w =>
  faT P T.disk_file t19 0 w fun t20 w =>
  stT P T.sl_uint8 t20 t18 w fun _ w =>
  nilT t11 w fun t21 w =>
  faT P T.disk_file t21 1 w fun t22 w =>
  stT P T.sl_uint8 t22 (.slice none 0 0) w fun _ w =>
  K0 [] w) (
  K0 [] w)) fun x0 w =>
  K t12 w
def M.pdisk_Disk_Sync.L : List Nat := [0, 1, 4, 5, 6]
def M.pdisk_Disk_Sync.pl : Nat → Plan := fun id => ⟨.nil, [], false⟩
theorem M.pdisk_Disk_Sync.eq (a0 a1 : Value) (w : World) (K : KV) : M.pdisk_Disk_Sync a0 a1 w K = den P M.pdisk_Disk_Sync.L M.pdisk_Disk_Sync.pl (Try.f29.body.getD .skip) (argE [a0, a1]) w (bodyQ P Try.f29.results.toList K) := by kernel_rfl
theorem M.pdisk_Disk_Sync.ok : okFn M.pdisk_Disk_Sync.L M.pdisk_Disk_Sync.pl Try.f29 (Try.f29.body.getD .skip) 2 = true := by kernel_rfl
theorem M.pdisk_Disk_Sync.calls (a0 a1 : Value) {w : World} {K : KV} (h : M.pdisk_Disk_Sync a0 a1 w K) : callT P F.pdisk_Disk_Sync [a0, a1] w K :=
  callT_of_den (by kernel_rfl) Try.func29 (by kernel_rfl) M.pdisk_Disk_Sync.ok (M.pdisk_Disk_Sync.eq a0 a1 w K ▸ h)
theorem M.pdisk_Disk_Sync.fcall (args : List Value) (w : World) (K : KV) : fcallT P F.pdisk_Disk_Sync args w K = callT P F.pdisk_Disk_Sync args w K := fcallT_eq Try.func29 (by kernel_rfl) (by kernel_rfl) args w K

def M.pdisk_Disk_Crash.j5 (t23 : Value) (x5 : List Value) (K4 : KL) (x2 : List Value) (t17 : Value) (w : World) (K : KV) : Prop :=
  drawT w fun w =>
  w = w ∧ w = w ∧ w = w ∧ quietT (fun K' => nilT t23 w K') w fun t42 =>
  quietT (fun K' => faT P T.disk_file t42 0 w K') w fun t43 =>
  quietT (fun K' => ldT P T.sl_uint8 t43 w K') w fun t44 =>
  w = w ∧ quietT (fun K' => nilT t23 w K') w fun t46 =>
  quietT (fun K' => faT P T.disk_file t46 1 w K') w fun t47 =>
  quietT (fun K' => ldT P T.sl_uint8 t47 w K') w fun t48 =>
  w = w ∧ quietT (fun K' => slT P T.sl_uint8 t48 none (some (gv x5 0)) none w K') w fun t50 =>
  bsT P T.sl_sl_uint8 2 #[(0, t44), (1, t50)] w fun t51 w =>
  stabT (fun K' => K' t23 w) w t23 ∧ stabT (fun K' => K' t23 w) w t23 ∧ fcallT P F.slices_Concat_byte_byte [t51] w fun t52 w =>
  stabT (fun K' => K' t23 w) w t23 ∧ stabT (fun K' => K' t23 w) w t23 ∧ quietT (fun K' => nilT t23 w K') w fun t53 =>
  quietT (fun K' => faT P T.disk_file t53 0 w K') w fun t54 =>
  stT P T.sl_uint8 t54 t52 w fun _ w =>
  stabT (fun K' => K' t23 w) w t23 ∧ quietT (fun K' => nilT t23 w K') w fun t55 =>
  quietT (fun K' => faT P T.disk_file t55 1 w K') w fun t56 =>
  stT P T.sl_uint8 t56 (.slice none 0 0) w fun _ w =>
  K4 [(gv x2 4), t17, t23, (gv x5 0)] w
def M.pdisk_Disk_Crash.j3 (t11 : Value) (x2 : List Value) (a0 : Value) (a1 : Value) (K2 : KL) (w : World) (K : KV) : Prop :=
  joinT (fun K4 =>
  iaT P T.sl_int t11 (gv x2 4) w fun t16 w =>
  ldT P T.int t16 w fun t17 w =>
  nilT a0 w fun t19 w =>
  faT P T.disk_Disk t19 1 w fun t20 w =>
  ldT P T.map_int_p_disk_file t20 w fun t21 w =>
  luT P T.map_int_p_disk_file t21 t17 false w fun t23 w =>
  joinT (fun K5 =>
  biT P .len #[T.sl_int] T.int [false] [a1] w fun t26 w =>
  binT P .lss T.int (.tmp 24) (.tmp 26) (gv x2 4) t26 w fun t27 w =>
  condT t27 (
  drawT w fun w =>
  w = w ∧ w = w ∧ quietT (fun K' => iaT P T.sl_int a1 (gv x2 4) w K') w fun t30 =>
  quietT (fun K' => ldT P T.int t30 w K') w fun t31 =>
  w = w ∧ quietT (fun K' => nilT t23 w K') w fun t33 =>
  quietT (fun K' => faT P T.disk_file t33 1 w K') w fun t34 =>
  quietT (fun K' => ldT P T.sl_uint8 t34 w K') w fun t35 =>
  quietT (fun K' => biT P .len #[T.sl_uint8] T.int [false] [t35] w K') w fun t36 =>
  quietT (fun K' => biT P .min #[T.int, T.int] T.int [false, false] [t31, t36] w K') w fun t37 =>
  quietT (fun K' => biT P .max #[T.int, T.int] T.int [true, false] [(.int .i64 0), t37] w K') w fun t38 =>
  K5 [t38] w) (
  K5 [(.int .i64 0)] w)) fun x5 w =>
  M.pdisk_Disk_Crash.j5 t23 x5 K4 x2 t17 w K) fun x4 w =>
  binT P .add T.int (.tmp 13) (.const (.int .i64 1)) (gv x2 4) (.int .i64 1) w fun t57 w =>
  K2 [(gv x4 0), (gv x4 1), (gv x4 2), (gv x4 3), t57] w
def M.pdisk_Disk_Crash.j0 (a0 : Value) (a1 : Value) (w : World) (K : KV) : Prop :=
  joinT (fun K1 =>
  fcallT P F.pdisk_Disk_Files [a0] w fun t11 w =>
  biT P .len #[T.sl_int] T.int [false] [t11] w fun t12 w =>
  loopT [undef, undef, undef, undef, (.int .i64 0)] w fun K2 x2 w =>
  binT P .lss T.int (.tmp 13) (.tmp 12) (gv x2 4) t12 w fun t14 w =>
  joinT (fun K3 =>
  condT t14 (
  K3 [] w) (
  K1 [t11, t12, (gv x2 4), (gv x2 0), (gv x2 1), (gv x2 2), (gv x2 3)] w)) fun x3 w =>
  M.pdisk_Disk_Crash.j3 t11 x2 a0 a1 K2 w K) fun x1 w =>
  nilT a0 w fun t60 w =>
  faT P T.disk_Disk t60 3 w fun t61 w =>
  stT P T.bool t61 (.bool false) w fun _ w =>
  nilT a0 w fun t62 w =>
  faT P T.disk_Disk t62 4 w fun t63 w =>
  stT P T.bool t63 (.bool false) w fun _ w =>
  K (.tuple #[]) w
/-- (*winnow/disk.Disk).Crash -/
def M.pdisk_Disk_Crash (a0 a1 : Value) (w : World) (K : KV) : Prop :=
  joinT (fun K0 =>
  binT P .eql T.p_disk_Disk (.tmp 8) (.const (.pointer none)) a0 (.pointer none) w fun t9 w =>
  condT t9 (
  K (.tuple #[]) w) (
  K0 [] w)) fun x0 w =>
  M.pdisk_Disk_Crash.j0 a0 a1 w K
def M.pdisk_Disk_Crash.L : List Nat := [0, 1, 4, 5, 6, 7, 13, 12, 11]
def M.pdisk_Disk_Crash.pl : Nat → Plan := fun id => cond (Nat.beq id 7) ⟨(.go 0 (.go 1 (.go 2 (.go 3 (.go 4 (.go 5 (.go 6 (.go 7 (.go 8 (.go 9 (.go 10 (.eff 11 .nil .stop)))))))))))), [11], false⟩ (cond (Nat.beq id 8) ⟨(.go 0 (.go 1 (.go 2 (.go 3 (.go 4 (.go 5 (.go 6 (.go 7 (.go 8 (.go 9 (.go 10 (.go 11 (.eff 12 (.eff 13 (.go 14 (.go 15 (.eff 16 (.go 17 (.go 18 (.eff 19 .nil .stop))) .stop))) .stop) .stop))))))))))))), [12, 13, 16, 19], false⟩ (⟨.nil, [], false⟩))
theorem M.pdisk_Disk_Crash.eq (a0 a1 : Value) (w : World) (K : KV) : M.pdisk_Disk_Crash a0 a1 w K = den P M.pdisk_Disk_Crash.L M.pdisk_Disk_Crash.pl (Try.f30.body.getD .skip) (argE [a0, a1]) w (bodyQ P Try.f30.results.toList K) := by kernel_rfl
theorem M.pdisk_Disk_Crash.ok : okFn M.pdisk_Disk_Crash.L M.pdisk_Disk_Crash.pl Try.f30 (Try.f30.body.getD .skip) 2 = true := by kernel_rfl
theorem M.pdisk_Disk_Crash.calls (a0 a1 : Value) {w : World} {K : KV} (h : M.pdisk_Disk_Crash a0 a1 w K) : callT P F.pdisk_Disk_Crash [a0, a1] w K :=
  callT_of_den (by kernel_rfl) Try.func30 (by kernel_rfl) M.pdisk_Disk_Crash.ok (M.pdisk_Disk_Crash.eq a0 a1 w K ▸ h)
theorem M.pdisk_Disk_Crash.fcall (args : List Value) (w : World) (K : KV) : fcallT P F.pdisk_Disk_Crash args w K = callT P F.pdisk_Disk_Crash args w K := fcallT_eq Try.func30 (by kernel_rfl) (by kernel_rfl) args w K

/-- (*winnow/disk.Disk).Files -/
def M.pdisk_Disk_Files (a0 : Value) (w : World) (K : KV) : Prop :=
  joinT (fun K0 =>
  binT P .eql T.p_disk_Disk (.tmp 3) (.const (.pointer none)) a0 (.pointer none) w fun t4 w =>
  condT t4 (
  K (.slice none 0 0) w) (
  K0 [(.slice none 0 0)] w)) fun x0 w =>
  nilT a0 w fun t6 w =>
  faT P T.disk_Disk t6 1 w fun t7 w =>
  ldT P T.map_int_p_disk_file t7 w fun t8 w =>
  fcallT P F.maps_Keys_map_int_disk_file_int_disk_file [t8] w fun t9 w =>
  fcallT P F.slices_Sorted_int [t9] w fun t10 w =>
  K t10 w
def M.pdisk_Disk_Files.L : List Nat := [0, 2]
def M.pdisk_Disk_Files.pl : Nat → Plan := fun id => ⟨.nil, [], false⟩
theorem M.pdisk_Disk_Files.eq (a0 : Value) (w : World) (K : KV) : M.pdisk_Disk_Files a0 w K = den P M.pdisk_Disk_Files.L M.pdisk_Disk_Files.pl (Try.f31.body.getD .skip) (argE [a0]) w (bodyQ P Try.f31.results.toList K) := by kernel_rfl
theorem M.pdisk_Disk_Files.ok : okFn M.pdisk_Disk_Files.L M.pdisk_Disk_Files.pl Try.f31 (Try.f31.body.getD .skip) 1 = true := by kernel_rfl
theorem M.pdisk_Disk_Files.calls (a0 : Value) {w : World} {K : KV} (h : M.pdisk_Disk_Files a0 w K) : callT P F.pdisk_Disk_Files [a0] w K :=
  callT_of_den (by kernel_rfl) Try.func31 (by kernel_rfl) M.pdisk_Disk_Files.ok (M.pdisk_Disk_Files.eq a0 w K ▸ h)
theorem M.pdisk_Disk_Files.fcall (args : List Value) (w : World) (K : KV) : fcallT P F.pdisk_Disk_Files args w K = callT P F.pdisk_Disk_Files args w K := fcallT_eq Try.func31 (by kernel_rfl) (by kernel_rfl) args w K

def M.winnowlaw06_ints.j3 (a0 : Value) (x2 : List Value) (a1 : Value) (K2 : KL) (w : World) (K : KV) : Prop :=
  joinT (fun K4 =>
  drawT w fun w =>
  w = w ∧ w = w ∧ quietT (fun K' => iaT P T.sl_int a0 (gv x2 1) w K') w fun t19 =>
  quietT (fun K' => ldT P T.int t19 w K') w fun t20 =>
  w = w ∧ w = w ∧ quietT (fun K' => iaT P T.sl_int a1 (gv x2 1) w K') w fun t23 =>
  quietT (fun K' => ldT P T.int t23 w K') w fun t24 =>
  quietT (fun K' => binT P .neq T.int (.tmp 20) (.tmp 24) t20 t24 w K') w fun t25 =>
  condT t25 (
  K (.bool false) w) (
  K4 [(gv x2 0)] w)) fun x4 w =>
  binT P .add T.int (.tmp 15) (.const (.int .i64 1)) (gv x2 1) (.int .i64 1) w fun t16 w =>
  K2 [(gv x4 0), t16] w
def M.winnowlaw06_ints.j0 (x0 : List Value) (a0 : Value) (a1 : Value) (w : World) (K : KV) : Prop :=
  joinT (fun K1 =>
  loopT [(gv x0 0), (.int .i64 0)] w fun K2 x2 w =>
  joinT (fun K3 =>
  biT P .len #[T.sl_int] T.int [false] [a0] w fun t13 w =>
  binT P .lss T.int (.tmp 11) (.tmp 13) (gv x2 1) t13 w fun t14 w =>
  condT t14 (
  K3 [] w) (
  K1 [(gv x2 1), (gv x2 0)] w)) fun x3 w =>
  M.winnowlaw06_ints.j3 a0 x2 a1 K2 w K) fun x1 w =>
  K (.bool true) w
/-- winnow/winnowlaw06.ints -/
def M.winnowlaw06_ints (a0 a1 : Value) (w : World) (K : KV) : Prop :=
  joinT (fun K0 =>
  biT P .len #[T.sl_int] T.int [false] [a0] w fun t7 w =>
  biT P .len #[T.sl_int] T.int [false] [a1] w fun t9 w =>
  binT P .neq T.int (.tmp 7) (.tmp 9) t7 t9 w fun t10 w =>
  condT t10 (
  K (.bool false) w) (
  K0 [(.bool false)] w)) fun x0 w =>
  M.winnowlaw06_ints.j0 x0 a0 a1 w K
def M.winnowlaw06_ints.L : List Nat := [0, 1, 4, 5]
def M.winnowlaw06_ints.pl : Nat → Plan := fun id => cond (Nat.beq id 6) ⟨(.go 0 (.go 1 (.go 2 (.go 3 (.go 4 (.go 5 (.go 6 (.go 7 (.go 8 .nil))))))))), [], false⟩ (⟨.nil, [], false⟩)
theorem M.winnowlaw06_ints.eq (a0 a1 : Value) (w : World) (K : KV) : M.winnowlaw06_ints a0 a1 w K = den P M.winnowlaw06_ints.L M.winnowlaw06_ints.pl (Try.f32.body.getD .skip) (argE [a0, a1]) w (bodyQ P Try.f32.results.toList K) := by kernel_rfl
theorem M.winnowlaw06_ints.ok : okFn M.winnowlaw06_ints.L M.winnowlaw06_ints.pl Try.f32 (Try.f32.body.getD .skip) 2 = true := by kernel_rfl
theorem M.winnowlaw06_ints.calls (a0 a1 : Value) {w : World} {K : KV} (h : M.winnowlaw06_ints a0 a1 w K) : callT P F.winnowlaw06_ints [a0, a1] w K :=
  callT_of_den (by kernel_rfl) Try.func32 (by kernel_rfl) M.winnowlaw06_ints.ok (M.winnowlaw06_ints.eq a0 a1 w K ▸ h)
theorem M.winnowlaw06_ints.fcall (args : List Value) (w : World) (K : KV) : fcallT P F.winnowlaw06_ints args w K = callT P F.winnowlaw06_ints args w K := fcallT_eq Try.func32 (by kernel_rfl) (by kernel_rfl) args w K

def M.pdisk_Disk_Used.j2 (t7 : Value) (x1 : List Value) (a0 : Value) (K1 : KL) (w : World) (K : KV) : Prop :=
  joinT (fun K3 =>
  iaT P T.sl_int t7 (gv x1 2) w fun t11 w =>
  ldT P T.int t11 w fun t12 w =>
  drawT w fun w =>
  w = w ∧ w = w ∧ quietT (fun K' => nilT a0 w K') w fun t15 =>
  quietT (fun K' => faT P T.disk_Disk t15 1 w K') w fun t16 =>
  quietT (fun K' => ldT P T.map_int_p_disk_file t16 w K') w fun t17 =>
  w = w ∧ quietT (fun K' => luT P T.map_int_p_disk_file t17 t12 false w K') w fun t19 =>
  quietT (fun K' => nilT t19 w K') w fun t20 =>
  quietT (fun K' => faT P T.disk_file t20 0 w K') w fun t21 =>
  quietT (fun K' => ldT P T.sl_uint8 t21 w K') w fun t22 =>
  quietT (fun K' => biT P .len #[T.sl_uint8] T.int [false] [t22] w K') w fun t23 =>
  w = w ∧ quietT (fun K' => nilT a0 w K') w fun t25 =>
  quietT (fun K' => faT P T.disk_Disk t25 1 w K') w fun t26 =>
  quietT (fun K' => ldT P T.map_int_p_disk_file t26 w K') w fun t27 =>
  w = w ∧ quietT (fun K' => luT P T.map_int_p_disk_file t27 t12 false w K') w fun t29 =>
  quietT (fun K' => nilT t29 w K') w fun t30 =>
  quietT (fun K' => faT P T.disk_file t30 1 w K') w fun t31 =>
  quietT (fun K' => ldT P T.sl_uint8 t31 w K') w fun t32 =>
  quietT (fun K' => biT P .len #[T.sl_uint8] T.int [false] [t32] w K') w fun t33 =>
  quietT (fun K' => binT P .add T.int (.tmp 23) (.tmp 33) t23 t33 w K') w fun t34 =>
  quietT (fun K' => binT P .add T.int (.tmp 13) (.tmp 34) (gv x1 1) t34 w K') w fun t35 =>
  K3 [t12, t35] w) fun x3 w =>
  binT P .add T.int (.tmp 9) (.const (.int .i64 1)) (gv x1 2) (.int .i64 1) w fun t36 w =>
  K1 [(gv x3 0), (gv x3 1), t36] w
/-- (*winnow/disk.Disk).Used -/
def M.pdisk_Disk_Used (a0 : Value) (w : World) (K : KV) : Prop :=
  joinT (fun K0 =>
  fcallT P F.pdisk_Disk_Files [a0] w fun t7 w =>
  biT P .len #[T.sl_int] T.int [false] [t7] w fun t8 w =>
  loopT [undef, (.int .i64 0), (.int .i64 0)] w fun K1 x1 w =>
  binT P .lss T.int (.tmp 9) (.tmp 8) (gv x1 2) t8 w fun t10 w =>
  joinT (fun K2 =>
  condT t10 (
  K2 [] w) (
  K0 [t7, t8, (gv x1 2), (gv x1 0), (gv x1 1)] w)) fun x2 w =>
  M.pdisk_Disk_Used.j2 t7 x1 a0 K1 w K) fun x0 w =>
  K (gv x0 4) w
def M.pdisk_Disk_Used.L : List Nat := [0, 2, 3, 5, 9, 8, 7]
def M.pdisk_Disk_Used.pl : Nat → Plan := fun id => cond (Nat.beq id 5) ⟨(.go 0 (.go 1 (.go 2 (.go 3 (.go 4 (.go 5 (.go 6 (.go 7 (.go 8 (.go 9 (.go 10 (.go 11 (.go 12 (.go 13 (.go 14 (.go 15 (.go 16 (.go 17 (.go 18 (.go 19 (.go 20 (.go 21 (.go 22 (.eff 23 .nil .stop)))))))))))))))))))))))), [23], false⟩ (⟨.nil, [], false⟩)
theorem M.pdisk_Disk_Used.eq (a0 : Value) (w : World) (K : KV) : M.pdisk_Disk_Used a0 w K = den P M.pdisk_Disk_Used.L M.pdisk_Disk_Used.pl (Try.f33.body.getD .skip) (argE [a0]) w (bodyQ P Try.f33.results.toList K) := by kernel_rfl
theorem M.pdisk_Disk_Used.ok : okFn M.pdisk_Disk_Used.L M.pdisk_Disk_Used.pl Try.f33 (Try.f33.body.getD .skip) 1 = true := by kernel_rfl
theorem M.pdisk_Disk_Used.calls (a0 : Value) {w : World} {K : KV} (h : M.pdisk_Disk_Used a0 w K) : callT P F.pdisk_Disk_Used [a0] w K :=
  callT_of_den (by kernel_rfl) Try.func33 (by kernel_rfl) M.pdisk_Disk_Used.ok (M.pdisk_Disk_Used.eq a0 w K ▸ h)
theorem M.pdisk_Disk_Used.fcall (args : List Value) (w : World) (K : KV) : fcallT P F.pdisk_Disk_Used args w K = callT P F.pdisk_Disk_Used args w K := fcallT_eq Try.func33 (by kernel_rfl) (by kernel_rfl) args w K

/-- (*winnow/disk.Disk).Read -/
def M.pdisk_Disk_Read (a0 a1 : Value) (w : World) (K : KV) : Prop :=
  fcallT P F.pdisk_Disk_find [a0, a1] w fun t11 w =>
  exT P t11 0 w fun t12 w =>
  exT P t11 1 w fun t13 w =>
  joinT (fun K0 =>
  binT P .neq T.api_Kind (.tmp 14) (.const (.int .i64 0)) t13 (.int .i64 0) w fun t15 w =>
  condT t15 (
  K (.tuple #[(.slice none 0 0), t13]) w) (
  K0 [(.slice none 0 0), (.int .i64 0)] w)) fun x0 w =>
  fcallT P F.pdisk_file_all [t12] w fun t18 w =>
  K (.tuple #[t18, (.int .i64 0)]) w
def M.pdisk_Disk_Read.L : List Nat := [0, 1, 4, 5, 6, 7]
def M.pdisk_Disk_Read.pl : Nat → Plan := fun id => ⟨.nil, [], false⟩
theorem M.pdisk_Disk_Read.eq (a0 a1 : Value) (w : World) (K : KV) : M.pdisk_Disk_Read a0 a1 w K = den P M.pdisk_Disk_Read.L M.pdisk_Disk_Read.pl (Try.f34.body.getD .skip) (argE [a0, a1]) w (bodyQ P Try.f34.results.toList K) := by kernel_rfl
theorem M.pdisk_Disk_Read.ok : okFn M.pdisk_Disk_Read.L M.pdisk_Disk_Read.pl Try.f34 (Try.f34.body.getD .skip) 2 = true := by kernel_rfl
theorem M.pdisk_Disk_Read.calls (a0 a1 : Value) {w : World} {K : KV} (h : M.pdisk_Disk_Read a0 a1 w K) : callT P F.pdisk_Disk_Read [a0, a1] w K :=
  callT_of_den (by kernel_rfl) Try.func34 (by kernel_rfl) M.pdisk_Disk_Read.ok (M.pdisk_Disk_Read.eq a0 a1 w K ▸ h)
theorem M.pdisk_Disk_Read.fcall (args : List Value) (w : World) (K : KV) : fcallT P F.pdisk_Disk_Read args w K = callT P F.pdisk_Disk_Read args w K := fcallT_eq Try.func34 (by kernel_rfl) (by kernel_rfl) args w K

end Go.Proofs.Ytgcpljghnlohbaa
