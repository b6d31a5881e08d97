/-
  Printed by wip/Shallow.lean: functions of the program, read shallow; each is what its code does. No condition.
-/
import Derived.Test.YtgcpljghnlohbaaN
set_option maxRecDepth 1000000
namespace Go.Proofs.Ytgcpljghnlohbaa
open Go.Eng

def M.span_Right.j0 (t1 : Value) (w : World) (K : KV) : Prop :=
  drawT w fun w =>
  quietT (fun K' => faT P T.api_Span t1 5 w K') w fun t19 =>
  quietT (fun K' => ldT P T.string t19 w K') w fun t20 =>
  quietT (fun K' => faT P T.api_Span t1 6 w K') w fun t22 =>
  quietT (fun K' => ldT P T.string t22 w K') w fun t23 =>
  fcallT P F.span_Name [t20] w fun t21 w =>
  stabT (fun K' => ldT P T.string t22 w K') w t23 ∧ stabT (fun K' => faT P T.api_Span t1 6 w K') w t22 ∧ fcallT P F.span_Name [t23] w fun t24 w =>
  bsT P T.sl_api_Kind 2 #[(0, t21), (1, t24)] w fun t25 w =>
  fcallT P F.cmp_Or_api_Kind [t25] w fun t26 w =>
  K t26 w
/-- winnow/span.Right -/
def M.span_Right (a0 : Value) (w : World) (K : KV) : Prop :=
  boxT P T.api_Span a0 w fun t1 w =>
  joinT (fun K0 =>
  faT P T.api_Span t1 0 w fun t3 w =>
  ldT P T.uint64 t3 w fun t4 w =>
  binT P .eql T.uint64 (.tmp 4) (.const (.int .u64 0)) t4 (.int .u64 0) w fun t5 w =>
  guardT (isB t5 false) (fun K' => faT P T.api_Span t1 1 w K') w fun t7 w =>
  guardT (isB t5 false) (fun K' => ldT P T.uint64 t7 w K') w fun t8 w =>
  guardT (isB t5 false) (fun K' => binT P .eql T.uint64 (.tmp 8) (.const (.int .u64 0)) t8 (.int .u64 0) w K') w fun t9 w =>
  pickT t5 (.bool true) t9 w fun t10 w =>
  guardT (isB t10 false) (fun K' => faT P T.api_Span t1 3 w K') w fun t12 w =>
  guardT (isB t10 false) (fun K' => ldT P T.uint64 t12 w K') w fun t13 w =>
  guardT (isB t10 false) (fun K' => faT P T.api_Span t1 4 w K') w fun t14 w =>
  guardT (isB t10 false) (fun K' => ldT P T.uint64 t14 w K') w fun t15 w =>
  guardT (isB t10 false) (fun K' => biT P .max #[T.uint64, T.uint64] T.uint64 [false, false] [t13, t15] w K') w fun t16 w =>
  guardT (isB t10 false) (fun K' => binT P .gtr T.uint64 (.tmp 16) (.const (.int .u64 1099511627776)) t16 (.int .u64 1099511627776) w K') w fun t17 w =>
  pickT t10 (.bool true) t17 w fun t18 w =>
  condT t18 (
  K (.int .i64 1) w) (
  K0 [(.int .i64 0)] w)) fun x0 w =>
  M.span_Right.j0 t1 w K
def M.span_Right.L : List Nat := [0, 2, 1]
def M.span_Right.pl : Nat → Plan := fun id => cond (Nat.beq id 3) ⟨(.go 0 (.go 1 (.go 3 (.go 4 (.eff 2 (.eff 5 (.eff 6 (.eff 7 (.eff 8 .nil .stop) .stop) .stop) .stop) .stop))))), [2, 5, 6, 7, 8], false⟩ (⟨.nil, [], false⟩)
theorem M.span_Right.eq (a0 : Value) (w : World) (K : KV) : M.span_Right a0 w K = den P M.span_Right.L M.span_Right.pl (Try.f57.body.getD .skip) (argE [a0]) w (bodyQ P Try.f57.results.toList K) := by kernel_rfl
theorem M.span_Right.ok : okFn M.span_Right.L M.span_Right.pl Try.f57 (Try.f57.body.getD .skip) 1 = true := by kernel_rfl
theorem M.span_Right.calls (a0 : Value) {w : World} {K : KV} (h : M.span_Right a0 w K) : callT P F.span_Right [a0] w K :=
  callT_of_den (by kernel_rfl) Try.func57 (by kernel_rfl) M.span_Right.ok (M.span_Right.eq a0 w K ▸ h)
theorem M.span_Right.fcall (args : List Value) (w : World) (K : KV) : fcallT P F.span_Right args w K = callT P F.span_Right args w K := fcallT_eq Try.func57 (by kernel_rfl) (by kernel_rfl) args w K
theorem M.span_Right.rcall (a c args : List Value) (w : World) (K : KV) : callRT P (.func (.func F.span_Right) a.toArray c.toArray) args w K = callT P F.span_Right (a ++ args ++ c) w K := callR_fn Try.func57 (by kernel_rfl) (by kernel_rfl) a c args w K

def M.ptimers_Heap_Set.j1 (a1 : Value) (a2 : Value) (a0 : Value) (w : World) (K : KV) : Prop :=
  bldT P T.timers_item #[(0, a1), (1, a2)] w fun t47 w =>
  boxT P T.timers_item t47 w fun t48 w =>
  nilT a0 w fun t50 w =>
  faT P T.timers_Heap t50 1 w fun t51 w =>
  ldT P T.map_uint64_p_timers_item t51 w fun t52 w =>
  muT P T.map_uint64_p_timers_item t52 a1 t48 w fun _ w =>
  nilT a0 w fun t56 w =>
  faT P T.timers_Heap t56 0 w fun t57 w =>
  mkiT P T.p_timers_line t57 w fun t58 w =>
  mkiT P T.p_timers_item t48 w fun t60 w =>
  fcallT P F.heap_Push [t58, t60] w fun t61 w =>
  K (.tuple #[]) w
def M.ptimers_Heap_Set.j0 (a0 : Value) (a1 : Value) (a2 : Value) (w : World) (K : KV) : Prop :=
  joinT (fun K1 =>
  nilT a0 w fun t24 w =>
  faT P T.timers_Heap t24 1 w fun t25 w =>
  ldT P T.map_uint64_p_timers_item t25 w fun t26 w =>
  luT P T.map_uint64_p_timers_item t26 a1 true w fun t28 w =>
  exT P t28 0 w fun t29 w =>
  exT P t28 1 w fun t30 w =>
  condT t30 (
  nilT t29 w fun t34 w =>
  faT P T.timers_item t34 1 w fun t35 w =>
  stT P T.uint64 t35 a2 w fun _ w =>
  drawT w fun w =>
  w = w ∧ quietT (fun K' => nilT a0 w K') w fun t37 =>
  quietT (fun K' => faT P T.timers_Heap t37 0 w K') w fun t38 =>
  quietT (fun K' => mkiT P T.p_timers_line t38 w K') w fun t39 =>
  w = w ∧ quietT (fun K' => nilT t29 w K') w fun t41 =>
  quietT (fun K' => faT P T.timers_item t41 2 w K') w fun t42 =>
  quietT (fun K' => ldT P T.int t42 w K') w fun t43 =>
  fcallT P F.heap_Fix [t39, t43] w fun t44 w =>
  K (.tuple #[]) w) (
  K1 [t29, t30] w)) fun x1 w =>
  M.ptimers_Heap_Set.j1 a1 a2 a0 w K
/-- (*winnow/timers.Heap).Set -/
def M.ptimers_Heap_Set (a0 a1 a2 : Value) (w : World) (K : KV) : Prop :=
  joinT (fun K0 =>
  binT P .eql T.p_timers_Heap (.tmp 10) (.const (.pointer none)) a0 (.pointer none) w fun t11 w =>
  condT t11 (
  K (.tuple #[]) w) (
  nilT a0 w fun t14 w =>
  faT P T.timers_Heap t14 1 w fun t15 w =>
  ldT P T.map_uint64_p_timers_item t15 w fun t16 w =>
  binT P .eql T.map_uint64_p_timers_item (.tmp 16) (.const (.map none)) t16 (.map none) w fun t17 w =>
  condT t17 (
  mkmT P T.map_uint64_p_timers_item none w fun t19 w =>
  nilT a0 w fun t20 w =>
  faT P T.timers_Heap t20 1 w fun t21 w =>
  stT P T.map_uint64_p_timers_item t21 t19 w fun _ w =>
  K0 [t11, t17] w) (
  K0 [t11, t17] w))) fun x0 w =>
  M.ptimers_Heap_Set.j0 a0 a1 a2 w K
def M.ptimers_Heap_Set.L : List Nat := [0, 1, 2, 9, 12, 6, 7, 8]
def M.ptimers_Heap_Set.pl : Nat → Plan := fun id => cond (Nat.beq id 6) ⟨(.go 0 (.go 1 (.go 2 (.go 3 (.go 4 (.go 5 (.go 6 (.go 7 (.eff 8 .nil .stop))))))))), [8], false⟩ (⟨.nil, [], false⟩)
theorem M.ptimers_Heap_Set.eq (a0 a1 a2 : Value) (w : World) (K : KV) : M.ptimers_Heap_Set a0 a1 a2 w K = den P M.ptimers_Heap_Set.L M.ptimers_Heap_Set.pl (Try.f58.body.getD .skip) (argE [a0, a1, a2]) w (bodyQ P Try.f58.results.toList K) := by kernel_rfl
theorem M.ptimers_Heap_Set.ok : okFn M.ptimers_Heap_Set.L M.ptimers_Heap_Set.pl Try.f58 (Try.f58.body.getD .skip) 3 = true := by kernel_rfl
theorem M.ptimers_Heap_Set.calls (a0 a1 a2 : Value) {w : World} {K : KV} (h : M.ptimers_Heap_Set a0 a1 a2 w K) : callT P F.ptimers_Heap_Set [a0, a1, a2] w K :=
  callT_of_den (by kernel_rfl) Try.func58 (by kernel_rfl) M.ptimers_Heap_Set.ok (M.ptimers_Heap_Set.eq a0 a1 a2 w K ▸ h)
theorem M.ptimers_Heap_Set.fcall (args : List Value) (w : World) (K : KV) : fcallT P F.ptimers_Heap_Set args w K = callT P F.ptimers_Heap_Set args w K := fcallT_eq Try.func58 (by kernel_rfl) (by kernel_rfl) args w K
theorem M.ptimers_Heap_Set.rcall (a c args : List Value) (w : World) (K : KV) : callRT P (.func (.func F.ptimers_Heap_Set) a.toArray c.toArray) args w K = callT P F.ptimers_Heap_Set (a ++ args ++ c) w K := callR_fn Try.func58 (by kernel_rfl) (by kernel_rfl) a c args w K

/-- slices.ContainsFunc[[]winnow/api.Span,winnow/api.Span] -/
def M.slices_ContainsFunc_api_Span_api_Span (a0 a1 : Value) (w : World) (K : KV) : Prop :=
  fcallT P F.slices_IndexFunc_api_Span_api_Span [a0, a1] w fun t7 w =>
  binT P .geq T.int (.tmp 7) (.const (.int .i64 0)) t7 (.int .i64 0) w fun t8 w =>
  K t8 w
def M.slices_ContainsFunc_api_Span_api_Span.L : List Nat := [0, 1, 4]
def M.slices_ContainsFunc_api_Span_api_Span.pl : Nat → Plan := fun id => ⟨.nil, [], false⟩
theorem M.slices_ContainsFunc_api_Span_api_Span.eq (a0 a1 : Value) (w : World) (K : KV) : M.slices_ContainsFunc_api_Span_api_Span a0 a1 w K = den P M.slices_ContainsFunc_api_Span_api_Span.L M.slices_ContainsFunc_api_Span_api_Span.pl (Try.f59.body.getD .skip) (argE [a0, a1]) w (bodyQ P Try.f59.results.toList K) := by kernel_rfl
theorem M.slices_ContainsFunc_api_Span_api_Span.ok : okFn M.slices_ContainsFunc_api_Span_api_Span.L M.slices_ContainsFunc_api_Span_api_Span.pl Try.f59 (Try.f59.body.getD .skip) 2 = true := by kernel_rfl
theorem M.slices_ContainsFunc_api_Span_api_Span.calls (a0 a1 : Value) {w : World} {K : KV} (h : M.slices_ContainsFunc_api_Span_api_Span a0 a1 w K) : callT P F.slices_ContainsFunc_api_Span_api_Span [a0, a1] w K :=
  callT_of_den (by kernel_rfl) Try.func59 (by kernel_rfl) M.slices_ContainsFunc_api_Span_api_Span.ok (M.slices_ContainsFunc_api_Span_api_Span.eq a0 a1 w K ▸ h)
theorem M.slices_ContainsFunc_api_Span_api_Span.fcall (args : List Value) (w : World) (K : KV) : fcallT P F.slices_ContainsFunc_api_Span_api_Span args w K = callT P F.slices_ContainsFunc_api_Span_api_Span args w K := fcallT_eq Try.func59 (by kernel_rfl) (by kernel_rfl) args w K
theorem M.slices_ContainsFunc_api_Span_api_Span.rcall (a c args : List Value) (w : World) (K : KV) : callRT P (.func (.func F.slices_ContainsFunc_api_Span_api_Span) a.toArray c.toArray) args w K = callT P F.slices_ContainsFunc_api_Span_api_Span (a ++ args ++ c) w K := callR_fn Try.func59 (by kernel_rfl) (by kernel_rfl) a c args w K

/-- (*winnow/buffer.Buffer).Put$1 -/
def M.pbuffer_Buffer_Put_1 (a0 a1 : Value) (w : World) (K : KV) : Prop :=
  boxT P T.api_Span a0 w fun t2 w =>
  faT P T.api_Span t2 1 w fun t4 w =>
  ldT P T.uint64 t4 w fun t5 w =>
  faT P T.api_Span a1 1 w fun t6 w =>
  ldT P T.uint64 t6 w fun t7 w =>
  binT P .eql T.uint64 (.tmp 5) (.tmp 7) t5 t7 w fun t8 w =>
  K t8 w
def M.pbuffer_Buffer_Put_1.L : List Nat := [0, 1, 3]
def M.pbuffer_Buffer_Put_1.pl : Nat → Plan := fun id => ⟨.nil, [], false⟩
theorem M.pbuffer_Buffer_Put_1.eq (a0 a1 : Value) (w : World) (K : KV) : M.pbuffer_Buffer_Put_1 a0 a1 w K = den P M.pbuffer_Buffer_Put_1.L M.pbuffer_Buffer_Put_1.pl (Try.f60.body.getD .skip) (argE [a0, a1]) w (bodyQ P Try.f60.results.toList K) := by kernel_rfl
theorem M.pbuffer_Buffer_Put_1.ok : okFn M.pbuffer_Buffer_Put_1.L M.pbuffer_Buffer_Put_1.pl Try.f60 (Try.f60.body.getD .skip) 2 = true := by kernel_rfl
theorem M.pbuffer_Buffer_Put_1.calls (a0 a1 : Value) {w : World} {K : KV} (h : M.pbuffer_Buffer_Put_1 a0 a1 w K) : callT P F.pbuffer_Buffer_Put_1 [a0, a1] w K :=
  callT_of_den (by kernel_rfl) Try.func60 (by kernel_rfl) M.pbuffer_Buffer_Put_1.ok (M.pbuffer_Buffer_Put_1.eq a0 a1 w K ▸ h)
theorem M.pbuffer_Buffer_Put_1.fcall (args : List Value) (w : World) (K : KV) : fcallT P F.pbuffer_Buffer_Put_1 args w K = callT P F.pbuffer_Buffer_Put_1 args w K := fcallT_eq Try.func60 (by kernel_rfl) (by kernel_rfl) args w K
theorem M.pbuffer_Buffer_Put_1.rcall (a c args : List Value) (w : World) (K : KV) : callRT P (.func (.func F.pbuffer_Buffer_Put_1) a.toArray c.toArray) args w K = callT P F.pbuffer_Buffer_Put_1 (a ++ args ++ c) w K := callR_fn Try.func60 (by kernel_rfl) (by kernel_rfl) a c args w K

def M.ptimers_Heap_At.j0 (a0 : Value) (a1 : Value) (w : World) (K : KV) : Prop :=
  nilT a0 w fun t18 w =>
  faT P T.timers_Heap t18 1 w fun t19 w =>
  ldT P T.map_uint64_p_timers_item t19 w fun t20 w =>
  luT P T.map_uint64_p_timers_item t20 a1 false w fun t22 w =>
  nilT t22 w fun t23 w =>
  faT P T.timers_item t23 1 w fun t24 w =>
  ldT P T.uint64 t24 w fun t25 w =>
  K (.tuple #[t25, (.bool true)]) w
/-- (*winnow/timers.Heap).At -/
def M.ptimers_Heap_At (a0 a1 : Value) (w : World) (K : KV) : Prop :=
  joinT (fun K0 =>
  binT P .eql T.p_timers_Heap (.tmp 6) (.const (.pointer none)) a0 (.pointer none) w fun t7 w =>
  guardT (isB t7 false) (fun K' => K' a0 w) w fun t9 w =>
  guardT (isB t7 false) (fun K' => nilT t9 w K') w fun t10 w =>
  guardT (isB t7 false) (fun K' => faT P T.timers_Heap t10 1 w K') w fun t11 w =>
  guardT (isB t7 false) (fun K' => ldT P T.map_uint64_p_timers_item t11 w K') w fun t12 w =>
  guardT (isB t7 false) (fun K' => K' a1 w) w fun t13 w =>
  guardT (isB t7 false) (fun K' => luT P T.map_uint64_p_timers_item t12 t13 false w K') w fun t14 w =>
  guardT (isB t7 false) (fun K' => binT P .eql T.p_timers_item (.tmp 14) (.const (.pointer none)) t14 (.pointer none) w K') w fun t15 w =>
  pickT t7 (.bool true) t15 w fun t16 w =>
  condT t16 (
  K (.tuple #[(.int .u64 0), (.bool false)]) w) (
  K0 [(.int .u64 0), (.bool false)] w)) fun x0 w =>
  M.ptimers_Heap_At.j0 a0 a1 w K
def M.ptimers_Heap_At.L : List Nat := [0, 1, 4, 5]
def M.ptimers_Heap_At.pl : Nat → Plan := fun id => ⟨.nil, [], false⟩
theorem M.ptimers_Heap_At.eq (a0 a1 : Value) (w : World) (K : KV) : M.ptimers_Heap_At a0 a1 w K = den P M.ptimers_Heap_At.L M.ptimers_Heap_At.pl (Try.f61.body.getD .skip) (argE [a0, a1]) w (bodyQ P Try.f61.results.toList K) := by kernel_rfl
theorem M.ptimers_Heap_At.ok : okFn M.ptimers_Heap_At.L M.ptimers_Heap_At.pl Try.f61 (Try.f61.body.getD .skip) 2 = true := by kernel_rfl
theorem M.ptimers_Heap_At.calls (a0 a1 : Value) {w : World} {K : KV} (h : M.ptimers_Heap_At a0 a1 w K) : callT P F.ptimers_Heap_At [a0, a1] w K :=
  callT_of_den (by kernel_rfl) Try.func61 (by kernel_rfl) M.ptimers_Heap_At.ok (M.ptimers_Heap_At.eq a0 a1 w K ▸ h)
theorem M.ptimers_Heap_At.fcall (args : List Value) (w : World) (K : KV) : fcallT P F.ptimers_Heap_At args w K = callT P F.ptimers_Heap_At args w K := fcallT_eq Try.func61 (by kernel_rfl) (by kernel_rfl) args w K
theorem M.ptimers_Heap_At.rcall (a c args : List Value) (w : World) (K : KV) : callRT P (.func (.func F.ptimers_Heap_At) a.toArray c.toArray) args w K = callT P F.ptimers_Heap_At (a ++ args ++ c) w K := callR_fn Try.func61 (by kernel_rfl) (by kernel_rfl) a c args w K

def M.ptimers_Heap_Pop.j0 (a0 : Value) (a1 : Value) (x0 : List Value) (K0 : KL) (w : World) (K : KV) : Prop :=
  fcallT P F.ptimers_Heap_Next [a0] w fun t10 w =>
  exT P t10 0 w fun t11 w =>
  exT P t10 1 w fun t12 w =>
  exT P t10 2 w fun t13 w =>
  joinT (fun K1 =>
  unT P .not t13 w fun t15 w =>
  guardT (isB t15 false) (fun K' => K' t12 w) w fun t17 w =>
  guardT (isB t15 false) (fun K' => K' a1 w) w fun t18 w =>
  guardT (isB t15 false) (fun K' => binT P .gtr T.uint64 (.tmp 17) (.tmp 18) t17 t18 w K') w fun t19 w =>
  pickT t15 (.bool true) t19 w fun t20 w =>
  condT t20 (
  K (gv x0 3) w) (
  K1 [(gv x0 3)] w)) fun x1 w =>
  bsT P T.sl_uint64 1 #[(0, t11)] w fun t24 w =>
  biT P .append #[T.sl_uint64, T.sl_uint64] T.sl_uint64 [false, false] [(gv x1 0), t24] w fun t25 w =>
  fcallT P F.ptimers_Heap_Del [a0, t11] w fun t28 w =>
  K0 [t11, t12, t13, t25] w
/-- (*winnow/timers.Heap).Pop -/
def M.ptimers_Heap_Pop (a0 a1 : Value) (w : World) (K : KV) : Prop :=
  loopT [undef, undef, undef, (.slice none 0 0)] w fun K0 x0 w =>
  M.ptimers_Heap_Pop.j0 a0 a1 x0 K0 w K
def M.ptimers_Heap_Pop.L : List Nat := [0, 1, 4, 5, 6, 7]
def M.ptimers_Heap_Pop.pl : Nat → Plan := fun id => ⟨.nil, [], false⟩
theorem M.ptimers_Heap_Pop.eq (a0 a1 : Value) (w : World) (K : KV) : M.ptimers_Heap_Pop a0 a1 w K = den P M.ptimers_Heap_Pop.L M.ptimers_Heap_Pop.pl (Try.f62.body.getD .skip) (argE [a0, a1]) w (bodyQ P Try.f62.results.toList K) := by kernel_rfl
theorem M.ptimers_Heap_Pop.ok : okFn M.ptimers_Heap_Pop.L M.ptimers_Heap_Pop.pl Try.f62 (Try.f62.body.getD .skip) 2 = true := by kernel_rfl
theorem M.ptimers_Heap_Pop.calls (a0 a1 : Value) {w : World} {K : KV} (h : M.ptimers_Heap_Pop a0 a1 w K) : callT P F.ptimers_Heap_Pop [a0, a1] w K :=
  callT_of_den (by kernel_rfl) Try.func62 (by kernel_rfl) M.ptimers_Heap_Pop.ok (M.ptimers_Heap_Pop.eq a0 a1 w K ▸ h)
theorem M.ptimers_Heap_Pop.fcall (args : List Value) (w : World) (K : KV) : fcallT P F.ptimers_Heap_Pop args w K = callT P F.ptimers_Heap_Pop args w K := fcallT_eq Try.func62 (by kernel_rfl) (by kernel_rfl) args w K
theorem M.ptimers_Heap_Pop.rcall (a c args : List Value) (w : World) (K : KV) : callRT P (.func (.func F.ptimers_Heap_Pop) a.toArray c.toArray) args w K = callT P F.ptimers_Heap_Pop (a ++ args ++ c) w K := callR_fn Try.func62 (by kernel_rfl) (by kernel_rfl) a c args w K

/-- slices.Clone[[]winnow/api.Span,winnow/api.Span] -/
def M.slices_Clone_api_Span_api_Span (a0 : Value) (w : World) (K : KV) : Prop :=
  joinT (fun K0 =>
  binT P .eql T.sl_api_Span (.tmp 3) (.const (.slice none 0 0)) a0 (.slice none 0 0) w fun t4 w =>
  condT t4 (
  K (.slice none 0 0) w) (
  K0 [(.slice none 0 0)] w)) fun x0 w =>
  bsT P T.sl_api_Span 0 #[] w fun t5 w =>
  biT P .append #[T.sl_api_Span, T.sl_api_Span] T.sl_api_Span [false, false] [t5, a0] w fun t7 w =>
  K t7 w
def M.slices_Clone_api_Span_api_Span.L : List Nat := [0, 2]
def M.slices_Clone_api_Span_api_Span.pl : Nat → Plan := fun id => ⟨.nil, [], false⟩
theorem M.slices_Clone_api_Span_api_Span.eq (a0 : Value) (w : World) (K : KV) : M.slices_Clone_api_Span_api_Span a0 w K = den P M.slices_Clone_api_Span_api_Span.L M.slices_Clone_api_Span_api_Span.pl (Try.f63.body.getD .skip) (argE [a0]) w (bodyQ P Try.f63.results.toList K) := by kernel_rfl
theorem M.slices_Clone_api_Span_api_Span.ok : okFn M.slices_Clone_api_Span_api_Span.L M.slices_Clone_api_Span_api_Span.pl Try.f63 (Try.f63.body.getD .skip) 1 = true := by kernel_rfl
theorem M.slices_Clone_api_Span_api_Span.calls (a0 : Value) {w : World} {K : KV} (h : M.slices_Clone_api_Span_api_Span a0 w K) : callT P F.slices_Clone_api_Span_api_Span [a0] w K :=
  callT_of_den (by kernel_rfl) Try.func63 (by kernel_rfl) M.slices_Clone_api_Span_api_Span.ok (M.slices_Clone_api_Span_api_Span.eq a0 w K ▸ h)
theorem M.slices_Clone_api_Span_api_Span.fcall (args : List Value) (w : World) (K : KV) : fcallT P F.slices_Clone_api_Span_api_Span args w K = callT P F.slices_Clone_api_Span_api_Span args w K := fcallT_eq Try.func63 (by kernel_rfl) (by kernel_rfl) args w K
theorem M.slices_Clone_api_Span_api_Span.rcall (a c args : List Value) (w : World) (K : KV) : callRT P (.func (.func F.slices_Clone_api_Span_api_Span) a.toArray c.toArray) args w K = callT P F.slices_Clone_api_Span_api_Span (a ++ args ++ c) w K := callR_fn Try.func63 (by kernel_rfl) (by kernel_rfl) a c args w K

def M.winnowref03_Name.j3 (t17 : Value) (x2 : List Value) (K2 : KL) (w : World) (K : KV) : Prop :=
  joinT (fun K4 =>
  iaT P T.sl_int32 t17 (gv x2 1) w fun t27 w =>
  ldT P T.int32 t27 w fun t28 w =>
  binT P .lss T.int32 (.tmp 28) (.const (.int .i32 32)) t28 (.int .i32 32) w fun t29 w =>
  guardT (isB t29 false) (fun K' => K' t17 w) w fun t31 w =>
  guardT (isB t29 false) (fun K' => K' (gv x2 1) w) w fun t32 w =>
  guardT (isB t29 false) (fun K' => iaT P T.sl_int32 t31 t32 w K') w fun t33 w =>
  guardT (isB t29 false) (fun K' => ldT P T.int32 t33 w K') w fun t34 w =>
  guardT (isB t29 false) (fun K' => binT P .geq T.int32 (.tmp 34) (.const (.int .i32 127)) t34 (.int .i32 127) w K') w fun t35 w =>
  guardT (isB t29 false) (fun K' => K' t35 w) w fun t36 w =>
  guardT (isB t36 true) (fun K' => K' t17 w) w fun t37 w =>
  guardT (isB t36 true) (fun K' => K' (gv x2 1) w) w fun t38 w =>
  guardT (isB t36 true) (fun K' => iaT P T.sl_int32 t37 t38 w K') w fun t39 w =>
  guardT (isB t36 true) (fun K' => ldT P T.int32 t39 w K') w fun t40 w =>
  guardT (isB t36 true) (fun K' => binT P .leq T.int32 (.tmp 40) (.const (.int .i32 159)) t40 (.int .i32 159) w K') w fun t41 w =>
  guardT (isB t29 false) (fun K' => pickT t36 t41 (.bool false) w K') w fun t42 w =>
  pickT t29 (.bool true) t42 w fun t43 w =>
  condT t43 (
  K (.int .i64 5) w) (
  K4 [(gv x2 0)] w)) fun x4 w =>
  binT P .add T.int (.tmp 23) (.const (.int .i64 1)) (gv x2 1) (.int .i64 1) w fun t24 w =>
  K2 [(gv x4 0), t24] w
def M.winnowref03_Name.j0 (a0 : Value) (x0 : List Value) (w : World) (K : KV) : Prop :=
  fcallT P F.winnowref03_Runes [a0] w fun t16 w =>
  exT P t16 0 w fun t17 w =>
  exT P t16 1 w fun t18 w =>
  joinT (fun K1 =>
  loopT [(gv x0 0), (.int .i64 0)] w fun K2 x2 w =>
  joinT (fun K3 =>
  biT P .len #[T.sl_int32] T.int [false] [t17] w fun t21 w =>
  binT P .lss T.int (.tmp 19) (.tmp 21) (gv x2 1) t21 w fun t22 w =>
  condT t22 (
  K3 [] w) (
  K1 [(gv x2 1), (gv x2 0)] w)) fun x3 w =>
  M.winnowref03_Name.j3 t17 x2 K2 w K) fun x1 w =>
  joinT (fun K5 =>
  unT P .not t18 w fun t45 w =>
  condT t45 (
  K (.int .i64 5) w) (
  K5 [(gv x1 1)] w)) fun x5 w =>
  K (.int .i64 0) w
/-- winnow/winnowref03.Name -/
def M.winnowref03_Name (a0 : Value) (w : World) (K : KV) : Prop :=
  joinT (fun K0 =>
  biT P .len #[T.string] T.int [false] [a0] w fun t7 w =>
  binT P .lss T.int (.tmp 7) (.const (.int .i64 1)) t7 (.int .i64 1) w fun t8 w =>
  guardT (isB t8 false) (fun K' => K' a0 w) w fun t10 w =>
  guardT (isB t8 false) (fun K' => biT P .len #[T.string] T.int [false] [t10] w K') w fun t11 w =>
  guardT (isB t8 false) (fun K' => binT P .gtr T.int (.tmp 11) (.const (.int .i64 32)) t11 (.int .i64 32) w K') w fun t12 w =>
  pickT t8 (.bool true) t12 w fun t13 w =>
  condT t13 (
  K (.int .i64 5) w) (
  K0 [(.int .i64 0)] w)) fun x0 w =>
  M.winnowref03_Name.j0 a0 x0 w K
def M.winnowref03_Name.L : List Nat := [0, 2, 3, 4, 5]
def M.winnowref03_Name.pl : Nat → Plan := fun id => ⟨.nil, [], false⟩
theorem M.winnowref03_Name.eq (a0 : Value) (w : World) (K : KV) : M.winnowref03_Name a0 w K = den P M.winnowref03_Name.L M.winnowref03_Name.pl (Try.f64.body.getD .skip) (argE [a0]) w (bodyQ P Try.f64.results.toList K) := by kernel_rfl
theorem M.winnowref03_Name.ok : okFn M.winnowref03_Name.L M.winnowref03_Name.pl Try.f64 (Try.f64.body.getD .skip) 1 = true := by kernel_rfl
theorem M.winnowref03_Name.calls (a0 : Value) {w : World} {K : KV} (h : M.winnowref03_Name a0 w K) : callT P F.winnowref03_Name [a0] w K :=
  callT_of_den (by kernel_rfl) Try.func64 (by kernel_rfl) M.winnowref03_Name.ok (M.winnowref03_Name.eq a0 w K ▸ h)
theorem M.winnowref03_Name.fcall (args : List Value) (w : World) (K : KV) : fcallT P F.winnowref03_Name args w K = callT P F.winnowref03_Name args w K := fcallT_eq Try.func64 (by kernel_rfl) (by kernel_rfl) args w K
theorem M.winnowref03_Name.rcall (a c args : List Value) (w : World) (K : KV) : callRT P (.func (.func F.winnowref03_Name) a.toArray c.toArray) args w K = callT P F.winnowref03_Name (a ++ args ++ c) w K := callR_fn Try.func64 (by kernel_rfl) (by kernel_rfl) a c args w K

def M.ptimers_Heap_Del.j0 (a0 : Value) (a1 : Value) (w : World) (K : KV) : Prop :=
  drawT w fun w =>
  w = w ∧ quietT (fun K' => nilT a0 w K') w fun t17 =>
  quietT (fun K' => faT P T.timers_Heap t17 0 w K') w fun t18 =>
  quietT (fun K' => mkiT P T.p_timers_line t18 w K') w fun t19 =>
  w = w ∧ quietT (fun K' => nilT a0 w K') w fun t21 =>
  quietT (fun K' => faT P T.timers_Heap t21 1 w K') w fun t22 =>
  quietT (fun K' => ldT P T.map_uint64_p_timers_item t22 w K') w fun t23 =>
  w = w ∧ quietT (fun K' => luT P T.map_uint64_p_timers_item t23 a1 false w K') w fun t25 =>
  quietT (fun K' => nilT t25 w K') w fun t26 =>
  quietT (fun K' => faT P T.timers_item t26 2 w K') w fun t27 =>
  quietT (fun K' => ldT P T.int t27 w K') w fun t28 =>
  fcallT P F.heap_Remove [t19, t28] w fun t29 w =>
  nilT a0 w fun t31 w =>
  faT P T.timers_Heap t31 1 w fun t32 w =>
  ldT P T.map_uint64_p_timers_item t32 w fun t33 w =>
  biT P .delete #[T.map_uint64_p_timers_item, T.uint64] T._ [false, false] [t33, a1] w fun _ w =>
  K (.bool true) w
/-- (*winnow/timers.Heap).Del -/
def M.ptimers_Heap_Del (a0 a1 : Value) (w : World) (K : KV) : Prop :=
  joinT (fun K0 =>
  binT P .eql T.p_timers_Heap (.tmp 5) (.const (.pointer none)) a0 (.pointer none) w fun t6 w =>
  guardT (isB t6 false) (fun K' => K' a0 w) w fun t8 w =>
  guardT (isB t6 false) (fun K' => nilT t8 w K') w fun t9 w =>
  guardT (isB t6 false) (fun K' => faT P T.timers_Heap t9 1 w K') w fun t10 w =>
  guardT (isB t6 false) (fun K' => ldT P T.map_uint64_p_timers_item t10 w K') w fun t11 w =>
  guardT (isB t6 false) (fun K' => K' a1 w) w fun t12 w =>
  guardT (isB t6 false) (fun K' => luT P T.map_uint64_p_timers_item t11 t12 false w K') w fun t13 w =>
  guardT (isB t6 false) (fun K' => binT P .eql T.p_timers_item (.tmp 13) (.const (.pointer none)) t13 (.pointer none) w K') w fun t14 w =>
  pickT t6 (.bool true) t14 w fun t15 w =>
  condT t15 (
  K (.bool false) w) (
  K0 [(.bool false)] w)) fun x0 w =>
  M.ptimers_Heap_Del.j0 a0 a1 w K
def M.ptimers_Heap_Del.L : List Nat := [0, 1, 4]
def M.ptimers_Heap_Del.pl : Nat → Plan := fun id => cond (Nat.beq id 3) ⟨(.go 0 (.go 1 (.go 2 (.go 3 (.go 4 (.go 5 (.go 6 (.go 7 (.go 8 (.go 9 (.go 10 (.go 11 (.go 12 (.eff 13 .nil .stop)))))))))))))), [13], false⟩ (⟨.nil, [], false⟩)
theorem M.ptimers_Heap_Del.eq (a0 a1 : Value) (w : World) (K : KV) : M.ptimers_Heap_Del a0 a1 w K = den P M.ptimers_Heap_Del.L M.ptimers_Heap_Del.pl (Try.f65.body.getD .skip) (argE [a0, a1]) w (bodyQ P Try.f65.results.toList K) := by kernel_rfl
theorem M.ptimers_Heap_Del.ok : okFn M.ptimers_Heap_Del.L M.ptimers_Heap_Del.pl Try.f65 (Try.f65.body.getD .skip) 2 = true := by kernel_rfl
theorem M.ptimers_Heap_Del.calls (a0 a1 : Value) {w : World} {K : KV} (h : M.ptimers_Heap_Del a0 a1 w K) : callT P F.ptimers_Heap_Del [a0, a1] w K :=
  callT_of_den (by kernel_rfl) Try.func65 (by kernel_rfl) M.ptimers_Heap_Del.ok (M.ptimers_Heap_Del.eq a0 a1 w K ▸ h)
theorem M.ptimers_Heap_Del.fcall (args : List Value) (w : World) (K : KV) : fcallT P F.ptimers_Heap_Del args w K = callT P F.ptimers_Heap_Del args w K := fcallT_eq Try.func65 (by kernel_rfl) (by kernel_rfl) args w K
theorem M.ptimers_Heap_Del.rcall (a c args : List Value) (w : World) (K : KV) : callRT P (.func (.func F.ptimers_Heap_Del) a.toArray c.toArray) args w K = callT P F.ptimers_Heap_Del (a ++ args ++ c) w K := callR_fn Try.func65 (by kernel_rfl) (by kernel_rfl) a c args w K

/-- slices.Sorted[uint64] -/
def M.slices_Sorted_uint64 (a0 : Value) (w : World) (K : KV) : Prop :=
  fcallT P F.slices_Collect_uint64 [a0] w fun t5 w =>
  fcallT P F.slices_Sort_uint64_uint64 [t5] w fun t7 w =>
  K t5 w
def M.slices_Sorted_uint64.L : List Nat := [0, 2, 3]
def M.slices_Sorted_uint64.pl : Nat → Plan := fun id => ⟨.nil, [], false⟩
theorem M.slices_Sorted_uint64.eq (a0 : Value) (w : World) (K : KV) : M.slices_Sorted_uint64 a0 w K = den P M.slices_Sorted_uint64.L M.slices_Sorted_uint64.pl (Try.f81.body.getD .skip) (argE [a0]) w (bodyQ P Try.f81.results.toList K) := by kernel_rfl
theorem M.slices_Sorted_uint64.ok : okFn M.slices_Sorted_uint64.L M.slices_Sorted_uint64.pl Try.f81 (Try.f81.body.getD .skip) 1 = true := by kernel_rfl
theorem M.slices_Sorted_uint64.calls (a0 : Value) {w : World} {K : KV} (h : M.slices_Sorted_uint64 a0 w K) : callT P F.slices_Sorted_uint64 [a0] w K :=
  callT_of_den (by kernel_rfl) Try.func81 (by kernel_rfl) M.slices_Sorted_uint64.ok (M.slices_Sorted_uint64.eq a0 w K ▸ h)
theorem M.slices_Sorted_uint64.fcall (args : List Value) (w : World) (K : KV) : fcallT P F.slices_Sorted_uint64 args w K = callT P F.slices_Sorted_uint64 args w K := fcallT_eq Try.func81 (by kernel_rfl) (by kernel_rfl) args w K
theorem M.slices_Sorted_uint64.rcall (a c args : List Value) (w : World) (K : KV) : callRT P (.func (.func F.slices_Sorted_uint64) a.toArray c.toArray) args w K = callT P F.slices_Sorted_uint64 (a ++ args ++ c) w K := callR_fn Try.func81 (by kernel_rfl) (by kernel_rfl) a c args w K

/-- maps.Keys[map[uint64]*winnow/buffer.entry,uint64,*winnow/buffer.entry] -/
def M.maps_Keys_map_uint64_buffer_entry_uint64_buffer_entry (a0 : Value) (w : World) (K : KV) : Prop :=
  boxT P T.map_uint64_p_buffer_entry a0 w fun t1 w =>
  mkfT P (.func F.maps_Keys_map_uint64_buffer_entry_uint64_buffer_entry_1) [] [t1] w fun t3 w =>
  K t3 w
def M.maps_Keys_map_uint64_buffer_entry_uint64_buffer_entry.L : List Nat := [0, 2]
def M.maps_Keys_map_uint64_buffer_entry_uint64_buffer_entry.pl : Nat → Plan := fun id => ⟨.nil, [], false⟩
theorem M.maps_Keys_map_uint64_buffer_entry_uint64_buffer_entry.eq (a0 : Value) (w : World) (K : KV) : M.maps_Keys_map_uint64_buffer_entry_uint64_buffer_entry a0 w K = den P M.maps_Keys_map_uint64_buffer_entry_uint64_buffer_entry.L M.maps_Keys_map_uint64_buffer_entry_uint64_buffer_entry.pl (Try.f82.body.getD .skip) (argE [a0]) w (bodyQ P Try.f82.results.toList K) := by kernel_rfl
theorem M.maps_Keys_map_uint64_buffer_entry_uint64_buffer_entry.ok : okFn M.maps_Keys_map_uint64_buffer_entry_uint64_buffer_entry.L M.maps_Keys_map_uint64_buffer_entry_uint64_buffer_entry.pl Try.f82 (Try.f82.body.getD .skip) 1 = true := by kernel_rfl
theorem M.maps_Keys_map_uint64_buffer_entry_uint64_buffer_entry.calls (a0 : Value) {w : World} {K : KV} (h : M.maps_Keys_map_uint64_buffer_entry_uint64_buffer_entry a0 w K) : callT P F.maps_Keys_map_uint64_buffer_entry_uint64_buffer_entry [a0] w K :=
  callT_of_den (by kernel_rfl) Try.func82 (by kernel_rfl) M.maps_Keys_map_uint64_buffer_entry_uint64_buffer_entry.ok (M.maps_Keys_map_uint64_buffer_entry_uint64_buffer_entry.eq a0 w K ▸ h)
theorem M.maps_Keys_map_uint64_buffer_entry_uint64_buffer_entry.fcall (args : List Value) (w : World) (K : KV) : fcallT P F.maps_Keys_map_uint64_buffer_entry_uint64_buffer_entry args w K = callT P F.maps_Keys_map_uint64_buffer_entry_uint64_buffer_entry args w K := fcallT_eq Try.func82 (by kernel_rfl) (by kernel_rfl) args w K
theorem M.maps_Keys_map_uint64_buffer_entry_uint64_buffer_entry.rcall (a c args : List Value) (w : World) (K : KV) : callRT P (.func (.func F.maps_Keys_map_uint64_buffer_entry_uint64_buffer_entry) a.toArray c.toArray) args w K = callT P F.maps_Keys_map_uint64_buffer_entry_uint64_buffer_entry (a ++ args ++ c) w K := callR_fn Try.func82 (by kernel_rfl) (by kernel_rfl) a c args w K

def M.cmp_Or_api_Kind.j2 (a0 : Value) (x1 : List Value) (K1 : KL) (w : World) (K : KV) : Prop :=
  joinT (fun K3 =>
  iaT P T.sl_api_Kind a0 (gv x1 2) w fun t10 w =>
  ldT P T.api_Kind t10 w fun t11 w =>
  binT P .neq T.api_Kind (.tmp 12) (.tmp 13) t11 (.int .i64 0) w fun t14 w =>
  condT t14 (
  K t11 w) (
  K3 [t11, (gv x1 1)] w)) fun x3 w =>
  binT P .add T.int (.tmp 8) (.const (.int .i64 1)) (gv x1 2) (.int .i64 1) w fun t16 w =>
  K1 [(gv x3 0), (gv x3 1), t16] w
/-- cmp.Or[winnow/api.Kind] -/
def M.cmp_Or_api_Kind (a0 : Value) (w : World) (K : KV) : Prop :=
  joinT (fun K0 =>
  biT P .len #[T.sl_api_Kind] T.int [false] [a0] w fun t7 w =>
  loopT [undef, (.int .i64 0), (.int .i64 0)] w fun K1 x1 w =>
  binT P .lss T.int (.tmp 8) (.tmp 7) (gv x1 2) t7 w fun t9 w =>
  joinT (fun K2 =>
  condT t9 (
  K2 [] w) (
  K0 [a0, t7, (gv x1 2), (gv x1 0), (gv x1 1)] w)) fun x2 w =>
  M.cmp_Or_api_Kind.j2 a0 x1 K1 w K) fun x0 w =>
  K (.int .i64 0) w
def M.cmp_Or_api_Kind.L : List Nat := [0, 2, 3, 5, 8, 7, 6]
def M.cmp_Or_api_Kind.pl : Nat → Plan := fun id => ⟨.nil, [], false⟩
theorem M.cmp_Or_api_Kind.eq (a0 : Value) (w : World) (K : KV) : M.cmp_Or_api_Kind a0 w K = den P M.cmp_Or_api_Kind.L M.cmp_Or_api_Kind.pl (Try.f85.body.getD .skip) (argE [a0]) w (bodyQ P Try.f85.results.toList K) := by kernel_rfl
theorem M.cmp_Or_api_Kind.ok : okFn M.cmp_Or_api_Kind.L M.cmp_Or_api_Kind.pl Try.f85 (Try.f85.body.getD .skip) 1 = true := by kernel_rfl
theorem M.cmp_Or_api_Kind.calls (a0 : Value) {w : World} {K : KV} (h : M.cmp_Or_api_Kind a0 w K) : callT P F.cmp_Or_api_Kind [a0] w K :=
  callT_of_den (by kernel_rfl) Try.func85 (by kernel_rfl) M.cmp_Or_api_Kind.ok (M.cmp_Or_api_Kind.eq a0 w K ▸ h)
theorem M.cmp_Or_api_Kind.fcall (args : List Value) (w : World) (K : KV) : fcallT P F.cmp_Or_api_Kind args w K = callT P F.cmp_Or_api_Kind args w K := fcallT_eq Try.func85 (by kernel_rfl) (by kernel_rfl) args w K
theorem M.cmp_Or_api_Kind.rcall (a c args : List Value) (w : World) (K : KV) : callRT P (.func (.func F.cmp_Or_api_Kind) a.toArray c.toArray) args w K = callT P F.cmp_Or_api_Kind (a ++ args ++ c) w K := callR_fn Try.func85 (by kernel_rfl) (by kernel_rfl) a c args w K

def M.span_Name.j4 (x4 : List Value) (t17 : Value) (a0 : Value) (t16 : Value) (K2 : KL) (t14 : Value) (x2 : List Value) (w : World) (K : KV) : Prop :=
  condT (gv x4 0) (
  K (.int .i64 5) w) (
  binT P .eql T.int32 (.tmp 28) (.const (.int .i32 65533)) t17 (.int .i32 65533) w fun t29 w =>
  guardT (isB t29 true) (fun K' => K' a0 w) w fun t31 w =>
  guardT (isB t29 true) (fun K' => K' t16 w) w fun t32 w =>
  guardT (isB t29 true) (fun K' => slT P T.string t31 (some t32) none none w K') w fun t33 w =>
  guardT (isB t29 true) (fun K' => fcallT P F.strings_HasPrefix [t33, (.string ⟨#[239, 191, 189]⟩)] w K') w fun t34 w =>
  guardT (isB t29 true) (fun K' => unT P .not t34 w K') w fun t35 w =>
  pickT t29 t35 (.bool false) w fun t36 w =>
  condT t36 (
  K (.int .i64 5) w) (
  K2 [t14, t16, t17, (gv x4 0), (gv x2 4), t36] w))
def M.span_Name.j3 (t14 : Value) (a0 : Value) (K2 : KL) (x2 : List Value) (w : World) (K : KV) : Prop :=
  exT P t14 1 w fun t16 w =>
  exT P t14 2 w fun t17 w =>
  joinT (fun K4 =>
  binT P .lss T.int32 (.tmp 19) (.const (.int .i32 32)) t17 (.int .i32 32) w fun t20 w =>
  condT t20 (
  K4 [t20] w) (
  binT P .leq T.int32 (.const (.int .i32 127)) (.tmp 21) (.int .i32 127) t17 w fun t22 w =>
  guardT (isB t22 true) (fun K' => K' t17 w) w fun t24 w =>
  guardT (isB t22 true) (fun K' => binT P .leq T.int32 (.tmp 24) (.const (.int .i32 159)) t24 (.int .i32 159) w K') w fun t25 w =>
  pickT t22 t25 (.bool false) w fun t26 w =>
  K4 [t26] w)) fun x4 w =>
  M.span_Name.j4 x4 t17 a0 t16 K2 t14 x2 w K
def M.span_Name.j0 (a0 : Value) (x0 : List Value) (w : World) (K : KV) : Prop :=
  joinT (fun K1 =>
  rgT P T.string a0 w fun t13 w =>
  loopT [undef, undef, undef, undef, (gv x0 0), undef] w fun K2 x2 w =>
  nxT P t13 true T._ w fun t14 w =>
  exT P t14 0 w fun t15 w =>
  joinT (fun K3 =>
  condT t15 (
  K3 [] w) (
  K1 [t13, t14, (gv x2 1), (gv x2 2), (gv x2 3), (gv x2 4), (gv x2 5)] w)) fun x3 w =>
  M.span_Name.j3 t14 a0 K2 x2 w K) fun x1 w =>
  K (.int .i64 0) w
/-- winnow/span.Name -/
def M.span_Name (a0 : Value) (w : World) (K : KV) : Prop :=
  joinT (fun K0 =>
  binT P .eql T.string (.tmp 5) (.const (.string ⟨#[]⟩)) a0 (.string ⟨#[]⟩) w fun t6 w =>
  guardT (isB t6 false) (fun K' => K' a0 w) w fun t8 w =>
  guardT (isB t6 false) (fun K' => biT P .len #[T.string] T.int [false] [t8] w K') w fun t9 w =>
  guardT (isB t6 false) (fun K' => binT P .gtr T.int (.tmp 9) (.const (.int .i64 32)) t9 (.int .i64 32) w K') w fun t10 w =>
  pickT t6 (.bool true) t10 w fun t11 w =>
  condT t11 (
  K (.int .i64 5) w) (
  K0 [(.int .i64 0)] w)) fun x0 w =>
  M.span_Name.j0 a0 x0 w K
def M.span_Name.L : List Nat := [0, 2, 3, 4, 18, 27, 13, 14]
def M.span_Name.pl : Nat → Plan := fun id => ⟨.nil, [], false⟩
theorem M.span_Name.eq (a0 : Value) (w : World) (K : KV) : M.span_Name a0 w K = den P M.span_Name.L M.span_Name.pl (Try.f93.body.getD .skip) (argE [a0]) w (bodyQ P Try.f93.results.toList K) := by kernel_rfl
theorem M.span_Name.ok : okFn M.span_Name.L M.span_Name.pl Try.f93 (Try.f93.body.getD .skip) 1 = true := by kernel_rfl
theorem M.span_Name.calls (a0 : Value) {w : World} {K : KV} (h : M.span_Name a0 w K) : callT P F.span_Name [a0] w K :=
  callT_of_den (by kernel_rfl) Try.func93 (by kernel_rfl) M.span_Name.ok (M.span_Name.eq a0 w K ▸ h)
theorem M.span_Name.fcall (args : List Value) (w : World) (K : KV) : fcallT P F.span_Name args w K = callT P F.span_Name args w K := fcallT_eq Try.func93 (by kernel_rfl) (by kernel_rfl) args w K
theorem M.span_Name.rcall (a c args : List Value) (w : World) (K : KV) : callRT P (.func (.func F.span_Name) a.toArray c.toArray) args w K = callT P F.span_Name (a ++ args ++ c) w K := callR_fn Try.func93 (by kernel_rfl) (by kernel_rfl) a c args w K

/-- container/heap.Fix -/
def M.heap_Fix (a0 a1 : Value) (w : World) (K : KV) : Prop :=
  invokeT P a0 "Len" [] w fun t7 w =>
  fcallT P F.heap_down [a0, a1, t7] w fun t8 w =>
  unT P .not t8 w fun t9 w =>
  condT t9 (
  fcallT P F.heap_up [a0, a1] w fun t12 w =>
  K (.tuple #[]) w) (
  K (.tuple #[]) w)
def M.heap_Fix.L : List Nat := [0, 1]
def M.heap_Fix.pl : Nat → Plan := fun id => ⟨.nil, [], false⟩
theorem M.heap_Fix.eq (a0 a1 : Value) (w : World) (K : KV) : M.heap_Fix a0 a1 w K = den P M.heap_Fix.L M.heap_Fix.pl (Try.f94.body.getD .skip) (argE [a0, a1]) w (bodyQ P Try.f94.results.toList K) := by kernel_rfl
theorem M.heap_Fix.ok : okFn M.heap_Fix.L M.heap_Fix.pl Try.f94 (Try.f94.body.getD .skip) 2 = true := by kernel_rfl
theorem M.heap_Fix.calls (a0 a1 : Value) {w : World} {K : KV} (h : M.heap_Fix a0 a1 w K) : callT P F.heap_Fix [a0, a1] w K :=
  callT_of_den (by kernel_rfl) Try.func94 (by kernel_rfl) M.heap_Fix.ok (M.heap_Fix.eq a0 a1 w K ▸ h)
theorem M.heap_Fix.fcall (args : List Value) (w : World) (K : KV) : fcallT P F.heap_Fix args w K = callT P F.heap_Fix args w K := fcallT_eq Try.func94 (by kernel_rfl) (by kernel_rfl) args w K
theorem M.heap_Fix.rcall (a c args : List Value) (w : World) (K : KV) : callRT P (.func (.func F.heap_Fix) a.toArray c.toArray) args w K = callT P F.heap_Fix (a ++ args ++ c) w K := callR_fn Try.func94 (by kernel_rfl) (by kernel_rfl) a c args w K

/-- container/heap.Push -/
def M.heap_Push (a0 a1 : Value) (w : World) (K : KV) : Prop :=
  invokeT P a0 "Push" [a1] w fun t6 w =>
  invokeT P a0 "Len" [] w fun t9 w =>
  binT P .sub T.int (.tmp 9) (.const (.int .i64 1)) t9 (.int .i64 1) w fun t10 w =>
  fcallT P F.heap_up [a0, t10] w fun t11 w =>
  K (.tuple #[]) w
def M.heap_Push.L : List Nat := [0, 1]
def M.heap_Push.pl : Nat → Plan := fun id => ⟨.nil, [], false⟩
theorem M.heap_Push.eq (a0 a1 : Value) (w : World) (K : KV) : M.heap_Push a0 a1 w K = den P M.heap_Push.L M.heap_Push.pl (Try.f95.body.getD .skip) (argE [a0, a1]) w (bodyQ P Try.f95.results.toList K) := by kernel_rfl
theorem M.heap_Push.ok : okFn M.heap_Push.L M.heap_Push.pl Try.f95 (Try.f95.body.getD .skip) 2 = true := by kernel_rfl
theorem M.heap_Push.calls (a0 a1 : Value) {w : World} {K : KV} (h : M.heap_Push a0 a1 w K) : callT P F.heap_Push [a0, a1] w K :=
  callT_of_den (by kernel_rfl) Try.func95 (by kernel_rfl) M.heap_Push.ok (M.heap_Push.eq a0 a1 w K ▸ h)
theorem M.heap_Push.fcall (args : List Value) (w : World) (K : KV) : fcallT P F.heap_Push args w K = callT P F.heap_Push args w K := fcallT_eq Try.func95 (by kernel_rfl) (by kernel_rfl) args w K
theorem M.heap_Push.rcall (a c args : List Value) (w : World) (K : KV) : callRT P (.func (.func F.heap_Push) a.toArray c.toArray) args w K = callT P F.heap_Push (a ++ args ++ c) w K := callR_fn Try.func95 (by kernel_rfl) (by kernel_rfl) a c args w K

def M.slices_IndexFunc_api_Span_api_Span.j2 (a0 : Value) (x1 : List Value) (a1 : Value) (K1 : KL) (w : World) (K : KV) : Prop :=
  joinT (fun K3 =>
  iaT P T.sl_api_Span a0 (gv x1 2) w fun t14 w =>
  ldT P T.api_Span t14 w fun t15 w =>
  callRT P a1 [t15] w fun t16 w =>
  condT t16 (
  K (gv x1 2) w) (
  K3 [(gv x1 2), (gv x1 1)] w)) fun x3 w =>
  binT P .add T.int (.tmp 8) (.const (.int .i64 1)) (gv x1 2) (.int .i64 1) w fun t18 w =>
  K1 [(gv x3 0), (gv x3 1), t18] w
/-- slices.IndexFunc[[]winnow/api.Span,winnow/api.Span] -/
def M.slices_IndexFunc_api_Span_api_Span (a0 a1 : Value) (w : World) (K : KV) : Prop :=
  joinT (fun K0 =>
  biT P .len #[T.sl_api_Span] T.int [false] [a0] w fun t7 w =>
  loopT [undef, (.int .i64 0), (.int .i64 0)] w fun K1 x1 w =>
  binT P .lss T.int (.tmp 8) (.tmp 7) (gv x1 2) t7 w fun t9 w =>
  joinT (fun K2 =>
  condT t9 (
  K2 [] w) (
  K0 [t7, (gv x1 2), (gv x1 0), (gv x1 1)] w)) fun x2 w =>
  M.slices_IndexFunc_api_Span_api_Span.j2 a0 x1 a1 K1 w K) fun x0 w =>
  K (.int .i64 (-1)) w
def M.slices_IndexFunc_api_Span_api_Span.L : List Nat := [0, 1, 4, 5, 8, 7]
def M.slices_IndexFunc_api_Span_api_Span.pl : Nat → Plan := fun id => ⟨.nil, [], false⟩
theorem M.slices_IndexFunc_api_Span_api_Span.eq (a0 a1 : Value) (w : World) (K : KV) : M.slices_IndexFunc_api_Span_api_Span a0 a1 w K = den P M.slices_IndexFunc_api_Span_api_Span.L M.slices_IndexFunc_api_Span_api_Span.pl (Try.f96.body.getD .skip) (argE [a0, a1]) w (bodyQ P Try.f96.results.toList K) := by kernel_rfl
theorem M.slices_IndexFunc_api_Span_api_Span.ok : okFn M.slices_IndexFunc_api_Span_api_Span.L M.slices_IndexFunc_api_Span_api_Span.pl Try.f96 (Try.f96.body.getD .skip) 2 = true := by kernel_rfl
theorem M.slices_IndexFunc_api_Span_api_Span.calls (a0 a1 : Value) {w : World} {K : KV} (h : M.slices_IndexFunc_api_Span_api_Span a0 a1 w K) : callT P F.slices_IndexFunc_api_Span_api_Span [a0, a1] w K :=
  callT_of_den (by kernel_rfl) Try.func96 (by kernel_rfl) M.slices_IndexFunc_api_Span_api_Span.ok (M.slices_IndexFunc_api_Span_api_Span.eq a0 a1 w K ▸ h)
theorem M.slices_IndexFunc_api_Span_api_Span.fcall (args : List Value) (w : World) (K : KV) : fcallT P F.slices_IndexFunc_api_Span_api_Span args w K = callT P F.slices_IndexFunc_api_Span_api_Span args w K := fcallT_eq Try.func96 (by kernel_rfl) (by kernel_rfl) args w K
theorem M.slices_IndexFunc_api_Span_api_Span.rcall (a c args : List Value) (w : World) (K : KV) : callRT P (.func (.func F.slices_IndexFunc_api_Span_api_Span) a.toArray c.toArray) args w K = callT P F.slices_IndexFunc_api_Span_api_Span (a ++ args ++ c) w K := callR_fn Try.func96 (by kernel_rfl) (by kernel_rfl) a c args w K

def M.ptimers_Heap_Next.j0 (a0 : Value) (w : World) (K : KV) : Prop :=
  drawT w fun w =>
  w = w ∧ quietT (fun K' => nilT a0 w K') w fun t9 =>
  quietT (fun K' => faT P T.timers_Heap t9 0 w K') w fun t10 =>
  quietT (fun K' => ldT P T.timers_line t10 w K') w fun t11 =>
  quietT (fun K' => iaT P T.timers_line t11 (.int .i64 0) w K') w fun t12 =>
  quietT (fun K' => ldT P T.p_timers_item t12 w K') w fun t13 =>
  quietT (fun K' => nilT t13 w K') w fun t14 =>
  quietT (fun K' => faT P T.timers_item t14 0 w K') w fun t15 =>
  quietT (fun K' => ldT P T.uint64 t15 w K') w fun t16 =>
  w = w ∧ quietT (fun K' => nilT a0 w K') w fun t18 =>
  quietT (fun K' => faT P T.timers_Heap t18 0 w K') w fun t19 =>
  quietT (fun K' => ldT P T.timers_line t19 w K') w fun t20 =>
  quietT (fun K' => iaT P T.timers_line t20 (.int .i64 0) w K') w fun t21 =>
  quietT (fun K' => ldT P T.p_timers_item t21 w K') w fun t22 =>
  quietT (fun K' => nilT t22 w K') w fun t23 =>
  quietT (fun K' => faT P T.timers_item t23 1 w K') w fun t24 =>
  quietT (fun K' => ldT P T.uint64 t24 w K') w fun t25 =>
  stabT (fun K' => ldT P T.uint64 t24 w K') w t25 ∧ stabT (fun K' => faT P T.timers_item t23 1 w K') w t24 ∧ stabT (fun K' => nilT t22 w K') w t23 ∧ stabT (fun K' => ldT P T.p_timers_item t21 w K') w t22 ∧ stabT (fun K' => iaT P T.timers_line t20 (.int .i64 0) w K') w t21 ∧ stabT (fun K' => ldT P T.timers_line t19 w K') w t20 ∧ stabT (fun K' => faT P T.timers_Heap t18 0 w K') w t19 ∧ stabT (fun K' => nilT a0 w K') w t18 ∧ stabT (fun K' => K' a0 w) w a0 ∧ K (.tuple #[t16, t25, (.bool true)]) w
/-- (*winnow/timers.Heap).Next -/
def M.ptimers_Heap_Next (a0 : Value) (w : World) (K : KV) : Prop :=
  joinT (fun K0 =>
  fcallT P F.ptimers_Heap_Len [a0] w fun t6 w =>
  binT P .eql T.int (.tmp 6) (.const (.int .i64 0)) t6 (.int .i64 0) w fun t7 w =>
  condT t7 (
  K (.tuple #[(.int .u64 0), (.int .u64 0), (.bool false)]) w) (
  K0 [(.int .u64 0), (.int .u64 0), (.bool false)] w)) fun x0 w =>
  M.ptimers_Heap_Next.j0 a0 w K
def M.ptimers_Heap_Next.L : List Nat := [0, 2, 3, 4]
def M.ptimers_Heap_Next.pl : Nat → Plan := fun id => cond (Nat.beq id 3) ⟨(.go 0 (.go 1 (.go 2 (.go 3 (.go 4 (.go 5 (.go 6 (.go 7 (.go 8 (.go 9 (.go 10 (.go 11 (.go 12 (.go 13 (.go 14 (.go 15 (.go 16 (.go 17 (.eff 18 (.eff 19 (.eff 20 .nil .stop) .stop) .stop))))))))))))))))))), [18, 19, 20], false⟩ (⟨.nil, [], false⟩)
theorem M.ptimers_Heap_Next.eq (a0 : Value) (w : World) (K : KV) : M.ptimers_Heap_Next a0 w K = den P M.ptimers_Heap_Next.L M.ptimers_Heap_Next.pl (Try.f97.body.getD .skip) (argE [a0]) w (bodyQ P Try.f97.results.toList K) := by kernel_rfl
theorem M.ptimers_Heap_Next.ok : okFn M.ptimers_Heap_Next.L M.ptimers_Heap_Next.pl Try.f97 (Try.f97.body.getD .skip) 1 = true := by kernel_rfl
theorem M.ptimers_Heap_Next.calls (a0 : Value) {w : World} {K : KV} (h : M.ptimers_Heap_Next a0 w K) : callT P F.ptimers_Heap_Next [a0] w K :=
  callT_of_den (by kernel_rfl) Try.func97 (by kernel_rfl) M.ptimers_Heap_Next.ok (M.ptimers_Heap_Next.eq a0 w K ▸ h)
theorem M.ptimers_Heap_Next.fcall (args : List Value) (w : World) (K : KV) : fcallT P F.ptimers_Heap_Next args w K = callT P F.ptimers_Heap_Next args w K := fcallT_eq Try.func97 (by kernel_rfl) (by kernel_rfl) args w K
theorem M.ptimers_Heap_Next.rcall (a c args : List Value) (w : World) (K : KV) : callRT P (.func (.func F.ptimers_Heap_Next) a.toArray c.toArray) args w K = callT P F.ptimers_Heap_Next (a ++ args ++ c) w K := callR_fn Try.func97 (by kernel_rfl) (by kernel_rfl) a c args w K

def M.winnowref03_Runes.j3 (t13 : Value) (x1 : List Value) (t14 : Value) (K1 : KL) (x3 : List Value) (w : World) (K : KV) : Prop :=
  bsT P T.sl_int32 1 #[(0, t13)] w fun t19 w =>
  biT P .append #[T.sl_int32, T.sl_int32] T.sl_int32 [false, false] [(gv x1 4), t19] w fun t20 w =>
  slT P T.string (gv x1 5) (some t14) none none w fun t23 w =>
  K1 [t13, t14, (gv x3 0), (gv x3 1), t20, t23] w
def M.winnowref03_Runes.j2 (x1 : List Value) (K1 : KL) (w : World) (K : KV) : Prop :=
  fcallT P F.winnowref03_Rune [(gv x1 5)] w fun t12 w =>
  exT P t12 0 w fun t13 w =>
  exT P t12 1 w fun t14 w =>
  joinT (fun K3 =>
  binT P .eql T.int (.tmp 15) (.const (.int .i64 0)) t14 (.int .i64 0) w fun t16 w =>
  condT t16 (
  K (.tuple #[(.slice none 0 0), (.bool false)]) w) (
  K3 [(gv x1 2), (gv x1 3)] w)) fun x3 w =>
  M.winnowref03_Runes.j3 t13 x1 t14 K1 x3 w K
def M.winnowref03_Runes.j1 (x1 : List Value) (K0 : KL) (K1 : KL) (w : World) (K : KV) : Prop :=
  joinT (fun K2 =>
  biT P .len #[T.string] T.int [false] [(gv x1 5)] w fun t8 w =>
  binT P .gtr T.int (.tmp 8) (.const (.int .i64 0)) t8 (.int .i64 0) w fun t9 w =>
  condT t9 (
  K2 [] w) (
  K0 [(gv x1 0), (gv x1 1), (gv x1 2), (gv x1 3), (gv x1 4), (gv x1 5)] w)) fun x2 w =>
  M.winnowref03_Runes.j2 x1 K1 w K
/-- winnow/winnowref03.Runes -/
def M.winnowref03_Runes (a0 : Value) (w : World) (K : KV) : Prop :=
  joinT (fun K0 =>
  loopT [undef, undef, (.slice none 0 0), (.bool false), (.slice none 0 0), a0] w fun K1 x1 w =>
  M.winnowref03_Runes.j1 x1 K0 K1 w K) fun x0 w =>
  K (.tuple #[(gv x0 4), (.bool true)]) w
def M.winnowref03_Runes.L : List Nat := [0, 2, 3, 4, 5, 6]
def M.winnowref03_Runes.pl : Nat → Plan := fun id => ⟨.nil, [], false⟩
theorem M.winnowref03_Runes.eq (a0 : Value) (w : World) (K : KV) : M.winnowref03_Runes a0 w K = den P M.winnowref03_Runes.L M.winnowref03_Runes.pl (Try.f98.body.getD .skip) (argE [a0]) w (bodyQ P Try.f98.results.toList K) := by kernel_rfl
theorem M.winnowref03_Runes.ok : okFn M.winnowref03_Runes.L M.winnowref03_Runes.pl Try.f98 (Try.f98.body.getD .skip) 1 = true := by kernel_rfl
theorem M.winnowref03_Runes.calls (a0 : Value) {w : World} {K : KV} (h : M.winnowref03_Runes a0 w K) : callT P F.winnowref03_Runes [a0] w K :=
  callT_of_den (by kernel_rfl) Try.func98 (by kernel_rfl) M.winnowref03_Runes.ok (M.winnowref03_Runes.eq a0 w K ▸ h)
theorem M.winnowref03_Runes.fcall (args : List Value) (w : World) (K : KV) : fcallT P F.winnowref03_Runes args w K = callT P F.winnowref03_Runes args w K := fcallT_eq Try.func98 (by kernel_rfl) (by kernel_rfl) args w K
theorem M.winnowref03_Runes.rcall (a c args : List Value) (w : World) (K : KV) : callRT P (.func (.func F.winnowref03_Runes) a.toArray c.toArray) args w K = callT P F.winnowref03_Runes (a ++ args ++ c) w K := callR_fn Try.func98 (by kernel_rfl) (by kernel_rfl) a c args w K

/-- container/heap.Remove -/
def M.heap_Remove (a0 a1 : Value) (w : World) (K : KV) : Prop :=
  invokeT P a0 "Len" [] w fun t7 w =>
  binT P .sub T.int (.tmp 7) (.const (.int .i64 1)) t7 (.int .i64 1) w fun t8 w =>
  joinT (fun K0 =>
  binT P .neq T.int (.tmp 9) (.tmp 10) t8 a1 w fun t11 w =>
  condT t11 (
  invokeT P a0 "Swap" [a1, t8] w fun t15 w =>
  fcallT P F.heap_down [a0, a1, t8] w fun t19 w =>
  unT P .not t19 w fun t20 w =>
  condT t20 (
  fcallT P F.heap_up [a0, a1] w fun t23 w =>
  K0 [] w) (
  K0 [] w)) (
  K0 [] w)) fun x0 w =>
  invokeT P a0 "Pop" [] w fun t25 w =>
  K t25 w
def M.heap_Remove.L : List Nat := [0, 1, 4, 5]
def M.heap_Remove.pl : Nat → Plan := fun id => ⟨.nil, [], false⟩
theorem M.heap_Remove.eq (a0 a1 : Value) (w : World) (K : KV) : M.heap_Remove a0 a1 w K = den P M.heap_Remove.L M.heap_Remove.pl (Try.f99.body.getD .skip) (argE [a0, a1]) w (bodyQ P Try.f99.results.toList K) := by kernel_rfl
theorem M.heap_Remove.ok : okFn M.heap_Remove.L M.heap_Remove.pl Try.f99 (Try.f99.body.getD .skip) 2 = true := by kernel_rfl
theorem M.heap_Remove.calls (a0 a1 : Value) {w : World} {K : KV} (h : M.heap_Remove a0 a1 w K) : callT P F.heap_Remove [a0, a1] w K :=
  callT_of_den (by kernel_rfl) Try.func99 (by kernel_rfl) M.heap_Remove.ok (M.heap_Remove.eq a0 a1 w K ▸ h)
theorem M.heap_Remove.fcall (args : List Value) (w : World) (K : KV) : fcallT P F.heap_Remove args w K = callT P F.heap_Remove args w K := fcallT_eq Try.func99 (by kernel_rfl) (by kernel_rfl) args w K
theorem M.heap_Remove.rcall (a c args : List Value) (w : World) (K : KV) : callRT P (.func (.func F.heap_Remove) a.toArray c.toArray) args w K = callT P F.heap_Remove (a ++ args ++ c) w K := callR_fn Try.func99 (by kernel_rfl) (by kernel_rfl) a c args w K

/-- slices.Collect[uint64] -/
def M.slices_Collect_uint64 (a0 : Value) (w : World) (K : KV) : Prop :=
  fcallT P F.slices_AppendSeq_uint64_uint64 [(.slice none 0 0), a0] w fun t4 w =>
  K t4 w
def M.slices_Collect_uint64.L : List Nat := [0, 2]
def M.slices_Collect_uint64.pl : Nat → Plan := fun id => ⟨.nil, [], false⟩
theorem M.slices_Collect_uint64.eq (a0 : Value) (w : World) (K : KV) : M.slices_Collect_uint64 a0 w K = den P M.slices_Collect_uint64.L M.slices_Collect_uint64.pl (Try.f105.body.getD .skip) (argE [a0]) w (bodyQ P Try.f105.results.toList K) := by kernel_rfl
theorem M.slices_Collect_uint64.ok : okFn M.slices_Collect_uint64.L M.slices_Collect_uint64.pl Try.f105 (Try.f105.body.getD .skip) 1 = true := by kernel_rfl
theorem M.slices_Collect_uint64.calls (a0 : Value) {w : World} {K : KV} (h : M.slices_Collect_uint64 a0 w K) : callT P F.slices_Collect_uint64 [a0] w K :=
  callT_of_den (by kernel_rfl) Try.func105 (by kernel_rfl) M.slices_Collect_uint64.ok (M.slices_Collect_uint64.eq a0 w K ▸ h)
theorem M.slices_Collect_uint64.fcall (args : List Value) (w : World) (K : KV) : fcallT P F.slices_Collect_uint64 args w K = callT P F.slices_Collect_uint64 args w K := fcallT_eq Try.func105 (by kernel_rfl) (by kernel_rfl) args w K
theorem M.slices_Collect_uint64.rcall (a c args : List Value) (w : World) (K : KV) : callRT P (.func (.func F.slices_Collect_uint64) a.toArray c.toArray) args w K = callT P F.slices_Collect_uint64 (a ++ args ++ c) w K := callR_fn Try.func105 (by kernel_rfl) (by kernel_rfl) a c args w K

/-- slices.Sort[[]uint64,uint64] -/
def M.slices_Sort_uint64_uint64 (a0 : Value) (w : World) (K : KV) : Prop :=
  biT P .len #[T.sl_uint64] T.int [false] [a0] w fun t4 w =>
  cvT P T.int T.uint t4 w fun t8 w =>
  fcallT P F.math_bits_Len [t8] w fun t9 w =>
  fcallT P F.slices_pdqsortOrdered_uint64 [a0, (.int .i64 0), t4, t9] w fun t10 w =>
  K (.tuple #[]) w
def M.slices_Sort_uint64_uint64.L : List Nat := [0, 2]
def M.slices_Sort_uint64_uint64.pl : Nat → Plan := fun id => ⟨.nil, [], false⟩
theorem M.slices_Sort_uint64_uint64.eq (a0 : Value) (w : World) (K : KV) : M.slices_Sort_uint64_uint64 a0 w K = den P M.slices_Sort_uint64_uint64.L M.slices_Sort_uint64_uint64.pl (Try.f106.body.getD .skip) (argE [a0]) w (bodyQ P Try.f106.results.toList K) := by kernel_rfl
theorem M.slices_Sort_uint64_uint64.ok : okFn M.slices_Sort_uint64_uint64.L M.slices_Sort_uint64_uint64.pl Try.f106 (Try.f106.body.getD .skip) 1 = true := by kernel_rfl
theorem M.slices_Sort_uint64_uint64.calls (a0 : Value) {w : World} {K : KV} (h : M.slices_Sort_uint64_uint64 a0 w K) : callT P F.slices_Sort_uint64_uint64 [a0] w K :=
  callT_of_den (by kernel_rfl) Try.func106 (by kernel_rfl) M.slices_Sort_uint64_uint64.ok (M.slices_Sort_uint64_uint64.eq a0 w K ▸ h)
theorem M.slices_Sort_uint64_uint64.fcall (args : List Value) (w : World) (K : KV) : fcallT P F.slices_Sort_uint64_uint64 args w K = callT P F.slices_Sort_uint64_uint64 args w K := fcallT_eq Try.func106 (by kernel_rfl) (by kernel_rfl) args w K
theorem M.slices_Sort_uint64_uint64.rcall (a c args : List Value) (w : World) (K : KV) : callRT P (.func (.func F.slices_Sort_uint64_uint64) a.toArray c.toArray) args w K = callT P F.slices_Sort_uint64_uint64 (a ++ args ++ c) w K := callR_fn Try.func106 (by kernel_rfl) (by kernel_rfl) a c args w K

def M.maps_Keys_map_uint64_buffer_entry_uint64_buffer_entry_1.j0 (t5 : Value) (a0 : Value) (K0 : KL) (w : World) (K : KV) : Prop :=
  nxT P t5 false T._ w fun t6 w =>
  exT P t6 0 w fun t7 w =>
  joinT (fun K1 =>
  condT t7 (
  K1 [] w) (
  K (.tuple #[]) w)) fun x1 w =>
  enT P t5 w fun t8 w =>
  exT P t8 0 w fun t9 w =>
  callRT P a0 [t9] w fun t12 w =>
  unT P .not t12 w fun t13 w =>
  condT t13 (
  K (.tuple #[]) w) (
  K0 [t9] w)
/-- maps.Keys[map[uint64]*winnow/buffer.entry,uint64,*winnow/buffer.entry]$1 -/
def M.maps_Keys_map_uint64_buffer_entry_uint64_buffer_entry_1 (a0 a1 : Value) (w : World) (K : KV) : Prop :=
  ldT P T.map_uint64_p_buffer_entry a1 w fun t4 w =>
  rgT P T.map_uint64_p_buffer_entry t4 w fun t5 w =>
  loopT [undef] w fun K0 x0 w =>
  M.maps_Keys_map_uint64_buffer_entry_uint64_buffer_entry_1.j0 t5 a0 K0 w K
def M.maps_Keys_map_uint64_buffer_entry_uint64_buffer_entry_1.L : List Nat := [0, 1, 3, 5]
def M.maps_Keys_map_uint64_buffer_entry_uint64_buffer_entry_1.pl : Nat → Plan := fun id => ⟨.nil, [], false⟩
theorem M.maps_Keys_map_uint64_buffer_entry_uint64_buffer_entry_1.eq (a0 a1 : Value) (w : World) (K : KV) : M.maps_Keys_map_uint64_buffer_entry_uint64_buffer_entry_1 a0 a1 w K = den P M.maps_Keys_map_uint64_buffer_entry_uint64_buffer_entry_1.L M.maps_Keys_map_uint64_buffer_entry_uint64_buffer_entry_1.pl (Try.f107.body.getD .skip) (argE [a0, a1]) w (bodyQ P Try.f107.results.toList K) := by kernel_rfl
theorem M.maps_Keys_map_uint64_buffer_entry_uint64_buffer_entry_1.ok : okFn M.maps_Keys_map_uint64_buffer_entry_uint64_buffer_entry_1.L M.maps_Keys_map_uint64_buffer_entry_uint64_buffer_entry_1.pl Try.f107 (Try.f107.body.getD .skip) 2 = true := by kernel_rfl
theorem M.maps_Keys_map_uint64_buffer_entry_uint64_buffer_entry_1.calls (a0 a1 : Value) {w : World} {K : KV} (h : M.maps_Keys_map_uint64_buffer_entry_uint64_buffer_entry_1 a0 a1 w K) : callT P F.maps_Keys_map_uint64_buffer_entry_uint64_buffer_entry_1 [a0, a1] w K :=
  callT_of_den (by kernel_rfl) Try.func107 (by kernel_rfl) M.maps_Keys_map_uint64_buffer_entry_uint64_buffer_entry_1.ok (M.maps_Keys_map_uint64_buffer_entry_uint64_buffer_entry_1.eq a0 a1 w K ▸ h)
theorem M.maps_Keys_map_uint64_buffer_entry_uint64_buffer_entry_1.fcall (args : List Value) (w : World) (K : KV) : fcallT P F.maps_Keys_map_uint64_buffer_entry_uint64_buffer_entry_1 args w K = callT P F.maps_Keys_map_uint64_buffer_entry_uint64_buffer_entry_1 args w K := fcallT_eq Try.func107 (by kernel_rfl) (by kernel_rfl) args w K
theorem M.maps_Keys_map_uint64_buffer_entry_uint64_buffer_entry_1.rcall (a c args : List Value) (w : World) (K : KV) : callRT P (.func (.func F.maps_Keys_map_uint64_buffer_entry_uint64_buffer_entry_1) a.toArray c.toArray) args w K = callT P F.maps_Keys_map_uint64_buffer_entry_uint64_buffer_entry_1 (a ++ args ++ c) w K := callR_fn Try.func107 (by kernel_rfl) (by kernel_rfl) a c args w K

/-- strings.HasPrefix -/
def M.strings_HasPrefix (a0 a1 : Value) (w : World) (K : KV) : Prop :=
  fcallT P F.internal_stringslite_HasPrefix [a0, a1] w fun t7 w =>
  K t7 w
def M.strings_HasPrefix.L : List Nat := [0, 1, 4]
def M.strings_HasPrefix.pl : Nat → Plan := fun id => ⟨.nil, [], false⟩
theorem M.strings_HasPrefix.eq (a0 a1 : Value) (w : World) (K : KV) : M.strings_HasPrefix a0 a1 w K = den P M.strings_HasPrefix.L M.strings_HasPrefix.pl (Try.f114.body.getD .skip) (argE [a0, a1]) w (bodyQ P Try.f114.results.toList K) := by kernel_rfl
theorem M.strings_HasPrefix.ok : okFn M.strings_HasPrefix.L M.strings_HasPrefix.pl Try.f114 (Try.f114.body.getD .skip) 2 = true := by kernel_rfl
theorem M.strings_HasPrefix.calls (a0 a1 : Value) {w : World} {K : KV} (h : M.strings_HasPrefix a0 a1 w K) : callT P F.strings_HasPrefix [a0, a1] w K :=
  callT_of_den (by kernel_rfl) Try.func114 (by kernel_rfl) M.strings_HasPrefix.ok (M.strings_HasPrefix.eq a0 a1 w K ▸ h)
theorem M.strings_HasPrefix.fcall (args : List Value) (w : World) (K : KV) : fcallT P F.strings_HasPrefix args w K = callT P F.strings_HasPrefix args w K := fcallT_eq Try.func114 (by kernel_rfl) (by kernel_rfl) args w K
theorem M.strings_HasPrefix.rcall (a c args : List Value) (w : World) (K : KV) : callRT P (.func (.func F.strings_HasPrefix) a.toArray c.toArray) args w K = callT P F.strings_HasPrefix (a ++ args ++ c) w K := callR_fn Try.func114 (by kernel_rfl) (by kernel_rfl) a c args w K

def M.heap_down.j3 (a0 : Value) (x3 : List Value) (x1 : List Value) (K0 : KL) (t14 : Value) (K1 : KL) (w : World) (K : KV) : Prop :=
  joinT (fun K4 =>
  invokeT P a0 "Less" [(gv x3 1), (gv x1 3)] w fun t38 w =>
  unT P .not t38 w fun t39 w =>
  condT t39 (
  K0 [t14, (gv x3 1), (gv x3 0), (gv x1 3)] w) (
  K4 [] w)) fun x4 w =>
  invokeT P a0 "Swap" [(gv x1 3), (gv x3 1)] w fun t43 w =>
  K1 [t14, (gv x3 1), (gv x3 0), (gv x3 1)] w
def M.heap_down.j2 (t14 : Value) (a2 : Value) (a0 : Value) (x1 : List Value) (K0 : KL) (K1 : KL) (w : World) (K : KV) : Prop :=
  joinT (fun K3 =>
  binT P .add T.int (.tmp 23) (.const (.int .i64 1)) t14 (.int .i64 1) w fun t24 w =>
  binT P .lss T.int (.tmp 25) (.tmp 26) t24 a2 w fun t27 w =>
  guardT (isB t27 true) (fun K' => K' a0 w) w fun t29 w =>
  guardT (isB t27 true) (fun K' => K' t24 w) w fun t30 w =>
  guardT (isB t27 true) (fun K' => K' t14 w) w fun t31 w =>
  guardT (isB t27 true) (fun K' => invokeT P t29 "Less" [t30, t31] w K') w fun t32 w =>
  pickT t27 t32 (.bool false) w fun t33 w =>
  condT t33 (
  K3 [t24, t24] w) (
  K3 [t24, t14] w)) fun x3 w =>
  M.heap_down.j3 a0 x3 x1 K0 t14 K1 w K
def M.heap_down.j1 (x1 : List Value) (a2 : Value) (K0 : KL) (a0 : Value) (K1 : KL) (w : World) (K : KV) : Prop :=
  binT P .mul T.int (.const (.int .i64 2)) (.tmp 12) (.int .i64 2) (gv x1 3) w fun t13 w =>
  binT P .add T.int (.tmp 13) (.const (.int .i64 1)) t13 (.int .i64 1) w fun t14 w =>
  joinT (fun K2 =>
  binT P .geq T.int (.tmp 15) (.tmp 16) t14 a2 w fun t17 w =>
  guardT (isB t17 false) (fun K' => K' t14 w) w fun t19 w =>
  guardT (isB t17 false) (fun K' => binT P .lss T.int (.tmp 19) (.const (.int .i64 0)) t19 (.int .i64 0) w K') w fun t20 w =>
  pickT t17 (.bool true) t20 w fun t21 w =>
  condT t21 (
  K0 [t14, (gv x1 1), (gv x1 2), (gv x1 3)] w) (
  K2 [] w)) fun x2 w =>
  M.heap_down.j2 t14 a2 a0 x1 K0 K1 w K
/-- container/heap.down -/
def M.heap_down (a0 a1 a2 : Value) (w : World) (K : KV) : Prop :=
  joinT (fun K0 =>
  loopT [undef, undef, undef, a1] w fun K1 x1 w =>
  M.heap_down.j1 x1 a2 K0 a0 K1 w K) fun x0 w =>
  binT P .gtr T.int (.tmp 45) (.tmp 46) (gv x0 3) a1 w fun t47 w =>
  K t47 w
def M.heap_down.L : List Nat := [0, 1, 2, 6, 7, 8, 9, 10]
def M.heap_down.pl : Nat → Plan := fun id => ⟨.nil, [], false⟩
theorem M.heap_down.eq (a0 a1 a2 : Value) (w : World) (K : KV) : M.heap_down a0 a1 a2 w K = den P M.heap_down.L M.heap_down.pl (Try.f115.body.getD .skip) (argE [a0, a1, a2]) w (bodyQ P Try.f115.results.toList K) := by kernel_rfl
theorem M.heap_down.ok : okFn M.heap_down.L M.heap_down.pl Try.f115 (Try.f115.body.getD .skip) 3 = true := by kernel_rfl
theorem M.heap_down.calls (a0 a1 a2 : Value) {w : World} {K : KV} (h : M.heap_down a0 a1 a2 w K) : callT P F.heap_down [a0, a1, a2] w K :=
  callT_of_den (by kernel_rfl) Try.func115 (by kernel_rfl) M.heap_down.ok (M.heap_down.eq a0 a1 a2 w K ▸ h)
theorem M.heap_down.fcall (args : List Value) (w : World) (K : KV) : fcallT P F.heap_down args w K = callT P F.heap_down args w K := fcallT_eq Try.func115 (by kernel_rfl) (by kernel_rfl) args w K
theorem M.heap_down.rcall (a c args : List Value) (w : World) (K : KV) : callRT P (.func (.func F.heap_down) a.toArray c.toArray) args w K = callT P F.heap_down (a ++ args ++ c) w K := callR_fn Try.func115 (by kernel_rfl) (by kernel_rfl) a c args w K

def M.heap_up.j0 (x0 : List Value) (a0 : Value) (K0 : KL) (w : World) (K : KV) : Prop :=
  binT P .sub T.int (.tmp 5) (.const (.int .i64 1)) (gv x0 1) (.int .i64 1) w fun t6 w =>
  binT P .quo T.int (.tmp 6) (.const (.int .i64 2)) t6 (.int .i64 2) w fun t7 w =>
  joinT (fun K1 =>
  binT P .eql T.int (.tmp 8) (.tmp 9) t7 (gv x0 1) w fun t10 w =>
  guardT (isB t10 false) (fun K' => K' a0 w) w fun t12 w =>
  guardT (isB t10 false) (fun K' => K' (gv x0 1) w) w fun t13 w =>
  guardT (isB t10 false) (fun K' => K' t7 w) w fun t14 w =>
  guardT (isB t10 false) (fun K' => invokeT P t12 "Less" [t13, t14] w K') w fun t15 w =>
  guardT (isB t10 false) (fun K' => unT P .not t15 w K') w fun t16 w =>
  pickT t10 (.bool true) t16 w fun t17 w =>
  condT t17 (
  K (.tuple #[]) w) (
  K1 [] w)) fun x1 w =>
  invokeT P a0 "Swap" [t7, (gv x0 1)] w fun t21 w =>
  K0 [t7, t7] w
/-- container/heap.up -/
def M.heap_up (a0 a1 : Value) (w : World) (K : KV) : Prop :=
  loopT [undef, a1] w fun K0 x0 w =>
  M.heap_up.j0 x0 a0 K0 w K
def M.heap_up.L : List Nat := [0, 1, 4]
def M.heap_up.pl : Nat → Plan := fun id => ⟨.nil, [], false⟩
theorem M.heap_up.eq (a0 a1 : Value) (w : World) (K : KV) : M.heap_up a0 a1 w K = den P M.heap_up.L M.heap_up.pl (Try.f116.body.getD .skip) (argE [a0, a1]) w (bodyQ P Try.f116.results.toList K) := by kernel_rfl
theorem M.heap_up.ok : okFn M.heap_up.L M.heap_up.pl Try.f116 (Try.f116.body.getD .skip) 2 = true := by kernel_rfl
theorem M.heap_up.calls (a0 a1 : Value) {w : World} {K : KV} (h : M.heap_up a0 a1 w K) : callT P F.heap_up [a0, a1] w K :=
  callT_of_den (by kernel_rfl) Try.func116 (by kernel_rfl) M.heap_up.ok (M.heap_up.eq a0 a1 w K ▸ h)
theorem M.heap_up.fcall (args : List Value) (w : World) (K : KV) : fcallT P F.heap_up args w K = callT P F.heap_up args w K := fcallT_eq Try.func116 (by kernel_rfl) (by kernel_rfl) args w K
theorem M.heap_up.rcall (a c args : List Value) (w : World) (K : KV) : callRT P (.func (.func F.heap_up) a.toArray c.toArray) args w K = callT P F.heap_up (a ++ args ++ c) w K := callR_fn Try.func116 (by kernel_rfl) (by kernel_rfl) a c args w K

/-- (*winnow/timers.Heap).Len -/
def M.ptimers_Heap_Len (a0 : Value) (w : World) (K : KV) : Prop :=
  joinT (fun K0 =>
  binT P .eql T.p_timers_Heap (.tmp 3) (.const (.pointer none)) a0 (.pointer none) w fun t4 w =>
  condT t4 (
  K (.int .i64 0) w) (
  K0 [(.int .i64 0)] w)) fun x0 w =>
  nilT a0 w fun t6 w =>
  faT P T.timers_Heap t6 0 w fun t7 w =>
  ldT P T.timers_line t7 w fun t8 w =>
  biT P .len #[T.timers_line] T.int [false] [t8] w fun t9 w =>
  K t9 w
def M.ptimers_Heap_Len.L : List Nat := [0, 2]
def M.ptimers_Heap_Len.pl : Nat → Plan := fun id => ⟨.nil, [], false⟩
theorem M.ptimers_Heap_Len.eq (a0 : Value) (w : World) (K : KV) : M.ptimers_Heap_Len a0 w K = den P M.ptimers_Heap_Len.L M.ptimers_Heap_Len.pl (Try.f117.body.getD .skip) (argE [a0]) w (bodyQ P Try.f117.results.toList K) := by kernel_rfl
theorem M.ptimers_Heap_Len.ok : okFn M.ptimers_Heap_Len.L M.ptimers_Heap_Len.pl Try.f117 (Try.f117.body.getD .skip) 1 = true := by kernel_rfl
theorem M.ptimers_Heap_Len.calls (a0 : Value) {w : World} {K : KV} (h : M.ptimers_Heap_Len a0 w K) : callT P F.ptimers_Heap_Len [a0] w K :=
  callT_of_den (by kernel_rfl) Try.func117 (by kernel_rfl) M.ptimers_Heap_Len.ok (M.ptimers_Heap_Len.eq a0 w K ▸ h)
theorem M.ptimers_Heap_Len.fcall (args : List Value) (w : World) (K : KV) : fcallT P F.ptimers_Heap_Len args w K = callT P F.ptimers_Heap_Len args w K := fcallT_eq Try.func117 (by kernel_rfl) (by kernel_rfl) args w K
theorem M.ptimers_Heap_Len.rcall (a c args : List Value) (w : World) (K : KV) : callRT P (.func (.func F.ptimers_Heap_Len) a.toArray c.toArray) args w K = callT P F.ptimers_Heap_Len (a ++ args ++ c) w K := callR_fn Try.func117 (by kernel_rfl) (by kernel_rfl) a c args w K

def M.winnowref03_Rune.j8 (x5 : List Value) (a0 : Value) (K7 : KL) (x8 : List Value) (w : World) (K : KV) : Prop :=
  binT P .mul T.int32 (.tmp 71) (.const (.int .i32 64)) (gv x5 2) (.int .i32 64) w fun t72 w =>
  ixT P T.string a0 (gv x5 3) w fun t75 w =>
  cvT P T.uint8 T.int32 t75 w fun t76 w =>
  binT P .add T.int32 (.tmp 72) (.tmp 76) t72 t76 w fun t77 w =>
  binT P .sub T.int32 (.tmp 77) (.const (.int .i32 128)) t77 (.int .i32 128) w fun t78 w =>
  K7 [(gv x8 0), (gv x8 1), t78] w
def M.winnowref03_Rune.j6 (a0 : Value) (x5 : List Value) (K5 : KL) (w : World) (K : KV) : Prop :=
  joinT (fun K7 =>
  joinT (fun K8 =>
  ixT P T.string a0 (gv x5 3) w fun t63 w =>
  binT P .lss T.uint8 (.tmp 63) (.const (.int .u8 128)) t63 (.int .u8 128) w fun t64 w =>
  guardT (isB t64 false) (fun K' => K' a0 w) w fun t66 w =>
  guardT (isB t64 false) (fun K' => K' (gv x5 3) w) w fun t67 w =>
  guardT (isB t64 false) (fun K' => ixT P T.string t66 t67 w K') w fun t68 w =>
  guardT (isB t64 false) (fun K' => binT P .gtr T.uint8 (.tmp 68) (.const (.int .u8 191)) t68 (.int .u8 191) w K') w fun t69 w =>
  pickT t64 (.bool true) t69 w fun t70 w =>
  condT t70 (
  K (.tuple #[(.int .i32 0), (.int .i64 0)]) w) (
  K8 [(gv x5 0), (gv x5 1)] w)) fun x8 w =>
  M.winnowref03_Rune.j8 x5 a0 K7 x8 w K) fun x7 w =>
  binT P .add T.int (.tmp 59) (.const (.int .i64 1)) (gv x5 3) (.int .i64 1) w fun t60 w =>
  K5 [(gv x7 0), (gv x7 1), (gv x7 2), t60] w
def M.winnowref03_Rune.j4 (x4 : List Value) (x2 : List Value) (w : World) (K : KV) : Prop :=
  joinT (fun K9 =>
  binT P .lss T.int32 (.tmp 79) (.tmp 80) (gv x4 3) (gv x2 2) w fun t81 w =>
  guardT (isB t81 false) (fun K' => K' (gv x4 3) w) w fun t83 w =>
  guardT (isB t81 false) (fun K' => binT P .gtr T.int32 (.tmp 83) (.const (.int .i32 1114111)) t83 (.int .i32 1114111) w K') w fun t84 w =>
  pickT t81 (.bool true) t84 w fun t85 w =>
  guardT (isB t85 false) (fun K' => K' (gv x4 3) w) w fun t87 w =>
  guardT (isB t85 false) (fun K' => binT P .geq T.int32 (.tmp 87) (.const (.int .i32 55296)) t87 (.int .i32 55296) w K') w fun t88 w =>
  guardT (isB t85 false) (fun K' => K' t88 w) w fun t89 w =>
  guardT (isB t89 true) (fun K' => K' (gv x4 3) w) w fun t90 w =>
  guardT (isB t89 true) (fun K' => binT P .leq T.int32 (.tmp 90) (.const (.int .i32 57343)) t90 (.int .i32 57343) w K') w fun t91 w =>
  guardT (isB t85 false) (fun K' => pickT t89 t91 (.bool false) w K') w fun t92 w =>
  pickT t85 (.bool true) t92 w fun t93 w =>
  condT t93 (
  K (.tuple #[(.int .i32 0), (.int .i64 0)]) w) (
  K9 [(gv x4 1), (gv x4 2)] w)) fun x9 w =>
  K (.tuple #[(gv x4 3), (gv x2 1)]) w
def M.winnowref03_Rune.j3 (x3 : List Value) (x2 : List Value) (a0 : Value) (w : World) (K : KV) : Prop :=
  joinT (fun K4 =>
  loopT [(gv x3 0), (gv x3 1), (gv x2 3), (.int .i64 1)] w fun K5 x5 w =>
  joinT (fun K6 =>
  binT P .lss T.int (.tmp 56) (.tmp 57) (gv x5 3) (gv x2 1) w fun t58 w =>
  condT t58 (
  K6 [] w) (
  K4 [(gv x5 3), (gv x5 0), (gv x5 1), (gv x5 2)] w)) fun x6 w =>
  M.winnowref03_Rune.j6 a0 x5 K5 w K) fun x4 w =>
  M.winnowref03_Rune.j4 x4 x2 w K
def M.winnowref03_Rune.j2 (x2 : List Value) (a0 : Value) (x1 : List Value) (w : World) (K : KV) : Prop :=
  joinT (fun K3 =>
  binT P .eql T.int (.tmp 48) (.const (.int .i64 0)) (gv x2 1) (.int .i64 0) w fun t49 w =>
  guardT (isB t49 false) (fun K' => K' a0 w) w fun t51 w =>
  guardT (isB t49 false) (fun K' => biT P .len #[T.string] T.int [false] [t51] w K') w fun t52 w =>
  guardT (isB t49 false) (fun K' => K' (gv x2 1) w) w fun t53 w =>
  guardT (isB t49 false) (fun K' => binT P .lss T.int (.tmp 52) (.tmp 53) t52 t53 w K') w fun t54 w =>
  pickT t49 (.bool true) t54 w fun t55 w =>
  condT t55 (
  K (.tuple #[(.int .i32 0), (.int .i64 0)]) w) (
  K3 [(gv x1 0), (gv x1 1)] w)) fun x3 w =>
  M.winnowref03_Rune.j3 x3 x2 a0 w K
def M.winnowref03_Rune.j1 (t13 : Value) (a0 : Value) (x1 : List Value) (w : World) (K : KV) : Prop :=
  joinT (fun K2 =>
  binT P .geq T.uint8 (.tmp 19) (.const (.int .u8 194)) t13 (.int .u8 194) w fun t20 w =>
  guardT (isB t20 true) (fun K' => K' t13 w) w fun t22 w =>
  guardT (isB t20 true) (fun K' => binT P .leq T.uint8 (.tmp 22) (.const (.int .u8 223)) t22 (.int .u8 223) w K') w fun t23 w =>
  pickT t20 t23 (.bool false) w fun t24 w =>
  condT t24 (
  cvT P T.uint8 T.int32 t13 w fun t26 w =>
  binT P .sub T.int32 (.tmp 26) (.const (.int .i32 192)) t26 (.int .i32 192) w fun t27 w =>
  K2 [t24, (.int .i64 2), (.int .i32 128), t27, undef, undef] w) (
  binT P .geq T.uint8 (.tmp 29) (.const (.int .u8 224)) t13 (.int .u8 224) w fun t30 w =>
  guardT (isB t30 true) (fun K' => K' t13 w) w fun t32 w =>
  guardT (isB t30 true) (fun K' => binT P .leq T.uint8 (.tmp 32) (.const (.int .u8 239)) t32 (.int .u8 239) w K') w fun t33 w =>
  pickT t30 t33 (.bool false) w fun t34 w =>
  condT t34 (
  cvT P T.uint8 T.int32 t13 w fun t36 w =>
  binT P .sub T.int32 (.tmp 36) (.const (.int .i32 224)) t36 (.int .i32 224) w fun t37 w =>
  K2 [t24, (.int .i64 3), (.int .i32 2048), t37, t34, undef] w) (
  binT P .geq T.uint8 (.tmp 39) (.const (.int .u8 240)) t13 (.int .u8 240) w fun t40 w =>
  guardT (isB t40 true) (fun K' => K' t13 w) w fun t42 w =>
  guardT (isB t40 true) (fun K' => binT P .leq T.uint8 (.tmp 42) (.const (.int .u8 244)) t42 (.int .u8 244) w K') w fun t43 w =>
  pickT t40 t43 (.bool false) w fun t44 w =>
  condT t44 (
  cvT P T.uint8 T.int32 t13 w fun t46 w =>
  binT P .sub T.int32 (.tmp 46) (.const (.int .i32 240)) t46 (.int .i32 240) w fun t47 w =>
  K2 [t24, (.int .i64 4), (.int .i32 65536), t47, t34, t44] w) (
  K2 [t24, (.int .i64 0), (.int .i32 0), (.int .i32 0), t34, t44] w)))) fun x2 w =>
  M.winnowref03_Rune.j2 x2 a0 x1 w K
def M.winnowref03_Rune.j0 (a0 : Value) (x0 : List Value) (w : World) (K : KV) : Prop :=
  ixT P T.string a0 (.int .i64 0) w fun t13 w =>
  joinT (fun K1 =>
  binT P .lss T.uint8 (.tmp 14) (.const (.int .u8 128)) t13 (.int .u8 128) w fun t15 w =>
  condT t15 (
  cvT P T.uint8 T.int32 t13 w fun t17 w =>
  K (.tuple #[t17, (.int .i64 1)]) w) (
  K1 [(gv x0 0), (gv x0 1)] w)) fun x1 w =>
  M.winnowref03_Rune.j1 t13 a0 x1 w K
/-- winnow/winnowref03.Rune -/
def M.winnowref03_Rune (a0 : Value) (w : World) (K : KV) : Prop :=
  joinT (fun K0 =>
  biT P .len #[T.string] T.int [false] [a0] w fun t10 w =>
  binT P .eql T.int (.tmp 10) (.const (.int .i64 0)) t10 (.int .i64 0) w fun t11 w =>
  condT t11 (
  K (.tuple #[(.int .i32 0), (.int .i64 0)]) w) (
  K0 [(.int .i32 0), (.int .i64 0)] w)) fun x0 w =>
  M.winnowref03_Rune.j0 a0 x0 w K
def M.winnowref03_Rune.L : List Nat := [0, 2, 3, 4, 5, 6, 7, 18, 28, 38, 8]
def M.winnowref03_Rune.pl : Nat → Plan := fun id => ⟨.nil, [], false⟩
theorem M.winnowref03_Rune.eq (a0 : Value) (w : World) (K : KV) : M.winnowref03_Rune a0 w K = den P M.winnowref03_Rune.L M.winnowref03_Rune.pl (Try.f118.body.getD .skip) (argE [a0]) w (bodyQ P Try.f118.results.toList K) := by kernel_rfl
theorem M.winnowref03_Rune.ok : okFn M.winnowref03_Rune.L M.winnowref03_Rune.pl Try.f118 (Try.f118.body.getD .skip) 1 = true := by kernel_rfl
theorem M.winnowref03_Rune.calls (a0 : Value) {w : World} {K : KV} (h : M.winnowref03_Rune a0 w K) : callT P F.winnowref03_Rune [a0] w K :=
  callT_of_den (by kernel_rfl) Try.func118 (by kernel_rfl) M.winnowref03_Rune.ok (M.winnowref03_Rune.eq a0 w K ▸ h)
theorem M.winnowref03_Rune.fcall (args : List Value) (w : World) (K : KV) : fcallT P F.winnowref03_Rune args w K = callT P F.winnowref03_Rune args w K := fcallT_eq Try.func118 (by kernel_rfl) (by kernel_rfl) args w K
theorem M.winnowref03_Rune.rcall (a c args : List Value) (w : World) (K : KV) : callRT P (.func (.func F.winnowref03_Rune) a.toArray c.toArray) args w K = callT P F.winnowref03_Rune (a ++ args ++ c) w K := callR_fn Try.func118 (by kernel_rfl) (by kernel_rfl) a c args w K

/-- math/bits.Len -/
def M.math_bits_Len (a0 : Value) (w : World) (K : KV) : Prop :=
  joinT (fun K0 =>
  condT (.bool false) (
  cvT P T.uint T.uint32 a0 w fun t4 w =>
  fcallT P F.math_bits_Len32 [t4] w fun t5 w =>
  K t5 w) (
  K0 [(.int .i64 0)] w)) fun x0 w =>
  fcallT P F.math_bits_Len64 [a0] w fun t7 w =>
  K t7 w
def M.math_bits_Len.L : List Nat := [0, 2]
def M.math_bits_Len.pl : Nat → Plan := fun id => ⟨.nil, [], false⟩
theorem M.math_bits_Len.eq (a0 : Value) (w : World) (K : KV) : M.math_bits_Len a0 w K = den P M.math_bits_Len.L M.math_bits_Len.pl (Try.f121.body.getD .skip) (argE [a0]) w (bodyQ P Try.f121.results.toList K) := by kernel_rfl
theorem M.math_bits_Len.ok : okFn M.math_bits_Len.L M.math_bits_Len.pl Try.f121 (Try.f121.body.getD .skip) 1 = true := by kernel_rfl
theorem M.math_bits_Len.calls (a0 : Value) {w : World} {K : KV} (h : M.math_bits_Len a0 w K) : callT P F.math_bits_Len [a0] w K :=
  callT_of_den (by kernel_rfl) Try.func121 (by kernel_rfl) M.math_bits_Len.ok (M.math_bits_Len.eq a0 w K ▸ h)
theorem M.math_bits_Len.fcall (args : List Value) (w : World) (K : KV) : fcallT P F.math_bits_Len args w K = callT P F.math_bits_Len args w K := fcallT_eq Try.func121 (by kernel_rfl) (by kernel_rfl) args w K
theorem M.math_bits_Len.rcall (a c args : List Value) (w : World) (K : KV) : callRT P (.func (.func F.math_bits_Len) a.toArray c.toArray) args w K = callT P F.math_bits_Len (a ++ args ++ c) w K := callR_fn Try.func121 (by kernel_rfl) (by kernel_rfl) a c args w K

def M.slices_pdqsortOrdered_uint64.j6 (a0 : Value) (x6 : List Value) (x0 : List Value) (x4 : List Value) (t21 : Value) (x3 : List Value) (K0 : KL) (w : World) (K : KV) : Prop :=
  fcallT P F.slices_partitionOrdered_uint64 [a0, (gv x6 1), (gv x0 13), (gv x4 0)] w fun t99 w =>
  exT P t99 0 w fun t100 w =>
  exT P t99 1 w fun t101 w =>
  binT P .sub T.int (.tmp 103) (.tmp 104) t100 (gv x6 1) w fun t105 w =>
  binT P .sub T.int (.tmp 106) (.tmp 107) (gv x0 13) t100 w fun t108 w =>
  binT P .quo T.int (.tmp 109) (.const (.int .i64 8)) t21 (.int .i64 8) w fun t110 w =>
  binT P .lss T.int (.tmp 111) (.tmp 112) t105 t108 w fun t113 w =>
  condT t113 (
  binT P .geq T.int (.tmp 114) (.tmp 115) t105 t110 w fun t116 w =>
  fcallT P F.slices_pdqsortOrdered_uint64 [a0, (gv x6 1), t100, (gv x3 0)] w fun t121 w =>
  binT P .add T.int (.tmp 122) (.const (.int .i64 1)) t100 (.int .i64 1) w fun t123 w =>
  K0 [t21, (gv x3 0), (gv x4 0), (gv x4 1), (gv x6 0), t123, t100, t101, t101, t105, t108, t110, t116, (gv x0 13)] w) (
  binT P .geq T.int (.tmp 124) (.tmp 125) t108 t110 w fun t126 w =>
  binT P .add T.int (.tmp 128) (.const (.int .i64 1)) t100 (.int .i64 1) w fun t129 w =>
  fcallT P F.slices_pdqsortOrdered_uint64 [a0, t129, (gv x0 13), (gv x3 0)] w fun t132 w =>
  K0 [t21, (gv x3 0), (gv x4 0), (gv x4 1), (gv x6 0), (gv x6 1), t100, t101, t101, t105, t108, t110, t126, t100] w)
def M.slices_pdqsortOrdered_uint64.j5 (x0 : List Value) (a0 : Value) (x4 : List Value) (K0 : KL) (t21 : Value) (x3 : List Value) (w : World) (K : KV) : Prop :=
  joinT (fun K6 =>
  drawT w fun w =>
  w = w ∧ quietT (fun K' => binT P .gtr T.int (.tmp 73) (.const (.int .i64 0)) (gv x0 5) (.int .i64 0) w K') w fun t74 =>
  w = w ∧ quietT (fun K' => guardT (isB t74 true) (fun K' => K' a0 w) w K') w fun t76 =>
  quietT (fun K' => guardT (isB t74 true) (fun K' => K' (gv x0 5) w) w K') w fun t77 =>
  quietT (fun K' => guardT (isB t74 true) (fun K' => binT P .sub T.int (.tmp 77) (.const (.int .i64 1)) t77 (.int .i64 1) w K') w K') w fun t78 =>
  quietT (fun K' => guardT (isB t74 true) (fun K' => iaT P T.sl_uint64 t76 t78 w K') w K') w fun t79 =>
  quietT (fun K' => guardT (isB t74 true) (fun K' => ldT P T.uint64 t79 w K') w K') w fun t80 =>
  quietT (fun K' => guardT (isB t74 true) (fun K' => K' a0 w) w K') w fun t81 =>
  quietT (fun K' => guardT (isB t74 true) (fun K' => K' (gv x4 0) w) w K') w fun t82 =>
  quietT (fun K' => guardT (isB t74 true) (fun K' => iaT P T.sl_uint64 t81 t82 w K') w K') w fun t83 =>
  quietT (fun K' => guardT (isB t74 true) (fun K' => ldT P T.uint64 t83 w K') w K') w fun t84 =>
  guardT (isB t74 true) (fun K' => fcallT P F.cmp_Less_uint64 [t80, t84] w K') w fun t85 w =>
  quietT (fun K' => guardT (isB t74 true) (fun K' => unT P .not t85 w K') w K') w fun t86 =>
  quietT (fun K' => pickT t74 t86 (.bool false) w K') w fun t87 =>
  condT t87 (
  fcallT P F.slices_partitionEqualOrdered_uint64 [a0, (gv x0 5), (gv x0 13), (gv x4 0)] w fun t92 w =>
  K0 [t21, (gv x3 0), (gv x4 0), (gv x4 1), t92, t92, (gv x0 6), (gv x0 7), (gv x0 8), (gv x0 9), (gv x0 10), (gv x0 11), (gv x0 12), (gv x0 13)] w) (
  K6 [(gv x0 4), (gv x0 5)] w)) fun x6 w =>
  M.slices_pdqsortOrdered_uint64.j6 a0 x6 x0 x4 t21 x3 K0 w K
def M.slices_pdqsortOrdered_uint64.j4 (x0 : List Value) (x4 : List Value) (a0 : Value) (K0 : KL) (t21 : Value) (x3 : List Value) (w : World) (K : KV) : Prop :=
  joinT (fun K5 =>
  guardT (isB (gv x0 12) true) (fun K' => K' (gv x0 8) w) w fun t63 w =>
  pickT (gv x0 12) t63 (.bool false) w fun t64 w =>
  guardT (isB t64 true) (fun K' => K' (gv x4 1) w) w fun t66 w =>
  guardT (isB t64 true) (fun K' => binT P .eql T.slices_sortedHint (.tmp 66) (.const (.int .i64 1)) t66 (.int .i64 1) w K') w fun t67 w =>
  pickT t64 t67 (.bool false) w fun t68 w =>
  condT t68 (
  fcallT P F.slices_partialInsertionSortOrdered_uint64 [a0, (gv x0 5), (gv x0 13)] w fun t72 w =>
  condT t72 (
  K (.tuple #[]) w) (
  K5 [] w)) (
  K5 [] w)) fun x5 w =>
  M.slices_pdqsortOrdered_uint64.j5 x0 a0 x4 K0 t21 x3 w K
def M.slices_pdqsortOrdered_uint64.j3 (a0 : Value) (x0 : List Value) (K0 : KL) (t21 : Value) (x3 : List Value) (w : World) (K : KV) : Prop :=
  fcallT P F.slices_choosePivotOrdered_uint64 [a0, (gv x0 5), (gv x0 13)] w fun t46 w =>
  exT P t46 0 w fun t47 w =>
  exT P t46 1 w fun t48 w =>
  joinT (fun K4 =>
  binT P .eql T.slices_sortedHint (.tmp 49) (.const (.int .i64 2)) t48 (.int .i64 2) w fun t50 w =>
  condT t50 (
  fcallT P F.slices_reverseRangeOrdered_uint64 [a0, (gv x0 5), (gv x0 13)] w fun t54 w =>
  binT P .sub T.int (.tmp 55) (.const (.int .i64 1)) (gv x0 13) (.int .i64 1) w fun t56 w =>
  binT P .sub T.int (.tmp 57) (.tmp 58) t47 (gv x0 5) w fun t59 w =>
  binT P .sub T.int (.tmp 56) (.tmp 59) t56 t59 w fun t60 w =>
  K4 [t60, (.int .i64 1)] w) (
  K4 [t47, t48] w)) fun x4 w =>
  M.slices_pdqsortOrdered_uint64.j4 x0 x4 a0 K0 t21 x3 w K
def M.slices_pdqsortOrdered_uint64.j2 (x0 : List Value) (a0 : Value) (K0 : KL) (t21 : Value) (w : World) (K : KV) : Prop :=
  joinT (fun K3 =>
  unT P .not (gv x0 12) w fun t35 w =>
  condT t35 (
  fcallT P F.slices_breakPatternsOrdered_uint64 [a0, (gv x0 5), (gv x0 13)] w fun t39 w =>
  binT P .sub T.int (.tmp 40) (.const (.int .i64 1)) (gv x0 1) (.int .i64 1) w fun t41 w =>
  K3 [t41] w) (
  K3 [(gv x0 1)] w)) fun x3 w =>
  M.slices_pdqsortOrdered_uint64.j3 a0 x0 K0 t21 x3 w K
def M.slices_pdqsortOrdered_uint64.j1 (x0 : List Value) (a0 : Value) (K0 : KL) (t21 : Value) (w : World) (K : KV) : Prop :=
  joinT (fun K2 =>
  binT P .eql T.int (.tmp 28) (.const (.int .i64 0)) (gv x0 1) (.int .i64 0) w fun t29 w =>
  condT t29 (
  fcallT P F.slices_heapSortOrdered_uint64 [a0, (gv x0 5), (gv x0 13)] w fun t33 w =>
  K (.tuple #[]) w) (
  K2 [] w)) fun x2 w =>
  M.slices_pdqsortOrdered_uint64.j2 x0 a0 K0 t21 w K
def M.slices_pdqsortOrdered_uint64.j0 (x0 : List Value) (a0 : Value) (K0 : KL) (w : World) (K : KV) : Prop :=
  binT P .sub T.int (.tmp 19) (.tmp 20) (gv x0 13) (gv x0 5) w fun t21 w =>
  joinT (fun K1 =>
  binT P .leq T.int (.tmp 22) (.const (.int .i64 12)) t21 (.int .i64 12) w fun t23 w =>
  condT t23 (
  fcallT P F.slices_insertionSortOrdered_uint64 [a0, (gv x0 5), (gv x0 13)] w fun t27 w =>
  K (.tuple #[]) w) (
  K1 [] w)) fun x1 w =>
  M.slices_pdqsortOrdered_uint64.j1 x0 a0 K0 t21 w K
/-- slices.pdqsortOrdered[uint64] -/
def M.slices_pdqsortOrdered_uint64 (a0 a1 a2 a3 : Value) (w : World) (K : KV) : Prop :=
  loopT [undef, a3, undef, undef, undef, a1, undef, undef, (.bool true), undef, undef, undef, (.bool true), a2] w fun K0 x0 w =>
  M.slices_pdqsortOrdered_uint64.j0 x0 a0 K0 w K
def M.slices_pdqsortOrdered_uint64.L : List Nat := [0, 1, 2, 3, 8, 9, 10, 11, 12, 13, 14, 15, 16, 17, 18]
def M.slices_pdqsortOrdered_uint64.pl : Nat → Plan := fun id => cond (Nat.beq id 17) ⟨(.go 0 (.go 1 (.go 2 (.go 3 (.go 4 (.go 5 (.go 6 (.go 7 (.go 8 (.go 9 (.go 10 (.go 11 (.eff 12 (.go 13 (.go 14 .nil)) .stop))))))))))))), [12], false⟩ (⟨.nil, [], false⟩)
theorem M.slices_pdqsortOrdered_uint64.eq (a0 a1 a2 a3 : Value) (w : World) (K : KV) : M.slices_pdqsortOrdered_uint64 a0 a1 a2 a3 w K = den P M.slices_pdqsortOrdered_uint64.L M.slices_pdqsortOrdered_uint64.pl (Try.f123.body.getD .skip) (argE [a0, a1, a2, a3]) w (bodyQ P Try.f123.results.toList K) := by kernel_rfl
theorem M.slices_pdqsortOrdered_uint64.ok : okFn M.slices_pdqsortOrdered_uint64.L M.slices_pdqsortOrdered_uint64.pl Try.f123 (Try.f123.body.getD .skip) 4 = true := by kernel_rfl
theorem M.slices_pdqsortOrdered_uint64.calls (a0 a1 a2 a3 : Value) {w : World} {K : KV} (h : M.slices_pdqsortOrdered_uint64 a0 a1 a2 a3 w K) : callT P F.slices_pdqsortOrdered_uint64 [a0, a1, a2, a3] w K :=
  callT_of_den (by kernel_rfl) Try.func123 (by kernel_rfl) M.slices_pdqsortOrdered_uint64.ok (M.slices_pdqsortOrdered_uint64.eq a0 a1 a2 a3 w K ▸ h)
theorem M.slices_pdqsortOrdered_uint64.fcall (args : List Value) (w : World) (K : KV) : fcallT P F.slices_pdqsortOrdered_uint64 args w K = callT P F.slices_pdqsortOrdered_uint64 args w K := fcallT_eq Try.func123 (by kernel_rfl) (by kernel_rfl) args w K
theorem M.slices_pdqsortOrdered_uint64.rcall (a c args : List Value) (w : World) (K : KV) : callRT P (.func (.func F.slices_pdqsortOrdered_uint64) a.toArray c.toArray) args w K = callT P F.slices_pdqsortOrdered_uint64 (a ++ args ++ c) w K := callR_fn Try.func123 (by kernel_rfl) (by kernel_rfl) a c args w K

/-- cmp.isNaN[uint64] -/
def M.cmp_isNaN_uint64 (a0 : Value) (w : World) (K : KV) : Prop :=
  binT P .neq T.uint64 (.tmp 3) (.tmp 4) a0 a0 w fun t5 w =>
  K t5 w
def M.cmp_isNaN_uint64.L : List Nat := [0, 2]
def M.cmp_isNaN_uint64.pl : Nat → Plan := fun id => ⟨.nil, [], false⟩
theorem M.cmp_isNaN_uint64.eq (a0 : Value) (w : World) (K : KV) : M.cmp_isNaN_uint64 a0 w K = den P M.cmp_isNaN_uint64.L M.cmp_isNaN_uint64.pl (Try.f124.body.getD .skip) (argE [a0]) w (bodyQ P Try.f124.results.toList K) := by kernel_rfl
theorem M.cmp_isNaN_uint64.ok : okFn M.cmp_isNaN_uint64.L M.cmp_isNaN_uint64.pl Try.f124 (Try.f124.body.getD .skip) 1 = true := by kernel_rfl
theorem M.cmp_isNaN_uint64.calls (a0 : Value) {w : World} {K : KV} (h : M.cmp_isNaN_uint64 a0 w K) : callT P F.cmp_isNaN_uint64 [a0] w K :=
  callT_of_den (by kernel_rfl) Try.func124 (by kernel_rfl) M.cmp_isNaN_uint64.ok (M.cmp_isNaN_uint64.eq a0 w K ▸ h)
theorem M.cmp_isNaN_uint64.fcall (args : List Value) (w : World) (K : KV) : fcallT P F.cmp_isNaN_uint64 args w K = callT P F.cmp_isNaN_uint64 args w K := fcallT_eq Try.func124 (by kernel_rfl) (by kernel_rfl) args w K
theorem M.cmp_isNaN_uint64.rcall (a c args : List Value) (w : World) (K : KV) : callRT P (.func (.func F.cmp_isNaN_uint64) a.toArray c.toArray) args w K = callT P F.cmp_isNaN_uint64 (a ++ args ++ c) w K := callR_fn Try.func124 (by kernel_rfl) (by kernel_rfl) a c args w K

/-- internal/stringslite.HasPrefix -/
def M.internal_stringslite_HasPrefix (a0 a1 : Value) (w : World) (K : KV) : Prop :=
  biT P .len #[T.string] T.int [false] [a0] w fun t6 w =>
  biT P .len #[T.string] T.int [false] [a1] w fun t8 w =>
  binT P .geq T.int (.tmp 6) (.tmp 8) t6 t8 w fun t9 w =>
  guardT (isB t9 true) (fun K' => K' a0 w) w fun t11 w =>
  guardT (isB t9 true) (fun K' => K' a1 w) w fun t12 w =>
  guardT (isB t9 true) (fun K' => biT P .len #[T.string] T.int [false] [t12] w K') w fun t13 w =>
  guardT (isB t9 true) (fun K' => slT P T.string t11 none (some t13) none w K') w fun t14 w =>
  guardT (isB t9 true) (fun K' => K' a1 w) w fun t15 w =>
  guardT (isB t9 true) (fun K' => binT P .eql T.string (.tmp 14) (.tmp 15) t14 t15 w K') w fun t16 w =>
  pickT t9 t16 (.bool false) w fun t17 w =>
  K t17 w
def M.internal_stringslite_HasPrefix.L : List Nat := [0, 1, 4]
def M.internal_stringslite_HasPrefix.pl : Nat → Plan := fun id => ⟨.nil, [], false⟩
theorem M.internal_stringslite_HasPrefix.eq (a0 a1 : Value) (w : World) (K : KV) : M.internal_stringslite_HasPrefix a0 a1 w K = den P M.internal_stringslite_HasPrefix.L M.internal_stringslite_HasPrefix.pl (Try.f130.body.getD .skip) (argE [a0, a1]) w (bodyQ P Try.f130.results.toList K) := by kernel_rfl
theorem M.internal_stringslite_HasPrefix.ok : okFn M.internal_stringslite_HasPrefix.L M.internal_stringslite_HasPrefix.pl Try.f130 (Try.f130.body.getD .skip) 2 = true := by kernel_rfl
theorem M.internal_stringslite_HasPrefix.calls (a0 a1 : Value) {w : World} {K : KV} (h : M.internal_stringslite_HasPrefix a0 a1 w K) : callT P F.internal_stringslite_HasPrefix [a0, a1] w K :=
  callT_of_den (by kernel_rfl) Try.func130 (by kernel_rfl) M.internal_stringslite_HasPrefix.ok (M.internal_stringslite_HasPrefix.eq a0 a1 w K ▸ h)
theorem M.internal_stringslite_HasPrefix.fcall (args : List Value) (w : World) (K : KV) : fcallT P F.internal_stringslite_HasPrefix args w K = callT P F.internal_stringslite_HasPrefix args w K := fcallT_eq Try.func130 (by kernel_rfl) (by kernel_rfl) args w K
theorem M.internal_stringslite_HasPrefix.rcall (a c args : List Value) (w : World) (K : KV) : callRT P (.func (.func F.internal_stringslite_HasPrefix) a.toArray c.toArray) args w K = callT P F.internal_stringslite_HasPrefix (a ++ args ++ c) w K := callR_fn Try.func130 (by kernel_rfl) (by kernel_rfl) a c args w K

def M.math_bits_Len64.j2 (x2 : List Value) (w : World) (K : KV) : Prop :=
  cvT P T.uint64 T.uint8 (gv x2 0) w fun t21 w =>
  ixT P T.string (.string ⟨#[0, 1, 2, 2, 3, 3, 3, 3, 4, 4, 4, 4, 4, 4, 4, 4, 5, 5, 5, 5, 5, 5, 5, 5, 5, 5, 5, 5, 5, 5, 5, 5, 6, 6, 6, 6, 6, 6, 6, 6, 6, 6, 6, 6, 6, 6, 6, 6, 6, 6, 6, 6, 6, 6, 6, 6, 6, 6, 6, 6, 6, 6, 6, 6, 7, 7, 7, 7, 7, 7, 7, 7, 7, 7, 7, 7, 7, 7, 7, 7, 7, 7, 7, 7, 7, 7, 7, 7, 7, 7, 7, 7, 7, 7, 7, 7, 7, 7, 7, 7, 7, 7, 7, 7, 7, 7, 7, 7, 7, 7, 7, 7, 7, 7, 7, 7, 7, 7, 7, 7, 7, 7, 7, 7, 7, 7, 7, 7, 8, 8, 8, 8, 8, 8, 8, 8, 8, 8, 8, 8, 8, 8, 8, 8, 8, 8, 8, 8, 8, 8, 8, 8, 8, 8, 8, 8, 8, 8, 8, 8, 8, 8, 8, 8, 8, 8, 8, 8, 8, 8, 8, 8, 8, 8, 8, 8, 8, 8, 8, 8, 8, 8, 8, 8, 8, 8, 8, 8, 8, 8, 8, 8, 8, 8, 8, 8, 8, 8, 8, 8, 8, 8, 8, 8, 8, 8, 8, 8, 8, 8, 8, 8, 8, 8, 8, 8, 8, 8, 8, 8, 8, 8, 8, 8, 8, 8, 8, 8, 8, 8, 8, 8, 8, 8, 8, 8, 8, 8, 8, 8, 8, 8, 8, 8, 8, 8, 8, 8, 8, 8, 8, 8, 8, 8, 8, 8]⟩) t21 w fun t22 w =>
  cvT P T.uint8 T.int t22 w fun t23 w =>
  binT P .add T.int (.tmp 19) (.tmp 23) (gv x2 1) t23 w fun t24 w =>
  K t24 w
def M.math_bits_Len64.j1 (x1 : List Value) (w : World) (K : KV) : Prop :=
  joinT (fun K2 =>
  binT P .geq T.uint64 (.tmp 13) (.const (.int .u64 256)) (gv x1 0) (.int .u64 256) w fun t14 w =>
  condT t14 (
  binT P .shr T.uint64 (.tmp 15) (.const (.int .u64 8)) (gv x1 0) (.int .u64 8) w fun t16 w =>
  binT P .add T.int (.tmp 17) (.const (.int .i64 8)) (gv x1 1) (.int .i64 8) w fun t18 w =>
  K2 [t16, t18] w) (
  K2 [(gv x1 0), (gv x1 1)] w)) fun x2 w =>
  M.math_bits_Len64.j2 x2 w K
def M.math_bits_Len64.j0 (x0 : List Value) (w : World) (K : KV) : Prop :=
  joinT (fun K1 =>
  binT P .geq T.uint64 (.tmp 7) (.const (.int .u64 65536)) (gv x0 0) (.int .u64 65536) w fun t8 w =>
  condT t8 (
  binT P .shr T.uint64 (.tmp 9) (.const (.int .u64 16)) (gv x0 0) (.int .u64 16) w fun t10 w =>
  binT P .add T.int (.tmp 11) (.const (.int .i64 16)) (gv x0 1) (.int .i64 16) w fun t12 w =>
  K1 [t10, t12] w) (
  K1 [(gv x0 0), (gv x0 1)] w)) fun x1 w =>
  M.math_bits_Len64.j1 x1 w K
/-- math/bits.Len64 -/
def M.math_bits_Len64 (a0 : Value) (w : World) (K : KV) : Prop :=
  joinT (fun K0 =>
  binT P .geq T.uint64 (.tmp 3) (.const (.int .u64 4294967296)) a0 (.int .u64 4294967296) w fun t4 w =>
  condT t4 (
  binT P .shr T.uint64 (.tmp 5) (.const (.int .u64 32)) a0 (.int .u64 32) w fun t6 w =>
  K0 [t6, (.int .i64 32)] w) (
  K0 [a0, (.int .i64 0)] w)) fun x0 w =>
  M.math_bits_Len64.j0 x0 w K
def M.math_bits_Len64.L : List Nat := [0, 2]
def M.math_bits_Len64.pl : Nat → Plan := fun id => ⟨.nil, [], false⟩
theorem M.math_bits_Len64.eq (a0 : Value) (w : World) (K : KV) : M.math_bits_Len64 a0 w K = den P M.math_bits_Len64.L M.math_bits_Len64.pl (Try.f141.body.getD .skip) (argE [a0]) w (bodyQ P Try.f141.results.toList K) := by kernel_rfl
theorem M.math_bits_Len64.ok : okFn M.math_bits_Len64.L M.math_bits_Len64.pl Try.f141 (Try.f141.body.getD .skip) 1 = true := by kernel_rfl
theorem M.math_bits_Len64.calls (a0 : Value) {w : World} {K : KV} (h : M.math_bits_Len64 a0 w K) : callT P F.math_bits_Len64 [a0] w K :=
  callT_of_den (by kernel_rfl) Try.func141 (by kernel_rfl) M.math_bits_Len64.ok (M.math_bits_Len64.eq a0 w K ▸ h)
theorem M.math_bits_Len64.fcall (args : List Value) (w : World) (K : KV) : fcallT P F.math_bits_Len64 args w K = callT P F.math_bits_Len64 args w K := fcallT_eq Try.func141 (by kernel_rfl) (by kernel_rfl) args w K
theorem M.math_bits_Len64.rcall (a c args : List Value) (w : World) (K : KV) : callRT P (.func (.func F.math_bits_Len64) a.toArray c.toArray) args w K = callT P F.math_bits_Len64 (a ++ args ++ c) w K := callR_fn Try.func141 (by kernel_rfl) (by kernel_rfl) a c args w K

end Go.Proofs.Ytgcpljghnlohbaa
