/-
  Printed by wip/Shallow.lean: functions of the program, read shallow; each is what its code does. No condition.
-/
import Derived.Test.YtgcpljghnlohbaaN
set_option maxRecDepth 1000000
namespace Go.Proofs.Ytgcpljghnlohbaa
open Go.Eng

/-- winnow/winnowlaw09.alive -/
def M.winnowlaw09_alive (w : World) (K : KV) : Prop :=
  bldT P T.api_Member #[(0, (.int .u64 1)), (1, (.int .u64 1)), (2, (.int .i64 2))] w fun t5 w =>
  bldT P T.api_Member #[(0, (.int .u64 1)), (1, (.int .u64 2))] w fun t6 w =>
  alT P T.api_Member w fun t1 w =>
  alT P T.api_Member w fun t2 w =>
  stT P T.api_Member t1 t5 w fun _ w =>
  stT P T.api_Member t2 t6 w fun _ w =>
  ldT P T.api_Member t1 w fun t8 w =>
  bsT P T.sl_api_Member 1 #[(0, t8)] w fun t9 w =>
  ldT P T.api_Member t2 w fun t10 w =>
  bsT P T.sl_api_Member 1 #[(0, t10)] w fun t11 w =>
  fcallT P F.view_Merge [t9, t11] w fun t12 w =>
  exT P t12 0 w fun t13 w =>
  exT P t12 1 w fun t14 w =>
  drawT w fun w =>
  quietT (fun K' => ldT P T.api_Member t2 w K') w fun t15 =>
  quietT (fun K' => ldT P T.api_Member t1 w K') w fun t16 =>
  fcallT P F.view_Newer [t15, t16] w fun t17 w =>
  w = w ∧ quietT (fun K' => guardT (isB t17 true) (fun K' => K' t14 w) w K') w fun t19 =>
  quietT (fun K' => guardT (isB t17 true) (fun K' => binT P .eql T.api_Kind (.tmp 19) (.const (.int .i64 0)) t19 (.int .i64 0) w K') w K') w fun t20 =>
  quietT (fun K' => pickT t17 t20 (.bool false) w K') w fun t21 =>
  w = w ∧ quietT (fun K' => guardT (isB t21 true) (fun K' => K' t13 w) w K') w fun t23 =>
  quietT (fun K' => guardT (isB t21 true) (fun K' => biT P .len #[T.sl_api_Member] T.int [false] [t23] w K') w K') w fun t24 =>
  quietT (fun K' => guardT (isB t21 true) (fun K' => binT P .eql T.int (.tmp 24) (.const (.int .i64 1)) t24 (.int .i64 1) w K') w K') w fun t25 =>
  quietT (fun K' => pickT t21 t25 (.bool false) w K') w fun t26 =>
  w = w ∧ quietT (fun K' => guardT (isB t26 true) (fun K' => K' t13 w) w K') w fun t28 =>
  quietT (fun K' => guardT (isB t26 true) (fun K' => iaT P T.sl_api_Member t28 (.int .i64 0) w K') w K') w fun t29 =>
  quietT (fun K' => guardT (isB t26 true) (fun K' => ldT P T.api_Member t29 w K') w K') w fun t30 =>
  quietT (fun K' => guardT (isB t26 true) (fun K' => ldT P T.api_Member t2 w K') w K') w fun t31 =>
  quietT (fun K' => guardT (isB t26 true) (fun K' => binT P .eql T.api_Member (.tmp 30) (.tmp 31) t30 t31 w K') w K') w fun t32 =>
  quietT (fun K' => pickT t26 t32 (.bool false) w K') w fun t33 =>
  w = w ∧ quietT (fun K' => guardT (isB t33 true) (fun K' => K' t13 w) w K') w fun t35 =>
  quietT (fun K' => guardT (isB t33 true) (fun K' => ldT P T.api_Member t2 w K') w K') w fun t36 =>
  guardT (isB t33 true) (fun K' => bsT P T.sl_api_Member 1 #[(0, t36)] w K') w fun t37 w =>
  stabT (fun K' => guardT (isB t33 true) (fun K' => K' t13 w) w K') w t35 ∧ guardT (isB t33 true) (fun K' => fcallT P F.view_Same [t35, t37] w K') w fun t38 w =>
  quietT (fun K' => pickT t33 t38 (.bool false) w K') w fun t39 =>
  K t39 w
def M.winnowlaw09_alive.L : List Nat := [0, 3, 4]
def M.winnowlaw09_alive.pl : Nat → Plan := fun id => cond (Nat.beq id 3) ⟨(.go 0 (.go 1 (.eff 2 (.go 3 (.go 4 (.go 5 (.go 6 (.go 7 (.go 8 (.go 9 (.go 10 (.go 11 (.go 12 (.go 13 (.go 14 (.go 15 (.go 16 (.go 17 (.go 18 (.go 19 (.go 20 (.go 21 (.eff 22 (.eff 23 (.go 24 (.eff 25 .nil .stop)) .stop) .stop)))))))))))))))))))) .stop))), [2, 22, 23, 25], false⟩ (⟨.nil, [], false⟩)
theorem M.winnowlaw09_alive.eq (w : World) (K : KV) : M.winnowlaw09_alive  w K = den P M.winnowlaw09_alive.L M.winnowlaw09_alive.pl (Try.f50.body.getD .skip) (argE []) w (bodyQ P Try.f50.results.toList K) := by kernel_rfl
theorem M.winnowlaw09_alive.ok : okFn M.winnowlaw09_alive.L M.winnowlaw09_alive.pl Try.f50 (Try.f50.body.getD .skip) 0 = true := by kernel_rfl
theorem M.winnowlaw09_alive.calls {w : World} {K : KV} (h : M.winnowlaw09_alive  w K) : callT P F.winnowlaw09_alive [] w K :=
  callT_of_den (by kernel_rfl) Try.func50 (by kernel_rfl) M.winnowlaw09_alive.ok (M.winnowlaw09_alive.eq  w K ▸ h)
theorem M.winnowlaw09_alive.fcall (args : List Value) (w : World) (K : KV) : fcallT P F.winnowlaw09_alive args w K = callT P F.winnowlaw09_alive args w K := fcallT_eq Try.func50 (by kernel_rfl) (by kernel_rfl) args w K

def M.view_Merge.j3 (t27 : Value) (x2 : List Value) (t23 : Value) (K2 : KL) (w : World) (K : KV) : Prop :=
  joinT (fun K4 =>
  iaT P T.sl_api_Member t27 (gv x2 1) w fun t31 w =>
  ldT P T.api_Member t31 w fun t32 w =>
  alT P T.api_Member w fun t9 w =>
  stT P T.api_Member t9 t32 w fun _ w =>
  faT P T.api_Member t9 0 w fun t35 w =>
  ldT P T.uint64 t35 w fun t36 w =>
  luT P T.map_uint64_api_Member t23 t36 true w fun t37 w =>
  exT P t37 0 w fun t38 w =>
  exT P t37 1 w fun t39 w =>
  alT P T.api_Member w fun t10 w =>
  stT P T.api_Member t10 t38 w fun _ w =>
  unT P .not t39 w fun t41 w =>
  guardT (isB t41 false) (fun K' => ldT P T.api_Member t9 w K') w fun t43 w =>
  guardT (isB t41 false) (fun K' => ldT P T.api_Member t10 w K') w fun t44 w =>
  guardT (isB t41 false) (fun K' => fcallT P F.view_Newer [t43, t44] w K') w fun t45 w =>
  pickT t41 (.bool true) t45 w fun t46 w =>
  condT t46 (
  faT P T.api_Member t9 0 w fun t48 w =>
  ldT P T.uint64 t48 w fun t49 w =>
  ldT P T.api_Member t9 w fun t50 w =>
  muT P T.map_uint64_api_Member t23 t49 t50 w fun _ w =>
  K4 [t39] w) (
  K4 [t39] w)) fun x4 w =>
  binT P .add T.int (.tmp 29) (.const (.int .i64 1)) (gv x2 1) (.int .i64 1) w fun t51 w =>
  K2 [(gv x4 0), t51] w
def M.view_Merge.j8 (t57 : Value) (x7 : List Value) (t23 : Value) (K7 : KL) (w : World) (K : KV) : Prop :=
  joinT (fun K9 =>
  iaT P T.sl_uint64 t57 (gv x7 2) w fun t61 w =>
  ldT P T.uint64 t61 w fun t62 w =>
  luT P T.map_uint64_api_Member t23 t62 false w fun t66 w =>
  bsT P T.sl_api_Member 1 #[(0, t66)] w fun t67 w =>
  biT P .append #[T.sl_api_Member, T.sl_api_Member] T.sl_api_Member [false, false] [(gv x7 1), t67] w fun t68 w =>
  K9 [t62, t68] w) fun x9 w =>
  binT P .add T.int (.tmp 59) (.const (.int .i64 1)) (gv x7 2) (.int .i64 1) w fun t69 w =>
  K7 [(gv x9 0), (gv x9 1), t69] w
def M.view_Merge.j5 (t23 : Value) (x5 : List Value) (w : World) (K : KV) : Prop :=
  joinT (fun K6 =>
  fcallT P F.maps_Keys_map_uint64_api_Member_uint64_api_Member [t23] w fun t56 w =>
  fcallT P F.slices_Sorted_uint64 [t56] w fun t57 w =>
  biT P .len #[T.sl_uint64] T.int [false] [t57] w fun t58 w =>
  loopT [undef, (gv x5 0), (.int .i64 0)] w fun K7 x7 w =>
  binT P .lss T.int (.tmp 59) (.tmp 58) (gv x7 2) t58 w fun t60 w =>
  joinT (fun K8 =>
  condT t60 (
  K8 [] w) (
  K6 [t57, t58, (gv x7 2), (gv x7 0), (gv x7 1)] w)) fun x8 w =>
  M.view_Merge.j8 t57 x7 t23 K7 w K) fun x6 w =>
  K (.tuple #[(gv x6 4), (.int .i64 0)]) w
def M.view_Merge.j1 (t23 : Value) (x0 : List Value) (w : World) (K : KV) : Prop :=
  joinT (fun K5 =>
  biT P .len #[T.map_uint64_api_Member] T.int [false] [t23] w fun t53 w =>
  binT P .gtr T.int (.tmp 53) (.const (.int .i64 16)) t53 (.int .i64 16) w fun t54 w =>
  condT t54 (
  K (.tuple #[(.slice none 0 0), (.int .i64 4)]) w) (
  K5 [(gv x0 1), (gv x0 2)] w)) fun x5 w =>
  M.view_Merge.j5 t23 x5 w K
def M.view_Merge.j0 (a0 : Value) (a1 : Value) (x0 : List Value) (w : World) (K : KV) : Prop :=
  mkmT P T.map_uint64_api_Member none w fun t23 w =>
  joinT (fun K1 =>
  bsT P T.sl_sl_api_Member 2 #[(0, a0), (1, a1)] w fun t26 w =>
  fcallT P F.slices_Concat_api_Member_api_Member [t26] w fun t27 w =>
  biT P .len #[T.sl_api_Member] T.int [false] [t27] w fun t28 w =>
  loopT [undef, (.int .i64 0)] w fun K2 x2 w =>
  binT P .lss T.int (.tmp 29) (.tmp 28) (gv x2 1) t28 w fun t30 w =>
  joinT (fun K3 =>
  condT t30 (
  K3 [] w) (
  K1 [t27, t28, (gv x2 1), (gv x2 0)] w)) fun x3 w =>
  M.view_Merge.j3 t27 x2 t23 K2 w K) fun x1 w =>
  M.view_Merge.j1 t23 x0 w K
/-- winnow/view.Merge -/
def M.view_Merge (a0 a1 : Value) (w : World) (K : KV) : Prop :=
  joinT (fun K0 =>
  fcallT P F.view_Right [a0] w fun t15 w =>
  fcallT P F.view_Right [a1] w fun t17 w =>
  bsT P T.sl_api_Kind 2 #[(0, t15), (1, t17)] w fun t18 w =>
  fcallT P F.cmp_Or_api_Kind [t18] w fun t19 w =>
  binT P .neq T.api_Kind (.tmp 20) (.const (.int .i64 0)) t19 (.int .i64 0) w fun t21 w =>
  condT t21 (
  K (.tuple #[(.slice none 0 0), t19]) w) (
  K0 [t19, (.slice none 0 0), (.int .i64 0)] w)) fun x0 w =>
  M.view_Merge.j0 a0 a1 x0 w K
def M.view_Merge.L : List Nat := [0, 1, 4, 5, 6, 7, 11, 13, 29, 28, 27, 59, 58, 57]
def M.view_Merge.pl : Nat → Plan := fun id => ⟨.nil, [], false⟩
theorem M.view_Merge.eq (a0 a1 : Value) (w : World) (K : KV) : M.view_Merge a0 a1 w K = den P M.view_Merge.L M.view_Merge.pl (Try.f51.body.getD .skip) (argE [a0, a1]) w (bodyQ P Try.f51.results.toList K) := by kernel_rfl
theorem M.view_Merge.ok : okFn M.view_Merge.L M.view_Merge.pl Try.f51 (Try.f51.body.getD .skip) 2 = true := by kernel_rfl
theorem M.view_Merge.calls (a0 a1 : Value) {w : World} {K : KV} (h : M.view_Merge a0 a1 w K) : callT P F.view_Merge [a0, a1] w K :=
  callT_of_den (by kernel_rfl) Try.func51 (by kernel_rfl) M.view_Merge.ok (M.view_Merge.eq a0 a1 w K ▸ h)
theorem M.view_Merge.fcall (args : List Value) (w : World) (K : KV) : fcallT P F.view_Merge args w K = callT P F.view_Merge args w K := fcallT_eq Try.func51 (by kernel_rfl) (by kernel_rfl) args w K

def M.winnowref09_Merge.j6 (x2 : List Value) (x6 : List Value) (a1 : Value) (K5 : KL) (K6 : KL) (w : World) (K : KV) : Prop :=
  joinT (fun K7 =>
  drawT w fun w =>
  w = w ∧ w = w ∧ quietT (fun K' => biT P .len #[T.sl_api_Member] T.int [false] [(gv x2 1)] w K') w fun t28 =>
  quietT (fun K' => binT P .lss T.int (.tmp 26) (.tmp 28) (gv x6 0) t28 w K') w fun t29 =>
  w = w ∧ quietT (fun K' => guardT (isB t29 true) (fun K' => K' (gv x2 1) w) w K') w fun t31 =>
  quietT (fun K' => guardT (isB t29 true) (fun K' => K' (gv x6 0) w) w K') w fun t32 =>
  quietT (fun K' => guardT (isB t29 true) (fun K' => iaT P T.sl_api_Member t31 t32 w K') w K') w fun t33 =>
  quietT (fun K' => guardT (isB t29 true) (fun K' => faT P T.api_Member t33 0 w K') w K') w fun t34 =>
  quietT (fun K' => guardT (isB t29 true) (fun K' => ldT P T.uint64 t34 w K') w K') w fun t35 =>
  quietT (fun K' => guardT (isB t29 true) (fun K' => K' a1 w) w K') w fun t36 =>
  quietT (fun K' => guardT (isB t29 true) (fun K' => K' (gv x2 2) w) w K') w fun t37 =>
  quietT (fun K' => guardT (isB t29 true) (fun K' => iaT P T.sl_api_Member t36 t37 w K') w K') w fun t38 =>
  quietT (fun K' => guardT (isB t29 true) (fun K' => faT P T.api_Member t38 0 w K') w K') w fun t39 =>
  quietT (fun K' => guardT (isB t29 true) (fun K' => ldT P T.uint64 t39 w K') w K') w fun t40 =>
  quietT (fun K' => guardT (isB t29 true) (fun K' => binT P .lss T.uint64 (.tmp 35) (.tmp 40) t35 t40 w K') w K') w fun t41 =>
  quietT (fun K' => pickT t29 t41 (.bool false) w K') w fun t42 =>
  condT t42 (
  K7 [] w) (
  K5 [(gv x6 0)] w)) fun x7 w =>
  binT P .add T.int (.tmp 43) (.const (.int .i64 1)) (gv x6 0) (.int .i64 1) w fun t44 w =>
  K6 [t44] w
def M.winnowref09_Merge.j8 (x2 : List Value) (x5 : List Value) (a1 : Value) (K4 : KL) (w : World) (K : KV) : Prop :=
  drawT w fun w =>
  joinT (fun K10 =>
  w = w ∧ w = w ∧ quietT (fun K' => slT P T.sl_api_Member (gv x2 1) none (some (gv x5 0)) none w K') w fun t81 =>
  w = w ∧ w = w ∧ quietT (fun K' => iaT P T.sl_api_Member a1 (gv x2 2) w K') w fun t85 =>
  quietT (fun K' => ldT P T.api_Member t85 w K') w fun t86 =>
  w = w ∧ w = w ∧ quietT (fun K' => slT P T.sl_api_Member (gv x2 1) (some (gv x5 0)) none none w K') w fun t91 =>
  (bsT P T.sl_api_Member 0 #[] w fun t78 w =>
  stabT (fun K' => slT P T.sl_api_Member (gv x2 1) (some (gv x5 0)) none none w K') w t91 ∧ stabT (fun K' => K' (gv x5 0) w) w (gv x5 0) ∧ stabT (fun K' => K' (gv x2 1) w) w (gv x2 1) ∧ stabT (fun K' => ldT P T.api_Member t85 w K') w t86 ∧ stabT (fun K' => iaT P T.sl_api_Member a1 (gv x2 2) w K') w t85 ∧ stabT (fun K' => K' (gv x2 2) w) w (gv x2 2) ∧ stabT (fun K' => K' a1 w) w a1 ∧ stabT (fun K' => slT P T.sl_api_Member (gv x2 1) none (some (gv x5 0)) none w K') w t81 ∧ stabT (fun K' => K' (gv x5 0) w) w (gv x5 0) ∧ stabT (fun K' => K' (gv x2 1) w) w (gv x2 1) ∧ (biT P .append #[T.sl_api_Member, T.sl_api_Member] T.sl_api_Member [false, false] [t78, t81] w fun t82 w =>
  stabT (fun K' => slT P T.sl_api_Member (gv x2 1) (some (gv x5 0)) none none w K') w t91 ∧ stabT (fun K' => K' (gv x5 0) w) w (gv x5 0) ∧ stabT (fun K' => K' (gv x2 1) w) w (gv x2 1) ∧ stabT (fun K' => ldT P T.api_Member t85 w K') w t86 ∧ stabT (fun K' => iaT P T.sl_api_Member a1 (gv x2 2) w K') w t85 ∧ stabT (fun K' => K' (gv x2 2) w) w (gv x2 2) ∧ stabT (fun K' => K' a1 w) w a1 ∧ bsT P T.sl_api_Member 1 #[(0, t86)] w fun t87 w =>
  stabT (fun K' => slT P T.sl_api_Member (gv x2 1) (some (gv x5 0)) none none w K') w t91 ∧ stabT (fun K' => K' (gv x5 0) w) w (gv x5 0) ∧ stabT (fun K' => K' (gv x2 1) w) w (gv x2 1) ∧ stabT (fun K' => slT P T.sl_api_Member (gv x2 1) none (some (gv x5 0)) none w K') w t81 ∧ stabT (fun K' => K' (gv x5 0) w) w (gv x5 0) ∧ stabT (fun K' => K' (gv x2 1) w) w (gv x2 1) ∧ biT P .append #[T.sl_api_Member, T.sl_api_Member] T.sl_api_Member [false, false] [t82, t87] w fun t88 w =>
  stabT (fun K' => slT P T.sl_api_Member (gv x2 1) (some (gv x5 0)) none none w K') w t91 ∧ stabT (fun K' => K' (gv x5 0) w) w (gv x5 0) ∧ stabT (fun K' => K' (gv x2 1) w) w (gv x2 1) ∧ biT P .append #[T.sl_api_Member, T.sl_api_Member] T.sl_api_Member [false, false] [t88, t91] w fun t92 w =>
  K10 [t78, (gv x2 1), (gv x5 0), t81, t82, a1, (gv x2 2), t85, t86, t87, t88, (gv x2 1), (gv x5 0), t91, t92, t92] w) ∧
  (bsT P T.sl_api_Member 1 #[(0, t86)] w fun t87 w =>
  stabT (fun K' => slT P T.sl_api_Member (gv x2 1) (some (gv x5 0)) none none w K') w t91 ∧ stabT (fun K' => K' (gv x5 0) w) w (gv x5 0) ∧ stabT (fun K' => K' (gv x2 1) w) w (gv x2 1) ∧ stabT (fun K' => slT P T.sl_api_Member (gv x2 1) none (some (gv x5 0)) none w K') w t81 ∧ stabT (fun K' => K' (gv x5 0) w) w (gv x5 0) ∧ stabT (fun K' => K' (gv x2 1) w) w (gv x2 1) ∧ biT P .append #[T.sl_api_Member, T.sl_api_Member] T.sl_api_Member [false, false] [t78, t81] w fun t82 w =>
  stabT (fun K' => slT P T.sl_api_Member (gv x2 1) (some (gv x5 0)) none none w K') w t91 ∧ stabT (fun K' => K' (gv x5 0) w) w (gv x5 0) ∧ stabT (fun K' => K' (gv x2 1) w) w (gv x2 1) ∧ stabT (fun K' => ldT P T.api_Member t85 w K') w t86 ∧ stabT (fun K' => iaT P T.sl_api_Member a1 (gv x2 2) w K') w t85 ∧ stabT (fun K' => K' (gv x2 2) w) w (gv x2 2) ∧ stabT (fun K' => K' a1 w) w a1 ∧ biT P .append #[T.sl_api_Member, T.sl_api_Member] T.sl_api_Member [false, false] [t82, t87] w fun t88 w =>
  stabT (fun K' => slT P T.sl_api_Member (gv x2 1) (some (gv x5 0)) none none w K') w t91 ∧ stabT (fun K' => K' (gv x5 0) w) w (gv x5 0) ∧ stabT (fun K' => K' (gv x2 1) w) w (gv x2 1) ∧ biT P .append #[T.sl_api_Member, T.sl_api_Member] T.sl_api_Member [false, false] [t88, t91] w fun t92 w =>
  K10 [t78, (gv x2 1), (gv x5 0), t81, t82, a1, (gv x2 2), t85, t86, t87, t88, (gv x2 1), (gv x5 0), t91, t92, t92] w)) ∧
  (bsT P T.sl_api_Member 1 #[(0, t86)] w fun t87 w =>
  stabT (fun K' => slT P T.sl_api_Member (gv x2 1) (some (gv x5 0)) none none w K') w t91 ∧ stabT (fun K' => K' (gv x5 0) w) w (gv x5 0) ∧ stabT (fun K' => K' (gv x2 1) w) w (gv x2 1) ∧ stabT (fun K' => slT P T.sl_api_Member (gv x2 1) none (some (gv x5 0)) none w K') w t81 ∧ stabT (fun K' => K' (gv x5 0) w) w (gv x5 0) ∧ stabT (fun K' => K' (gv x2 1) w) w (gv x2 1) ∧ bsT P T.sl_api_Member 0 #[] w fun t78 w =>
  stabT (fun K' => slT P T.sl_api_Member (gv x2 1) (some (gv x5 0)) none none w K') w t91 ∧ stabT (fun K' => K' (gv x5 0) w) w (gv x5 0) ∧ stabT (fun K' => K' (gv x2 1) w) w (gv x2 1) ∧ stabT (fun K' => ldT P T.api_Member t85 w K') w t86 ∧ stabT (fun K' => iaT P T.sl_api_Member a1 (gv x2 2) w K') w t85 ∧ stabT (fun K' => K' (gv x2 2) w) w (gv x2 2) ∧ stabT (fun K' => K' a1 w) w a1 ∧ stabT (fun K' => slT P T.sl_api_Member (gv x2 1) none (some (gv x5 0)) none w K') w t81 ∧ stabT (fun K' => K' (gv x5 0) w) w (gv x5 0) ∧ stabT (fun K' => K' (gv x2 1) w) w (gv x2 1) ∧ biT P .append #[T.sl_api_Member, T.sl_api_Member] T.sl_api_Member [false, false] [t78, t81] w fun t82 w =>
  stabT (fun K' => slT P T.sl_api_Member (gv x2 1) (some (gv x5 0)) none none w K') w t91 ∧ stabT (fun K' => K' (gv x5 0) w) w (gv x5 0) ∧ stabT (fun K' => K' (gv x2 1) w) w (gv x2 1) ∧ stabT (fun K' => ldT P T.api_Member t85 w K') w t86 ∧ stabT (fun K' => iaT P T.sl_api_Member a1 (gv x2 2) w K') w t85 ∧ stabT (fun K' => K' (gv x2 2) w) w (gv x2 2) ∧ stabT (fun K' => K' a1 w) w a1 ∧ biT P .append #[T.sl_api_Member, T.sl_api_Member] T.sl_api_Member [false, false] [t82, t87] w fun t88 w =>
  stabT (fun K' => slT P T.sl_api_Member (gv x2 1) (some (gv x5 0)) none none w K') w t91 ∧ stabT (fun K' => K' (gv x5 0) w) w (gv x5 0) ∧ stabT (fun K' => K' (gv x2 1) w) w (gv x2 1) ∧ biT P .append #[T.sl_api_Member, T.sl_api_Member] T.sl_api_Member [false, false] [t88, t91] w fun t92 w =>
  K10 [t78, (gv x2 1), (gv x5 0), t81, t82, a1, (gv x2 2), t85, t86, t87, t88, (gv x2 1), (gv x5 0), t91, t92, t92] w)) fun x10 w =>
  K4 [(gv x5 0), (gv x10 15)] w
def M.winnowref09_Merge.j5 (x2 : List Value) (x5 : List Value) (a1 : Value) (K4 : KL) (w : World) (K : KV) : Prop :=
  joinT (fun K8 =>
  drawT w fun w =>
  w = w ∧ w = w ∧ quietT (fun K' => biT P .len #[T.sl_api_Member] T.int [false] [(gv x2 1)] w K') w fun t47 =>
  quietT (fun K' => binT P .lss T.int (.tmp 45) (.tmp 47) (gv x5 0) t47 w K') w fun t48 =>
  w = w ∧ quietT (fun K' => guardT (isB t48 true) (fun K' => K' (gv x2 1) w) w K') w fun t50 =>
  quietT (fun K' => guardT (isB t48 true) (fun K' => K' (gv x5 0) w) w K') w fun t51 =>
  quietT (fun K' => guardT (isB t48 true) (fun K' => iaT P T.sl_api_Member t50 t51 w K') w K') w fun t52 =>
  quietT (fun K' => guardT (isB t48 true) (fun K' => faT P T.api_Member t52 0 w K') w K') w fun t53 =>
  quietT (fun K' => guardT (isB t48 true) (fun K' => ldT P T.uint64 t53 w K') w K') w fun t54 =>
  quietT (fun K' => guardT (isB t48 true) (fun K' => K' a1 w) w K') w fun t55 =>
  quietT (fun K' => guardT (isB t48 true) (fun K' => K' (gv x2 2) w) w K') w fun t56 =>
  quietT (fun K' => guardT (isB t48 true) (fun K' => iaT P T.sl_api_Member t55 t56 w K') w K') w fun t57 =>
  quietT (fun K' => guardT (isB t48 true) (fun K' => faT P T.api_Member t57 0 w K') w K') w fun t58 =>
  quietT (fun K' => guardT (isB t48 true) (fun K' => ldT P T.uint64 t58 w K') w K') w fun t59 =>
  quietT (fun K' => guardT (isB t48 true) (fun K' => binT P .eql T.uint64 (.tmp 54) (.tmp 59) t54 t59 w K') w K') w fun t60 =>
  quietT (fun K' => pickT t48 t60 (.bool false) w K') w fun t61 =>
  condT t61 (
  joinT (fun K9 =>
  drawT w fun w =>
  w = w ∧ w = w ∧ quietT (fun K' => iaT P T.sl_api_Member a1 (gv x2 2) w K') w fun t64 =>
  quietT (fun K' => ldT P T.api_Member t64 w K') w fun t65 =>
  w = w ∧ w = w ∧ quietT (fun K' => iaT P T.sl_api_Member (gv x2 1) (gv x5 0) w K') w fun t68 =>
  quietT (fun K' => ldT P T.api_Member t68 w K') w fun t69 =>
  fcallT P F.winnowref09_Newer [t65, t69] w fun t70 w =>
  condT t70 (
  iaT P T.sl_api_Member a1 (gv x2 2) w fun t75 w =>
  ldT P T.api_Member t75 w fun t76 w =>
  iaT P T.sl_api_Member (gv x2 1) (gv x5 0) w fun t77 w =>
  stT P T.api_Member t77 t76 w fun _ w =>
  K9 [] w) (
  K9 [] w)) fun x9 w =>
  K4 [(gv x5 0), (gv x2 1)] w) (
  K8 [] w)) fun x8 w =>
  M.winnowref09_Merge.j8 x2 x5 a1 K4 w K
def M.winnowref09_Merge.j3 (x2 : List Value) (a1 : Value) (K2 : KL) (w : World) (K : KV) : Prop :=
  joinT (fun K4 =>
  joinT (fun K5 =>
  loopT [(.int .i64 0)] w fun K6 x6 w =>
  M.winnowref09_Merge.j6 x2 x6 a1 K5 K6 w K) fun x5 w =>
  M.winnowref09_Merge.j5 x2 x5 a1 K4 w K) fun x4 w =>
  binT P .add T.int (.tmp 24) (.const (.int .i64 1)) (gv x2 2) (.int .i64 1) w fun t25 w =>
  K2 [(gv x4 0), (gv x4 1), t25] w
def M.winnowref09_Merge.j2 (a1 : Value) (x2 : List Value) (K1 : KL) (K2 : KL) (w : World) (K : KV) : Prop :=
  joinT (fun K3 =>
  biT P .len #[T.sl_api_Member] T.int [false] [a1] w fun t22 w =>
  binT P .lss T.int (.tmp 20) (.tmp 22) (gv x2 2) t22 w fun t23 w =>
  condT t23 (
  K3 [] w) (
  K1 [(gv x2 2), (gv x2 0), (gv x2 1)] w)) fun x3 w =>
  M.winnowref09_Merge.j3 x2 a1 K2 w K
def M.winnowref09_Merge.j1 (x1 : List Value) (x0 : List Value) (w : World) (K : KV) : Prop :=
  joinT (fun K11 =>
  biT P .len #[T.sl_api_Member] T.int [false] [(gv x1 2)] w fun t94 w =>
  binT P .gtr T.int (.tmp 94) (.const (.int .i64 16)) t94 (.int .i64 16) w fun t95 w =>
  condT t95 (
  K (.tuple #[(.slice none 0 0), (.int .i64 4)]) w) (
  K11 [(gv x0 0), (gv x0 1)] w)) fun x11 w =>
  K (.tuple #[(gv x1 2), (.int .i64 0)]) w
def M.winnowref09_Merge.j0 (a0 : Value) (a1 : Value) (x0 : List Value) (w : World) (K : KV) : Prop :=
  bsT P T.sl_api_Member 0 #[] w fun t17 w =>
  biT P .append #[T.sl_api_Member, T.sl_api_Member] T.sl_api_Member [false, false] [t17, a0] w fun t19 w =>
  joinT (fun K1 =>
  loopT [undef, t19, (.int .i64 0)] w fun K2 x2 w =>
  M.winnowref09_Merge.j2 a1 x2 K1 K2 w K) fun x1 w =>
  M.winnowref09_Merge.j1 x1 x0 w K
/-- winnow/winnowref09.Merge -/
def M.winnowref09_Merge (a0 a1 : Value) (w : World) (K : KV) : Prop :=
  joinT (fun K0 =>
  fcallT P F.winnowref09_Right [a0] w fun t10 w =>
  binT P .neq T.api_Kind (.tmp 10) (.const (.int .i64 0)) t10 (.int .i64 0) w fun t11 w =>
  guardT (isB t11 false) (fun K' => K' a1 w) w fun t13 w =>
  guardT (isB t11 false) (fun K' => fcallT P F.winnowref09_Right [t13] w K') w fun t14 w =>
  guardT (isB t11 false) (fun K' => binT P .neq T.api_Kind (.tmp 14) (.const (.int .i64 0)) t14 (.int .i64 0) w K') w fun t15 w =>
  pickT t11 (.bool true) t15 w fun t16 w =>
  condT t16 (
  K (.tuple #[(.slice none 0 0), (.int .i64 6)]) w) (
  K0 [(.slice none 0 0), (.int .i64 0)] w)) fun x0 w =>
  M.winnowref09_Merge.j0 a0 a1 x0 w K
def M.winnowref09_Merge.L : List Nat := [0, 1, 4, 5, 6, 7, 8]
def M.winnowref09_Merge.pl : Nat → Plan := fun id => cond (Nat.beq id 8) ⟨(.go 0 (.go 1 (.go 2 (.go 3 (.go 4 (.go 5 (.go 6 (.go 7 (.go 8 (.go 9 (.go 10 (.go 11 (.go 12 (.go 13 (.go 14 (.go 15 (.go 16 .nil))))))))))))))))), [], false⟩ (cond (Nat.beq id 10) ⟨(.go 0 (.go 1 (.go 2 (.go 3 (.go 4 (.go 5 (.go 6 (.go 7 (.go 8 (.go 9 (.go 10 (.go 11 (.go 12 (.go 13 (.go 14 (.go 15 (.go 16 .nil))))))))))))))))), [], false⟩ (cond (Nat.beq id 11) ⟨(.go 0 (.go 1 (.go 2 (.go 3 (.go 4 (.go 5 (.go 6 (.go 7 (.eff 8 .nil .stop))))))))), [8], false⟩ (cond (Nat.beq id 13) ⟨(.go 1 (.go 2 (.go 3 (.go 5 (.go 6 (.go 7 (.go 8 (.go 11 (.go 12 (.go 13 (.eff 0 (.eff 4 (.eff 9 (.eff 10 (.eff 14 (.eff 15 .nil .stop) .stop) .stop) .stop) (.eff 9 (.eff 4 (.eff 10 (.eff 14 (.eff 15 .nil .stop) .stop) .stop) .stop) .stop)) (.eff 9 (.eff 0 (.eff 4 (.eff 10 (.eff 14 (.eff 15 .nil .stop) .stop) .stop) .stop) .stop) .stop)))))))))))), [0, 4, 9, 10, 14, 15], true⟩ (⟨.nil, [], false⟩))))
theorem M.winnowref09_Merge.eq (a0 a1 : Value) (w : World) (K : KV) : M.winnowref09_Merge a0 a1 w K = den P M.winnowref09_Merge.L M.winnowref09_Merge.pl (Try.f52.body.getD .skip) (argE [a0, a1]) w (bodyQ P Try.f52.results.toList K) := by kernel_rfl
theorem M.winnowref09_Merge.ok : okFn M.winnowref09_Merge.L M.winnowref09_Merge.pl Try.f52 (Try.f52.body.getD .skip) 2 = true := by kernel_rfl
theorem M.winnowref09_Merge.calls (a0 a1 : Value) {w : World} {K : KV} (h : M.winnowref09_Merge a0 a1 w K) : callT P F.winnowref09_Merge [a0, a1] w K :=
  callT_of_den (by kernel_rfl) Try.func52 (by kernel_rfl) M.winnowref09_Merge.ok (M.winnowref09_Merge.eq a0 a1 w K ▸ h)
theorem M.winnowref09_Merge.fcall (args : List Value) (w : World) (K : KV) : fcallT P F.winnowref09_Merge args w K = callT P F.winnowref09_Merge args w K := fcallT_eq Try.func52 (by kernel_rfl) (by kernel_rfl) args w K

def M.winnowref09_Same.j3 (a0 : Value) (x2 : List Value) (a1 : Value) (K2 : KL) (w : World) (K : KV) : Prop :=
  joinT (fun K4 =>
  drawT w fun w =>
  w = w ∧ w = w ∧ quietT (fun K' => iaT P T.sl_api_Member a0 (gv x2 1) w K') w fun t19 =>
  quietT (fun K' => ldT P T.api_Member t19 w K') w fun t20 =>
  w = w ∧ w = w ∧ quietT (fun K' => iaT P T.sl_api_Member a1 (gv x2 1) w K') w fun t23 =>
  quietT (fun K' => ldT P T.api_Member t23 w K') w fun t24 =>
  quietT (fun K' => binT P .neq T.api_Member (.tmp 20) (.tmp 24) t20 t24 w K') w fun t25 =>
  condT t25 (
  K (.bool false) w) (
  K4 [(gv x2 0)] w)) fun x4 w =>
  binT P .add T.int (.tmp 15) (.const (.int .i64 1)) (gv x2 1) (.int .i64 1) w fun t16 w =>
  K2 [(gv x4 0), t16] w
def M.winnowref09_Same.j2 (a0 : Value) (x2 : List Value) (K1 : KL) (a1 : Value) (K2 : KL) (w : World) (K : KV) : Prop :=
  joinT (fun K3 =>
  biT P .len #[T.sl_api_Member] T.int [false] [a0] w fun t13 w =>
  binT P .lss T.int (.tmp 11) (.tmp 13) (gv x2 1) t13 w fun t14 w =>
  condT t14 (
  K3 [] w) (
  K1 [(gv x2 1), (gv x2 0)] w)) fun x3 w =>
  M.winnowref09_Same.j3 a0 x2 a1 K2 w K
/-- winnow/winnowref09.Same -/
def M.winnowref09_Same (a0 a1 : Value) (w : World) (K : KV) : Prop :=
  joinT (fun K0 =>
  biT P .len #[T.sl_api_Member] T.int [false] [a0] w fun t7 w =>
  biT P .len #[T.sl_api_Member] T.int [false] [a1] w fun t9 w =>
  binT P .neq T.int (.tmp 7) (.tmp 9) t7 t9 w fun t10 w =>
  condT t10 (
  K (.bool false) w) (
  K0 [(.bool false)] w)) fun x0 w =>
  joinT (fun K1 =>
  loopT [(gv x0 0), (.int .i64 0)] w fun K2 x2 w =>
  M.winnowref09_Same.j2 a0 x2 K1 a1 K2 w K) fun x1 w =>
  K (.bool true) w
def M.winnowref09_Same.L : List Nat := [0, 1, 4, 5]
def M.winnowref09_Same.pl : Nat → Plan := fun id => cond (Nat.beq id 6) ⟨(.go 0 (.go 1 (.go 2 (.go 3 (.go 4 (.go 5 (.go 6 (.go 7 (.go 8 .nil))))))))), [], false⟩ (⟨.nil, [], false⟩)
theorem M.winnowref09_Same.eq (a0 a1 : Value) (w : World) (K : KV) : M.winnowref09_Same a0 a1 w K = den P M.winnowref09_Same.L M.winnowref09_Same.pl (Try.f53.body.getD .skip) (argE [a0, a1]) w (bodyQ P Try.f53.results.toList K) := by kernel_rfl
theorem M.winnowref09_Same.ok : okFn M.winnowref09_Same.L M.winnowref09_Same.pl Try.f53 (Try.f53.body.getD .skip) 2 = true := by kernel_rfl
theorem M.winnowref09_Same.calls (a0 a1 : Value) {w : World} {K : KV} (h : M.winnowref09_Same a0 a1 w K) : callT P F.winnowref09_Same [a0, a1] w K :=
  callT_of_den (by kernel_rfl) Try.func53 (by kernel_rfl) M.winnowref09_Same.ok (M.winnowref09_Same.eq a0 a1 w K ▸ h)
theorem M.winnowref09_Same.fcall (args : List Value) (w : World) (K : KV) : fcallT P F.winnowref09_Same args w K = callT P F.winnowref09_Same args w K := fcallT_eq Try.func53 (by kernel_rfl) (by kernel_rfl) args w K

/-- winnow/winnowref09.Right -/
def M.winnowref09_Right (a0 : Value) (w : World) (K : KV) : Prop :=
  joinT (fun K0 =>
  biT P .len #[T.sl_api_Member] T.int [false] [a0] w fun t4 w =>
  binT P .gtr T.int (.tmp 4) (.const (.int .i64 0)) t4 (.int .i64 0) w fun t5 w =>
  guardT (isB t5 true) (fun K' => K' a0 w) w fun t7 w =>
  guardT (isB t5 true) (fun K' => fcallT P F.winnowref05_Members [t7] w K') w fun t8 w =>
  guardT (isB t5 true) (fun K' => unT P .not t8 w K') w fun t9 w =>
  pickT t5 t9 (.bool false) w fun t10 w =>
  condT t10 (
  K (.int .i64 6) w) (
  K0 [(.int .i64 0)] w)) fun x0 w =>
  K (.int .i64 0) w
def M.winnowref09_Right.L : List Nat := [0, 2]
def M.winnowref09_Right.pl : Nat → Plan := fun id => ⟨.nil, [], false⟩
theorem M.winnowref09_Right.eq (a0 : Value) (w : World) (K : KV) : M.winnowref09_Right a0 w K = den P M.winnowref09_Right.L M.winnowref09_Right.pl (Try.f54.body.getD .skip) (argE [a0]) w (bodyQ P Try.f54.results.toList K) := by kernel_rfl
theorem M.winnowref09_Right.ok : okFn M.winnowref09_Right.L M.winnowref09_Right.pl Try.f54 (Try.f54.body.getD .skip) 1 = true := by kernel_rfl
theorem M.winnowref09_Right.calls (a0 : Value) {w : World} {K : KV} (h : M.winnowref09_Right a0 w K) : callT P F.winnowref09_Right [a0] w K :=
  callT_of_den (by kernel_rfl) Try.func54 (by kernel_rfl) M.winnowref09_Right.ok (M.winnowref09_Right.eq a0 w K ▸ h)
theorem M.winnowref09_Right.fcall (args : List Value) (w : World) (K : KV) : fcallT P F.winnowref09_Right args w K = callT P F.winnowref09_Right args w K := fcallT_eq Try.func54 (by kernel_rfl) (by kernel_rfl) args w K

/-- winnow/view.Same -/
def M.view_Same (a0 a1 : Value) (w : World) (K : KV) : Prop :=
  fcallT P F.slices_Equal_api_Member_api_Member [a0, a1] w fun t7 w =>
  K t7 w
def M.view_Same.L : List Nat := [0, 1, 4]
def M.view_Same.pl : Nat → Plan := fun id => ⟨.nil, [], false⟩
theorem M.view_Same.eq (a0 a1 : Value) (w : World) (K : KV) : M.view_Same a0 a1 w K = den P M.view_Same.L M.view_Same.pl (Try.f55.body.getD .skip) (argE [a0, a1]) w (bodyQ P Try.f55.results.toList K) := by kernel_rfl
theorem M.view_Same.ok : okFn M.view_Same.L M.view_Same.pl Try.f55 (Try.f55.body.getD .skip) 2 = true := by kernel_rfl
theorem M.view_Same.calls (a0 a1 : Value) {w : World} {K : KV} (h : M.view_Same a0 a1 w K) : callT P F.view_Same [a0, a1] w K :=
  callT_of_den (by kernel_rfl) Try.func55 (by kernel_rfl) M.view_Same.ok (M.view_Same.eq a0 a1 w K ▸ h)
theorem M.view_Same.fcall (args : List Value) (w : World) (K : KV) : fcallT P F.view_Same args w K = callT P F.view_Same args w K := fcallT_eq Try.func55 (by kernel_rfl) (by kernel_rfl) args w K

def M.winnowlaw09_below.j2 (a0 : Value) (x1 : List Value) (a1 : Value) (K1 : KL) (w : World) (K : KV) : Prop :=
  joinT (fun K3 =>
  iaT P T.sl_api_Member a0 (gv x1 2) w fun t18 w =>
  faT P T.api_Member t18 0 w fun t19 w =>
  ldT P T.uint64 t19 w fun t20 w =>
  fcallT P F.winnowref09_Find [a1, t20] w fun t21 w =>
  exT P t21 0 w fun t22 w =>
  exT P t21 1 w fun t23 w =>
  alT P T.api_Member w fun t6 w =>
  stT P T.api_Member t6 t22 w fun _ w =>
  drawT w fun w =>
  w = w ∧ quietT (fun K' => unT P .not t23 w K') w fun t25 =>
  w = w ∧ quietT (fun K' => guardT (isB t25 false) (fun K' => K' a0 w) w K') w fun t27 =>
  quietT (fun K' => guardT (isB t25 false) (fun K' => K' (gv x1 2) w) w K') w fun t28 =>
  quietT (fun K' => guardT (isB t25 false) (fun K' => iaT P T.sl_api_Member t27 t28 w K') w K') w fun t29 =>
  quietT (fun K' => guardT (isB t25 false) (fun K' => ldT P T.api_Member t29 w K') w K') w fun t30 =>
  quietT (fun K' => guardT (isB t25 false) (fun K' => ldT P T.api_Member t6 w K') w K') w fun t31 =>
  guardT (isB t25 false) (fun K' => fcallT P F.winnowref09_Newer [t30, t31] w K') w fun t32 w =>
  quietT (fun K' => pickT t25 (.bool true) t32 w K') w fun t33 =>
  condT t33 (
  K (.bool false) w) (
  K3 [t23, (gv x1 1)] w)) fun x3 w =>
  binT P .add T.int (.tmp 12) (.const (.int .i64 1)) (gv x1 2) (.int .i64 1) w fun t13 w =>
  K1 [(gv x3 0), (gv x3 1), t13] w
def M.winnowlaw09_below.j1 (a0 : Value) (x1 : List Value) (K0 : KL) (a1 : Value) (K1 : KL) (w : World) (K : KV) : Prop :=
  joinT (fun K2 =>
  biT P .len #[T.sl_api_Member] T.int [false] [a0] w fun t10 w =>
  binT P .lss T.int (.tmp 8) (.tmp 10) (gv x1 2) t10 w fun t11 w =>
  condT t11 (
  K2 [] w) (
  K0 [(gv x1 2), (gv x1 0), (gv x1 1)] w)) fun x2 w =>
  M.winnowlaw09_below.j2 a0 x1 a1 K1 w K
/-- winnow/winnowlaw09.below -/
def M.winnowlaw09_below (a0 a1 : Value) (w : World) (K : KV) : Prop :=
  joinT (fun K0 =>
  loopT [undef, (.bool false), (.int .i64 0)] w fun K1 x1 w =>
  M.winnowlaw09_below.j1 a0 x1 K0 a1 K1 w K) fun x0 w =>
  K (.bool true) w
def M.winnowlaw09_below.L : List Nat := [0, 1, 4, 5, 7]
def M.winnowlaw09_below.pl : Nat → Plan := fun id => cond (Nat.beq id 5) ⟨(.go 0 (.go 1 (.go 2 (.go 3 (.go 4 (.go 5 (.go 6 (.go 7 (.eff 8 (.go 9 .nil) .stop))))))))), [8], false⟩ (⟨.nil, [], false⟩)
theorem M.winnowlaw09_below.eq (a0 a1 : Value) (w : World) (K : KV) : M.winnowlaw09_below a0 a1 w K = den P M.winnowlaw09_below.L M.winnowlaw09_below.pl (Try.f56.body.getD .skip) (argE [a0, a1]) w (bodyQ P Try.f56.results.toList K) := by kernel_rfl
theorem M.winnowlaw09_below.ok : okFn M.winnowlaw09_below.L M.winnowlaw09_below.pl Try.f56 (Try.f56.body.getD .skip) 2 = true := by kernel_rfl
theorem M.winnowlaw09_below.calls (a0 a1 : Value) {w : World} {K : KV} (h : M.winnowlaw09_below a0 a1 w K) : callT P F.winnowlaw09_below [a0, a1] w K :=
  callT_of_den (by kernel_rfl) Try.func56 (by kernel_rfl) M.winnowlaw09_below.ok (M.winnowlaw09_below.eq a0 a1 w K ▸ h)
theorem M.winnowlaw09_below.fcall (args : List Value) (w : World) (K : KV) : fcallT P F.winnowlaw09_below args w K = callT P F.winnowlaw09_below args w K := fcallT_eq Try.func56 (by kernel_rfl) (by kernel_rfl) args w K

def M.span_Right.j0 (t1 : Value) (w : World) (K : KV) : Prop :=
  drawT w fun w =>
  quietT (fun K' => faT P T.api_Span t1 5 w K') w fun t19 =>
  quietT (fun K' => ldT P T.string t19 w K') w fun t20 =>
  quietT (fun K' => faT P T.api_Span t1 6 w K') w fun t22 =>
  quietT (fun K' => ldT P T.string t22 w K') w fun t23 =>
  fcallT P F.span_Name [t20] w fun t21 w =>
  stabT (fun K' => ldT P T.string t22 w K') w t23 ∧ stabT (fun K' => faT P T.api_Span t1 6 w K') w t22 ∧ fcallT P F.span_Name [t23] w fun t24 w =>
  bsT P T.sl_api_Kind 2 #[(0, t21), (1, t24)] w fun t25 w =>
  fcallT P F.cmp_Or_api_Kind [t25] w fun t26 w =>
  K t26 w
/-- winnow/span.Right -/
def M.span_Right (a0 : Value) (w : World) (K : KV) : Prop :=
  boxT P T.api_Span a0 w fun t1 w =>
  joinT (fun K0 =>
  faT P T.api_Span t1 0 w fun t3 w =>
  ldT P T.uint64 t3 w fun t4 w =>
  binT P .eql T.uint64 (.tmp 4) (.const (.int .u64 0)) t4 (.int .u64 0) w fun t5 w =>
  guardT (isB t5 false) (fun K' => faT P T.api_Span t1 1 w K') w fun t7 w =>
  guardT (isB t5 false) (fun K' => ldT P T.uint64 t7 w K') w fun t8 w =>
  guardT (isB t5 false) (fun K' => binT P .eql T.uint64 (.tmp 8) (.const (.int .u64 0)) t8 (.int .u64 0) w K') w fun t9 w =>
  pickT t5 (.bool true) t9 w fun t10 w =>
  guardT (isB t10 false) (fun K' => faT P T.api_Span t1 3 w K') w fun t12 w =>
  guardT (isB t10 false) (fun K' => ldT P T.uint64 t12 w K') w fun t13 w =>
  guardT (isB t10 false) (fun K' => faT P T.api_Span t1 4 w K') w fun t14 w =>
  guardT (isB t10 false) (fun K' => ldT P T.uint64 t14 w K') w fun t15 w =>
  guardT (isB t10 false) (fun K' => biT P .max #[T.uint64, T.uint64] T.uint64 [false, false] [t13, t15] w K') w fun t16 w =>
  guardT (isB t10 false) (fun K' => binT P .gtr T.uint64 (.tmp 16) (.const (.int .u64 1099511627776)) t16 (.int .u64 1099511627776) w K') w fun t17 w =>
  pickT t10 (.bool true) t17 w fun t18 w =>
  condT t18 (
  K (.int .i64 1) w) (
  K0 [(.int .i64 0)] w)) fun x0 w =>
  M.span_Right.j0 t1 w K
def M.span_Right.L : List Nat := [0, 2, 1]
def M.span_Right.pl : Nat → Plan := fun id => cond (Nat.beq id 3) ⟨(.go 0 (.go 1 (.go 3 (.go 4 (.eff 2 (.eff 5 (.eff 6 (.eff 7 (.eff 8 .nil .stop) .stop) .stop) .stop) .stop))))), [2, 5, 6, 7, 8], false⟩ (⟨.nil, [], false⟩)
theorem M.span_Right.eq (a0 : Value) (w : World) (K : KV) : M.span_Right a0 w K = den P M.span_Right.L M.span_Right.pl (Try.f57.body.getD .skip) (argE [a0]) w (bodyQ P Try.f57.results.toList K) := by kernel_rfl
theorem M.span_Right.ok : okFn M.span_Right.L M.span_Right.pl Try.f57 (Try.f57.body.getD .skip) 1 = true := by kernel_rfl
theorem M.span_Right.calls (a0 : Value) {w : World} {K : KV} (h : M.span_Right a0 w K) : callT P F.span_Right [a0] w K :=
  callT_of_den (by kernel_rfl) Try.func57 (by kernel_rfl) M.span_Right.ok (M.span_Right.eq a0 w K ▸ h)
theorem M.span_Right.fcall (args : List Value) (w : World) (K : KV) : fcallT P F.span_Right args w K = callT P F.span_Right args w K := fcallT_eq Try.func57 (by kernel_rfl) (by kernel_rfl) args w K

def M.ptimers_Heap_Set.j1 (a1 : Value) (a2 : Value) (a0 : Value) (w : World) (K : KV) : Prop :=
  bldT P T.timers_item #[(0, a1), (1, a2)] w fun t47 w =>
  boxT P T.timers_item t47 w fun t48 w =>
  nilT a0 w fun t50 w =>
  faT P T.timers_Heap t50 1 w fun t51 w =>
  ldT P T.map_uint64_p_timers_item t51 w fun t52 w =>
  muT P T.map_uint64_p_timers_item t52 a1 t48 w fun _ w =>
  nilT a0 w fun t56 w =>
  faT P T.timers_Heap t56 0 w fun t57 w =>
  mkiT P T.p_timers_line t57 w fun t58 w =>
  mkiT P T.p_timers_item t48 w fun t60 w =>
  fcallT P F.heap_Push [t58, t60] w fun t61 w =>
  K (.tuple #[]) w
def M.ptimers_Heap_Set.j0 (a0 : Value) (a1 : Value) (a2 : Value) (w : World) (K : KV) : Prop :=
  joinT (fun K1 =>
  nilT a0 w fun t24 w =>
  faT P T.timers_Heap t24 1 w fun t25 w =>
  ldT P T.map_uint64_p_timers_item t25 w fun t26 w =>
  luT P T.map_uint64_p_timers_item t26 a1 true w fun t28 w =>
  exT P t28 0 w fun t29 w =>
  exT P t28 1 w fun t30 w =>
  condT t30 (
  nilT t29 w fun t34 w =>
  faT P T.timers_item t34 1 w fun t35 w =>
  stT P T.uint64 t35 a2 w fun _ w =>
  drawT w fun w =>
  w = w ∧ quietT (fun K' => nilT a0 w K') w fun t37 =>
  quietT (fun K' => faT P T.timers_Heap t37 0 w K') w fun t38 =>
  quietT (fun K' => mkiT P T.p_timers_line t38 w K') w fun t39 =>
  w = w ∧ quietT (fun K' => nilT t29 w K') w fun t41 =>
  quietT (fun K' => faT P T.timers_item t41 2 w K') w fun t42 =>
  quietT (fun K' => ldT P T.int t42 w K') w fun t43 =>
  fcallT P F.heap_Fix [t39, t43] w fun t44 w =>
  K (.tuple #[]) w) (
  K1 [t29, t30] w)) fun x1 w =>
  M.ptimers_Heap_Set.j1 a1 a2 a0 w K
/-- (*winnow/timers.Heap).Set -/
def M.ptimers_Heap_Set (a0 a1 a2 : Value) (w : World) (K : KV) : Prop :=
  joinT (fun K0 =>
  binT P .eql T.p_timers_Heap (.tmp 10) (.const (.pointer none)) a0 (.pointer none) w fun t11 w =>
  condT t11 (
  K (.tuple #[]) w) (
  nilT a0 w fun t14 w =>
  faT P T.timers_Heap t14 1 w fun t15 w =>
  ldT P T.map_uint64_p_timers_item t15 w fun t16 w =>
  binT P .eql T.map_uint64_p_timers_item (.tmp 16) (.const (.map none)) t16 (.map none) w fun t17 w =>
  condT t17 (
  mkmT P T.map_uint64_p_timers_item none w fun t19 w =>
  nilT a0 w fun t20 w =>
  faT P T.timers_Heap t20 1 w fun t21 w =>
  stT P T.map_uint64_p_timers_item t21 t19 w fun _ w =>
  K0 [t11, t17] w) (
  K0 [t11, t17] w))) fun x0 w =>
  M.ptimers_Heap_Set.j0 a0 a1 a2 w K
def M.ptimers_Heap_Set.L : List Nat := [0, 1, 2, 9, 12, 6, 7, 8]
def M.ptimers_Heap_Set.pl : Nat → Plan := fun id => cond (Nat.beq id 6) ⟨(.go 0 (.go 1 (.go 2 (.go 3 (.go 4 (.go 5 (.go 6 (.go 7 (.eff 8 .nil .stop))))))))), [8], false⟩ (⟨.nil, [], false⟩)
theorem M.ptimers_Heap_Set.eq (a0 a1 a2 : Value) (w : World) (K : KV) : M.ptimers_Heap_Set a0 a1 a2 w K = den P M.ptimers_Heap_Set.L M.ptimers_Heap_Set.pl (Try.f58.body.getD .skip) (argE [a0, a1, a2]) w (bodyQ P Try.f58.results.toList K) := by kernel_rfl
theorem M.ptimers_Heap_Set.ok : okFn M.ptimers_Heap_Set.L M.ptimers_Heap_Set.pl Try.f58 (Try.f58.body.getD .skip) 3 = true := by kernel_rfl
theorem M.ptimers_Heap_Set.calls (a0 a1 a2 : Value) {w : World} {K : KV} (h : M.ptimers_Heap_Set a0 a1 a2 w K) : callT P F.ptimers_Heap_Set [a0, a1, a2] w K :=
  callT_of_den (by kernel_rfl) Try.func58 (by kernel_rfl) M.ptimers_Heap_Set.ok (M.ptimers_Heap_Set.eq a0 a1 a2 w K ▸ h)
theorem M.ptimers_Heap_Set.fcall (args : List Value) (w : World) (K : KV) : fcallT P F.ptimers_Heap_Set args w K = callT P F.ptimers_Heap_Set args w K := fcallT_eq Try.func58 (by kernel_rfl) (by kernel_rfl) args w K

/-- slices.ContainsFunc[[]winnow/api.Span,winnow/api.Span] -/
def M.slices_ContainsFunc_api_Span_api_Span (a0 a1 : Value) (w : World) (K : KV) : Prop :=
  fcallT P F.slices_IndexFunc_api_Span_api_Span [a0, a1] w fun t7 w =>
  binT P .geq T.int (.tmp 7) (.const (.int .i64 0)) t7 (.int .i64 0) w fun t8 w =>
  K t8 w
def M.slices_ContainsFunc_api_Span_api_Span.L : List Nat := [0, 1, 4]
def M.slices_ContainsFunc_api_Span_api_Span.pl : Nat → Plan := fun id => ⟨.nil, [], false⟩
theorem M.slices_ContainsFunc_api_Span_api_Span.eq (a0 a1 : Value) (w : World) (K : KV) : M.slices_ContainsFunc_api_Span_api_Span a0 a1 w K = den P M.slices_ContainsFunc_api_Span_api_Span.L M.slices_ContainsFunc_api_Span_api_Span.pl (Try.f59.body.getD .skip) (argE [a0, a1]) w (bodyQ P Try.f59.results.toList K) := by kernel_rfl
theorem M.slices_ContainsFunc_api_Span_api_Span.ok : okFn M.slices_ContainsFunc_api_Span_api_Span.L M.slices_ContainsFunc_api_Span_api_Span.pl Try.f59 (Try.f59.body.getD .skip) 2 = true := by kernel_rfl
theorem M.slices_ContainsFunc_api_Span_api_Span.calls (a0 a1 : Value) {w : World} {K : KV} (h : M.slices_ContainsFunc_api_Span_api_Span a0 a1 w K) : callT P F.slices_ContainsFunc_api_Span_api_Span [a0, a1] w K :=
  callT_of_den (by kernel_rfl) Try.func59 (by kernel_rfl) M.slices_ContainsFunc_api_Span_api_Span.ok (M.slices_ContainsFunc_api_Span_api_Span.eq a0 a1 w K ▸ h)
theorem M.slices_ContainsFunc_api_Span_api_Span.fcall (args : List Value) (w : World) (K : KV) : fcallT P F.slices_ContainsFunc_api_Span_api_Span args w K = callT P F.slices_ContainsFunc_api_Span_api_Span args w K := fcallT_eq Try.func59 (by kernel_rfl) (by kernel_rfl) args w K

/-- (*winnow/buffer.Buffer).Put$1 -/
def M.pbuffer_Buffer_Put_1 (a0 a1 : Value) (w : World) (K : KV) : Prop :=
  boxT P T.api_Span a0 w fun t2 w =>
  faT P T.api_Span t2 1 w fun t4 w =>
  ldT P T.uint64 t4 w fun t5 w =>
  faT P T.api_Span a1 1 w fun t6 w =>
  ldT P T.uint64 t6 w fun t7 w =>
  binT P .eql T.uint64 (.tmp 5) (.tmp 7) t5 t7 w fun t8 w =>
  K t8 w
def M.pbuffer_Buffer_Put_1.L : List Nat := [0, 1, 3]
def M.pbuffer_Buffer_Put_1.pl : Nat → Plan := fun id => ⟨.nil, [], false⟩
theorem M.pbuffer_Buffer_Put_1.eq (a0 a1 : Value) (w : World) (K : KV) : M.pbuffer_Buffer_Put_1 a0 a1 w K = den P M.pbuffer_Buffer_Put_1.L M.pbuffer_Buffer_Put_1.pl (Try.f60.body.getD .skip) (argE [a0, a1]) w (bodyQ P Try.f60.results.toList K) := by kernel_rfl
theorem M.pbuffer_Buffer_Put_1.ok : okFn M.pbuffer_Buffer_Put_1.L M.pbuffer_Buffer_Put_1.pl Try.f60 (Try.f60.body.getD .skip) 2 = true := by kernel_rfl
theorem M.pbuffer_Buffer_Put_1.calls (a0 a1 : Value) {w : World} {K : KV} (h : M.pbuffer_Buffer_Put_1 a0 a1 w K) : callT P F.pbuffer_Buffer_Put_1 [a0, a1] w K :=
  callT_of_den (by kernel_rfl) Try.func60 (by kernel_rfl) M.pbuffer_Buffer_Put_1.ok (M.pbuffer_Buffer_Put_1.eq a0 a1 w K ▸ h)
theorem M.pbuffer_Buffer_Put_1.fcall (args : List Value) (w : World) (K : KV) : fcallT P F.pbuffer_Buffer_Put_1 args w K = callT P F.pbuffer_Buffer_Put_1 args w K := fcallT_eq Try.func60 (by kernel_rfl) (by kernel_rfl) args w K

def M.ptimers_Heap_At.j0 (a0 : Value) (a1 : Value) (w : World) (K : KV) : Prop :=
  nilT a0 w fun t18 w =>
  faT P T.timers_Heap t18 1 w fun t19 w =>
  ldT P T.map_uint64_p_timers_item t19 w fun t20 w =>
  luT P T.map_uint64_p_timers_item t20 a1 false w fun t22 w =>
  nilT t22 w fun t23 w =>
  faT P T.timers_item t23 1 w fun t24 w =>
  ldT P T.uint64 t24 w fun t25 w =>
  K (.tuple #[t25, (.bool true)]) w
/-- (*winnow/timers.Heap).At -/
def M.ptimers_Heap_At (a0 a1 : Value) (w : World) (K : KV) : Prop :=
  joinT (fun K0 =>
  binT P .eql T.p_timers_Heap (.tmp 6) (.const (.pointer none)) a0 (.pointer none) w fun t7 w =>
  guardT (isB t7 false) (fun K' => K' a0 w) w fun t9 w =>
  guardT (isB t7 false) (fun K' => nilT t9 w K') w fun t10 w =>
  guardT (isB t7 false) (fun K' => faT P T.timers_Heap t10 1 w K') w fun t11 w =>
  guardT (isB t7 false) (fun K' => ldT P T.map_uint64_p_timers_item t11 w K') w fun t12 w =>
  guardT (isB t7 false) (fun K' => K' a1 w) w fun t13 w =>
  guardT (isB t7 false) (fun K' => luT P T.map_uint64_p_timers_item t12 t13 false w K') w fun t14 w =>
  guardT (isB t7 false) (fun K' => binT P .eql T.p_timers_item (.tmp 14) (.const (.pointer none)) t14 (.pointer none) w K') w fun t15 w =>
  pickT t7 (.bool true) t15 w fun t16 w =>
  condT t16 (
  K (.tuple #[(.int .u64 0), (.bool false)]) w) (
  K0 [(.int .u64 0), (.bool false)] w)) fun x0 w =>
  M.ptimers_Heap_At.j0 a0 a1 w K
def M.ptimers_Heap_At.L : List Nat := [0, 1, 4, 5]
def M.ptimers_Heap_At.pl : Nat → Plan := fun id => ⟨.nil, [], false⟩
theorem M.ptimers_Heap_At.eq (a0 a1 : Value) (w : World) (K : KV) : M.ptimers_Heap_At a0 a1 w K = den P M.ptimers_Heap_At.L M.ptimers_Heap_At.pl (Try.f61.body.getD .skip) (argE [a0, a1]) w (bodyQ P Try.f61.results.toList K) := by kernel_rfl
theorem M.ptimers_Heap_At.ok : okFn M.ptimers_Heap_At.L M.ptimers_Heap_At.pl Try.f61 (Try.f61.body.getD .skip) 2 = true := by kernel_rfl
theorem M.ptimers_Heap_At.calls (a0 a1 : Value) {w : World} {K : KV} (h : M.ptimers_Heap_At a0 a1 w K) : callT P F.ptimers_Heap_At [a0, a1] w K :=
  callT_of_den (by kernel_rfl) Try.func61 (by kernel_rfl) M.ptimers_Heap_At.ok (M.ptimers_Heap_At.eq a0 a1 w K ▸ h)
theorem M.ptimers_Heap_At.fcall (args : List Value) (w : World) (K : KV) : fcallT P F.ptimers_Heap_At args w K = callT P F.ptimers_Heap_At args w K := fcallT_eq Try.func61 (by kernel_rfl) (by kernel_rfl) args w K

def M.ptimers_Heap_Pop.j0 (a0 : Value) (a1 : Value) (x0 : List Value) (K0 : KL) (w : World) (K : KV) : Prop :=
  fcallT P F.ptimers_Heap_Next [a0] w fun t10 w =>
  exT P t10 0 w fun t11 w =>
  exT P t10 1 w fun t12 w =>
  exT P t10 2 w fun t13 w =>
  joinT (fun K1 =>
  unT P .not t13 w fun t15 w =>
  guardT (isB t15 false) (fun K' => K' t12 w) w fun t17 w =>
  guardT (isB t15 false) (fun K' => K' a1 w) w fun t18 w =>
  guardT (isB t15 false) (fun K' => binT P .gtr T.uint64 (.tmp 17) (.tmp 18) t17 t18 w K') w fun t19 w =>
  pickT t15 (.bool true) t19 w fun t20 w =>
  condT t20 (
  K (gv x0 3) w) (
  K1 [(gv x0 3)] w)) fun x1 w =>
  bsT P T.sl_uint64 1 #[(0, t11)] w fun t24 w =>
  biT P .append #[T.sl_uint64, T.sl_uint64] T.sl_uint64 [false, false] [(gv x1 0), t24] w fun t25 w =>
  fcallT P F.ptimers_Heap_Del [a0, t11] w fun t28 w =>
  K0 [t11, t12, t13, t25] w
/-- (*winnow/timers.Heap).Pop -/
def M.ptimers_Heap_Pop (a0 a1 : Value) (w : World) (K : KV) : Prop :=
  loopT [undef, undef, undef, (.slice none 0 0)] w fun K0 x0 w =>
  M.ptimers_Heap_Pop.j0 a0 a1 x0 K0 w K
def M.ptimers_Heap_Pop.L : List Nat := [0, 1, 4, 5, 6, 7]
def M.ptimers_Heap_Pop.pl : Nat → Plan := fun id => ⟨.nil, [], false⟩
theorem M.ptimers_Heap_Pop.eq (a0 a1 : Value) (w : World) (K : KV) : M.ptimers_Heap_Pop a0 a1 w K = den P M.ptimers_Heap_Pop.L M.ptimers_Heap_Pop.pl (Try.f62.body.getD .skip) (argE [a0, a1]) w (bodyQ P Try.f62.results.toList K) := by kernel_rfl
theorem M.ptimers_Heap_Pop.ok : okFn M.ptimers_Heap_Pop.L M.ptimers_Heap_Pop.pl Try.f62 (Try.f62.body.getD .skip) 2 = true := by kernel_rfl
theorem M.ptimers_Heap_Pop.calls (a0 a1 : Value) {w : World} {K : KV} (h : M.ptimers_Heap_Pop a0 a1 w K) : callT P F.ptimers_Heap_Pop [a0, a1] w K :=
  callT_of_den (by kernel_rfl) Try.func62 (by kernel_rfl) M.ptimers_Heap_Pop.ok (M.ptimers_Heap_Pop.eq a0 a1 w K ▸ h)
theorem M.ptimers_Heap_Pop.fcall (args : List Value) (w : World) (K : KV) : fcallT P F.ptimers_Heap_Pop args w K = callT P F.ptimers_Heap_Pop args w K := fcallT_eq Try.func62 (by kernel_rfl) (by kernel_rfl) args w K

/-- slices.Clone[[]winnow/api.Span,winnow/api.Span] -/
def M.slices_Clone_api_Span_api_Span (a0 : Value) (w : World) (K : KV) : Prop :=
  joinT (fun K0 =>
  binT P .eql T.sl_api_Span (.tmp 3) (.const (.slice none 0 0)) a0 (.slice none 0 0) w fun t4 w =>
  condT t4 (
  K (.slice none 0 0) w) (
  K0 [(.slice none 0 0)] w)) fun x0 w =>
  bsT P T.sl_api_Span 0 #[] w fun t5 w =>
  biT P .append #[T.sl_api_Span, T.sl_api_Span] T.sl_api_Span [false, false] [t5, a0] w fun t7 w =>
  K t7 w
def M.slices_Clone_api_Span_api_Span.L : List Nat := [0, 2]
def M.slices_Clone_api_Span_api_Span.pl : Nat → Plan := fun id => ⟨.nil, [], false⟩
theorem M.slices_Clone_api_Span_api_Span.eq (a0 : Value) (w : World) (K : KV) : M.slices_Clone_api_Span_api_Span a0 w K = den P M.slices_Clone_api_Span_api_Span.L M.slices_Clone_api_Span_api_Span.pl (Try.f63.body.getD .skip) (argE [a0]) w (bodyQ P Try.f63.results.toList K) := by kernel_rfl
theorem M.slices_Clone_api_Span_api_Span.ok : okFn M.slices_Clone_api_Span_api_Span.L M.slices_Clone_api_Span_api_Span.pl Try.f63 (Try.f63.body.getD .skip) 1 = true := by kernel_rfl
theorem M.slices_Clone_api_Span_api_Span.calls (a0 : Value) {w : World} {K : KV} (h : M.slices_Clone_api_Span_api_Span a0 w K) : callT P F.slices_Clone_api_Span_api_Span [a0] w K :=
  callT_of_den (by kernel_rfl) Try.func63 (by kernel_rfl) M.slices_Clone_api_Span_api_Span.ok (M.slices_Clone_api_Span_api_Span.eq a0 w K ▸ h)
theorem M.slices_Clone_api_Span_api_Span.fcall (args : List Value) (w : World) (K : KV) : fcallT P F.slices_Clone_api_Span_api_Span args w K = callT P F.slices_Clone_api_Span_api_Span args w K := fcallT_eq Try.func63 (by kernel_rfl) (by kernel_rfl) args w K

def M.winnowref03_Name.j3 (t17 : Value) (x2 : List Value) (K2 : KL) (w : World) (K : KV) : Prop :=
  joinT (fun K4 =>
  iaT P T.sl_int32 t17 (gv x2 1) w fun t27 w =>
  ldT P T.int32 t27 w fun t28 w =>
  binT P .lss T.int32 (.tmp 28) (.const (.int .i32 32)) t28 (.int .i32 32) w fun t29 w =>
  guardT (isB t29 false) (fun K' => K' t17 w) w fun t31 w =>
  guardT (isB t29 false) (fun K' => K' (gv x2 1) w) w fun t32 w =>
  guardT (isB t29 false) (fun K' => iaT P T.sl_int32 t31 t32 w K') w fun t33 w =>
  guardT (isB t29 false) (fun K' => ldT P T.int32 t33 w K') w fun t34 w =>
  guardT (isB t29 false) (fun K' => binT P .geq T.int32 (.tmp 34) (.const (.int .i32 127)) t34 (.int .i32 127) w K') w fun t35 w =>
  guardT (isB t29 false) (fun K' => K' t35 w) w fun t36 w =>
  guardT (isB t36 true) (fun K' => K' t17 w) w fun t37 w =>
  guardT (isB t36 true) (fun K' => K' (gv x2 1) w) w fun t38 w =>
  guardT (isB t36 true) (fun K' => iaT P T.sl_int32 t37 t38 w K') w fun t39 w =>
  guardT (isB t36 true) (fun K' => ldT P T.int32 t39 w K') w fun t40 w =>
  guardT (isB t36 true) (fun K' => binT P .leq T.int32 (.tmp 40) (.const (.int .i32 159)) t40 (.int .i32 159) w K') w fun t41 w =>
  guardT (isB t29 false) (fun K' => pickT t36 t41 (.bool false) w K') w fun t42 w =>
  pickT t29 (.bool true) t42 w fun t43 w =>
  condT t43 (
  K (.int .i64 5) w) (
  K4 [(gv x2 0)] w)) fun x4 w =>
  binT P .add T.int (.tmp 23) (.const (.int .i64 1)) (gv x2 1) (.int .i64 1) w fun t24 w =>
  K2 [(gv x4 0), t24] w
def M.winnowref03_Name.j0 (a0 : Value) (x0 : List Value) (w : World) (K : KV) : Prop :=
  fcallT P F.winnowref03_Runes [a0] w fun t16 w =>
  exT P t16 0 w fun t17 w =>
  exT P t16 1 w fun t18 w =>
  joinT (fun K1 =>
  loopT [(gv x0 0), (.int .i64 0)] w fun K2 x2 w =>
  joinT (fun K3 =>
  biT P .len #[T.sl_int32] T.int [false] [t17] w fun t21 w =>
  binT P .lss T.int (.tmp 19) (.tmp 21) (gv x2 1) t21 w fun t22 w =>
  condT t22 (
  K3 [] w) (
  K1 [(gv x2 1), (gv x2 0)] w)) fun x3 w =>
  M.winnowref03_Name.j3 t17 x2 K2 w K) fun x1 w =>
  joinT (fun K5 =>
  unT P .not t18 w fun t45 w =>
  condT t45 (
  K (.int .i64 5) w) (
  K5 [(gv x1 1)] w)) fun x5 w =>
  K (.int .i64 0) w
/-- winnow/winnowref03.Name -/
def M.winnowref03_Name (a0 : Value) (w : World) (K : KV) : Prop :=
  joinT (fun K0 =>
  biT P .len #[T.string] T.int [false] [a0] w fun t7 w =>
  binT P .lss T.int (.tmp 7) (.const (.int .i64 1)) t7 (.int .i64 1) w fun t8 w =>
  guardT (isB t8 false) (fun K' => K' a0 w) w fun t10 w =>
  guardT (isB t8 false) (fun K' => biT P .len #[T.string] T.int [false] [t10] w K') w fun t11 w =>
  guardT (isB t8 false) (fun K' => binT P .gtr T.int (.tmp 11) (.const (.int .i64 32)) t11 (.int .i64 32) w K') w fun t12 w =>
  pickT t8 (.bool true) t12 w fun t13 w =>
  condT t13 (
  K (.int .i64 5) w) (
  K0 [(.int .i64 0)] w)) fun x0 w =>
  M.winnowref03_Name.j0 a0 x0 w K
def M.winnowref03_Name.L : List Nat := [0, 2, 3, 4, 5]
def M.winnowref03_Name.pl : Nat → Plan := fun id => ⟨.nil, [], false⟩
theorem M.winnowref03_Name.eq (a0 : Value) (w : World) (K : KV) : M.winnowref03_Name a0 w K = den P M.winnowref03_Name.L M.winnowref03_Name.pl (Try.f64.body.getD .skip) (argE [a0]) w (bodyQ P Try.f64.results.toList K) := by kernel_rfl
theorem M.winnowref03_Name.ok : okFn M.winnowref03_Name.L M.winnowref03_Name.pl Try.f64 (Try.f64.body.getD .skip) 1 = true := by kernel_rfl
theorem M.winnowref03_Name.calls (a0 : Value) {w : World} {K : KV} (h : M.winnowref03_Name a0 w K) : callT P F.winnowref03_Name [a0] w K :=
  callT_of_den (by kernel_rfl) Try.func64 (by kernel_rfl) M.winnowref03_Name.ok (M.winnowref03_Name.eq a0 w K ▸ h)
theorem M.winnowref03_Name.fcall (args : List Value) (w : World) (K : KV) : fcallT P F.winnowref03_Name args w K = callT P F.winnowref03_Name args w K := fcallT_eq Try.func64 (by kernel_rfl) (by kernel_rfl) args w K

def M.ptimers_Heap_Del.j0 (a0 : Value) (a1 : Value) (w : World) (K : KV) : Prop :=
  drawT w fun w =>
  w = w ∧ quietT (fun K' => nilT a0 w K') w fun t17 =>
  quietT (fun K' => faT P T.timers_Heap t17 0 w K') w fun t18 =>
  quietT (fun K' => mkiT P T.p_timers_line t18 w K') w fun t19 =>
  w = w ∧ quietT (fun K' => nilT a0 w K') w fun t21 =>
  quietT (fun K' => faT P T.timers_Heap t21 1 w K') w fun t22 =>
  quietT (fun K' => ldT P T.map_uint64_p_timers_item t22 w K') w fun t23 =>
  w = w ∧ quietT (fun K' => luT P T.map_uint64_p_timers_item t23 a1 false w K') w fun t25 =>
  quietT (fun K' => nilT t25 w K') w fun t26 =>
  quietT (fun K' => faT P T.timers_item t26 2 w K') w fun t27 =>
  quietT (fun K' => ldT P T.int t27 w K') w fun t28 =>
  fcallT P F.heap_Remove [t19, t28] w fun t29 w =>
  nilT a0 w fun t31 w =>
  faT P T.timers_Heap t31 1 w fun t32 w =>
  ldT P T.map_uint64_p_timers_item t32 w fun t33 w =>
  biT P .delete #[T.map_uint64_p_timers_item, T.uint64] T._ [false, false] [t33, a1] w fun _ w =>
  K (.bool true) w
/-- (*winnow/timers.Heap).Del -/
def M.ptimers_Heap_Del (a0 a1 : Value) (w : World) (K : KV) : Prop :=
  joinT (fun K0 =>
  binT P .eql T.p_timers_Heap (.tmp 5) (.const (.pointer none)) a0 (.pointer none) w fun t6 w =>
  guardT (isB t6 false) (fun K' => K' a0 w) w fun t8 w =>
  guardT (isB t6 false) (fun K' => nilT t8 w K') w fun t9 w =>
  guardT (isB t6 false) (fun K' => faT P T.timers_Heap t9 1 w K') w fun t10 w =>
  guardT (isB t6 false) (fun K' => ldT P T.map_uint64_p_timers_item t10 w K') w fun t11 w =>
  guardT (isB t6 false) (fun K' => K' a1 w) w fun t12 w =>
  guardT (isB t6 false) (fun K' => luT P T.map_uint64_p_timers_item t11 t12 false w K') w fun t13 w =>
  guardT (isB t6 false) (fun K' => binT P .eql T.p_timers_item (.tmp 13) (.const (.pointer none)) t13 (.pointer none) w K') w fun t14 w =>
  pickT t6 (.bool true) t14 w fun t15 w =>
  condT t15 (
  K (.bool false) w) (
  K0 [(.bool false)] w)) fun x0 w =>
  M.ptimers_Heap_Del.j0 a0 a1 w K
def M.ptimers_Heap_Del.L : List Nat := [0, 1, 4]
def M.ptimers_Heap_Del.pl : Nat → Plan := fun id => cond (Nat.beq id 3) ⟨(.go 0 (.go 1 (.go 2 (.go 3 (.go 4 (.go 5 (.go 6 (.go 7 (.go 8 (.go 9 (.go 10 (.go 11 (.go 12 (.eff 13 .nil .stop)))))))))))))), [13], false⟩ (⟨.nil, [], false⟩)
theorem M.ptimers_Heap_Del.eq (a0 a1 : Value) (w : World) (K : KV) : M.ptimers_Heap_Del a0 a1 w K = den P M.ptimers_Heap_Del.L M.ptimers_Heap_Del.pl (Try.f65.body.getD .skip) (argE [a0, a1]) w (bodyQ P Try.f65.results.toList K) := by kernel_rfl
theorem M.ptimers_Heap_Del.ok : okFn M.ptimers_Heap_Del.L M.ptimers_Heap_Del.pl Try.f65 (Try.f65.body.getD .skip) 2 = true := by kernel_rfl
theorem M.ptimers_Heap_Del.calls (a0 a1 : Value) {w : World} {K : KV} (h : M.ptimers_Heap_Del a0 a1 w K) : callT P F.ptimers_Heap_Del [a0, a1] w K :=
  callT_of_den (by kernel_rfl) Try.func65 (by kernel_rfl) M.ptimers_Heap_Del.ok (M.ptimers_Heap_Del.eq a0 a1 w K ▸ h)
theorem M.ptimers_Heap_Del.fcall (args : List Value) (w : World) (K : KV) : fcallT P F.ptimers_Heap_Del args w K = callT P F.ptimers_Heap_Del args w K := fcallT_eq Try.func65 (by kernel_rfl) (by kernel_rfl) args w K

/-- (*winnow/disk.Disk).state -/
def M.pdisk_Disk_state (a0 : Value) (w : World) (K : KV) : Prop :=
  joinT (fun K0 =>
  binT P .eql T.p_disk_Disk (.tmp 4) (.const (.pointer none)) a0 (.pointer none) w fun t5 w =>
  condT t5 (
  K (.int .i64 13) w) (
  nilT a0 w fun t8 w =>
  faT P T.disk_Disk t8 4 w fun t9 w =>
  ldT P T.bool t9 w fun t10 w =>
  condT t10 (
  K (.int .i64 10) w) (
  K0 [t5, (.int .i64 0), t10] w))) fun x0 w =>
  K (.int .i64 0) w
def M.pdisk_Disk_state.L : List Nat := [0, 2, 3, 6]
def M.pdisk_Disk_state.pl : Nat → Plan := fun id => ⟨.nil, [], false⟩
theorem M.pdisk_Disk_state.eq (a0 : Value) (w : World) (K : KV) : M.pdisk_Disk_state a0 w K = den P M.pdisk_Disk_state.L M.pdisk_Disk_state.pl (Try.f66.body.getD .skip) (argE [a0]) w (bodyQ P Try.f66.results.toList K) := by kernel_rfl
theorem M.pdisk_Disk_state.ok : okFn M.pdisk_Disk_state.L M.pdisk_Disk_state.pl Try.f66 (Try.f66.body.getD .skip) 1 = true := by kernel_rfl
theorem M.pdisk_Disk_state.calls (a0 : Value) {w : World} {K : KV} (h : M.pdisk_Disk_state a0 w K) : callT P F.pdisk_Disk_state [a0] w K :=
  callT_of_den (by kernel_rfl) Try.func66 (by kernel_rfl) M.pdisk_Disk_state.ok (M.pdisk_Disk_state.eq a0 w K ▸ h)
theorem M.pdisk_Disk_state.fcall (args : List Value) (w : World) (K : KV) : fcallT P F.pdisk_Disk_state args w K = callT P F.pdisk_Disk_state args w K := fcallT_eq Try.func66 (by kernel_rfl) (by kernel_rfl) args w K

def M.pdisk_Disk_find.j0 (a0 : Value) (a1 : Value) (x0 : List Value) (w : World) (K : KV) : Prop :=
  nilT a0 w fun t14 w =>
  faT P T.disk_Disk t14 1 w fun t15 w =>
  ldT P T.map_int_p_disk_file t15 w fun t16 w =>
  luT P T.map_int_p_disk_file t16 a1 false w fun t18 w =>
  joinT (fun K1 =>
  binT P .eql T.p_disk_file (.tmp 19) (.const (.pointer none)) t18 (.pointer none) w fun t20 w =>
  condT t20 (
  K (.tuple #[(.pointer none), (.int .i64 11)]) w) (
  K1 [(gv x0 1), (gv x0 2)] w)) fun x1 w =>
  K (.tuple #[t18, (.int .i64 0)]) w
/-- (*winnow/disk.Disk).find -/
def M.pdisk_Disk_find (a0 a1 : Value) (w : World) (K : KV) : Prop :=
  joinT (fun K0 =>
  fcallT P F.pdisk_Disk_state [a0] w fun t9 w =>
  binT P .neq T.api_Kind (.tmp 10) (.const (.int .i64 0)) t9 (.int .i64 0) w fun t11 w =>
  condT t11 (
  K (.tuple #[(.pointer none), t9]) w) (
  K0 [t9, (.pointer none), (.int .i64 0)] w)) fun x0 w =>
  M.pdisk_Disk_find.j0 a0 a1 x0 w K
def M.pdisk_Disk_find.L : List Nat := [0, 1, 4, 5, 6, 7]
def M.pdisk_Disk_find.pl : Nat → Plan := fun id => ⟨.nil, [], false⟩
theorem M.pdisk_Disk_find.eq (a0 a1 : Value) (w : World) (K : KV) : M.pdisk_Disk_find a0 a1 w K = den P M.pdisk_Disk_find.L M.pdisk_Disk_find.pl (Try.f67.body.getD .skip) (argE [a0, a1]) w (bodyQ P Try.f67.results.toList K) := by kernel_rfl
theorem M.pdisk_Disk_find.ok : okFn M.pdisk_Disk_find.L M.pdisk_Disk_find.pl Try.f67 (Try.f67.body.getD .skip) 2 = true := by kernel_rfl
theorem M.pdisk_Disk_find.calls (a0 a1 : Value) {w : World} {K : KV} (h : M.pdisk_Disk_find a0 a1 w K) : callT P F.pdisk_Disk_find [a0, a1] w K :=
  callT_of_den (by kernel_rfl) Try.func67 (by kernel_rfl) M.pdisk_Disk_find.ok (M.pdisk_Disk_find.eq a0 a1 w K ▸ h)
theorem M.pdisk_Disk_find.fcall (args : List Value) (w : World) (K : KV) : fcallT P F.pdisk_Disk_find args w K = callT P F.pdisk_Disk_find args w K := fcallT_eq Try.func67 (by kernel_rfl) (by kernel_rfl) args w K

/-- (*winnow/disk.file).all -/
def M.pdisk_file_all (a0 : Value) (w : World) (K : KV) : Prop :=
  drawT w fun w =>
  w = w ∧ quietT (fun K' => nilT a0 w K') w fun t4 =>
  quietT (fun K' => faT P T.disk_file t4 0 w K') w fun t5 =>
  quietT (fun K' => ldT P T.sl_uint8 t5 w K') w fun t6 =>
  w = w ∧ quietT (fun K' => nilT a0 w K') w fun t8 =>
  quietT (fun K' => faT P T.disk_file t8 1 w K') w fun t9 =>
  quietT (fun K' => ldT P T.sl_uint8 t9 w K') w fun t10 =>
  bsT P T.sl_sl_uint8 2 #[(0, t6), (1, t10)] w fun t11 w =>
  fcallT P F.slices_Concat_byte_byte [t11] w fun t12 w =>
  K t12 w
def M.pdisk_file_all.L : List Nat := [0, 2]
def M.pdisk_file_all.pl : Nat → Plan := fun id => cond (Nat.beq id 1) ⟨(.go 0 (.go 1 (.go 2 (.go 3 (.go 4 (.go 5 (.go 6 (.go 7 (.eff 8 (.eff 9 (.eff 10 .nil .stop) .stop) .stop))))))))), [8, 9, 10], false⟩ (⟨.nil, [], false⟩)
theorem M.pdisk_file_all.eq (a0 : Value) (w : World) (K : KV) : M.pdisk_file_all a0 w K = den P M.pdisk_file_all.L M.pdisk_file_all.pl (Try.f68.body.getD .skip) (argE [a0]) w (bodyQ P Try.f68.results.toList K) := by kernel_rfl
theorem M.pdisk_file_all.ok : okFn M.pdisk_file_all.L M.pdisk_file_all.pl Try.f68 (Try.f68.body.getD .skip) 1 = true := by kernel_rfl
theorem M.pdisk_file_all.calls (a0 : Value) {w : World} {K : KV} (h : M.pdisk_file_all a0 w K) : callT P F.pdisk_file_all [a0] w K :=
  callT_of_den (by kernel_rfl) Try.func68 (by kernel_rfl) M.pdisk_file_all.ok (M.pdisk_file_all.eq a0 w K ▸ h)
theorem M.pdisk_file_all.fcall (args : List Value) (w : World) (K : KV) : fcallT P F.pdisk_file_all args w K = callT P F.pdisk_file_all args w K := fcallT_eq Try.func68 (by kernel_rfl) (by kernel_rfl) args w K

end Go.Proofs.Ytgcpljghnlohbaa
