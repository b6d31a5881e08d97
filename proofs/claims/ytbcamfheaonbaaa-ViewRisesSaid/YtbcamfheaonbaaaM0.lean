/-
  Printed by wip/Shallow.lean: functions of the program, read shallow; each is what its code does. No condition.
-/
import Derived.Test.YtbcamfheaonbaaaN
set_option maxRecDepth 1000000
namespace Go.Proofs.Ytbcamfheaonbaaa
open Go.Eng

def M.winnowlaw09_ViewNewer.j0 (t3 : Value) (t4 : Value) (t5 : Value) (w : World) (K : KV) : Prop :=
  ldT P T.api_Member t3 w fun t45 w =>
  ldT P T.api_Member t4 w fun t46 w =>
  fcallT P F.view_Newer [t45, t46] w fun t47 w =>
  unT P .not t47 w fun t48 w =>
  guardT (isB t48 false) (fun K' => ldT P T.api_Member t4 w K') w fun t50 w =>
  guardT (isB t48 false) (fun K' => ldT P T.api_Member t5 w K') w fun t51 w =>
  guardT (isB t48 false) (fun K' => fcallT P F.view_Newer [t50, t51] w K') w fun t52 w =>
  guardT (isB t48 false) (fun K' => unT P .not t52 w K') w fun t53 w =>
  pickT t48 (.bool true) t53 w fun t54 w =>
  guardT (isB t54 false) (fun K' => ldT P T.api_Member t3 w K') w fun t56 w =>
  guardT (isB t54 false) (fun K' => ldT P T.api_Member t5 w K') w fun t57 w =>
  guardT (isB t54 false) (fun K' => fcallT P F.view_Newer [t56, t57] w K') w fun t58 w =>
  pickT t54 (.bool true) t58 w fun t59 w =>
  guardT (isB t59 true) (fun K' => fcallT P F.winnowlaw09_alive [] w K') w fun t61 w =>
  pickT t59 t61 (.bool false) w fun t62 w =>
  K t62 w
/-- winnow/winnowlaw09.ViewNewer -/
def M.winnowlaw09_ViewNewer (a0 a1 a2 : Value) (w : World) (K : KV) : Prop :=
  boxT P T.api_Member a0 w fun t3 w =>
  boxT P T.api_Member a1 w fun t4 w =>
  boxT P T.api_Member a2 w fun t5 w =>
  faT P T.api_Member t3 1 w fun t8 w =>
  ldT P T.uint64 t8 w fun t9 w =>
  faT P T.api_Member t4 1 w fun t10 w =>
  ldT P T.uint64 t10 w fun t11 w =>
  binT P .eql T.uint64 (.tmp 9) (.tmp 11) t9 t11 w fun t12 w =>
  guardT (isB t12 true) (fun K' => faT P T.api_Member t3 2 w K') w fun t14 w =>
  guardT (isB t12 true) (fun K' => ldT P T.int t14 w K') w fun t15 w =>
  guardT (isB t12 true) (fun K' => faT P T.api_Member t4 2 w K') w fun t16 w =>
  guardT (isB t12 true) (fun K' => ldT P T.int t16 w K') w fun t17 w =>
  guardT (isB t12 true) (fun K' => binT P .eql T.int (.tmp 15) (.tmp 17) t15 t17 w K') w fun t18 w =>
  pickT t12 t18 (.bool false) w fun t19 w =>
  joinT (fun K0 =>
  ldT P T.api_Member t3 w fun t20 w =>
  ldT P T.api_Member t3 w fun t21 w =>
  fcallT P F.view_Newer [t20, t21] w fun t22 w =>
  guardT (isB t22 false) (fun K' => ldT P T.api_Member t3 w K') w fun t24 w =>
  guardT (isB t22 false) (fun K' => ldT P T.api_Member t4 w K') w fun t25 w =>
  guardT (isB t22 false) (fun K' => fcallT P F.view_Newer [t24, t25] w K') w fun t26 w =>
  guardT (isB t22 false) (fun K' => K' t26 w) w fun t27 w =>
  guardT (isB t27 true) (fun K' => ldT P T.api_Member t4 w K') w fun t28 w =>
  guardT (isB t27 true) (fun K' => ldT P T.api_Member t3 w K') w fun t29 w =>
  guardT (isB t27 true) (fun K' => fcallT P F.view_Newer [t28, t29] w K') w fun t30 w =>
  guardT (isB t22 false) (fun K' => pickT t27 t30 (.bool false) w K') w fun t31 w =>
  pickT t22 (.bool true) t31 w fun t32 w =>
  guardT (isB t32 false) (fun K' => K' t19 w) w fun t34 w =>
  guardT (isB t32 false) (fun K' => ldT P T.api_Member t3 w K') w fun t35 w =>
  guardT (isB t32 false) (fun K' => ldT P T.api_Member t4 w K') w fun t36 w =>
  guardT (isB t32 false) (fun K' => fcallT P F.view_Newer [t35, t36] w K') w fun t37 w =>
  guardT (isB t32 false) (fun K' => K' t37 w) w fun t38 w =>
  guardT (isB t38 false) (fun K' => ldT P T.api_Member t4 w K') w fun t39 w =>
  guardT (isB t38 false) (fun K' => ldT P T.api_Member t3 w K') w fun t40 w =>
  guardT (isB t38 false) (fun K' => fcallT P F.view_Newer [t39, t40] w K') w fun t41 w =>
  guardT (isB t32 false) (fun K' => pickT t38 (.bool true) t41 w K') w fun t42 w =>
  guardT (isB t32 false) (fun K' => binT P .eql T.bool (.tmp 34) (.tmp 42) t34 t42 w K') w fun t43 w =>
  pickT t32 (.bool true) t43 w fun t44 w =>
  condT t44 (
  K (.bool false) w) (
  K0 [(.bool false)] w)) fun x0 w =>
  M.winnowlaw09_ViewNewer.j0 t3 t4 t5 w K
def M.winnowlaw09_ViewNewer.L : List Nat := [0, 1, 2, 6, 7, 3, 4, 5]
def M.winnowlaw09_ViewNewer.pl : Nat → Plan := fun id => ⟨.nil, [], false⟩
theorem M.winnowlaw09_ViewNewer.eq (a0 a1 a2 : Value) (w : World) (K : KV) : M.winnowlaw09_ViewNewer a0 a1 a2 w K = den P M.winnowlaw09_ViewNewer.L M.winnowlaw09_ViewNewer.pl (Try.f3.body.getD .skip) (argE [a0, a1, a2]) w (bodyQ P Try.f3.results.toList K) := by kernel_rfl
theorem M.winnowlaw09_ViewNewer.ok : okFn M.winnowlaw09_ViewNewer.L M.winnowlaw09_ViewNewer.pl Try.f3 (Try.f3.body.getD .skip) 3 = true := by kernel_rfl
theorem M.winnowlaw09_ViewNewer.calls (a0 a1 a2 : Value) {w : World} {K : KV} (h : M.winnowlaw09_ViewNewer a0 a1 a2 w K) : callT P F.winnowlaw09_ViewNewer [a0, a1, a2] w K :=
  callT_of_den (by kernel_rfl) Try.func3 (by kernel_rfl) M.winnowlaw09_ViewNewer.ok (M.winnowlaw09_ViewNewer.eq a0 a1 a2 w K ▸ h)
theorem M.winnowlaw09_ViewNewer.fcall (args : List Value) (w : World) (K : KV) : fcallT P F.winnowlaw09_ViewNewer args w K = callT P F.winnowlaw09_ViewNewer args w K := fcallT_eq Try.func3 (by kernel_rfl) (by kernel_rfl) args w K
theorem M.winnowlaw09_ViewNewer.rcall (a c args : List Value) (w : World) (K : KV) : callRT P (.func (.func F.winnowlaw09_ViewNewer) a.toArray c.toArray) args w K = callT P F.winnowlaw09_ViewNewer (a ++ args ++ c) w K := callR_fn Try.func3 (by kernel_rfl) (by kernel_rfl) a c args w K

def M.winnowlaw09_ViewRight.j0 (a0 : Value) (a4 : Value) (t7 : Value) (t8 : Value) (a1 : Value) (w : World) (K : KV) : Prop :=
  fcallT P F.view_Find [a0, a4] w fun t27 w =>
  exT P t27 0 w fun t28 w =>
  exT P t27 1 w fun t29 w =>
  alT P T.api_Member w fun t11 w =>
  stT P T.api_Member t11 t28 w fun _ w =>
  fcallT P F.winnowref09_Find [a0, a4] w fun t33 w =>
  exT P t33 0 w fun t34 w =>
  exT P t33 1 w fun t35 w =>
  alT P T.api_Member w fun t13 w =>
  stT P T.api_Member t13 t34 w fun _ w =>
  drawT w fun w =>
  w = w ∧ w = w ∧ fcallT P F.view_Right [a0] w fun t37 w =>
  stabT (fun K' => K' a0 w) w a0 ∧ fcallT P F.winnowref09_Right [a0] w fun t39 w =>
  quietT (fun K' => binT P .eql T.api_Kind (.tmp 37) (.tmp 39) t37 t39 w K') w fun t40 =>
  w = w ∧ quietT (fun K' => guardT (isB t40 true) (fun K' => ldT P T.api_Member t7 w K') w K') w fun t42 =>
  quietT (fun K' => guardT (isB t40 true) (fun K' => ldT P T.api_Member t8 w K') w K') w fun t43 =>
  quietT (fun K' => guardT (isB t40 true) (fun K' => ldT P T.api_Member t7 w K') w K') w fun t45 =>
  quietT (fun K' => guardT (isB t40 true) (fun K' => ldT P T.api_Member t8 w K') w K') w fun t46 =>
  guardT (isB t40 true) (fun K' => fcallT P F.view_Newer [t42, t43] w K') w fun t44 w =>
  stabT (fun K' => guardT (isB t40 true) (fun K' => ldT P T.api_Member t8 w K') w K') w t46 ∧ stabT (fun K' => guardT (isB t40 true) (fun K' => ldT P T.api_Member t7 w K') w K') w t45 ∧ guardT (isB t40 true) (fun K' => fcallT P F.winnowref09_Newer [t45, t46] w K') w fun t47 w =>
  quietT (fun K' => guardT (isB t40 true) (fun K' => binT P .eql T.bool (.tmp 44) (.tmp 47) t44 t47 w K') w K') w fun t48 =>
  quietT (fun K' => pickT t40 t48 (.bool false) w K') w fun t49 =>
  w = w ∧ quietT (fun K' => guardT (isB t49 true) (fun K' => ldT P T.api_Member t11 w K') w K') w fun t51 =>
  quietT (fun K' => guardT (isB t49 true) (fun K' => ldT P T.api_Member t13 w K') w K') w fun t52 =>
  quietT (fun K' => guardT (isB t49 true) (fun K' => binT P .eql T.api_Member (.tmp 51) (.tmp 52) t51 t52 w K') w K') w fun t53 =>
  quietT (fun K' => pickT t49 t53 (.bool false) w K') w fun t54 =>
  w = w ∧ quietT (fun K' => guardT (isB t54 true) (fun K' => K' t29 w) w K') w fun t56 =>
  quietT (fun K' => guardT (isB t54 true) (fun K' => K' t35 w) w K') w fun t57 =>
  quietT (fun K' => guardT (isB t54 true) (fun K' => binT P .eql T.bool (.tmp 56) (.tmp 57) t56 t57 w K') w K') w fun t58 =>
  quietT (fun K' => pickT t54 t58 (.bool false) w K') w fun t59 =>
  w = w ∧ quietT (fun K' => guardT (isB t59 true) (fun K' => K' a0 w) w K') w fun t61 =>
  quietT (fun K' => guardT (isB t59 true) (fun K' => K' a1 w) w K') w fun t62 =>
  quietT (fun K' => guardT (isB t59 true) (fun K' => K' a0 w) w K') w fun t64 =>
  quietT (fun K' => guardT (isB t59 true) (fun K' => K' a1 w) w K') w fun t65 =>
  guardT (isB t59 true) (fun K' => fcallT P F.view_Same [t61, t62] w K') w fun t63 w =>
  stabT (fun K' => guardT (isB t59 true) (fun K' => K' a1 w) w K') w t65 ∧ stabT (fun K' => guardT (isB t59 true) (fun K' => K' a0 w) w K') w t64 ∧ guardT (isB t59 true) (fun K' => fcallT P F.winnowref09_Same [t64, t65] w K') w fun t66 w =>
  quietT (fun K' => guardT (isB t59 true) (fun K' => binT P .eql T.bool (.tmp 63) (.tmp 66) t63 t66 w K') w K') w fun t67 =>
  quietT (fun K' => pickT t59 t67 (.bool false) w K') w fun t68 =>
  w = w ∧ guardT (isB t68 true) (fun K' => fcallT P F.winnowlaw09_alive [] w K') w fun t70 w =>
  quietT (fun K' => pickT t68 t70 (.bool false) w K') w fun t71 =>
  K t71 w
/-- winnow/winnowlaw09.ViewRight -/
def M.winnowlaw09_ViewRight (a0 a1 a2 a3 a4 : Value) (w : World) (K : KV) : Prop :=
  boxT P T.api_Member a2 w fun t7 w =>
  boxT P T.api_Member a3 w fun t8 w =>
  joinT (fun K0 =>
  biT P .len #[T.sl_api_Member] T.int [false] [a0] w fun t16 w =>
  binT P .gtr T.int (.tmp 16) (.const (.int .i64 200)) t16 (.int .i64 200) w fun t17 w =>
  guardT (isB t17 false) (fun K' => K' a1 w) w fun t19 w =>
  guardT (isB t17 false) (fun K' => biT P .len #[T.sl_api_Member] T.int [false] [t19] w K') w fun t20 w =>
  guardT (isB t17 false) (fun K' => binT P .gtr T.int (.tmp 20) (.const (.int .i64 200)) t20 (.int .i64 200) w K') w fun t21 w =>
  pickT t17 (.bool true) t21 w fun t22 w =>
  condT t22 (
  fcallT P F.winnowlaw09_alive [] w fun t23 w =>
  K t23 w) (
  K0 [(.bool false)] w)) fun x0 w =>
  M.winnowlaw09_ViewRight.j0 a0 a4 t7 t8 a1 w K
def M.winnowlaw09_ViewRight.L : List Nat := [0, 1, 2, 3, 4, 10, 12, 14, 7, 8]
def M.winnowlaw09_ViewRight.pl : Nat → Plan := fun id => cond (Nat.beq id 5) ⟨(.go 0 (.go 2 (.eff 1 (.eff 3 (.go 4 (.go 5 (.go 6 (.go 7 (.go 9 (.go 10 (.eff 8 (.eff 11 (.go 12 (.go 13 (.go 14 (.go 15 (.go 16 (.go 17 (.go 18 (.go 19 (.go 20 (.go 21 (.go 22 (.go 23 (.go 24 (.go 25 (.go 26 (.go 28 (.go 29 (.eff 27 (.eff 30 (.go 31 (.go 32 (.go 33 (.eff 34 (.go 35 (.eff 36 .nil .stop)) .stop)))) .stop) .stop)))))))))))))))))) .stop) .stop))))))) .stop) .stop))), [1, 3, 8, 11, 27, 30, 34, 36], false⟩ (⟨.nil, [], false⟩)
theorem M.winnowlaw09_ViewRight.eq (a0 a1 a2 a3 a4 : Value) (w : World) (K : KV) : M.winnowlaw09_ViewRight a0 a1 a2 a3 a4 w K = den P M.winnowlaw09_ViewRight.L M.winnowlaw09_ViewRight.pl (Try.f4.body.getD .skip) (argE [a0, a1, a2, a3, a4]) w (bodyQ P Try.f4.results.toList K) := by kernel_rfl
theorem M.winnowlaw09_ViewRight.ok : okFn M.winnowlaw09_ViewRight.L M.winnowlaw09_ViewRight.pl Try.f4 (Try.f4.body.getD .skip) 5 = true := by kernel_rfl
theorem M.winnowlaw09_ViewRight.calls (a0 a1 a2 a3 a4 : Value) {w : World} {K : KV} (h : M.winnowlaw09_ViewRight a0 a1 a2 a3 a4 w K) : callT P F.winnowlaw09_ViewRight [a0, a1, a2, a3, a4] w K :=
  callT_of_den (by kernel_rfl) Try.func4 (by kernel_rfl) M.winnowlaw09_ViewRight.ok (M.winnowlaw09_ViewRight.eq a0 a1 a2 a3 a4 w K ▸ h)
theorem M.winnowlaw09_ViewRight.fcall (args : List Value) (w : World) (K : KV) : fcallT P F.winnowlaw09_ViewRight args w K = callT P F.winnowlaw09_ViewRight args w K := fcallT_eq Try.func4 (by kernel_rfl) (by kernel_rfl) args w K
theorem M.winnowlaw09_ViewRight.rcall (a c args : List Value) (w : World) (K : KV) : callRT P (.func (.func F.winnowlaw09_ViewRight) a.toArray c.toArray) args w K = callT P F.winnowlaw09_ViewRight (a ++ args ++ c) w K := callR_fn Try.func4 (by kernel_rfl) (by kernel_rfl) a c args w K

def M.winnowlaw09_ViewRises.j2 (t47 : Value) (t46 : Value) (t51 : Value) (a0 : Value) (t34 : Value) (w : World) (K : KV) : Prop :=
  binT P .eql T.api_Kind (.tmp 60) (.const (.int .i64 0)) t47 (.int .i64 0) w fun t61 w =>
  guardT (isB t61 true) (fun K' => K' t46 w) w fun t63 w =>
  guardT (isB t61 true) (fun K' => K' t51 w) w fun t64 w =>
  guardT (isB t61 true) (fun K' => binT P .leq T.uint64 (.tmp 63) (.tmp 64) t63 t64 w K') w fun t65 w =>
  pickT t61 t65 (.bool false) w fun t66 w =>
  guardT (isB t66 true) (fun K' => K' t46 w) w fun t68 w =>
  guardT (isB t66 true) (fun K' => K' t51 w) w fun t69 w =>
  guardT (isB t66 true) (fun K' => binT P .eql T.uint64 (.tmp 68) (.tmp 69) t68 t69 w K') w fun t70 w =>
  guardT (isB t66 true) (fun K' => K' a0 w) w fun t71 w =>
  guardT (isB t66 true) (fun K' => K' t34 w) w fun t72 w =>
  guardT (isB t66 true) (fun K' => fcallT P F.winnowref09_Same [t71, t72] w K') w fun t73 w =>
  guardT (isB t66 true) (fun K' => binT P .eql T.bool (.tmp 70) (.tmp 73) t70 t73 w K') w fun t74 w =>
  pickT t66 t74 (.bool false) w fun t75 w =>
  guardT (isB t75 true) (fun K' => fcallT P F.winnowlaw09_alive [] w K') w fun t77 w =>
  pickT t75 t77 (.bool false) w fun t78 w =>
  K t78 w
def M.winnowlaw09_ViewRises.j1 (a0 : Value) (t34 : Value) (x1 : List Value) (w : World) (K : KV) : Prop :=
  fcallT P F.view_Version [a0] w fun t45 w =>
  exT P t45 0 w fun t46 w =>
  exT P t45 1 w fun t47 w =>
  fcallT P F.view_Version [t34] w fun t50 w =>
  exT P t50 0 w fun t51 w =>
  exT P t50 1 w fun t52 w =>
  joinT (fun K2 =>
  binT P .neq T.api_Kind (.tmp 53) (.const (.int .i64 0)) t52 (.int .i64 0) w fun t54 w =>
  condT t54 (
  binT P .eql T.api_Kind (.tmp 55) (.const (.int .i64 12)) t52 (.int .i64 12) w fun t56 w =>
  guardT (isB t56 true) (fun K' => fcallT P F.winnowlaw09_alive [] w K') w fun t58 w =>
  pickT t56 t58 (.bool false) w fun t59 w =>
  K t59 w) (
  K2 [(gv x1 0)] w)) fun x2 w =>
  M.winnowlaw09_ViewRises.j2 t47 t46 t51 a0 t34 w K
def M.winnowlaw09_ViewRises.j0 (a0 : Value) (a1 : Value) (x0 : List Value) (w : World) (K : KV) : Prop :=
  fcallT P F.view_Merge [a0, a1] w fun t33 w =>
  exT P t33 0 w fun t34 w =>
  exT P t33 1 w fun t35 w =>
  joinT (fun K1 =>
  binT P .neq T.api_Kind (.tmp 36) (.const (.int .i64 0)) t35 (.int .i64 0) w fun t37 w =>
  condT t37 (
  binT P .eql T.api_Kind (.tmp 38) (.const (.int .i64 4)) t35 (.int .i64 4) w fun t39 w =>
  guardT (isB t39 true) (fun K' => fcallT P F.winnowlaw09_alive [] w K') w fun t41 w =>
  pickT t39 t41 (.bool false) w fun t42 w =>
  K t42 w) (
  K1 [(gv x0 0)] w)) fun x1 w =>
  M.winnowlaw09_ViewRises.j1 a0 t34 x1 w K
/-- winnow/winnowlaw09.ViewRises -/
def M.winnowlaw09_ViewRises (a0 a1 : Value) (w : World) (K : KV) : Prop :=
  joinT (fun K0 =>
  biT P .len #[T.sl_api_Member] T.int [false] [a0] w fun t12 w =>
  binT P .gtr T.int (.tmp 12) (.const (.int .i64 16)) t12 (.int .i64 16) w fun t13 w =>
  guardT (isB t13 false) (fun K' => K' a1 w) w fun t15 w =>
  guardT (isB t13 false) (fun K' => biT P .len #[T.sl_api_Member] T.int [false] [t15] w K') w fun t16 w =>
  guardT (isB t13 false) (fun K' => binT P .gtr T.int (.tmp 16) (.const (.int .i64 16)) t16 (.int .i64 16) w K') w fun t17 w =>
  pickT t13 (.bool true) t17 w fun t18 w =>
  guardT (isB t18 false) (fun K' => K' a0 w) w fun t20 w =>
  guardT (isB t18 false) (fun K' => fcallT P F.winnowref09_Right [t20] w K') w fun t21 w =>
  guardT (isB t18 false) (fun K' => binT P .neq T.api_Kind (.tmp 21) (.const (.int .i64 0)) t21 (.int .i64 0) w K') w fun t22 w =>
  pickT t18 (.bool true) t22 w fun t23 w =>
  guardT (isB t23 false) (fun K' => K' a1 w) w fun t25 w =>
  guardT (isB t23 false) (fun K' => fcallT P F.winnowref09_Right [t25] w K') w fun t26 w =>
  guardT (isB t23 false) (fun K' => binT P .neq T.api_Kind (.tmp 26) (.const (.int .i64 0)) t26 (.int .i64 0) w K') w fun t27 w =>
  pickT t23 (.bool true) t27 w fun t28 w =>
  condT t28 (
  fcallT P F.winnowlaw09_alive [] w fun t29 w =>
  K t29 w) (
  K0 [(.bool false)] w)) fun x0 w =>
  M.winnowlaw09_ViewRises.j0 a0 a1 x0 w K
def M.winnowlaw09_ViewRises.L : List Nat := [0, 1, 4, 5, 6, 7, 8, 9, 10]
def M.winnowlaw09_ViewRises.pl : Nat → Plan := fun id => ⟨.nil, [], false⟩
theorem M.winnowlaw09_ViewRises.eq (a0 a1 : Value) (w : World) (K : KV) : M.winnowlaw09_ViewRises a0 a1 w K = den P M.winnowlaw09_ViewRises.L M.winnowlaw09_ViewRises.pl (Try.f5.body.getD .skip) (argE [a0, a1]) w (bodyQ P Try.f5.results.toList K) := by kernel_rfl
theorem M.winnowlaw09_ViewRises.ok : okFn M.winnowlaw09_ViewRises.L M.winnowlaw09_ViewRises.pl Try.f5 (Try.f5.body.getD .skip) 2 = true := by kernel_rfl
theorem M.winnowlaw09_ViewRises.calls (a0 a1 : Value) {w : World} {K : KV} (h : M.winnowlaw09_ViewRises a0 a1 w K) : callT P F.winnowlaw09_ViewRises [a0, a1] w K :=
  callT_of_den (by kernel_rfl) Try.func5 (by kernel_rfl) M.winnowlaw09_ViewRises.ok (M.winnowlaw09_ViewRises.eq a0 a1 w K ▸ h)
theorem M.winnowlaw09_ViewRises.fcall (args : List Value) (w : World) (K : KV) : fcallT P F.winnowlaw09_ViewRises args w K = callT P F.winnowlaw09_ViewRises args w K := fcallT_eq Try.func5 (by kernel_rfl) (by kernel_rfl) args w K
theorem M.winnowlaw09_ViewRises.rcall (a c args : List Value) (w : World) (K : KV) : callRT P (.func (.func F.winnowlaw09_ViewRises) a.toArray c.toArray) args w K = callT P F.winnowlaw09_ViewRises (a ++ args ++ c) w K := callR_fn Try.func5 (by kernel_rfl) (by kernel_rfl) a c args w K

def M.winnowlaw09_ViewVersions.j0 (a0 : Value) (w : World) (K : KV) : Prop :=
  fcallT P F.view_Version [a0] w fun t13 w =>
  exT P t13 0 w fun t14 w =>
  exT P t13 1 w fun t15 w =>
  fcallT P F.winnowref09_Version [a0] w fun t18 w =>
  exT P t18 0 w fun t19 w =>
  exT P t18 1 w fun t20 w =>
  binT P .eql T.uint64 (.tmp 21) (.tmp 22) t14 t19 w fun t23 w =>
  guardT (isB t23 true) (fun K' => K' t15 w) w fun t25 w =>
  guardT (isB t23 true) (fun K' => K' t20 w) w fun t26 w =>
  guardT (isB t23 true) (fun K' => binT P .eql T.api_Kind (.tmp 25) (.tmp 26) t25 t26 w K') w fun t27 w =>
  pickT t23 t27 (.bool false) w fun t28 w =>
  guardT (isB t28 true) (fun K' => K' a0 w) w fun t30 w =>
  guardT (isB t28 true) (fun K' => fcallT P F.view_Live [t30] w K') w fun t31 w =>
  guardT (isB t28 true) (fun K' => K' a0 w) w fun t32 w =>
  guardT (isB t28 true) (fun K' => fcallT P F.winnowref09_Live [t32] w K') w fun t33 w =>
  guardT (isB t28 true) (fun K' => fcallT P F.winnowlaw09_uints [t31, t33] w K') w fun t34 w =>
  pickT t28 t34 (.bool false) w fun t35 w =>
  guardT (isB t35 true) (fun K' => fcallT P F.winnowlaw09_alive [] w K') w fun t37 w =>
  pickT t35 t37 (.bool false) w fun t38 w =>
  K t38 w
/-- winnow/winnowlaw09.ViewVersions -/
def M.winnowlaw09_ViewVersions (a0 : Value) (w : World) (K : KV) : Prop :=
  joinT (fun K0 =>
  biT P .len #[T.sl_api_Member] T.int [false] [a0] w fun t8 w =>
  binT P .gtr T.int (.tmp 8) (.const (.int .i64 200)) t8 (.int .i64 200) w fun t9 w =>
  condT t9 (
  fcallT P F.winnowlaw09_alive [] w fun t10 w =>
  K t10 w) (
  K0 [(.bool false)] w)) fun x0 w =>
  M.winnowlaw09_ViewVersions.j0 a0 w K
def M.winnowlaw09_ViewVersions.L : List Nat := [0, 2, 3, 4, 5, 6]
def M.winnowlaw09_ViewVersions.pl : Nat → Plan := fun id => ⟨.nil, [], false⟩
theorem M.winnowlaw09_ViewVersions.eq (a0 : Value) (w : World) (K : KV) : M.winnowlaw09_ViewVersions a0 w K = den P M.winnowlaw09_ViewVersions.L M.winnowlaw09_ViewVersions.pl (Try.f6.body.getD .skip) (argE [a0]) w (bodyQ P Try.f6.results.toList K) := by kernel_rfl
theorem M.winnowlaw09_ViewVersions.ok : okFn M.winnowlaw09_ViewVersions.L M.winnowlaw09_ViewVersions.pl Try.f6 (Try.f6.body.getD .skip) 1 = true := by kernel_rfl
theorem M.winnowlaw09_ViewVersions.calls (a0 : Value) {w : World} {K : KV} (h : M.winnowlaw09_ViewVersions a0 w K) : callT P F.winnowlaw09_ViewVersions [a0] w K :=
  callT_of_den (by kernel_rfl) Try.func6 (by kernel_rfl) M.winnowlaw09_ViewVersions.ok (M.winnowlaw09_ViewVersions.eq a0 w K ▸ h)
theorem M.winnowlaw09_ViewVersions.fcall (args : List Value) (w : World) (K : KV) : fcallT P F.winnowlaw09_ViewVersions args w K = callT P F.winnowlaw09_ViewVersions args w K := fcallT_eq Try.func6 (by kernel_rfl) (by kernel_rfl) args w K
theorem M.winnowlaw09_ViewVersions.rcall (a c args : List Value) (w : World) (K : KV) : callRT P (.func (.func F.winnowlaw09_ViewVersions) a.toArray c.toArray) args w K = callT P F.winnowlaw09_ViewVersions (a ++ args ++ c) w K := callR_fn Try.func6 (by kernel_rfl) (by kernel_rfl) a c args w K

def M.winnowlaw09_ViewJoins.j2 (t58 : Value) (a2 : Value) (a0 : Value) (t70 : Value) (a1 : Value) (w : World) (K : KV) : Prop :=
  fcallT P F.view_Merge [t58, a2] w fun t107 w =>
  exT P t107 0 w fun t108 w =>
  exT P t107 1 w fun t109 w =>
  fcallT P F.view_Merge [a0, t70] w fun t113 w =>
  exT P t113 0 w fun t114 w =>
  exT P t113 1 w fun t115 w =>
  binT P .eql T.api_Kind (.tmp 116) (.tmp 117) t109 t115 w fun t118 w =>
  guardT (isB t118 true) (fun K' => K' t108 w) w fun t120 w =>
  guardT (isB t118 true) (fun K' => K' t114 w) w fun t121 w =>
  guardT (isB t118 true) (fun K' => fcallT P F.winnowref09_Same [t120, t121] w K') w fun t122 w =>
  pickT t118 t122 (.bool false) w fun t123 w =>
  guardT (isB t123 true) (fun K' => K' a0 w) w fun t125 w =>
  guardT (isB t123 true) (fun K' => K' t58 w) w fun t126 w =>
  guardT (isB t123 true) (fun K' => fcallT P F.winnowlaw09_below [t125, t126] w K') w fun t127 w =>
  pickT t123 t127 (.bool false) w fun t128 w =>
  guardT (isB t128 true) (fun K' => K' a1 w) w fun t130 w =>
  guardT (isB t128 true) (fun K' => K' t58 w) w fun t131 w =>
  guardT (isB t128 true) (fun K' => fcallT P F.winnowlaw09_below [t130, t131] w K') w fun t132 w =>
  pickT t128 t132 (.bool false) w fun t133 w =>
  guardT (isB t133 true) (fun K' => fcallT P F.winnowlaw09_alive [] w K') w fun t135 w =>
  pickT t133 t135 (.bool false) w fun t136 w =>
  K t136 w
def M.winnowlaw09_ViewJoins.j1 (t59 : Value) (t71 : Value) (x1 : List Value) (t58 : Value) (a2 : Value) (a0 : Value) (t70 : Value) (a1 : Value) (w : World) (K : KV) : Prop :=
  joinT (fun K2 =>
  binT P .neq T.api_Kind (.tmp 97) (.const (.int .i64 0)) t59 (.int .i64 0) w fun t98 w =>
  guardT (isB t98 false) (fun K' => K' t71 w) w fun t100 w =>
  guardT (isB t98 false) (fun K' => binT P .neq T.api_Kind (.tmp 100) (.const (.int .i64 0)) t100 (.int .i64 0) w K') w fun t101 w =>
  pickT t98 (.bool true) t101 w fun t102 w =>
  condT t102 (
  fcallT P F.winnowlaw09_alive [] w fun t103 w =>
  K t103 w) (
  K2 [(gv x1 0)] w)) fun x2 w =>
  M.winnowlaw09_ViewJoins.j2 t58 a2 a0 t70 a1 w K
def M.winnowlaw09_ViewJoins.j0 (a0 : Value) (a1 : Value) (a2 : Value) (x0 : List Value) (w : World) (K : KV) : Prop :=
  fcallT P F.view_Merge [a0, a0] w fun t51 w =>
  exT P t51 0 w fun t52 w =>
  exT P t51 1 w fun t53 w =>
  fcallT P F.view_Merge [a0, a1] w fun t57 w =>
  exT P t57 0 w fun t58 w =>
  exT P t57 1 w fun t59 w =>
  fcallT P F.view_Merge [a1, a0] w fun t63 w =>
  exT P t63 0 w fun t64 w =>
  exT P t63 1 w fun t65 w =>
  fcallT P F.view_Merge [a1, a2] w fun t69 w =>
  exT P t69 0 w fun t70 w =>
  exT P t69 1 w fun t71 w =>
  joinT (fun K1 =>
  binT P .neq T.api_Kind (.tmp 72) (.const (.int .i64 0)) t53 (.int .i64 0) w fun t73 w =>
  guardT (isB t73 false) (fun K' => K' t59 w) w fun t75 w =>
  guardT (isB t73 false) (fun K' => K' t65 w) w fun t76 w =>
  guardT (isB t73 false) (fun K' => binT P .neq T.api_Kind (.tmp 75) (.tmp 76) t75 t76 w K') w fun t77 w =>
  pickT t73 (.bool true) t77 w fun t78 w =>
  guardT (isB t78 false) (fun K' => K' t52 w) w fun t80 w =>
  guardT (isB t78 false) (fun K' => K' a0 w) w fun t81 w =>
  guardT (isB t78 false) (fun K' => fcallT P F.view_Same [t80, t81] w K') w fun t82 w =>
  guardT (isB t78 false) (fun K' => unT P .not t82 w K') w fun t83 w =>
  pickT t78 (.bool true) t83 w fun t84 w =>
  guardT (isB t84 false) (fun K' => K' t58 w) w fun t86 w =>
  guardT (isB t84 false) (fun K' => K' t64 w) w fun t87 w =>
  guardT (isB t84 false) (fun K' => fcallT P F.view_Same [t86, t87] w K') w fun t88 w =>
  guardT (isB t84 false) (fun K' => unT P .not t88 w K') w fun t89 w =>
  pickT t84 (.bool true) t89 w fun t90 w =>
  guardT (isB t90 false) (fun K' => K' t58 w) w fun t92 w =>
  guardT (isB t90 false) (fun K' => K' t64 w) w fun t93 w =>
  guardT (isB t90 false) (fun K' => fcallT P F.winnowref09_Same [t92, t93] w K') w fun t94 w =>
  guardT (isB t90 false) (fun K' => unT P .not t94 w K') w fun t95 w =>
  pickT t90 (.bool true) t95 w fun t96 w =>
  condT t96 (
  K (.bool false) w) (
  K1 [(gv x0 0)] w)) fun x1 w =>
  M.winnowlaw09_ViewJoins.j1 t59 t71 x1 t58 a2 a0 t70 a1 w K
/-- winnow/winnowlaw09.ViewJoins -/
def M.winnowlaw09_ViewJoins (a0 a1 a2 : Value) (w : World) (K : KV) : Prop :=
  joinT (fun K0 =>
  biT P .len #[T.sl_api_Member] T.int [false] [a0] w fun t20 w =>
  binT P .gtr T.int (.tmp 20) (.const (.int .i64 16)) t20 (.int .i64 16) w fun t21 w =>
  guardT (isB t21 false) (fun K' => K' a1 w) w fun t23 w =>
  guardT (isB t21 false) (fun K' => biT P .len #[T.sl_api_Member] T.int [false] [t23] w K') w fun t24 w =>
  guardT (isB t21 false) (fun K' => binT P .gtr T.int (.tmp 24) (.const (.int .i64 16)) t24 (.int .i64 16) w K') w fun t25 w =>
  pickT t21 (.bool true) t25 w fun t26 w =>
  guardT (isB t26 false) (fun K' => K' a2 w) w fun t28 w =>
  guardT (isB t26 false) (fun K' => biT P .len #[T.sl_api_Member] T.int [false] [t28] w K') w fun t29 w =>
  guardT (isB t26 false) (fun K' => binT P .gtr T.int (.tmp 29) (.const (.int .i64 16)) t29 (.int .i64 16) w K') w fun t30 w =>
  pickT t26 (.bool true) t30 w fun t31 w =>
  guardT (isB t31 false) (fun K' => K' a0 w) w fun t33 w =>
  guardT (isB t31 false) (fun K' => fcallT P F.winnowref09_Right [t33] w K') w fun t34 w =>
  guardT (isB t31 false) (fun K' => binT P .neq T.api_Kind (.tmp 34) (.const (.int .i64 0)) t34 (.int .i64 0) w K') w fun t35 w =>
  pickT t31 (.bool true) t35 w fun t36 w =>
  guardT (isB t36 false) (fun K' => K' a1 w) w fun t38 w =>
  guardT (isB t36 false) (fun K' => fcallT P F.winnowref09_Right [t38] w K') w fun t39 w =>
  guardT (isB t36 false) (fun K' => binT P .neq T.api_Kind (.tmp 39) (.const (.int .i64 0)) t39 (.int .i64 0) w K') w fun t40 w =>
  pickT t36 (.bool true) t40 w fun t41 w =>
  guardT (isB t41 false) (fun K' => K' a2 w) w fun t43 w =>
  guardT (isB t41 false) (fun K' => fcallT P F.winnowref09_Right [t43] w K') w fun t44 w =>
  guardT (isB t41 false) (fun K' => binT P .neq T.api_Kind (.tmp 44) (.const (.int .i64 0)) t44 (.int .i64 0) w K') w fun t45 w =>
  pickT t41 (.bool true) t45 w fun t46 w =>
  condT t46 (
  fcallT P F.winnowlaw09_alive [] w fun t47 w =>
  K t47 w) (
  K0 [(.bool false)] w)) fun x0 w =>
  M.winnowlaw09_ViewJoins.j0 a0 a1 a2 x0 w K
def M.winnowlaw09_ViewJoins.L : List Nat := [0, 1, 2, 6, 7, 8, 9, 10, 11, 12, 13, 14, 15, 16, 17, 18]
def M.winnowlaw09_ViewJoins.pl : Nat → Plan := fun id => ⟨.nil, [], false⟩
theorem M.winnowlaw09_ViewJoins.eq (a0 a1 a2 : Value) (w : World) (K : KV) : M.winnowlaw09_ViewJoins a0 a1 a2 w K = den P M.winnowlaw09_ViewJoins.L M.winnowlaw09_ViewJoins.pl (Try.f8.body.getD .skip) (argE [a0, a1, a2]) w (bodyQ P Try.f8.results.toList K) := by kernel_rfl
theorem M.winnowlaw09_ViewJoins.ok : okFn M.winnowlaw09_ViewJoins.L M.winnowlaw09_ViewJoins.pl Try.f8 (Try.f8.body.getD .skip) 3 = true := by kernel_rfl
theorem M.winnowlaw09_ViewJoins.calls (a0 a1 a2 : Value) {w : World} {K : KV} (h : M.winnowlaw09_ViewJoins a0 a1 a2 w K) : callT P F.winnowlaw09_ViewJoins [a0, a1, a2] w K :=
  callT_of_den (by kernel_rfl) Try.func8 (by kernel_rfl) M.winnowlaw09_ViewJoins.ok (M.winnowlaw09_ViewJoins.eq a0 a1 a2 w K ▸ h)
theorem M.winnowlaw09_ViewJoins.fcall (args : List Value) (w : World) (K : KV) : fcallT P F.winnowlaw09_ViewJoins args w K = callT P F.winnowlaw09_ViewJoins args w K := fcallT_eq Try.func8 (by kernel_rfl) (by kernel_rfl) args w K
theorem M.winnowlaw09_ViewJoins.rcall (a c args : List Value) (w : World) (K : KV) : callRT P (.func (.func F.winnowlaw09_ViewJoins) a.toArray c.toArray) args w K = callT P F.winnowlaw09_ViewJoins (a ++ args ++ c) w K := callR_fn Try.func8 (by kernel_rfl) (by kernel_rfl) a c args w K

/-- winnow/view.Newer -/
def M.view_Newer (a0 a1 : Value) (w : World) (K : KV) : Prop :=
  boxT P T.api_Member a0 w fun t2 w =>
  boxT P T.api_Member a1 w fun t3 w =>
  drawT w fun w =>
  quietT (fun K' => faT P T.api_Member t2 1 w K') w fun t5 =>
  quietT (fun K' => ldT P T.uint64 t5 w K') w fun t6 =>
  quietT (fun K' => faT P T.api_Member t3 1 w K') w fun t7 =>
  quietT (fun K' => ldT P T.uint64 t7 w K') w fun t8 =>
  quietT (fun K' => faT P T.api_Member t2 2 w K') w fun t10 =>
  quietT (fun K' => ldT P T.int t10 w K') w fun t11 =>
  quietT (fun K' => faT P T.api_Member t3 2 w K') w fun t12 =>
  quietT (fun K' => ldT P T.int t12 w K') w fun t13 =>
  fcallT P F.cmp_Compare_uint64 [t6, t8] w fun t9 w =>
  stabT (fun K' => ldT P T.int t12 w K') w t13 ∧ stabT (fun K' => faT P T.api_Member t3 2 w K') w t12 ∧ stabT (fun K' => ldT P T.int t10 w K') w t11 ∧ stabT (fun K' => faT P T.api_Member t2 2 w K') w t10 ∧ fcallT P F.cmp_Compare_int [t11, t13] w fun t14 w =>
  bsT P T.sl_int 2 #[(0, t9), (1, t14)] w fun t15 w =>
  fcallT P F.cmp_Or_int [t15] w fun t16 w =>
  quietT (fun K' => binT P .gtr T.int (.tmp 16) (.const (.int .i64 0)) t16 (.int .i64 0) w K') w fun t17 =>
  K t17 w
def M.view_Newer.L : List Nat := [0, 1, 4]
def M.view_Newer.pl : Nat → Plan := fun id => cond (Nat.beq id 1) ⟨(.go 0 (.go 1 (.go 2 (.go 3 (.go 5 (.go 6 (.go 7 (.go 8 (.eff 4 (.eff 9 (.eff 10 (.eff 11 (.go 12 (.eff 13 .nil .stop)) .stop) .stop) .stop) .stop))))))))), [4, 9, 10, 11, 13], false⟩ (⟨.nil, [], false⟩)
theorem M.view_Newer.eq (a0 a1 : Value) (w : World) (K : KV) : M.view_Newer a0 a1 w K = den P M.view_Newer.L M.view_Newer.pl (Try.f9.body.getD .skip) (argE [a0, a1]) w (bodyQ P Try.f9.results.toList K) := by kernel_rfl
theorem M.view_Newer.ok : okFn M.view_Newer.L M.view_Newer.pl Try.f9 (Try.f9.body.getD .skip) 2 = true := by kernel_rfl
theorem M.view_Newer.calls (a0 a1 : Value) {w : World} {K : KV} (h : M.view_Newer a0 a1 w K) : callT P F.view_Newer [a0, a1] w K :=
  callT_of_den (by kernel_rfl) Try.func9 (by kernel_rfl) M.view_Newer.ok (M.view_Newer.eq a0 a1 w K ▸ h)
theorem M.view_Newer.fcall (args : List Value) (w : World) (K : KV) : fcallT P F.view_Newer args w K = callT P F.view_Newer args w K := fcallT_eq Try.func9 (by kernel_rfl) (by kernel_rfl) args w K
theorem M.view_Newer.rcall (a c args : List Value) (w : World) (K : KV) : callRT P (.func (.func F.view_Newer) a.toArray c.toArray) args w K = callT P F.view_Newer (a ++ args ++ c) w K := callR_fn Try.func9 (by kernel_rfl) (by kernel_rfl) a c args w K

/-- winnow/winnowlaw09.alive -/
def M.winnowlaw09_alive (w : World) (K : KV) : Prop :=
  bldT P T.api_Member #[(0, (.int .u64 1)), (1, (.int .u64 1)), (2, (.int .i64 2))] w fun t5 w =>
  bldT P T.api_Member #[(0, (.int .u64 1)), (1, (.int .u64 2))] w fun t6 w =>
  alT P T.api_Member w fun t1 w =>
  alT P T.api_Member w fun t2 w =>
  stT P T.api_Member t1 t5 w fun _ w =>
  stT P T.api_Member t2 t6 w fun _ w =>
  ldT P T.api_Member t1 w fun t8 w =>
  bsT P T.sl_api_Member 1 #[(0, t8)] w fun t9 w =>
  ldT P T.api_Member t2 w fun t10 w =>
  bsT P T.sl_api_Member 1 #[(0, t10)] w fun t11 w =>
  fcallT P F.view_Merge [t9, t11] w fun t12 w =>
  exT P t12 0 w fun t13 w =>
  exT P t12 1 w fun t14 w =>
  drawT w fun w =>
  quietT (fun K' => ldT P T.api_Member t2 w K') w fun t15 =>
  quietT (fun K' => ldT P T.api_Member t1 w K') w fun t16 =>
  fcallT P F.view_Newer [t15, t16] w fun t17 w =>
  w = w ∧ quietT (fun K' => guardT (isB t17 true) (fun K' => K' t14 w) w K') w fun t19 =>
  quietT (fun K' => guardT (isB t17 true) (fun K' => binT P .eql T.api_Kind (.tmp 19) (.const (.int .i64 0)) t19 (.int .i64 0) w K') w K') w fun t20 =>
  quietT (fun K' => pickT t17 t20 (.bool false) w K') w fun t21 =>
  w = w ∧ quietT (fun K' => guardT (isB t21 true) (fun K' => K' t13 w) w K') w fun t23 =>
  quietT (fun K' => guardT (isB t21 true) (fun K' => biT P .len #[T.sl_api_Member] T.int [false] [t23] w K') w K') w fun t24 =>
  quietT (fun K' => guardT (isB t21 true) (fun K' => binT P .eql T.int (.tmp 24) (.const (.int .i64 1)) t24 (.int .i64 1) w K') w K') w fun t25 =>
  quietT (fun K' => pickT t21 t25 (.bool false) w K') w fun t26 =>
  w = w ∧ quietT (fun K' => guardT (isB t26 true) (fun K' => K' t13 w) w K') w fun t28 =>
  quietT (fun K' => guardT (isB t26 true) (fun K' => iaT P T.sl_api_Member t28 (.int .i64 0) w K') w K') w fun t29 =>
  quietT (fun K' => guardT (isB t26 true) (fun K' => ldT P T.api_Member t29 w K') w K') w fun t30 =>
  quietT (fun K' => guardT (isB t26 true) (fun K' => ldT P T.api_Member t2 w K') w K') w fun t31 =>
  quietT (fun K' => guardT (isB t26 true) (fun K' => binT P .eql T.api_Member (.tmp 30) (.tmp 31) t30 t31 w K') w K') w fun t32 =>
  quietT (fun K' => pickT t26 t32 (.bool false) w K') w fun t33 =>
  w = w ∧ quietT (fun K' => guardT (isB t33 true) (fun K' => K' t13 w) w K') w fun t35 =>
  quietT (fun K' => guardT (isB t33 true) (fun K' => ldT P T.api_Member t2 w K') w K') w fun t36 =>
  guardT (isB t33 true) (fun K' => bsT P T.sl_api_Member 1 #[(0, t36)] w K') w fun t37 w =>
  stabT (fun K' => guardT (isB t33 true) (fun K' => K' t13 w) w K') w t35 ∧ guardT (isB t33 true) (fun K' => fcallT P F.view_Same [t35, t37] w K') w fun t38 w =>
  quietT (fun K' => pickT t33 t38 (.bool false) w K') w fun t39 =>
  K t39 w
def M.winnowlaw09_alive.L : List Nat := [0, 3, 4]
def M.winnowlaw09_alive.pl : Nat → Plan := fun id => cond (Nat.beq id 3) ⟨(.go 0 (.go 1 (.eff 2 (.go 3 (.go 4 (.go 5 (.go 6 (.go 7 (.go 8 (.go 9 (.go 10 (.go 11 (.go 12 (.go 13 (.go 14 (.go 15 (.go 16 (.go 17 (.go 18 (.go 19 (.go 20 (.go 21 (.eff 22 (.eff 23 (.go 24 (.eff 25 .nil .stop)) .stop) .stop)))))))))))))))))))) .stop))), [2, 22, 23, 25], false⟩ (⟨.nil, [], false⟩)
theorem M.winnowlaw09_alive.eq (w : World) (K : KV) : M.winnowlaw09_alive  w K = den P M.winnowlaw09_alive.L M.winnowlaw09_alive.pl (Try.f10.body.getD .skip) (argE []) w (bodyQ P Try.f10.results.toList K) := by kernel_rfl
theorem M.winnowlaw09_alive.ok : okFn M.winnowlaw09_alive.L M.winnowlaw09_alive.pl Try.f10 (Try.f10.body.getD .skip) 0 = true := by kernel_rfl
theorem M.winnowlaw09_alive.calls {w : World} {K : KV} (h : M.winnowlaw09_alive  w K) : callT P F.winnowlaw09_alive [] w K :=
  callT_of_den (by kernel_rfl) Try.func10 (by kernel_rfl) M.winnowlaw09_alive.ok (M.winnowlaw09_alive.eq  w K ▸ h)
theorem M.winnowlaw09_alive.fcall (args : List Value) (w : World) (K : KV) : fcallT P F.winnowlaw09_alive args w K = callT P F.winnowlaw09_alive args w K := fcallT_eq Try.func10 (by kernel_rfl) (by kernel_rfl) args w K
theorem M.winnowlaw09_alive.rcall (a c args : List Value) (w : World) (K : KV) : callRT P (.func (.func F.winnowlaw09_alive) a.toArray c.toArray) args w K = callT P F.winnowlaw09_alive (a ++ args ++ c) w K := callR_fn Try.func10 (by kernel_rfl) (by kernel_rfl) a c args w K

/-- winnow/view.Find -/
def M.view_Find (a0 a1 : Value) (w : World) (K : KV) : Prop :=
  boxT P T.uint64 a1 w fun t3 w =>
  alT P T.api_Member w fun t4 w =>
  mkfT P (.func F.view_Find_1) [] [t3] w fun t8 w =>
  fcallT P F.slices_IndexFunc_api_Member_api_Member [a0, t8] w fun t9 w =>
  joinT (fun K0 =>
  binT P .lss T.int (.tmp 10) (.const (.int .i64 0)) t9 (.int .i64 0) w fun t11 w =>
  condT t11 (
  bldT P T.api_Member #[] w fun t12 w =>
  stT P T.api_Member t4 t12 w fun _ w =>
  quietT (fun K' => resT P T.api_Member t4 w K') w fun r0 =>
  K (.tuple #[r0, (.bool false)]) w) (
  K0 [(.bool false)] w)) fun x0 w =>
  iaT P T.sl_api_Member a0 t9 w fun t15 w =>
  ldT P T.api_Member t15 w fun t16 w =>
  stT P T.api_Member t4 t16 w fun _ w =>
  quietT (fun K' => resT P T.api_Member t4 w K') w fun r0 =>
  K (.tuple #[r0, (.bool true)]) w
def M.view_Find.L : List Nat := [0, 1, 4, 5, 6]
def M.view_Find.pl : Nat → Plan := fun id => ⟨.nil, [], false⟩
theorem M.view_Find.eq (a0 a1 : Value) (w : World) (K : KV) : M.view_Find a0 a1 w K = den P M.view_Find.L M.view_Find.pl (Try.f11.body.getD .skip) (argE [a0, a1]) w (bodyQ P Try.f11.results.toList K) := by kernel_rfl
theorem M.view_Find.ok : okFn M.view_Find.L M.view_Find.pl Try.f11 (Try.f11.body.getD .skip) 2 = true := by kernel_rfl
theorem M.view_Find.calls (a0 a1 : Value) {w : World} {K : KV} (h : M.view_Find a0 a1 w K) : callT P F.view_Find [a0, a1] w K :=
  callT_of_den (by kernel_rfl) Try.func11 (by kernel_rfl) M.view_Find.ok (M.view_Find.eq a0 a1 w K ▸ h)
theorem M.view_Find.fcall (args : List Value) (w : World) (K : KV) : fcallT P F.view_Find args w K = callT P F.view_Find args w K := fcallT_eq Try.func11 (by kernel_rfl) (by kernel_rfl) args w K
theorem M.view_Find.rcall (a c args : List Value) (w : World) (K : KV) : callRT P (.func (.func F.view_Find) a.toArray c.toArray) args w K = callT P F.view_Find (a ++ args ++ c) w K := callR_fn Try.func11 (by kernel_rfl) (by kernel_rfl) a c args w K

def M.winnowref09_Find.j2 (a0 : Value) (x1 : List Value) (a1 : Value) (t4 : Value) (K1 : KL) (w : World) (K : KV) : Prop :=
  joinT (fun K3 =>
  iaT P T.sl_api_Member a0 (gv x1 1) w fun t15 w =>
  faT P T.api_Member t15 0 w fun t16 w =>
  ldT P T.uint64 t16 w fun t17 w =>
  binT P .eql T.uint64 (.tmp 17) (.tmp 18) t17 a1 w fun t19 w =>
  condT t19 (
  iaT P T.sl_api_Member a0 (gv x1 1) w fun t22 w =>
  ldT P T.api_Member t22 w fun t23 w =>
  stT P T.api_Member t4 t23 w fun _ w =>
  quietT (fun K' => resT P T.api_Member t4 w K') w fun r0 =>
  K (.tuple #[r0, (.bool true)]) w) (
  K3 [(gv x1 0)] w)) fun x3 w =>
  binT P .add T.int (.tmp 11) (.const (.int .i64 1)) (gv x1 1) (.int .i64 1) w fun t12 w =>
  K1 [(gv x3 0), t12] w
/-- winnow/winnowref09.Find -/
def M.winnowref09_Find (a0 a1 : Value) (w : World) (K : KV) : Prop :=
  alT P T.api_Member w fun t4 w =>
  joinT (fun K0 =>
  loopT [(.bool false), (.int .i64 0)] w fun K1 x1 w =>
  joinT (fun K2 =>
  biT P .len #[T.sl_api_Member] T.int [false] [a0] w fun t9 w =>
  binT P .lss T.int (.tmp 7) (.tmp 9) (gv x1 1) t9 w fun t10 w =>
  condT t10 (
  K2 [] w) (
  K0 [(gv x1 1), (gv x1 0)] w)) fun x2 w =>
  M.winnowref09_Find.j2 a0 x1 a1 t4 K1 w K) fun x0 w =>
  bldT P T.api_Member #[] w fun t24 w =>
  stT P T.api_Member t4 t24 w fun _ w =>
  quietT (fun K' => resT P T.api_Member t4 w K') w fun r0 =>
  K (.tuple #[r0, (.bool false)]) w
def M.winnowref09_Find.L : List Nat := [0, 1, 4, 5, 6]
def M.winnowref09_Find.pl : Nat → Plan := fun id => ⟨.nil, [], false⟩
theorem M.winnowref09_Find.eq (a0 a1 : Value) (w : World) (K : KV) : M.winnowref09_Find a0 a1 w K = den P M.winnowref09_Find.L M.winnowref09_Find.pl (Try.f12.body.getD .skip) (argE [a0, a1]) w (bodyQ P Try.f12.results.toList K) := by kernel_rfl
theorem M.winnowref09_Find.ok : okFn M.winnowref09_Find.L M.winnowref09_Find.pl Try.f12 (Try.f12.body.getD .skip) 2 = true := by kernel_rfl
theorem M.winnowref09_Find.calls (a0 a1 : Value) {w : World} {K : KV} (h : M.winnowref09_Find a0 a1 w K) : callT P F.winnowref09_Find [a0, a1] w K :=
  callT_of_den (by kernel_rfl) Try.func12 (by kernel_rfl) M.winnowref09_Find.ok (M.winnowref09_Find.eq a0 a1 w K ▸ h)
theorem M.winnowref09_Find.fcall (args : List Value) (w : World) (K : KV) : fcallT P F.winnowref09_Find args w K = callT P F.winnowref09_Find args w K := fcallT_eq Try.func12 (by kernel_rfl) (by kernel_rfl) args w K
theorem M.winnowref09_Find.rcall (a c args : List Value) (w : World) (K : KV) : callRT P (.func (.func F.winnowref09_Find) a.toArray c.toArray) args w K = callT P F.winnowref09_Find (a ++ args ++ c) w K := callR_fn Try.func12 (by kernel_rfl) (by kernel_rfl) a c args w K

/-- winnow/view.Right -/
def M.view_Right (a0 : Value) (w : World) (K : KV) : Prop :=
  joinT (fun K0 =>
  biT P .len #[T.sl_api_Member] T.int [false] [a0] w fun t4 w =>
  binT P .eql T.int (.tmp 4) (.const (.int .i64 0)) t4 (.int .i64 0) w fun t5 w =>
  condT t5 (
  K (.int .i64 0) w) (
  K0 [(.int .i64 0)] w)) fun x0 w =>
  bldT P T.api_Packet #[(0, (.int .i64 3)), (7, a0)] w fun t7 w =>
  fcallT P F.message_Right [t7] w fun t8 w =>
  K t8 w
def M.view_Right.L : List Nat := [0, 2]
def M.view_Right.pl : Nat → Plan := fun id => ⟨.nil, [], false⟩
theorem M.view_Right.eq (a0 : Value) (w : World) (K : KV) : M.view_Right a0 w K = den P M.view_Right.L M.view_Right.pl (Try.f13.body.getD .skip) (argE [a0]) w (bodyQ P Try.f13.results.toList K) := by kernel_rfl
theorem M.view_Right.ok : okFn M.view_Right.L M.view_Right.pl Try.f13 (Try.f13.body.getD .skip) 1 = true := by kernel_rfl
theorem M.view_Right.calls (a0 : Value) {w : World} {K : KV} (h : M.view_Right a0 w K) : callT P F.view_Right [a0] w K :=
  callT_of_den (by kernel_rfl) Try.func13 (by kernel_rfl) M.view_Right.ok (M.view_Right.eq a0 w K ▸ h)
theorem M.view_Right.fcall (args : List Value) (w : World) (K : KV) : fcallT P F.view_Right args w K = callT P F.view_Right args w K := fcallT_eq Try.func13 (by kernel_rfl) (by kernel_rfl) args w K
theorem M.view_Right.rcall (a c args : List Value) (w : World) (K : KV) : callRT P (.func (.func F.view_Right) a.toArray c.toArray) args w K = callT P F.view_Right (a ++ args ++ c) w K := callR_fn Try.func13 (by kernel_rfl) (by kernel_rfl) a c args w K

/-- winnow/winnowref09.Right -/
def M.winnowref09_Right (a0 : Value) (w : World) (K : KV) : Prop :=
  joinT (fun K0 =>
  biT P .len #[T.sl_api_Member] T.int [false] [a0] w fun t4 w =>
  binT P .gtr T.int (.tmp 4) (.const (.int .i64 0)) t4 (.int .i64 0) w fun t5 w =>
  guardT (isB t5 true) (fun K' => K' a0 w) w fun t7 w =>
  guardT (isB t5 true) (fun K' => fcallT P F.winnowref05_Members [t7] w K') w fun t8 w =>
  guardT (isB t5 true) (fun K' => unT P .not t8 w K') w fun t9 w =>
  pickT t5 t9 (.bool false) w fun t10 w =>
  condT t10 (
  K (.int .i64 6) w) (
  K0 [(.int .i64 0)] w)) fun x0 w =>
  K (.int .i64 0) w
def M.winnowref09_Right.L : List Nat := [0, 2]
def M.winnowref09_Right.pl : Nat → Plan := fun id => ⟨.nil, [], false⟩
theorem M.winnowref09_Right.eq (a0 : Value) (w : World) (K : KV) : M.winnowref09_Right a0 w K = den P M.winnowref09_Right.L M.winnowref09_Right.pl (Try.f14.body.getD .skip) (argE [a0]) w (bodyQ P Try.f14.results.toList K) := by kernel_rfl
theorem M.winnowref09_Right.ok : okFn M.winnowref09_Right.L M.winnowref09_Right.pl Try.f14 (Try.f14.body.getD .skip) 1 = true := by kernel_rfl
theorem M.winnowref09_Right.calls (a0 : Value) {w : World} {K : KV} (h : M.winnowref09_Right a0 w K) : callT P F.winnowref09_Right [a0] w K :=
  callT_of_den (by kernel_rfl) Try.func14 (by kernel_rfl) M.winnowref09_Right.ok (M.winnowref09_Right.eq a0 w K ▸ h)
theorem M.winnowref09_Right.fcall (args : List Value) (w : World) (K : KV) : fcallT P F.winnowref09_Right args w K = callT P F.winnowref09_Right args w K := fcallT_eq Try.func14 (by kernel_rfl) (by kernel_rfl) args w K
theorem M.winnowref09_Right.rcall (a c args : List Value) (w : World) (K : KV) : callRT P (.func (.func F.winnowref09_Right) a.toArray c.toArray) args w K = callT P F.winnowref09_Right (a ++ args ++ c) w K := callR_fn Try.func14 (by kernel_rfl) (by kernel_rfl) a c args w K

/-- winnow/winnowref09.Newer -/
def M.winnowref09_Newer (a0 a1 : Value) (w : World) (K : KV) : Prop :=
  boxT P T.api_Member a0 w fun t2 w =>
  boxT P T.api_Member a1 w fun t3 w =>
  faT P T.api_Member t2 1 w fun t5 w =>
  ldT P T.uint64 t5 w fun t6 w =>
  faT P T.api_Member t3 1 w fun t7 w =>
  ldT P T.uint64 t7 w fun t8 w =>
  binT P .gtr T.uint64 (.tmp 6) (.tmp 8) t6 t8 w fun t9 w =>
  guardT (isB t9 false) (fun K' => faT P T.api_Member t2 1 w K') w fun t11 w =>
  guardT (isB t9 false) (fun K' => ldT P T.uint64 t11 w K') w fun t12 w =>
  guardT (isB t9 false) (fun K' => faT P T.api_Member t3 1 w K') w fun t13 w =>
  guardT (isB t9 false) (fun K' => ldT P T.uint64 t13 w K') w fun t14 w =>
  guardT (isB t9 false) (fun K' => binT P .eql T.uint64 (.tmp 12) (.tmp 14) t12 t14 w K') w fun t15 w =>
  guardT (isB t9 false) (fun K' => K' t15 w) w fun t16 w =>
  guardT (isB t16 true) (fun K' => faT P T.api_Member t2 2 w K') w fun t17 w =>
  guardT (isB t16 true) (fun K' => ldT P T.int t17 w K') w fun t18 w =>
  guardT (isB t16 true) (fun K' => faT P T.api_Member t3 2 w K') w fun t19 w =>
  guardT (isB t16 true) (fun K' => ldT P T.int t19 w K') w fun t20 w =>
  guardT (isB t16 true) (fun K' => binT P .gtr T.int (.tmp 18) (.tmp 20) t18 t20 w K') w fun t21 w =>
  guardT (isB t9 false) (fun K' => pickT t16 t21 (.bool false) w K') w fun t22 w =>
  pickT t9 (.bool true) t22 w fun t23 w =>
  K t23 w
def M.winnowref09_Newer.L : List Nat := [0, 1, 4]
def M.winnowref09_Newer.pl : Nat → Plan := fun id => ⟨.nil, [], false⟩
theorem M.winnowref09_Newer.eq (a0 a1 : Value) (w : World) (K : KV) : M.winnowref09_Newer a0 a1 w K = den P M.winnowref09_Newer.L M.winnowref09_Newer.pl (Try.f15.body.getD .skip) (argE [a0, a1]) w (bodyQ P Try.f15.results.toList K) := by kernel_rfl
theorem M.winnowref09_Newer.ok : okFn M.winnowref09_Newer.L M.winnowref09_Newer.pl Try.f15 (Try.f15.body.getD .skip) 2 = true := by kernel_rfl
theorem M.winnowref09_Newer.calls (a0 a1 : Value) {w : World} {K : KV} (h : M.winnowref09_Newer a0 a1 w K) : callT P F.winnowref09_Newer [a0, a1] w K :=
  callT_of_den (by kernel_rfl) Try.func15 (by kernel_rfl) M.winnowref09_Newer.ok (M.winnowref09_Newer.eq a0 a1 w K ▸ h)
theorem M.winnowref09_Newer.fcall (args : List Value) (w : World) (K : KV) : fcallT P F.winnowref09_Newer args w K = callT P F.winnowref09_Newer args w K := fcallT_eq Try.func15 (by kernel_rfl) (by kernel_rfl) args w K
theorem M.winnowref09_Newer.rcall (a c args : List Value) (w : World) (K : KV) : callRT P (.func (.func F.winnowref09_Newer) a.toArray c.toArray) args w K = callT P F.winnowref09_Newer (a ++ args ++ c) w K := callR_fn Try.func15 (by kernel_rfl) (by kernel_rfl) a c args w K

/-- winnow/view.Same -/
def M.view_Same (a0 a1 : Value) (w : World) (K : KV) : Prop :=
  fcallT P F.slices_Equal_api_Member_api_Member [a0, a1] w fun t7 w =>
  K t7 w
def M.view_Same.L : List Nat := [0, 1, 4]
def M.view_Same.pl : Nat → Plan := fun id => ⟨.nil, [], false⟩
theorem M.view_Same.eq (a0 a1 : Value) (w : World) (K : KV) : M.view_Same a0 a1 w K = den P M.view_Same.L M.view_Same.pl (Try.f16.body.getD .skip) (argE [a0, a1]) w (bodyQ P Try.f16.results.toList K) := by kernel_rfl
theorem M.view_Same.ok : okFn M.view_Same.L M.view_Same.pl Try.f16 (Try.f16.body.getD .skip) 2 = true := by kernel_rfl
theorem M.view_Same.calls (a0 a1 : Value) {w : World} {K : KV} (h : M.view_Same a0 a1 w K) : callT P F.view_Same [a0, a1] w K :=
  callT_of_den (by kernel_rfl) Try.func16 (by kernel_rfl) M.view_Same.ok (M.view_Same.eq a0 a1 w K ▸ h)
theorem M.view_Same.fcall (args : List Value) (w : World) (K : KV) : fcallT P F.view_Same args w K = callT P F.view_Same args w K := fcallT_eq Try.func16 (by kernel_rfl) (by kernel_rfl) args w K
theorem M.view_Same.rcall (a c args : List Value) (w : World) (K : KV) : callRT P (.func (.func F.view_Same) a.toArray c.toArray) args w K = callT P F.view_Same (a ++ args ++ c) w K := callR_fn Try.func16 (by kernel_rfl) (by kernel_rfl) a c args w K

def M.winnowref09_Same.j3 (a0 : Value) (x2 : List Value) (a1 : Value) (K2 : KL) (w : World) (K : KV) : Prop :=
  joinT (fun K4 =>
  drawT w fun w =>
  w = w ∧ w = w ∧ quietT (fun K' => iaT P T.sl_api_Member a0 (gv x2 1) w K') w fun t19 =>
  quietT (fun K' => ldT P T.api_Member t19 w K') w fun t20 =>
  w = w ∧ w = w ∧ quietT (fun K' => iaT P T.sl_api_Member a1 (gv x2 1) w K') w fun t23 =>
  quietT (fun K' => ldT P T.api_Member t23 w K') w fun t24 =>
  quietT (fun K' => binT P .neq T.api_Member (.tmp 20) (.tmp 24) t20 t24 w K') w fun t25 =>
  condT t25 (
  K (.bool false) w) (
  K4 [(gv x2 0)] w)) fun x4 w =>
  binT P .add T.int (.tmp 15) (.const (.int .i64 1)) (gv x2 1) (.int .i64 1) w fun t16 w =>
  K2 [(gv x4 0), t16] w
def M.winnowref09_Same.j2 (a0 : Value) (x2 : List Value) (K1 : KL) (a1 : Value) (K2 : KL) (w : World) (K : KV) : Prop :=
  joinT (fun K3 =>
  biT P .len #[T.sl_api_Member] T.int [false] [a0] w fun t13 w =>
  binT P .lss T.int (.tmp 11) (.tmp 13) (gv x2 1) t13 w fun t14 w =>
  condT t14 (
  K3 [] w) (
  K1 [(gv x2 1), (gv x2 0)] w)) fun x3 w =>
  M.winnowref09_Same.j3 a0 x2 a1 K2 w K
/-- winnow/winnowref09.Same -/
def M.winnowref09_Same (a0 a1 : Value) (w : World) (K : KV) : Prop :=
  joinT (fun K0 =>
  biT P .len #[T.sl_api_Member] T.int [false] [a0] w fun t7 w =>
  biT P .len #[T.sl_api_Member] T.int [false] [a1] w fun t9 w =>
  binT P .neq T.int (.tmp 7) (.tmp 9) t7 t9 w fun t10 w =>
  condT t10 (
  K (.bool false) w) (
  K0 [(.bool false)] w)) fun x0 w =>
  joinT (fun K1 =>
  loopT [(gv x0 0), (.int .i64 0)] w fun K2 x2 w =>
  M.winnowref09_Same.j2 a0 x2 K1 a1 K2 w K) fun x1 w =>
  K (.bool true) w
def M.winnowref09_Same.L : List Nat := [0, 1, 4, 5]
def M.winnowref09_Same.pl : Nat → Plan := fun id => cond (Nat.beq id 6) ⟨(.go 0 (.go 1 (.go 2 (.go 3 (.go 4 (.go 5 (.go 6 (.go 7 (.go 8 .nil))))))))), [], false⟩ (⟨.nil, [], false⟩)
theorem M.winnowref09_Same.eq (a0 a1 : Value) (w : World) (K : KV) : M.winnowref09_Same a0 a1 w K = den P M.winnowref09_Same.L M.winnowref09_Same.pl (Try.f17.body.getD .skip) (argE [a0, a1]) w (bodyQ P Try.f17.results.toList K) := by kernel_rfl
theorem M.winnowref09_Same.ok : okFn M.winnowref09_Same.L M.winnowref09_Same.pl Try.f17 (Try.f17.body.getD .skip) 2 = true := by kernel_rfl
theorem M.winnowref09_Same.calls (a0 a1 : Value) {w : World} {K : KV} (h : M.winnowref09_Same a0 a1 w K) : callT P F.winnowref09_Same [a0, a1] w K :=
  callT_of_den (by kernel_rfl) Try.func17 (by kernel_rfl) M.winnowref09_Same.ok (M.winnowref09_Same.eq a0 a1 w K ▸ h)
theorem M.winnowref09_Same.fcall (args : List Value) (w : World) (K : KV) : fcallT P F.winnowref09_Same args w K = callT P F.winnowref09_Same args w K := fcallT_eq Try.func17 (by kernel_rfl) (by kernel_rfl) args w K
theorem M.winnowref09_Same.rcall (a c args : List Value) (w : World) (K : KV) : callRT P (.func (.func F.winnowref09_Same) a.toArray c.toArray) args w K = callT P F.winnowref09_Same (a ++ args ++ c) w K := callR_fn Try.func17 (by kernel_rfl) (by kernel_rfl) a c args w K

def M.view_Merge.j3 (t27 : Value) (x2 : List Value) (t23 : Value) (K2 : KL) (w : World) (K : KV) : Prop :=
  joinT (fun K4 =>
  iaT P T.sl_api_Member t27 (gv x2 1) w fun t31 w =>
  ldT P T.api_Member t31 w fun t32 w =>
  alT P T.api_Member w fun t9 w =>
  stT P T.api_Member t9 t32 w fun _ w =>
  faT P T.api_Member t9 0 w fun t35 w =>
  ldT P T.uint64 t35 w fun t36 w =>
  luT P T.map_uint64_api_Member t23 t36 true w fun t37 w =>
  exT P t37 0 w fun t38 w =>
  exT P t37 1 w fun t39 w =>
  alT P T.api_Member w fun t10 w =>
  stT P T.api_Member t10 t38 w fun _ w =>
  unT P .not t39 w fun t41 w =>
  guardT (isB t41 false) (fun K' => ldT P T.api_Member t9 w K') w fun t43 w =>
  guardT (isB t41 false) (fun K' => ldT P T.api_Member t10 w K') w fun t44 w =>
  guardT (isB t41 false) (fun K' => fcallT P F.view_Newer [t43, t44] w K') w fun t45 w =>
  pickT t41 (.bool true) t45 w fun t46 w =>
  condT t46 (
  faT P T.api_Member t9 0 w fun t48 w =>
  ldT P T.uint64 t48 w fun t49 w =>
  ldT P T.api_Member t9 w fun t50 w =>
  muT P T.map_uint64_api_Member t23 t49 t50 w fun _ w =>
  K4 [t39] w) (
  K4 [t39] w)) fun x4 w =>
  binT P .add T.int (.tmp 29) (.const (.int .i64 1)) (gv x2 1) (.int .i64 1) w fun t51 w =>
  K2 [(gv x4 0), t51] w
def M.view_Merge.j8 (t57 : Value) (x7 : List Value) (t23 : Value) (K7 : KL) (w : World) (K : KV) : Prop :=
  joinT (fun K9 =>
  iaT P T.sl_uint64 t57 (gv x7 2) w fun t61 w =>
  ldT P T.uint64 t61 w fun t62 w =>
  luT P T.map_uint64_api_Member t23 t62 false w fun t66 w =>
  bsT P T.sl_api_Member 1 #[(0, t66)] w fun t67 w =>
  biT P .append #[T.sl_api_Member, T.sl_api_Member] T.sl_api_Member [false, false] [(gv x7 1), t67] w fun t68 w =>
  K9 [t62, t68] w) fun x9 w =>
  binT P .add T.int (.tmp 59) (.const (.int .i64 1)) (gv x7 2) (.int .i64 1) w fun t69 w =>
  K7 [(gv x9 0), (gv x9 1), t69] w
def M.view_Merge.j5 (t23 : Value) (x5 : List Value) (w : World) (K : KV) : Prop :=
  joinT (fun K6 =>
  fcallT P F.maps_Keys_map_uint64_api_Member_uint64_api_Member [t23] w fun t56 w =>
  fcallT P F.slices_Sorted_uint64 [t56] w fun t57 w =>
  biT P .len #[T.sl_uint64] T.int [false] [t57] w fun t58 w =>
  loopT [undef, (gv x5 0), (.int .i64 0)] w fun K7 x7 w =>
  binT P .lss T.int (.tmp 59) (.tmp 58) (gv x7 2) t58 w fun t60 w =>
  joinT (fun K8 =>
  condT t60 (
  K8 [] w) (
  K6 [t57, t58, (gv x7 2), (gv x7 0), (gv x7 1)] w)) fun x8 w =>
  M.view_Merge.j8 t57 x7 t23 K7 w K) fun x6 w =>
  K (.tuple #[(gv x6 4), (.int .i64 0)]) w
def M.view_Merge.j1 (t23 : Value) (x0 : List Value) (w : World) (K : KV) : Prop :=
  joinT (fun K5 =>
  biT P .len #[T.map_uint64_api_Member] T.int [false] [t23] w fun t53 w =>
  binT P .gtr T.int (.tmp 53) (.const (.int .i64 16)) t53 (.int .i64 16) w fun t54 w =>
  condT t54 (
  K (.tuple #[(.slice none 0 0), (.int .i64 4)]) w) (
  K5 [(gv x0 1), (gv x0 2)] w)) fun x5 w =>
  M.view_Merge.j5 t23 x5 w K
def M.view_Merge.j0 (a0 : Value) (a1 : Value) (x0 : List Value) (w : World) (K : KV) : Prop :=
  mkmT P T.map_uint64_api_Member none w fun t23 w =>
  joinT (fun K1 =>
  bsT P T.sl_sl_api_Member 2 #[(0, a0), (1, a1)] w fun t26 w =>
  fcallT P F.slices_Concat_api_Member_api_Member [t26] w fun t27 w =>
  biT P .len #[T.sl_api_Member] T.int [false] [t27] w fun t28 w =>
  loopT [undef, (.int .i64 0)] w fun K2 x2 w =>
  binT P .lss T.int (.tmp 29) (.tmp 28) (gv x2 1) t28 w fun t30 w =>
  joinT (fun K3 =>
  condT t30 (
  K3 [] w) (
  K1 [t27, t28, (gv x2 1), (gv x2 0)] w)) fun x3 w =>
  M.view_Merge.j3 t27 x2 t23 K2 w K) fun x1 w =>
  M.view_Merge.j1 t23 x0 w K
/-- winnow/view.Merge -/
def M.view_Merge (a0 a1 : Value) (w : World) (K : KV) : Prop :=
  joinT (fun K0 =>
  fcallT P F.view_Right [a0] w fun t15 w =>
  fcallT P F.view_Right [a1] w fun t17 w =>
  bsT P T.sl_api_Kind 2 #[(0, t15), (1, t17)] w fun t18 w =>
  fcallT P F.cmp_Or_api_Kind [t18] w fun t19 w =>
  binT P .neq T.api_Kind (.tmp 20) (.const (.int .i64 0)) t19 (.int .i64 0) w fun t21 w =>
  condT t21 (
  K (.tuple #[(.slice none 0 0), t19]) w) (
  K0 [t19, (.slice none 0 0), (.int .i64 0)] w)) fun x0 w =>
  M.view_Merge.j0 a0 a1 x0 w K
def M.view_Merge.L : List Nat := [0, 1, 4, 5, 6, 7, 11, 13, 29, 28, 27, 59, 58, 57]
def M.view_Merge.pl : Nat → Plan := fun id => ⟨.nil, [], false⟩
theorem M.view_Merge.eq (a0 a1 : Value) (w : World) (K : KV) : M.view_Merge a0 a1 w K = den P M.view_Merge.L M.view_Merge.pl (Try.f18.body.getD .skip) (argE [a0, a1]) w (bodyQ P Try.f18.results.toList K) := by kernel_rfl
theorem M.view_Merge.ok : okFn M.view_Merge.L M.view_Merge.pl Try.f18 (Try.f18.body.getD .skip) 2 = true := by kernel_rfl
theorem M.view_Merge.calls (a0 a1 : Value) {w : World} {K : KV} (h : M.view_Merge a0 a1 w K) : callT P F.view_Merge [a0, a1] w K :=
  callT_of_den (by kernel_rfl) Try.func18 (by kernel_rfl) M.view_Merge.ok (M.view_Merge.eq a0 a1 w K ▸ h)
theorem M.view_Merge.fcall (args : List Value) (w : World) (K : KV) : fcallT P F.view_Merge args w K = callT P F.view_Merge args w K := fcallT_eq Try.func18 (by kernel_rfl) (by kernel_rfl) args w K
theorem M.view_Merge.rcall (a c args : List Value) (w : World) (K : KV) : callRT P (.func (.func F.view_Merge) a.toArray c.toArray) args w K = callT P F.view_Merge (a ++ args ++ c) w K := callR_fn Try.func18 (by kernel_rfl) (by kernel_rfl) a c args w K

def M.view_Version.j3 (a0 : Value) (x2 : List Value) (K2 : KL) (w : World) (K : KV) : Prop :=
  joinT (fun K4 =>
  iaT P T.sl_api_Member a0 (gv x2 8) w fun t24 w =>
  ldT P T.api_Member t24 w fun t25 w =>
  alT P T.api_Member w fun t8 w =>
  stT P T.api_Member t8 t25 w fun _ w =>
  faT P T.api_Member t8 1 w fun t27 w =>
  ldT P T.uint64 t27 w fun t28 w =>
  binT P .sub T.uint64 (.tmp 28) (.const (.int .u64 1)) t28 (.int .u64 1) w fun t29 w =>
  fcallT P F.math_bits_Mul64 [t29, (.int .u64 3)] w fun t30 w =>
  exT P t30 0 w fun t31 w =>
  exT P t30 1 w fun t32 w =>
  faT P T.api_Member t8 2 w fun t35 w =>
  ldT P T.int t35 w fun t36 w =>
  cvT P T.int T.uint64 t36 w fun t37 w =>
  binT P .add T.uint64 (.tmp 37) (.const (.int .u64 1)) t37 (.int .u64 1) w fun t38 w =>
  fcallT P F.math_bits_Add64 [t32, t38, (.int .u64 0)] w fun t39 w =>
  exT P t39 0 w fun t40 w =>
  exT P t39 1 w fun t41 w =>
  fcallT P F.math_bits_Add64 [(gv x2 6), t40, (.int .u64 0)] w fun t45 w =>
  exT P t45 0 w fun t46 w =>
  exT P t45 1 w fun t47 w =>
  binT P .add T.uint64 (.tmp 49) (.tmp 50) (gv x2 7) t31 w fun t51 w =>
  binT P .add T.uint64 (.tmp 51) (.tmp 52) t51 t41 w fun t53 w =>
  binT P .add T.uint64 (.tmp 53) (.tmp 54) t53 t47 w fun t55 w =>
  K4 [t31, t32, t40, t41, t46, t47, t46, t55] w) fun x4 w =>
  binT P .add T.int (.tmp 22) (.const (.int .i64 1)) (gv x2 8) (.int .i64 1) w fun t56 w =>
  K2 [(gv x4 0), (gv x4 1), (gv x4 2), (gv x4 3), (gv x4 4), (gv x4 5), (gv x4 6), (gv x4 7), t56] w
def M.view_Version.j2 (x2 : List Value) (t21 : Value) (K1 : KL) (a0 : Value) (K2 : KL) (w : World) (K : KV) : Prop :=
  binT P .lss T.int (.tmp 22) (.tmp 21) (gv x2 8) t21 w fun t23 w =>
  joinT (fun K3 =>
  condT t23 (
  K3 [] w) (
  K1 [a0, t21, (gv x2 8), (gv x2 0), (gv x2 1), (gv x2 2), (gv x2 3), (gv x2 4), (gv x2 5), (gv x2 6), (gv x2 7)] w)) fun x3 w =>
  M.view_Version.j3 a0 x2 K2 w K
def M.view_Version.j1 (x1 : List Value) (x0 : List Value) (w : World) (K : KV) : Prop :=
  joinT (fun K5 =>
  binT P .gtr T.uint64 (.tmp 57) (.const (.int .u64 0)) (gv x1 10) (.int .u64 0) w fun t58 w =>
  condT t58 (
  K (.tuple #[(.int .u64 0), (.int .i64 12)]) w) (
  K5 [(gv x0 1), (gv x0 2)] w)) fun x5 w =>
  K (.tuple #[(gv x1 9), (.int .i64 0)]) w
def M.view_Version.j0 (a0 : Value) (x0 : List Value) (w : World) (K : KV) : Prop :=
  joinT (fun K1 =>
  biT P .len #[T.sl_api_Member] T.int [false] [a0] w fun t21 w =>
  loopT [undef, undef, undef, undef, undef, undef, (.int .u64 0), (.int .u64 0), (.int .i64 0)] w fun K2 x2 w =>
  M.view_Version.j2 x2 t21 K1 a0 K2 w K) fun x1 w =>
  M.view_Version.j1 x1 x0 w K
/-- winnow/view.Version -/
def M.view_Version (a0 : Value) (w : World) (K : KV) : Prop :=
  joinT (fun K0 =>
  fcallT P F.view_Right [a0] w fun t16 w =>
  binT P .neq T.api_Kind (.tmp 17) (.const (.int .i64 0)) t16 (.int .i64 0) w fun t18 w =>
  condT t18 (
  K (.tuple #[(.int .u64 0), t16]) w) (
  K0 [t16, (.int .u64 0), (.int .i64 0)] w)) fun x0 w =>
  M.view_Version.j0 a0 x0 w K
def M.view_Version.L : List Nat := [0, 2, 3, 4, 5, 6, 9, 10, 11, 12, 13, 14, 22, 21, 20]
def M.view_Version.pl : Nat → Plan := fun id => ⟨.nil, [], false⟩
theorem M.view_Version.eq (a0 : Value) (w : World) (K : KV) : M.view_Version a0 w K = den P M.view_Version.L M.view_Version.pl (Try.f19.body.getD .skip) (argE [a0]) w (bodyQ P Try.f19.results.toList K) := by kernel_rfl
theorem M.view_Version.ok : okFn M.view_Version.L M.view_Version.pl Try.f19 (Try.f19.body.getD .skip) 1 = true := by kernel_rfl
theorem M.view_Version.calls (a0 : Value) {w : World} {K : KV} (h : M.view_Version a0 w K) : callT P F.view_Version [a0] w K :=
  callT_of_den (by kernel_rfl) Try.func19 (by kernel_rfl) M.view_Version.ok (M.view_Version.eq a0 w K ▸ h)
theorem M.view_Version.fcall (args : List Value) (w : World) (K : KV) : fcallT P F.view_Version args w K = callT P F.view_Version args w K := fcallT_eq Try.func19 (by kernel_rfl) (by kernel_rfl) args w K
theorem M.view_Version.rcall (a c args : List Value) (w : World) (K : KV) : callRT P (.func (.func F.view_Version) a.toArray c.toArray) args w K = callT P F.view_Version (a ++ args ++ c) w K := callR_fn Try.func19 (by kernel_rfl) (by kernel_rfl) a c args w K

def M.winnowref09_Version.j5 (a0 : Value) (x2 : List Value) (x5 : List Value) (K4 : KL) (w : World) (K : KV) : Prop :=
  drawT w fun w =>
  w = w ∧ w = w ∧ quietT (fun K' => iaT P T.sl_api_Member a0 (gv x2 4) w K') w fun t25 =>
  quietT (fun K' => faT P T.api_Member t25 1 w K') w fun t26 =>
  quietT (fun K' => ldT P T.uint64 t26 w K') w fun t27 =>
  quietT (fun K' => binT P .sub T.uint64 (.tmp 27) (.const (.int .u64 1)) t27 (.int .u64 1) w K') w fun t28 =>
  quietT (fun K' => binT P .mul T.uint64 (.const (.int .u64 3)) (.tmp 28) (.int .u64 3) t28 w K') w fun t29 =>
  w = w ∧ w = w ∧ quietT (fun K' => iaT P T.sl_api_Member a0 (gv x2 4) w K') w fun t32 =>
  quietT (fun K' => faT P T.api_Member t32 2 w K') w fun t33 =>
  quietT (fun K' => ldT P T.int t33 w K') w fun t34 =>
  quietT (fun K' => cvT P T.int T.uint64 t34 w K') w fun t35 =>
  quietT (fun K' => binT P .add T.uint64 (.tmp 29) (.tmp 35) t29 t35 w K') w fun t36 =>
  quietT (fun K' => binT P .add T.uint64 (.tmp 36) (.const (.int .u64 1)) t36 (.int .u64 1) w K') w fun t37 =>
  joinT (fun K6 =>
  binT P .sub T.uint64 (.const (.int .u64 18446744073709551615)) (.tmp 39) (.int .u64 18446744073709551615) (gv x2 3) w fun t40 w =>
  binT P .gtr T.uint64 (.tmp 38) (.tmp 40) t37 t40 w fun t41 w =>
  condT t41 (
  K (.tuple #[(.int .u64 0), (.int .i64 12)]) w) (
  K6 [(gv x5 0), (gv x5 1)] w)) fun x6 w =>
  binT P .add T.uint64 (.tmp 42) (.tmp 43) (gv x2 3) t37 w fun t44 w =>
  K4 [(gv x6 0), (gv x6 1), t37, t44] w
def M.winnowref09_Version.j3 (a0 : Value) (x2 : List Value) (K2 : KL) (w : World) (K : KV) : Prop :=
  joinT (fun K4 =>
  joinT (fun K5 =>
  iaT P T.sl_api_Member a0 (gv x2 4) w fun t18 w =>
  faT P T.api_Member t18 1 w fun t19 w =>
  ldT P T.uint64 t19 w fun t20 w =>
  binT P .sub T.uint64 (.tmp 20) (.const (.int .u64 1)) t20 (.int .u64 1) w fun t21 w =>
  binT P .gtr T.uint64 (.tmp 21) (.const (.int .u64 6148914691236517204)) t21 (.int .u64 6148914691236517204) w fun t22 w =>
  condT t22 (
  K (.tuple #[(.int .u64 0), (.int .i64 12)]) w) (
  K5 [(gv x2 0), (gv x2 1)] w)) fun x5 w =>
  M.winnowref09_Version.j5 a0 x2 x5 K4 w K) fun x4 w =>
  binT P .add T.int (.tmp 14) (.const (.int .i64 1)) (gv x2 4) (.int .i64 1) w fun t15 w =>
  K2 [(gv x4 0), (gv x4 1), (gv x4 2), (gv x4 3), t15] w
def M.winnowref09_Version.j2 (a0 : Value) (x2 : List Value) (K1 : KL) (K2 : KL) (w : World) (K : KV) : Prop :=
  joinT (fun K3 =>
  biT P .len #[T.sl_api_Member] T.int [false] [a0] w fun t12 w =>
  binT P .lss T.int (.tmp 10) (.tmp 12) (gv x2 4) t12 w fun t13 w =>
  condT t13 (
  K3 [] w) (
  K1 [(gv x2 4), (gv x2 0), (gv x2 1), (gv x2 2), (gv x2 3)] w)) fun x3 w =>
  M.winnowref09_Version.j3 a0 x2 K2 w K
/-- winnow/winnowref09.Version -/
def M.winnowref09_Version (a0 : Value) (w : World) (K : KV) : Prop :=
  joinT (fun K0 =>
  fcallT P F.winnowref09_Right [a0] w fun t8 w =>
  binT P .neq T.api_Kind (.tmp 8) (.const (.int .i64 0)) t8 (.int .i64 0) w fun t9 w =>
  condT t9 (
  K (.tuple #[(.int .u64 0), (.int .i64 6)]) w) (
  K0 [(.int .u64 0), (.int .i64 0)] w)) fun x0 w =>
  joinT (fun K1 =>
  loopT [(gv x0 0), (gv x0 1), undef, (.int .u64 0), (.int .i64 0)] w fun K2 x2 w =>
  M.winnowref09_Version.j2 a0 x2 K1 K2 w K) fun x1 w =>
  K (.tuple #[(gv x1 4), (.int .i64 0)]) w
def M.winnowref09_Version.L : List Nat := [0, 2, 3, 4, 5, 6]
def M.winnowref09_Version.pl : Nat → Plan := fun id => cond (Nat.beq id 9) ⟨(.go 0 (.go 1 (.go 2 (.go 3 (.go 4 (.go 5 (.go 6 (.go 7 (.go 8 (.go 9 (.go 10 (.go 11 (.go 12 (.go 13 (.go 14 (.eff 15 .nil .stop)))))))))))))))), [15], false⟩ (⟨.nil, [], false⟩)
theorem M.winnowref09_Version.eq (a0 : Value) (w : World) (K : KV) : M.winnowref09_Version a0 w K = den P M.winnowref09_Version.L M.winnowref09_Version.pl (Try.f20.body.getD .skip) (argE [a0]) w (bodyQ P Try.f20.results.toList K) := by kernel_rfl
theorem M.winnowref09_Version.ok : okFn M.winnowref09_Version.L M.winnowref09_Version.pl Try.f20 (Try.f20.body.getD .skip) 1 = true := by kernel_rfl
theorem M.winnowref09_Version.calls (a0 : Value) {w : World} {K : KV} (h : M.winnowref09_Version a0 w K) : callT P F.winnowref09_Version [a0] w K :=
  callT_of_den (by kernel_rfl) Try.func20 (by kernel_rfl) M.winnowref09_Version.ok (M.winnowref09_Version.eq a0 w K ▸ h)
theorem M.winnowref09_Version.fcall (args : List Value) (w : World) (K : KV) : fcallT P F.winnowref09_Version args w K = callT P F.winnowref09_Version args w K := fcallT_eq Try.func20 (by kernel_rfl) (by kernel_rfl) args w K
theorem M.winnowref09_Version.rcall (a c args : List Value) (w : World) (K : KV) : callRT P (.func (.func F.winnowref09_Version) a.toArray c.toArray) args w K = callT P F.winnowref09_Version (a ++ args ++ c) w K := callR_fn Try.func20 (by kernel_rfl) (by kernel_rfl) a c args w K

def M.winnowlaw09_uints.j3 (a0 : Value) (x2 : List Value) (a1 : Value) (K2 : KL) (w : World) (K : KV) : Prop :=
  joinT (fun K4 =>
  drawT w fun w =>
  w = w ∧ w = w ∧ quietT (fun K' => iaT P T.sl_uint64 a0 (gv x2 1) w K') w fun t19 =>
  quietT (fun K' => ldT P T.uint64 t19 w K') w fun t20 =>
  w = w ∧ w = w ∧ quietT (fun K' => iaT P T.sl_uint64 a1 (gv x2 1) w K') w fun t23 =>
  quietT (fun K' => ldT P T.uint64 t23 w K') w fun t24 =>
  quietT (fun K' => binT P .neq T.uint64 (.tmp 20) (.tmp 24) t20 t24 w K') w fun t25 =>
  condT t25 (
  K (.bool false) w) (
  K4 [(gv x2 0)] w)) fun x4 w =>
  binT P .add T.int (.tmp 15) (.const (.int .i64 1)) (gv x2 1) (.int .i64 1) w fun t16 w =>
  K2 [(gv x4 0), t16] w
def M.winnowlaw09_uints.j0 (x0 : List Value) (a0 : Value) (a1 : Value) (w : World) (K : KV) : Prop :=
  joinT (fun K1 =>
  loopT [(gv x0 0), (.int .i64 0)] w fun K2 x2 w =>
  joinT (fun K3 =>
  biT P .len #[T.sl_uint64] T.int [false] [a0] w fun t13 w =>
  binT P .lss T.int (.tmp 11) (.tmp 13) (gv x2 1) t13 w fun t14 w =>
  condT t14 (
  K3 [] w) (
  K1 [(gv x2 1), (gv x2 0)] w)) fun x3 w =>
  M.winnowlaw09_uints.j3 a0 x2 a1 K2 w K) fun x1 w =>
  K (.bool true) w
/-- winnow/winnowlaw09.uints -/
def M.winnowlaw09_uints (a0 a1 : Value) (w : World) (K : KV) : Prop :=
  joinT (fun K0 =>
  biT P .len #[T.sl_uint64] T.int [false] [a0] w fun t7 w =>
  biT P .len #[T.sl_uint64] T.int [false] [a1] w fun t9 w =>
  binT P .neq T.int (.tmp 7) (.tmp 9) t7 t9 w fun t10 w =>
  condT t10 (
  K (.bool false) w) (
  K0 [(.bool false)] w)) fun x0 w =>
  M.winnowlaw09_uints.j0 x0 a0 a1 w K
def M.winnowlaw09_uints.L : List Nat := [0, 1, 4, 5]
def M.winnowlaw09_uints.pl : Nat → Plan := fun id => cond (Nat.beq id 6) ⟨(.go 0 (.go 1 (.go 2 (.go 3 (.go 4 (.go 5 (.go 6 (.go 7 (.go 8 .nil))))))))), [], false⟩ (⟨.nil, [], false⟩)
theorem M.winnowlaw09_uints.eq (a0 a1 : Value) (w : World) (K : KV) : M.winnowlaw09_uints a0 a1 w K = den P M.winnowlaw09_uints.L M.winnowlaw09_uints.pl (Try.f21.body.getD .skip) (argE [a0, a1]) w (bodyQ P Try.f21.results.toList K) := by kernel_rfl
theorem M.winnowlaw09_uints.ok : okFn M.winnowlaw09_uints.L M.winnowlaw09_uints.pl Try.f21 (Try.f21.body.getD .skip) 2 = true := by kernel_rfl
theorem M.winnowlaw09_uints.calls (a0 a1 : Value) {w : World} {K : KV} (h : M.winnowlaw09_uints a0 a1 w K) : callT P F.winnowlaw09_uints [a0, a1] w K :=
  callT_of_den (by kernel_rfl) Try.func21 (by kernel_rfl) M.winnowlaw09_uints.ok (M.winnowlaw09_uints.eq a0 a1 w K ▸ h)
theorem M.winnowlaw09_uints.fcall (args : List Value) (w : World) (K : KV) : fcallT P F.winnowlaw09_uints args w K = callT P F.winnowlaw09_uints args w K := fcallT_eq Try.func21 (by kernel_rfl) (by kernel_rfl) args w K
theorem M.winnowlaw09_uints.rcall (a c args : List Value) (w : World) (K : KV) : callRT P (.func (.func F.winnowlaw09_uints) a.toArray c.toArray) args w K = callT P F.winnowlaw09_uints (a ++ args ++ c) w K := callR_fn Try.func21 (by kernel_rfl) (by kernel_rfl) a c args w K

def M.view_Live.j3 (a0 : Value) (x2 : List Value) (K2 : KL) (w : World) (K : KV) : Prop :=
  joinT (fun K4 =>
  iaT P T.sl_api_Member a0 (gv x2 1) w fun t12 w =>
  ldT P T.api_Member t12 w fun t13 w =>
  alT P T.api_Member w fun t4 w =>
  stT P T.api_Member t4 t13 w fun _ w =>
  faT P T.api_Member t4 2 w fun t14 w =>
  ldT P T.int t14 w fun t15 w =>
  binT P .neq T.int (.tmp 15) (.const (.int .i64 2)) t15 (.int .i64 2) w fun t16 w =>
  condT t16 (
  faT P T.api_Member t4 0 w fun t18 w =>
  ldT P T.uint64 t18 w fun t19 w =>
  bsT P T.sl_uint64 1 #[(0, t19)] w fun t20 w =>
  biT P .append #[T.sl_uint64, T.sl_uint64] T.sl_uint64 [false, false] [(gv x2 0), t20] w fun t21 w =>
  K4 [t21] w) (
  K4 [(gv x2 0)] w)) fun x4 w =>
  binT P .add T.int (.tmp 10) (.const (.int .i64 1)) (gv x2 1) (.int .i64 1) w fun t22 w =>
  K2 [(gv x4 0), t22] w
def M.view_Live.j0 (a0 : Value) (x0 : List Value) (w : World) (K : KV) : Prop :=
  joinT (fun K1 =>
  biT P .len #[T.sl_api_Member] T.int [false] [a0] w fun t9 w =>
  loopT [(gv x0 0), (.int .i64 0)] w fun K2 x2 w =>
  binT P .lss T.int (.tmp 10) (.tmp 9) (gv x2 1) t9 w fun t11 w =>
  joinT (fun K3 =>
  condT t11 (
  K3 [] w) (
  K1 [a0, t9, (gv x2 1), (gv x2 0)] w)) fun x3 w =>
  M.view_Live.j3 a0 x2 K2 w K) fun x1 w =>
  K (gv x1 3) w
/-- winnow/view.Live -/
def M.view_Live (a0 : Value) (w : World) (K : KV) : Prop :=
  joinT (fun K0 =>
  fcallT P F.view_Right [a0] w fun t6 w =>
  binT P .neq T.api_Kind (.tmp 6) (.const (.int .i64 0)) t6 (.int .i64 0) w fun t7 w =>
  condT t7 (
  K (.slice none 0 0) w) (
  K0 [(.slice none 0 0)] w)) fun x0 w =>
  M.view_Live.j0 a0 x0 w K
def M.view_Live.L : List Nat := [0, 2, 10, 9, 8]
def M.view_Live.pl : Nat → Plan := fun id => ⟨.nil, [], false⟩
theorem M.view_Live.eq (a0 : Value) (w : World) (K : KV) : M.view_Live a0 w K = den P M.view_Live.L M.view_Live.pl (Try.f22.body.getD .skip) (argE [a0]) w (bodyQ P Try.f22.results.toList K) := by kernel_rfl
theorem M.view_Live.ok : okFn M.view_Live.L M.view_Live.pl Try.f22 (Try.f22.body.getD .skip) 1 = true := by kernel_rfl
theorem M.view_Live.calls (a0 : Value) {w : World} {K : KV} (h : M.view_Live a0 w K) : callT P F.view_Live [a0] w K :=
  callT_of_den (by kernel_rfl) Try.func22 (by kernel_rfl) M.view_Live.ok (M.view_Live.eq a0 w K ▸ h)
theorem M.view_Live.fcall (args : List Value) (w : World) (K : KV) : fcallT P F.view_Live args w K = callT P F.view_Live args w K := fcallT_eq Try.func22 (by kernel_rfl) (by kernel_rfl) args w K
theorem M.view_Live.rcall (a c args : List Value) (w : World) (K : KV) : callRT P (.func (.func F.view_Live) a.toArray c.toArray) args w K = callT P F.view_Live (a ++ args ++ c) w K := callR_fn Try.func22 (by kernel_rfl) (by kernel_rfl) a c args w K

def M.winnowref09_Live.j3 (a0 : Value) (x2 : List Value) (K2 : KL) (w : World) (K : KV) : Prop :=
  joinT (fun K4 =>
  iaT P T.sl_api_Member a0 (gv x2 1) w fun t16 w =>
  faT P T.api_Member t16 2 w fun t17 w =>
  ldT P T.int t17 w fun t18 w =>
  binT P .neq T.int (.tmp 18) (.const (.int .i64 2)) t18 (.int .i64 2) w fun t19 w =>
  condT t19 (
  iaT P T.sl_api_Member a0 (gv x2 1) w fun t23 w =>
  faT P T.api_Member t23 0 w fun t24 w =>
  ldT P T.uint64 t24 w fun t25 w =>
  bsT P T.sl_uint64 1 #[(0, t25)] w fun t26 w =>
  biT P .append #[T.sl_uint64, T.sl_uint64] T.sl_uint64 [false, false] [(gv x2 0), t26] w fun t27 w =>
  K4 [t27] w) (
  K4 [(gv x2 0)] w)) fun x4 w =>
  binT P .add T.int (.tmp 12) (.const (.int .i64 1)) (gv x2 1) (.int .i64 1) w fun t13 w =>
  K2 [(gv x4 0), t13] w
def M.winnowref09_Live.j0 (a0 : Value) (w : World) (K : KV) : Prop :=
  joinT (fun K1 =>
  loopT [(.slice none 0 0), (.int .i64 0)] w fun K2 x2 w =>
  joinT (fun K3 =>
  biT P .len #[T.sl_api_Member] T.int [false] [a0] w fun t10 w =>
  binT P .lss T.int (.tmp 8) (.tmp 10) (gv x2 1) t10 w fun t11 w =>
  condT t11 (
  K3 [] w) (
  K1 [(gv x2 1), (gv x2 0)] w)) fun x3 w =>
  M.winnowref09_Live.j3 a0 x2 K2 w K) fun x1 w =>
  K (gv x1 1) w
/-- winnow/winnowref09.Live -/
def M.winnowref09_Live (a0 : Value) (w : World) (K : KV) : Prop :=
  joinT (fun K0 =>
  fcallT P F.winnowref09_Right [a0] w fun t6 w =>
  binT P .neq T.api_Kind (.tmp 6) (.const (.int .i64 0)) t6 (.int .i64 0) w fun t7 w =>
  condT t7 (
  K (.slice none 0 0) w) (
  K0 [(.slice none 0 0)] w)) fun x0 w =>
  M.winnowref09_Live.j0 a0 w K
def M.winnowref09_Live.L : List Nat := [0, 2, 3, 4]
def M.winnowref09_Live.pl : Nat → Plan := fun id => ⟨.nil, [], false⟩
theorem M.winnowref09_Live.eq (a0 : Value) (w : World) (K : KV) : M.winnowref09_Live a0 w K = den P M.winnowref09_Live.L M.winnowref09_Live.pl (Try.f23.body.getD .skip) (argE [a0]) w (bodyQ P Try.f23.results.toList K) := by kernel_rfl
theorem M.winnowref09_Live.ok : okFn M.winnowref09_Live.L M.winnowref09_Live.pl Try.f23 (Try.f23.body.getD .skip) 1 = true := by kernel_rfl
theorem M.winnowref09_Live.calls (a0 : Value) {w : World} {K : KV} (h : M.winnowref09_Live a0 w K) : callT P F.winnowref09_Live [a0] w K :=
  callT_of_den (by kernel_rfl) Try.func23 (by kernel_rfl) M.winnowref09_Live.ok (M.winnowref09_Live.eq a0 w K ▸ h)
theorem M.winnowref09_Live.fcall (args : List Value) (w : World) (K : KV) : fcallT P F.winnowref09_Live args w K = callT P F.winnowref09_Live args w K := fcallT_eq Try.func23 (by kernel_rfl) (by kernel_rfl) args w K
theorem M.winnowref09_Live.rcall (a c args : List Value) (w : World) (K : KV) : callRT P (.func (.func F.winnowref09_Live) a.toArray c.toArray) args w K = callT P F.winnowref09_Live (a ++ args ++ c) w K := callR_fn Try.func23 (by kernel_rfl) (by kernel_rfl) a c args w K

def M.winnowlaw09_below.j2 (a0 : Value) (x1 : List Value) (a1 : Value) (K1 : KL) (w : World) (K : KV) : Prop :=
  joinT (fun K3 =>
  iaT P T.sl_api_Member a0 (gv x1 2) w fun t18 w =>
  faT P T.api_Member t18 0 w fun t19 w =>
  ldT P T.uint64 t19 w fun t20 w =>
  fcallT P F.winnowref09_Find [a1, t20] w fun t21 w =>
  exT P t21 0 w fun t22 w =>
  exT P t21 1 w fun t23 w =>
  alT P T.api_Member w fun t6 w =>
  stT P T.api_Member t6 t22 w fun _ w =>
  drawT w fun w =>
  w = w ∧ quietT (fun K' => unT P .not t23 w K') w fun t25 =>
  w = w ∧ quietT (fun K' => guardT (isB t25 false) (fun K' => K' a0 w) w K') w fun t27 =>
  quietT (fun K' => guardT (isB t25 false) (fun K' => K' (gv x1 2) w) w K') w fun t28 =>
  quietT (fun K' => guardT (isB t25 false) (fun K' => iaT P T.sl_api_Member t27 t28 w K') w K') w fun t29 =>
  quietT (fun K' => guardT (isB t25 false) (fun K' => ldT P T.api_Member t29 w K') w K') w fun t30 =>
  quietT (fun K' => guardT (isB t25 false) (fun K' => ldT P T.api_Member t6 w K') w K') w fun t31 =>
  guardT (isB t25 false) (fun K' => fcallT P F.winnowref09_Newer [t30, t31] w K') w fun t32 w =>
  quietT (fun K' => pickT t25 (.bool true) t32 w K') w fun t33 =>
  condT t33 (
  K (.bool false) w) (
  K3 [t23, (gv x1 1)] w)) fun x3 w =>
  binT P .add T.int (.tmp 12) (.const (.int .i64 1)) (gv x1 2) (.int .i64 1) w fun t13 w =>
  K1 [(gv x3 0), (gv x3 1), t13] w
def M.winnowlaw09_below.j1 (a0 : Value) (x1 : List Value) (K0 : KL) (a1 : Value) (K1 : KL) (w : World) (K : KV) : Prop :=
  joinT (fun K2 =>
  biT P .len #[T.sl_api_Member] T.int [false] [a0] w fun t10 w =>
  binT P .lss T.int (.tmp 8) (.tmp 10) (gv x1 2) t10 w fun t11 w =>
  condT t11 (
  K2 [] w) (
  K0 [(gv x1 2), (gv x1 0), (gv x1 1)] w)) fun x2 w =>
  M.winnowlaw09_below.j2 a0 x1 a1 K1 w K
/-- winnow/winnowlaw09.below -/
def M.winnowlaw09_below (a0 a1 : Value) (w : World) (K : KV) : Prop :=
  joinT (fun K0 =>
  loopT [undef, (.bool false), (.int .i64 0)] w fun K1 x1 w =>
  M.winnowlaw09_below.j1 a0 x1 K0 a1 K1 w K) fun x0 w =>
  K (.bool true) w
def M.winnowlaw09_below.L : List Nat := [0, 1, 4, 5, 7]
def M.winnowlaw09_below.pl : Nat → Plan := fun id => cond (Nat.beq id 5) ⟨(.go 0 (.go 1 (.go 2 (.go 3 (.go 4 (.go 5 (.go 6 (.go 7 (.eff 8 (.go 9 .nil) .stop))))))))), [8], false⟩ (⟨.nil, [], false⟩)
theorem M.winnowlaw09_below.eq (a0 a1 : Value) (w : World) (K : KV) : M.winnowlaw09_below a0 a1 w K = den P M.winnowlaw09_below.L M.winnowlaw09_below.pl (Try.f25.body.getD .skip) (argE [a0, a1]) w (bodyQ P Try.f25.results.toList K) := by kernel_rfl
theorem M.winnowlaw09_below.ok : okFn M.winnowlaw09_below.L M.winnowlaw09_below.pl Try.f25 (Try.f25.body.getD .skip) 2 = true := by kernel_rfl
theorem M.winnowlaw09_below.calls (a0 a1 : Value) {w : World} {K : KV} (h : M.winnowlaw09_below a0 a1 w K) : callT P F.winnowlaw09_below [a0, a1] w K :=
  callT_of_den (by kernel_rfl) Try.func25 (by kernel_rfl) M.winnowlaw09_below.ok (M.winnowlaw09_below.eq a0 a1 w K ▸ h)
theorem M.winnowlaw09_below.fcall (args : List Value) (w : World) (K : KV) : fcallT P F.winnowlaw09_below args w K = callT P F.winnowlaw09_below args w K := fcallT_eq Try.func25 (by kernel_rfl) (by kernel_rfl) args w K
theorem M.winnowlaw09_below.rcall (a c args : List Value) (w : World) (K : KV) : callRT P (.func (.func F.winnowlaw09_below) a.toArray c.toArray) args w K = callT P F.winnowlaw09_below (a ++ args ++ c) w K := callR_fn Try.func25 (by kernel_rfl) (by kernel_rfl) a c args w K

def M.cmp_Or_int.j2 (a0 : Value) (x1 : List Value) (K1 : KL) (w : World) (K : KV) : Prop :=
  joinT (fun K3 =>
  iaT P T.sl_int a0 (gv x1 2) w fun t10 w =>
  ldT P T.int t10 w fun t11 w =>
  binT P .neq T.int (.tmp 12) (.tmp 13) t11 (.int .i64 0) w fun t14 w =>
  condT t14 (
  K t11 w) (
  K3 [t11, (gv x1 1)] w)) fun x3 w =>
  binT P .add T.int (.tmp 8) (.const (.int .i64 1)) (gv x1 2) (.int .i64 1) w fun t16 w =>
  K1 [(gv x3 0), (gv x3 1), t16] w
/-- cmp.Or[int] -/
def M.cmp_Or_int (a0 : Value) (w : World) (K : KV) : Prop :=
  joinT (fun K0 =>
  biT P .len #[T.sl_int] T.int [false] [a0] w fun t7 w =>
  loopT [undef, (.int .i64 0), (.int .i64 0)] w fun K1 x1 w =>
  binT P .lss T.int (.tmp 8) (.tmp 7) (gv x1 2) t7 w fun t9 w =>
  joinT (fun K2 =>
  condT t9 (
  K2 [] w) (
  K0 [a0, t7, (gv x1 2), (gv x1 0), (gv x1 1)] w)) fun x2 w =>
  M.cmp_Or_int.j2 a0 x1 K1 w K) fun x0 w =>
  K (.int .i64 0) w
def M.cmp_Or_int.L : List Nat := [0, 2, 3, 5, 8, 7, 6]
def M.cmp_Or_int.pl : Nat → Plan := fun id => ⟨.nil, [], false⟩
theorem M.cmp_Or_int.eq (a0 : Value) (w : World) (K : KV) : M.cmp_Or_int a0 w K = den P M.cmp_Or_int.L M.cmp_Or_int.pl (Try.f26.body.getD .skip) (argE [a0]) w (bodyQ P Try.f26.results.toList K) := by kernel_rfl
theorem M.cmp_Or_int.ok : okFn M.cmp_Or_int.L M.cmp_Or_int.pl Try.f26 (Try.f26.body.getD .skip) 1 = true := by kernel_rfl
theorem M.cmp_Or_int.calls (a0 : Value) {w : World} {K : KV} (h : M.cmp_Or_int a0 w K) : callT P F.cmp_Or_int [a0] w K :=
  callT_of_den (by kernel_rfl) Try.func26 (by kernel_rfl) M.cmp_Or_int.ok (M.cmp_Or_int.eq a0 w K ▸ h)
theorem M.cmp_Or_int.fcall (args : List Value) (w : World) (K : KV) : fcallT P F.cmp_Or_int args w K = callT P F.cmp_Or_int args w K := fcallT_eq Try.func26 (by kernel_rfl) (by kernel_rfl) args w K
theorem M.cmp_Or_int.rcall (a c args : List Value) (w : World) (K : KV) : callRT P (.func (.func F.cmp_Or_int) a.toArray c.toArray) args w K = callT P F.cmp_Or_int (a ++ args ++ c) w K := callR_fn Try.func26 (by kernel_rfl) (by kernel_rfl) a c args w K

def M.cmp_Compare_uint64.j2 (a0 : Value) (a1 : Value) (x2 : List Value) (w : World) (K : KV) : Prop :=
  joinT (fun K3 =>
  binT P .lss T.uint64 (.tmp 14) (.tmp 15) a0 a1 w fun t16 w =>
  condT t16 (
  K (.int .i64 (-1)) w) (
  K3 [(gv x2 0)] w)) fun x3 w =>
  joinT (fun K4 =>
  binT P .gtr T.uint64 (.tmp 17) (.tmp 18) a0 a1 w fun t19 w =>
  condT t19 (
  K (.int .i64 1) w) (
  K4 [(gv x3 0)] w)) fun x4 w =>
  K (.int .i64 0) w
/-- cmp.Compare[uint64] -/
def M.cmp_Compare_uint64 (a0 a1 : Value) (w : World) (K : KV) : Prop :=
  fcallT P F.cmp_isNaN_uint64 [a0] w fun t8 w =>
  fcallT P F.cmp_isNaN_uint64 [a1] w fun t10 w =>
  joinT (fun K0 =>
  condT t8 (
  joinT (fun K1 =>
  condT t10 (
  K (.int .i64 0) w) (
  K1 [(.int .i64 0)] w)) fun x1 w =>
  K (.int .i64 (-1)) w) (
  K0 [(.int .i64 0)] w)) fun x0 w =>
  joinT (fun K2 =>
  condT t10 (
  K (.int .i64 1) w) (
  K2 [(gv x0 0)] w)) fun x2 w =>
  M.cmp_Compare_uint64.j2 a0 a1 x2 w K
def M.cmp_Compare_uint64.L : List Nat := [0, 1, 4, 5, 6]
def M.cmp_Compare_uint64.pl : Nat → Plan := fun id => ⟨.nil, [], false⟩
theorem M.cmp_Compare_uint64.eq (a0 a1 : Value) (w : World) (K : KV) : M.cmp_Compare_uint64 a0 a1 w K = den P M.cmp_Compare_uint64.L M.cmp_Compare_uint64.pl (Try.f27.body.getD .skip) (argE [a0, a1]) w (bodyQ P Try.f27.results.toList K) := by kernel_rfl
theorem M.cmp_Compare_uint64.ok : okFn M.cmp_Compare_uint64.L M.cmp_Compare_uint64.pl Try.f27 (Try.f27.body.getD .skip) 2 = true := by kernel_rfl
theorem M.cmp_Compare_uint64.calls (a0 a1 : Value) {w : World} {K : KV} (h : M.cmp_Compare_uint64 a0 a1 w K) : callT P F.cmp_Compare_uint64 [a0, a1] w K :=
  callT_of_den (by kernel_rfl) Try.func27 (by kernel_rfl) M.cmp_Compare_uint64.ok (M.cmp_Compare_uint64.eq a0 a1 w K ▸ h)
theorem M.cmp_Compare_uint64.fcall (args : List Value) (w : World) (K : KV) : fcallT P F.cmp_Compare_uint64 args w K = callT P F.cmp_Compare_uint64 args w K := fcallT_eq Try.func27 (by kernel_rfl) (by kernel_rfl) args w K
theorem M.cmp_Compare_uint64.rcall (a c args : List Value) (w : World) (K : KV) : callRT P (.func (.func F.cmp_Compare_uint64) a.toArray c.toArray) args w K = callT P F.cmp_Compare_uint64 (a ++ args ++ c) w K := callR_fn Try.func27 (by kernel_rfl) (by kernel_rfl) a c args w K

def M.cmp_Compare_int.j2 (a0 : Value) (a1 : Value) (x2 : List Value) (w : World) (K : KV) : Prop :=
  joinT (fun K3 =>
  binT P .lss T.int (.tmp 14) (.tmp 15) a0 a1 w fun t16 w =>
  condT t16 (
  K (.int .i64 (-1)) w) (
  K3 [(gv x2 0)] w)) fun x3 w =>
  joinT (fun K4 =>
  binT P .gtr T.int (.tmp 17) (.tmp 18) a0 a1 w fun t19 w =>
  condT t19 (
  K (.int .i64 1) w) (
  K4 [(gv x3 0)] w)) fun x4 w =>
  K (.int .i64 0) w
/-- cmp.Compare[int] -/
def M.cmp_Compare_int (a0 a1 : Value) (w : World) (K : KV) : Prop :=
  fcallT P F.cmp_isNaN_int [a0] w fun t8 w =>
  fcallT P F.cmp_isNaN_int [a1] w fun t10 w =>
  joinT (fun K0 =>
  condT t8 (
  joinT (fun K1 =>
  condT t10 (
  K (.int .i64 0) w) (
  K1 [(.int .i64 0)] w)) fun x1 w =>
  K (.int .i64 (-1)) w) (
  K0 [(.int .i64 0)] w)) fun x0 w =>
  joinT (fun K2 =>
  condT t10 (
  K (.int .i64 1) w) (
  K2 [(gv x0 0)] w)) fun x2 w =>
  M.cmp_Compare_int.j2 a0 a1 x2 w K
def M.cmp_Compare_int.L : List Nat := [0, 1, 4, 5, 6]
def M.cmp_Compare_int.pl : Nat → Plan := fun id => ⟨.nil, [], false⟩
theorem M.cmp_Compare_int.eq (a0 a1 : Value) (w : World) (K : KV) : M.cmp_Compare_int a0 a1 w K = den P M.cmp_Compare_int.L M.cmp_Compare_int.pl (Try.f28.body.getD .skip) (argE [a0, a1]) w (bodyQ P Try.f28.results.toList K) := by kernel_rfl
theorem M.cmp_Compare_int.ok : okFn M.cmp_Compare_int.L M.cmp_Compare_int.pl Try.f28 (Try.f28.body.getD .skip) 2 = true := by kernel_rfl
theorem M.cmp_Compare_int.calls (a0 a1 : Value) {w : World} {K : KV} (h : M.cmp_Compare_int a0 a1 w K) : callT P F.cmp_Compare_int [a0, a1] w K :=
  callT_of_den (by kernel_rfl) Try.func28 (by kernel_rfl) M.cmp_Compare_int.ok (M.cmp_Compare_int.eq a0 a1 w K ▸ h)
theorem M.cmp_Compare_int.fcall (args : List Value) (w : World) (K : KV) : fcallT P F.cmp_Compare_int args w K = callT P F.cmp_Compare_int args w K := fcallT_eq Try.func28 (by kernel_rfl) (by kernel_rfl) args w K
theorem M.cmp_Compare_int.rcall (a c args : List Value) (w : World) (K : KV) : callRT P (.func (.func F.cmp_Compare_int) a.toArray c.toArray) args w K = callT P F.cmp_Compare_int (a ++ args ++ c) w K := callR_fn Try.func28 (by kernel_rfl) (by kernel_rfl) a c args w K

def M.slices_IndexFunc_api_Member_api_Member.j2 (a0 : Value) (x1 : List Value) (a1 : Value) (K1 : KL) (w : World) (K : KV) : Prop :=
  joinT (fun K3 =>
  iaT P T.sl_api_Member a0 (gv x1 2) w fun t14 w =>
  ldT P T.api_Member t14 w fun t15 w =>
  callRT P a1 [t15] w fun t16 w =>
  condT t16 (
  K (gv x1 2) w) (
  K3 [(gv x1 2), (gv x1 1)] w)) fun x3 w =>
  binT P .add T.int (.tmp 8) (.const (.int .i64 1)) (gv x1 2) (.int .i64 1) w fun t18 w =>
  K1 [(gv x3 0), (gv x3 1), t18] w
/-- slices.IndexFunc[[]winnow/api.Member,winnow/api.Member] -/
def M.slices_IndexFunc_api_Member_api_Member (a0 a1 : Value) (w : World) (K : KV) : Prop :=
  joinT (fun K0 =>
  biT P .len #[T.sl_api_Member] T.int [false] [a0] w fun t7 w =>
  loopT [undef, (.int .i64 0), (.int .i64 0)] w fun K1 x1 w =>
  binT P .lss T.int (.tmp 8) (.tmp 7) (gv x1 2) t7 w fun t9 w =>
  joinT (fun K2 =>
  condT t9 (
  K2 [] w) (
  K0 [t7, (gv x1 2), (gv x1 0), (gv x1 1)] w)) fun x2 w =>
  M.slices_IndexFunc_api_Member_api_Member.j2 a0 x1 a1 K1 w K) fun x0 w =>
  K (.int .i64 (-1)) w
def M.slices_IndexFunc_api_Member_api_Member.L : List Nat := [0, 1, 4, 5, 8, 7]
def M.slices_IndexFunc_api_Member_api_Member.pl : Nat → Plan := fun id => ⟨.nil, [], false⟩
theorem M.slices_IndexFunc_api_Member_api_Member.eq (a0 a1 : Value) (w : World) (K : KV) : M.slices_IndexFunc_api_Member_api_Member a0 a1 w K = den P M.slices_IndexFunc_api_Member_api_Member.L M.slices_IndexFunc_api_Member_api_Member.pl (Try.f29.body.getD .skip) (argE [a0, a1]) w (bodyQ P Try.f29.results.toList K) := by kernel_rfl
theorem M.slices_IndexFunc_api_Member_api_Member.ok : okFn M.slices_IndexFunc_api_Member_api_Member.L M.slices_IndexFunc_api_Member_api_Member.pl Try.f29 (Try.f29.body.getD .skip) 2 = true := by kernel_rfl
theorem M.slices_IndexFunc_api_Member_api_Member.calls (a0 a1 : Value) {w : World} {K : KV} (h : M.slices_IndexFunc_api_Member_api_Member a0 a1 w K) : callT P F.slices_IndexFunc_api_Member_api_Member [a0, a1] w K :=
  callT_of_den (by kernel_rfl) Try.func29 (by kernel_rfl) M.slices_IndexFunc_api_Member_api_Member.ok (M.slices_IndexFunc_api_Member_api_Member.eq a0 a1 w K ▸ h)
theorem M.slices_IndexFunc_api_Member_api_Member.fcall (args : List Value) (w : World) (K : KV) : fcallT P F.slices_IndexFunc_api_Member_api_Member args w K = callT P F.slices_IndexFunc_api_Member_api_Member args w K := fcallT_eq Try.func29 (by kernel_rfl) (by kernel_rfl) args w K
theorem M.slices_IndexFunc_api_Member_api_Member.rcall (a c args : List Value) (w : World) (K : KV) : callRT P (.func (.func F.slices_IndexFunc_api_Member_api_Member) a.toArray c.toArray) args w K = callT P F.slices_IndexFunc_api_Member_api_Member (a ++ args ++ c) w K := callR_fn Try.func29 (by kernel_rfl) (by kernel_rfl) a c args w K

/-- winnow/view.Find$1 -/
def M.view_Find_1 (a0 a1 : Value) (w : World) (K : KV) : Prop :=
  boxT P T.api_Member a0 w fun t2 w =>
  faT P T.api_Member t2 0 w fun t4 w =>
  ldT P T.uint64 t4 w fun t5 w =>
  ldT P T.uint64 a1 w fun t6 w =>
  binT P .eql T.uint64 (.tmp 5) (.tmp 6) t5 t6 w fun t7 w =>
  K t7 w
def M.view_Find_1.L : List Nat := [0, 1, 3]
def M.view_Find_1.pl : Nat → Plan := fun id => ⟨.nil, [], false⟩
theorem M.view_Find_1.eq (a0 a1 : Value) (w : World) (K : KV) : M.view_Find_1 a0 a1 w K = den P M.view_Find_1.L M.view_Find_1.pl (Try.f30.body.getD .skip) (argE [a0, a1]) w (bodyQ P Try.f30.results.toList K) := by kernel_rfl
theorem M.view_Find_1.ok : okFn M.view_Find_1.L M.view_Find_1.pl Try.f30 (Try.f30.body.getD .skip) 2 = true := by kernel_rfl
theorem M.view_Find_1.calls (a0 a1 : Value) {w : World} {K : KV} (h : M.view_Find_1 a0 a1 w K) : callT P F.view_Find_1 [a0, a1] w K :=
  callT_of_den (by kernel_rfl) Try.func30 (by kernel_rfl) M.view_Find_1.ok (M.view_Find_1.eq a0 a1 w K ▸ h)
theorem M.view_Find_1.fcall (args : List Value) (w : World) (K : KV) : fcallT P F.view_Find_1 args w K = callT P F.view_Find_1 args w K := fcallT_eq Try.func30 (by kernel_rfl) (by kernel_rfl) args w K
theorem M.view_Find_1.rcall (a c args : List Value) (w : World) (K : KV) : callRT P (.func (.func F.view_Find_1) a.toArray c.toArray) args w K = callT P F.view_Find_1 (a ++ args ++ c) w K := callR_fn Try.func30 (by kernel_rfl) (by kernel_rfl) a c args w K

/-- winnow/message.Right -/
def M.message_Right (a0 : Value) (w : World) (K : KV) : Prop :=
  boxT P T.api_Packet a0 w fun t1 w =>
  ldT P T.api_Packet t1 w fun t4 w =>
  fcallT P F.message_thing [t4] w fun t5 w =>
  joinT (fun K0 =>
  drawT w fun w =>
  w = w ∧ quietT (fun K' => binT P .eql T.any (.tmp 6) (.const .nilIface) t5 .nilIface w K') w fun t7 =>
  w = w ∧ quietT (fun K' => guardT (isB t7 false) (fun K' => K' t5 w) w K') w fun t9 =>
  guardT (isB t7 false) (fun K' => fcallT P F.message_right [t9] w K') w fun t10 w =>
  quietT (fun K' => guardT (isB t7 false) (fun K' => unT P .not t10 w K') w K') w fun t11 =>
  quietT (fun K' => pickT t7 (.bool true) t11 w K') w fun t12 =>
  w = w ∧ quietT (fun K' => guardT (isB t12 false) (fun K' => ldT P T.api_Packet t1 w K') w K') w fun t14 =>
  quietT (fun K' => guardT (isB t12 false) (fun K' => K' t5 w) w K') w fun t15 =>
  guardT (isB t12 false) (fun K' => fcallT P F.message_packet [t15] w K') w fun t16 w =>
  stabT (fun K' => guardT (isB t12 false) (fun K' => ldT P T.api_Packet t1 w K') w K') w t14 ∧ guardT (isB t12 false) (fun K' => fcallT P F.message_alike [t14, t16] w K') w fun t17 w =>
  quietT (fun K' => guardT (isB t12 false) (fun K' => unT P .not t17 w K') w K') w fun t18 =>
  quietT (fun K' => pickT t12 (.bool true) t18 w K') w fun t19 =>
  condT t19 (
  K (.int .i64 6) w) (
  K0 [(.int .i64 0)] w)) fun x0 w =>
  K (.int .i64 0) w
def M.message_Right.L : List Nat := [0, 2, 3]
def M.message_Right.pl : Nat → Plan := fun id => cond (Nat.beq id 2) ⟨(.go 0 (.go 1 (.go 2 (.go 3 (.eff 4 (.go 5 (.go 6 (.go 7 (.go 8 (.go 9 (.eff 10 (.eff 11 (.go 12 (.go 13 .nil)) .stop) .stop)))))) .stop))))), [4, 10, 11], false⟩ (⟨.nil, [], false⟩)
theorem M.message_Right.eq (a0 : Value) (w : World) (K : KV) : M.message_Right a0 w K = den P M.message_Right.L M.message_Right.pl (Try.f31.body.getD .skip) (argE [a0]) w (bodyQ P Try.f31.results.toList K) := by kernel_rfl
theorem M.message_Right.ok : okFn M.message_Right.L M.message_Right.pl Try.f31 (Try.f31.body.getD .skip) 1 = true := by kernel_rfl
theorem M.message_Right.calls (a0 : Value) {w : World} {K : KV} (h : M.message_Right a0 w K) : callT P F.message_Right [a0] w K :=
  callT_of_den (by kernel_rfl) Try.func31 (by kernel_rfl) M.message_Right.ok (M.message_Right.eq a0 w K ▸ h)
theorem M.message_Right.fcall (args : List Value) (w : World) (K : KV) : fcallT P F.message_Right args w K = callT P F.message_Right args w K := fcallT_eq Try.func31 (by kernel_rfl) (by kernel_rfl) args w K
theorem M.message_Right.rcall (a c args : List Value) (w : World) (K : KV) : callRT P (.func (.func F.message_Right) a.toArray c.toArray) args w K = callT P F.message_Right (a ++ args ++ c) w K := callR_fn Try.func31 (by kernel_rfl) (by kernel_rfl) a c args w K

end Go.Proofs.Ytbcamfheaonbaaa
