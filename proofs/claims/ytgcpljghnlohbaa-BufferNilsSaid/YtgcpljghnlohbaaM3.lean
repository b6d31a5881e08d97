/-
  Printed by wip/Shallow.lean: functions of the program, read shallow; each is what its code does. No condition.
-/
import Derived.Test.YtgcpljghnlohbaaN
set_option maxRecDepth 1000000
namespace Go.Proofs.Ytgcpljghnlohbaa
open Go.Eng

def M.winnowref01_Same.j3 (a0 : Value) (x2 : List Value) (a1 : Value) (K2 : KL) (w : World) (K : KV) : Prop :=
  joinT (fun K4 =>
  drawT w fun w =>
  w = w ∧ w = w ∧ quietT (fun K' => iaT P T.sl_uint8 a0 (gv x2 1) w K') w fun t19 =>
  quietT (fun K' => ldT P T.uint8 t19 w K') w fun t20 =>
  w = w ∧ w = w ∧ quietT (fun K' => iaT P T.sl_uint8 a1 (gv x2 1) w K') w fun t23 =>
  quietT (fun K' => ldT P T.uint8 t23 w K') w fun t24 =>
  quietT (fun K' => binT P .neq T.uint8 (.tmp 20) (.tmp 24) t20 t24 w K') w fun t25 =>
  condT t25 (
  K (.bool false) w) (
  K4 [(gv x2 0)] w)) fun x4 w =>
  binT P .add T.int (.tmp 15) (.const (.int .i64 1)) (gv x2 1) (.int .i64 1) w fun t16 w =>
  K2 [(gv x4 0), t16] w
def M.winnowref01_Same.j0 (x0 : List Value) (a0 : Value) (a1 : Value) (w : World) (K : KV) : Prop :=
  joinT (fun K1 =>
  loopT [(gv x0 0), (.int .i64 0)] w fun K2 x2 w =>
  joinT (fun K3 =>
  biT P .len #[T.sl_uint8] T.int [false] [a0] w fun t13 w =>
  binT P .lss T.int (.tmp 11) (.tmp 13) (gv x2 1) t13 w fun t14 w =>
  condT t14 (
  K3 [] w) (
  K1 [(gv x2 1), (gv x2 0)] w)) fun x3 w =>
  M.winnowref01_Same.j3 a0 x2 a1 K2 w K) fun x1 w =>
  K (.bool true) w
/-- winnow/winnowref01.Same -/
def M.winnowref01_Same (a0 a1 : Value) (w : World) (K : KV) : Prop :=
  joinT (fun K0 =>
  biT P .len #[T.sl_uint8] T.int [false] [a0] w fun t7 w =>
  biT P .len #[T.sl_uint8] T.int [false] [a1] w fun t9 w =>
  binT P .neq T.int (.tmp 7) (.tmp 9) t7 t9 w fun t10 w =>
  condT t10 (
  K (.bool false) w) (
  K0 [(.bool false)] w)) fun x0 w =>
  M.winnowref01_Same.j0 x0 a0 a1 w K
def M.winnowref01_Same.L : List Nat := [0, 1, 4, 5]
def M.winnowref01_Same.pl : Nat → Plan := fun id => cond (Nat.beq id 6) ⟨(.go 0 (.go 1 (.go 2 (.go 3 (.go 4 (.go 5 (.go 6 (.go 7 (.go 8 .nil))))))))), [], false⟩ (⟨.nil, [], false⟩)
theorem M.winnowref01_Same.eq (a0 a1 : Value) (w : World) (K : KV) : M.winnowref01_Same a0 a1 w K = den P M.winnowref01_Same.L M.winnowref01_Same.pl (Try.f35.body.getD .skip) (argE [a0, a1]) w (bodyQ P Try.f35.results.toList K) := by kernel_rfl
theorem M.winnowref01_Same.ok : okFn M.winnowref01_Same.L M.winnowref01_Same.pl Try.f35 (Try.f35.body.getD .skip) 2 = true := by kernel_rfl
theorem M.winnowref01_Same.calls (a0 a1 : Value) {w : World} {K : KV} (h : M.winnowref01_Same a0 a1 w K) : callT P F.winnowref01_Same [a0, a1] w K :=
  callT_of_den (by kernel_rfl) Try.func35 (by kernel_rfl) M.winnowref01_Same.ok (M.winnowref01_Same.eq a0 a1 w K ▸ h)
theorem M.winnowref01_Same.fcall (args : List Value) (w : World) (K : KV) : fcallT P F.winnowref01_Same args w K = callT P F.winnowref01_Same args w K := fcallT_eq Try.func35 (by kernel_rfl) (by kernel_rfl) args w K

/-- (*winnow/disk.Disk).Arm -/
def M.pdisk_Disk_Arm (a0 a1 : Value) (w : World) (K : KV) : Prop :=
  binT P .neq T.p_disk_Disk (.tmp 4) (.const (.pointer none)) a0 (.pointer none) w fun t5 w =>
  condT t5 (
  binT P .geq T.int (.tmp 8) (.const (.int .i64 0)) a1 (.int .i64 0) w fun t9 w =>
  nilT a0 w fun t11 w =>
  faT P T.disk_Disk t11 3 w fun t12 w =>
  stT P T.bool t12 t9 w fun _ w =>
  nilT a0 w fun t13 w =>
  faT P T.disk_Disk t13 2 w fun t14 w =>
  stT P T.int t14 a1 w fun _ w =>
  K (.tuple #[]) w) (
  K (.tuple #[]) w)
def M.pdisk_Disk_Arm.L : List Nat := [0, 1]
def M.pdisk_Disk_Arm.pl : Nat → Plan := fun id => ⟨.nil, [], false⟩
theorem M.pdisk_Disk_Arm.eq (a0 a1 : Value) (w : World) (K : KV) : M.pdisk_Disk_Arm a0 a1 w K = den P M.pdisk_Disk_Arm.L M.pdisk_Disk_Arm.pl (Try.f36.body.getD .skip) (argE [a0, a1]) w (bodyQ P Try.f36.results.toList K) := by kernel_rfl
theorem M.pdisk_Disk_Arm.ok : okFn M.pdisk_Disk_Arm.L M.pdisk_Disk_Arm.pl Try.f36 (Try.f36.body.getD .skip) 2 = true := by kernel_rfl
theorem M.pdisk_Disk_Arm.calls (a0 a1 : Value) {w : World} {K : KV} (h : M.pdisk_Disk_Arm a0 a1 w K) : callT P F.pdisk_Disk_Arm [a0, a1] w K :=
  callT_of_den (by kernel_rfl) Try.func36 (by kernel_rfl) M.pdisk_Disk_Arm.ok (M.pdisk_Disk_Arm.eq a0 a1 w K ▸ h)
theorem M.pdisk_Disk_Arm.fcall (args : List Value) (w : World) (K : KV) : fcallT P F.pdisk_Disk_Arm args w K = callT P F.pdisk_Disk_Arm args w K := fcallT_eq Try.func36 (by kernel_rfl) (by kernel_rfl) args w K

/-- (*winnow/disk.Disk).Down -/
def M.pdisk_Disk_Down (a0 : Value) (w : World) (K : KV) : Prop :=
  binT P .neq T.p_disk_Disk (.tmp 3) (.const (.pointer none)) a0 (.pointer none) w fun t4 w =>
  guardT (isB t4 true) (fun K' => K' a0 w) w fun t6 w =>
  guardT (isB t4 true) (fun K' => nilT t6 w K') w fun t7 w =>
  guardT (isB t4 true) (fun K' => faT P T.disk_Disk t7 4 w K') w fun t8 w =>
  guardT (isB t4 true) (fun K' => ldT P T.bool t8 w K') w fun t9 w =>
  pickT t4 t9 (.bool false) w fun t10 w =>
  K t10 w
def M.pdisk_Disk_Down.L : List Nat := [0, 2]
def M.pdisk_Disk_Down.pl : Nat → Plan := fun id => ⟨.nil, [], false⟩
theorem M.pdisk_Disk_Down.eq (a0 : Value) (w : World) (K : KV) : M.pdisk_Disk_Down a0 w K = den P M.pdisk_Disk_Down.L M.pdisk_Disk_Down.pl (Try.f37.body.getD .skip) (argE [a0]) w (bodyQ P Try.f37.results.toList K) := by kernel_rfl
theorem M.pdisk_Disk_Down.ok : okFn M.pdisk_Disk_Down.L M.pdisk_Disk_Down.pl Try.f37 (Try.f37.body.getD .skip) 1 = true := by kernel_rfl
theorem M.pdisk_Disk_Down.calls (a0 : Value) {w : World} {K : KV} (h : M.pdisk_Disk_Down a0 w K) : callT P F.pdisk_Disk_Down [a0] w K :=
  callT_of_den (by kernel_rfl) Try.func37 (by kernel_rfl) M.pdisk_Disk_Down.ok (M.pdisk_Disk_Down.eq a0 w K ▸ h)
theorem M.pdisk_Disk_Down.fcall (args : List Value) (w : World) (K : KV) : fcallT P F.pdisk_Disk_Down args w K = callT P F.pdisk_Disk_Down args w K := fcallT_eq Try.func37 (by kernel_rfl) (by kernel_rfl) args w K

/-- (*winnow/disk.Disk).Remove -/
def M.pdisk_Disk_Remove (a0 a1 : Value) (w : World) (K : KV) : Prop :=
  fcallT P F.pdisk_Disk_find [a0, a1] w fun t10 w =>
  exT P t10 0 w fun t11 w =>
  exT P t10 1 w fun t12 w =>
  joinT (fun K0 =>
  binT P .eql T.api_Kind (.tmp 13) (.const (.int .i64 0)) t12 (.int .i64 0) w fun t14 w =>
  condT t14 (
  nilT a0 w fun t16 w =>
  faT P T.disk_Disk t16 1 w fun t17 w =>
  ldT P T.map_int_p_disk_file t17 w fun t18 w =>
  biT P .delete #[T.map_int_p_disk_file, T.int] T._ [false, false] [t18, a1] w fun _ w =>
  K0 [] w) (
  K0 [] w)) fun x0 w =>
  K t12 w
def M.pdisk_Disk_Remove.L : List Nat := [0, 1, 4, 5, 6]
def M.pdisk_Disk_Remove.pl : Nat → Plan := fun id => ⟨.nil, [], false⟩
theorem M.pdisk_Disk_Remove.eq (a0 a1 : Value) (w : World) (K : KV) : M.pdisk_Disk_Remove a0 a1 w K = den P M.pdisk_Disk_Remove.L M.pdisk_Disk_Remove.pl (Try.f38.body.getD .skip) (argE [a0, a1]) w (bodyQ P Try.f38.results.toList K) := by kernel_rfl
theorem M.pdisk_Disk_Remove.ok : okFn M.pdisk_Disk_Remove.L M.pdisk_Disk_Remove.pl Try.f38 (Try.f38.body.getD .skip) 2 = true := by kernel_rfl
theorem M.pdisk_Disk_Remove.calls (a0 a1 : Value) {w : World} {K : KV} (h : M.pdisk_Disk_Remove a0 a1 w K) : callT P F.pdisk_Disk_Remove [a0, a1] w K :=
  callT_of_den (by kernel_rfl) Try.func38 (by kernel_rfl) M.pdisk_Disk_Remove.ok (M.pdisk_Disk_Remove.eq a0 a1 w K ▸ h)
theorem M.pdisk_Disk_Remove.fcall (args : List Value) (w : World) (K : KV) : fcallT P F.pdisk_Disk_Remove args w K = callT P F.pdisk_Disk_Remove args w K := fcallT_eq Try.func38 (by kernel_rfl) (by kernel_rfl) args w K

/-- winnow/winnowref06.New -/
def M.winnowref06_New (a0 : Value) (w : World) (K : KV) : Prop :=
  joinT (fun K0 =>
  binT P .lss T.int (.tmp 3) (.const (.int .i64 1)) a0 (.int .i64 1) w fun t4 w =>
  guardT (isB t4 false) (fun K' => K' a0 w) w fun t6 w =>
  guardT (isB t4 false) (fun K' => binT P .gtr T.int (.tmp 6) (.const (.int .i64 1048576)) t6 (.int .i64 1048576) w K') w fun t7 w =>
  pickT t4 (.bool true) t7 w fun t8 w =>
  condT t8 (
  K (.pointer none) w) (
  K0 [(.pointer none)] w)) fun x0 w =>
  mksT P T.sl_winnowref06_File (.int .i64 64) (.int .i64 64) w fun t10 w =>
  bldT P T.winnowref06_Disk #[(0, a0), (1, t10), (2, (.int .i64 (-1)))] w fun t11 w =>
  boxT P T.winnowref06_Disk t11 w fun t12 w =>
  K t12 w
def M.winnowref06_New.L : List Nat := [0, 2]
def M.winnowref06_New.pl : Nat → Plan := fun id => ⟨.nil, [], false⟩
theorem M.winnowref06_New.eq (a0 : Value) (w : World) (K : KV) : M.winnowref06_New a0 w K = den P M.winnowref06_New.L M.winnowref06_New.pl (Try.f39.body.getD .skip) (argE [a0]) w (bodyQ P Try.f39.results.toList K) := by kernel_rfl
theorem M.winnowref06_New.ok : okFn M.winnowref06_New.L M.winnowref06_New.pl Try.f39 (Try.f39.body.getD .skip) 1 = true := by kernel_rfl
theorem M.winnowref06_New.calls (a0 : Value) {w : World} {K : KV} (h : M.winnowref06_New a0 w K) : callT P F.winnowref06_New [a0] w K :=
  callT_of_den (by kernel_rfl) Try.func39 (by kernel_rfl) M.winnowref06_New.ok (M.winnowref06_New.eq a0 w K ▸ h)
theorem M.winnowref06_New.fcall (args : List Value) (w : World) (K : KV) : fcallT P F.winnowref06_New args w K = callT P F.winnowref06_New args w K := fcallT_eq Try.func39 (by kernel_rfl) (by kernel_rfl) args w K

/-- winnow/winnowlaw06.one -/
def M.winnowlaw06_one (a0 a1 a2 : Value) (w : World) (K : KV) : Prop :=
  boxT P T.winnowlaw06_Op a2 w fun t5 w =>
  joinT (fun K0 =>
  faT P T.winnowlaw06_Op t5 0 w fun t7 w =>
  ldT P T.int t7 w fun t8 w =>
  binT P .eql T.int (.tmp 8) (.const (.int .i64 0)) t8 (.int .i64 0) w fun t10 w =>
  condT t10 (
  drawT w fun w =>
  w = w ∧ quietT (fun K' => faT P T.winnowlaw06_Op t5 1 w K') w fun t12 =>
  quietT (fun K' => ldT P T.int t12 w K') w fun t13 =>
  quietT (fun K' => faT P T.winnowlaw06_Op t5 3 w K') w fun t14 =>
  quietT (fun K' => ldT P T.sl_uint8 t14 w K') w fun t15 =>
  w = w ∧ quietT (fun K' => faT P T.winnowlaw06_Op t5 1 w K') w fun t18 =>
  quietT (fun K' => ldT P T.int t18 w K') w fun t19 =>
  quietT (fun K' => faT P T.winnowlaw06_Op t5 3 w K') w fun t20 =>
  quietT (fun K' => ldT P T.sl_uint8 t20 w K') w fun t21 =>
  fcallT P F.pdisk_Disk_Append [a0, t13, t15] w fun t16 w =>
  stabT (fun K' => ldT P T.sl_uint8 t20 w K') w t21 ∧ stabT (fun K' => faT P T.winnowlaw06_Op t5 3 w K') w t20 ∧ stabT (fun K' => ldT P T.int t18 w K') w t19 ∧ stabT (fun K' => faT P T.winnowlaw06_Op t5 1 w K') w t18 ∧ stabT (fun K' => K' a1 w) w a1 ∧ fcallT P F.pwinnowref06_Disk_Append [a1, t19, t21] w fun t22 w =>
  quietT (fun K' => binT P .eql T.api_Kind (.tmp 16) (.tmp 22) t16 t22 w K') w fun t23 =>
  K t23 w) (
  binT P .eql T.int (.tmp 8) (.const (.int .i64 1)) t8 (.int .i64 1) w fun t25 w =>
  condT t25 (
  drawT w fun w =>
  w = w ∧ quietT (fun K' => faT P T.winnowlaw06_Op t5 1 w K') w fun t27 =>
  quietT (fun K' => ldT P T.int t27 w K') w fun t28 =>
  w = w ∧ quietT (fun K' => faT P T.winnowlaw06_Op t5 1 w K') w fun t31 =>
  quietT (fun K' => ldT P T.int t31 w K') w fun t32 =>
  fcallT P F.pdisk_Disk_Sync [a0, t28] w fun t29 w =>
  stabT (fun K' => ldT P T.int t31 w K') w t32 ∧ stabT (fun K' => faT P T.winnowlaw06_Op t5 1 w K') w t31 ∧ stabT (fun K' => K' a1 w) w a1 ∧ fcallT P F.pwinnowref06_Disk_Sync [a1, t32] w fun t33 w =>
  quietT (fun K' => binT P .eql T.api_Kind (.tmp 29) (.tmp 33) t29 t33 w K') w fun t34 =>
  K t34 w) (
  binT P .eql T.int (.tmp 8) (.const (.int .i64 2)) t8 (.int .i64 2) w fun t36 w =>
  condT t36 (
  drawT w fun w =>
  w = w ∧ quietT (fun K' => faT P T.winnowlaw06_Op t5 1 w K') w fun t38 =>
  quietT (fun K' => ldT P T.int t38 w K') w fun t39 =>
  quietT (fun K' => faT P T.winnowlaw06_Op t5 2 w K') w fun t40 =>
  quietT (fun K' => ldT P T.int t40 w K') w fun t41 =>
  w = w ∧ quietT (fun K' => faT P T.winnowlaw06_Op t5 1 w K') w fun t44 =>
  quietT (fun K' => ldT P T.int t44 w K') w fun t45 =>
  quietT (fun K' => faT P T.winnowlaw06_Op t5 2 w K') w fun t46 =>
  quietT (fun K' => ldT P T.int t46 w K') w fun t47 =>
  fcallT P F.pdisk_Disk_Cut [a0, t39, t41] w fun t42 w =>
  stabT (fun K' => ldT P T.int t46 w K') w t47 ∧ stabT (fun K' => faT P T.winnowlaw06_Op t5 2 w K') w t46 ∧ stabT (fun K' => ldT P T.int t44 w K') w t45 ∧ stabT (fun K' => faT P T.winnowlaw06_Op t5 1 w K') w t44 ∧ stabT (fun K' => K' a1 w) w a1 ∧ fcallT P F.pwinnowref06_Disk_Cut [a1, t45, t47] w fun t48 w =>
  quietT (fun K' => binT P .eql T.api_Kind (.tmp 42) (.tmp 48) t42 t48 w K') w fun t49 =>
  K t49 w) (
  binT P .eql T.int (.tmp 8) (.const (.int .i64 3)) t8 (.int .i64 3) w fun t51 w =>
  condT t51 (
  drawT w fun w =>
  w = w ∧ quietT (fun K' => faT P T.winnowlaw06_Op t5 1 w K') w fun t53 =>
  quietT (fun K' => ldT P T.int t53 w K') w fun t54 =>
  w = w ∧ quietT (fun K' => faT P T.winnowlaw06_Op t5 1 w K') w fun t57 =>
  quietT (fun K' => ldT P T.int t57 w K') w fun t58 =>
  fcallT P F.pdisk_Disk_Remove [a0, t54] w fun t55 w =>
  stabT (fun K' => ldT P T.int t57 w K') w t58 ∧ stabT (fun K' => faT P T.winnowlaw06_Op t5 1 w K') w t57 ∧ stabT (fun K' => K' a1 w) w a1 ∧ fcallT P F.pwinnowref06_Disk_Remove [a1, t58] w fun t59 w =>
  quietT (fun K' => binT P .eql T.api_Kind (.tmp 55) (.tmp 59) t55 t59 w K') w fun t60 =>
  K t60 w) (
  binT P .eql T.int (.tmp 8) (.const (.int .i64 4)) t8 (.int .i64 4) w fun t62 w =>
  condT t62 (
  faT P T.winnowlaw06_Op t5 2 w fun t64 w =>
  ldT P T.int t64 w fun t65 w =>
  fcallT P F.pdisk_Disk_Arm [a0, t65] w fun t66 w =>
  faT P T.winnowlaw06_Op t5 2 w fun t68 w =>
  ldT P T.int t68 w fun t69 w =>
  fcallT P F.pwinnowref06_Disk_Arm [a1, t69] w fun t70 w =>
  K0 [t10, (.bool false), t25, t36, t51, t62, undef] w) (
  binT P .eql T.int (.tmp 8) (.const (.int .i64 5)) t8 (.int .i64 5) w fun t72 w =>
  condT t72 (
  faT P T.winnowlaw06_Op t5 4 w fun t74 w =>
  ldT P T.sl_int t74 w fun t75 w =>
  fcallT P F.pdisk_Disk_Crash [a0, t75] w fun t76 w =>
  faT P T.winnowlaw06_Op t5 4 w fun t78 w =>
  ldT P T.sl_int t78 w fun t79 w =>
  fcallT P F.pwinnowref06_Disk_Crash [a1, t79] w fun t80 w =>
  K0 [t10, (.bool false), t25, t36, t51, t62, t72] w) (
  K0 [t10, (.bool false), t25, t36, t51, t62, t72] w))))))) fun x0 w =>
  K (.bool true) w
def M.winnowlaw06_one.L : List Nat := [0, 1, 2, 6, 9, 24, 35, 50, 61, 71]
def M.winnowlaw06_one.pl : Nat → Plan := fun id => cond (Nat.beq id 3) ⟨(.go 0 (.go 1 (.go 2 (.go 3 (.go 4 (.go 6 (.go 7 (.go 8 (.go 9 (.go 10 (.eff 5 (.eff 11 (.go 12 (.eff 13 .nil .stop)) .stop) .stop))))))))))), [5, 11, 13], false⟩ (cond (Nat.beq id 5) ⟨(.go 0 (.go 1 (.go 2 (.go 4 (.go 5 (.go 6 (.eff 3 (.eff 7 (.go 8 (.eff 9 .nil .stop)) .stop) .stop))))))), [3, 7, 9], false⟩ (cond (Nat.beq id 7) ⟨(.go 0 (.go 1 (.go 2 (.go 3 (.go 4 (.go 6 (.go 7 (.go 8 (.go 9 (.go 10 (.eff 5 (.eff 11 (.go 12 (.eff 13 .nil .stop)) .stop) .stop))))))))))), [5, 11, 13], false⟩ (cond (Nat.beq id 9) ⟨(.go 0 (.go 1 (.go 2 (.go 4 (.go 5 (.go 6 (.eff 3 (.eff 7 (.go 8 (.eff 9 .nil .stop)) .stop) .stop))))))), [3, 7, 9], false⟩ (⟨.nil, [], false⟩))))
theorem M.winnowlaw06_one.eq (a0 a1 a2 : Value) (w : World) (K : KV) : M.winnowlaw06_one a0 a1 a2 w K = den P M.winnowlaw06_one.L M.winnowlaw06_one.pl (Try.f40.body.getD .skip) (argE [a0, a1, a2]) w (bodyQ P Try.f40.results.toList K) := by kernel_rfl
theorem M.winnowlaw06_one.ok : okFn M.winnowlaw06_one.L M.winnowlaw06_one.pl Try.f40 (Try.f40.body.getD .skip) 3 = true := by kernel_rfl
theorem M.winnowlaw06_one.calls (a0 a1 a2 : Value) {w : World} {K : KV} (h : M.winnowlaw06_one a0 a1 a2 w K) : callT P F.winnowlaw06_one [a0, a1, a2] w K :=
  callT_of_den (by kernel_rfl) Try.func40 (by kernel_rfl) M.winnowlaw06_one.ok (M.winnowlaw06_one.eq a0 a1 a2 w K ▸ h)
theorem M.winnowlaw06_one.fcall (args : List Value) (w : World) (K : KV) : fcallT P F.winnowlaw06_one args w K = callT P F.winnowlaw06_one args w K := fcallT_eq Try.func40 (by kernel_rfl) (by kernel_rfl) args w K

def M.winnowlaw06_Same.j3 (a0 : Value) (x2 : List Value) (a1 : Value) (K2 : KL) (w : World) (K : KV) : Prop :=
  joinT (fun K4 =>
  fcallT P F.pdisk_Disk_Read [a0, (gv x2 5)] w fun t39 w =>
  exT P t39 0 w fun t40 w =>
  exT P t39 1 w fun t41 w =>
  fcallT P F.pwinnowref06_Disk_Read [a1, (gv x2 5)] w fun t45 w =>
  exT P t45 0 w fun t46 w =>
  exT P t45 1 w fun t47 w =>
  binT P .neq T.api_Kind (.tmp 48) (.tmp 49) t41 t47 w fun t50 w =>
  guardT (isB t50 false) (fun K' => K' t40 w) w fun t52 w =>
  guardT (isB t50 false) (fun K' => K' t46 w) w fun t53 w =>
  guardT (isB t50 false) (fun K' => fcallT P F.winnowref01_Same [t52, t53] w K') w fun t54 w =>
  guardT (isB t50 false) (fun K' => unT P .not t54 w K') w fun t55 w =>
  pickT t50 (.bool true) t55 w fun t56 w =>
  condT t56 (
  K (.bool false) w) (
  K4 [t40, t41, t46, t47, (gv x2 4)] w)) fun x4 w =>
  binT P .add T.int (.tmp 34) (.const (.int .i64 1)) (gv x2 5) (.int .i64 1) w fun t35 w =>
  K2 [(gv x4 0), (gv x4 1), (gv x4 2), (gv x4 3), (gv x4 4), t35] w
def M.winnowlaw06_Same.j2 (x2 : List Value) (K1 : KL) (a0 : Value) (a1 : Value) (K2 : KL) (w : World) (K : KV) : Prop :=
  joinT (fun K3 =>
  binT P .leq T.int (.tmp 32) (.const (.int .i64 64)) (gv x2 5) (.int .i64 64) w fun t33 w =>
  condT t33 (
  K3 [] w) (
  K1 [(gv x2 5), (gv x2 0), (gv x2 1), (gv x2 2), (gv x2 3), (gv x2 4)] w)) fun x3 w =>
  M.winnowlaw06_Same.j3 a0 x2 a1 K2 w K
/-- winnow/winnowlaw06.Same -/
def M.winnowlaw06_Same (a0 a1 : Value) (w : World) (K : KV) : Prop :=
  joinT (fun K0 =>
  drawT w fun w =>
  w = w ∧ w = w ∧ fcallT P F.pdisk_Disk_Files [a0] w fun t11 w =>
  stabT (fun K' => K' a1 w) w a1 ∧ fcallT P F.pwinnowref06_Disk_Files [a1] w fun t13 w =>
  fcallT P F.winnowlaw06_ints [t11, t13] w fun t14 w =>
  quietT (fun K' => unT P .not t14 w K') w fun t15 =>
  w = w ∧ quietT (fun K' => guardT (isB t15 false) (fun K' => K' a0 w) w K') w fun t17 =>
  quietT (fun K' => guardT (isB t15 false) (fun K' => K' a1 w) w K') w fun t19 =>
  guardT (isB t15 false) (fun K' => fcallT P F.pdisk_Disk_Used [t17] w K') w fun t18 w =>
  stabT (fun K' => guardT (isB t15 false) (fun K' => K' a1 w) w K') w t19 ∧ guardT (isB t15 false) (fun K' => fcallT P F.pwinnowref06_Disk_Used [t19] w K') w fun t20 w =>
  quietT (fun K' => guardT (isB t15 false) (fun K' => binT P .neq T.int (.tmp 18) (.tmp 20) t18 t20 w K') w K') w fun t21 =>
  quietT (fun K' => pickT t15 (.bool true) t21 w K') w fun t22 =>
  w = w ∧ quietT (fun K' => guardT (isB t22 false) (fun K' => K' a0 w) w K') w fun t24 =>
  quietT (fun K' => guardT (isB t22 false) (fun K' => K' a1 w) w K') w fun t26 =>
  quietT (fun K' => guardT (isB t22 false) (fun K' => nilT t26 w K') w K') w fun t27 =>
  quietT (fun K' => guardT (isB t22 false) (fun K' => faT P T.winnowref06_Disk t27 3 w K') w K') w fun t28 =>
  quietT (fun K' => guardT (isB t22 false) (fun K' => ldT P T.bool t28 w K') w K') w fun t29 =>
  guardT (isB t22 false) (fun K' => fcallT P F.pdisk_Disk_Down [t24] w K') w fun t25 w =>
  stabT (fun K' => guardT (isB t22 false) (fun K' => ldT P T.bool t28 w K') w K') w t29 ∧ stabT (fun K' => guardT (isB t22 false) (fun K' => faT P T.winnowref06_Disk t27 3 w K') w K') w t28 ∧ stabT (fun K' => guardT (isB t22 false) (fun K' => nilT t26 w K') w K') w t27 ∧ stabT (fun K' => guardT (isB t22 false) (fun K' => K' a1 w) w K') w t26 ∧ quietT (fun K' => guardT (isB t22 false) (fun K' => binT P .neq T.bool (.tmp 25) (.tmp 29) t25 t29 w K') w K') w fun t30 =>
  quietT (fun K' => pickT t22 (.bool true) t30 w K') w fun t31 =>
  condT t31 (
  K (.bool false) w) (
  K0 [(.bool false)] w)) fun x0 w =>
  joinT (fun K1 =>
  loopT [undef, undef, undef, undef, (gv x0 0), (.int .i64 (-1))] w fun K2 x2 w =>
  M.winnowlaw06_Same.j2 x2 K1 a0 a1 K2 w K) fun x1 w =>
  K (.bool true) w
def M.winnowlaw06_Same.L : List Nat := [0, 1, 4, 5, 6, 7, 8, 9]
def M.winnowlaw06_Same.pl : Nat → Plan := fun id => cond (Nat.beq id 1) ⟨(.go 0 (.go 2 (.eff 1 (.eff 3 (.eff 4 (.go 5 (.go 6 (.go 7 (.go 9 (.eff 8 (.eff 10 (.go 11 (.go 12 (.go 13 (.go 14 (.go 16 (.go 17 (.go 18 (.go 19 (.eff 15 (.go 20 (.go 21 .nil)) .stop))))))))) .stop) .stop))))) .stop) .stop) .stop))), [1, 3, 4, 8, 10, 15], false⟩ (⟨.nil, [], false⟩)
theorem M.winnowlaw06_Same.eq (a0 a1 : Value) (w : World) (K : KV) : M.winnowlaw06_Same a0 a1 w K = den P M.winnowlaw06_Same.L M.winnowlaw06_Same.pl (Try.f41.body.getD .skip) (argE [a0, a1]) w (bodyQ P Try.f41.results.toList K) := by kernel_rfl
theorem M.winnowlaw06_Same.ok : okFn M.winnowlaw06_Same.L M.winnowlaw06_Same.pl Try.f41 (Try.f41.body.getD .skip) 2 = true := by kernel_rfl
theorem M.winnowlaw06_Same.calls (a0 a1 : Value) {w : World} {K : KV} (h : M.winnowlaw06_Same a0 a1 w K) : callT P F.winnowlaw06_Same [a0, a1] w K :=
  callT_of_den (by kernel_rfl) Try.func41 (by kernel_rfl) M.winnowlaw06_Same.ok (M.winnowlaw06_Same.eq a0 a1 w K ▸ h)
theorem M.winnowlaw06_Same.fcall (args : List Value) (w : World) (K : KV) : fcallT P F.winnowlaw06_Same args w K = callT P F.winnowlaw06_Same args w K := fcallT_eq Try.func41 (by kernel_rfl) (by kernel_rfl) args w K

def M.pdisk_Disk_Cut.j1 (t20 : Value) (a2 : Value) (t14 : Value) (w : World) (K : KV) : Prop :=
  slT P T.sl_uint8 t20 none (some a2) none w fun t33 w =>
  nilT t14 w fun t34 w =>
  faT P T.disk_file t34 0 w fun t35 w =>
  stT P T.sl_uint8 t35 t33 w fun _ w =>
  nilT t14 w fun t36 w =>
  faT P T.disk_file t36 1 w fun t37 w =>
  stT P T.sl_uint8 t37 (.slice none 0 0) w fun _ w =>
  K (.int .i64 0) w
def M.pdisk_Disk_Cut.j0 (t14 : Value) (a2 : Value) (x0 : List Value) (w : World) (K : KV) : Prop :=
  fcallT P F.pdisk_file_all [t14] w fun t20 w =>
  joinT (fun K1 =>
  binT P .lss T.int (.tmp 21) (.const (.int .i64 0)) a2 (.int .i64 0) w fun t22 w =>
  guardT (isB t22 false) (fun K' => K' a2 w) w fun t24 w =>
  guardT (isB t22 false) (fun K' => K' t20 w) w fun t25 w =>
  guardT (isB t22 false) (fun K' => biT P .len #[T.sl_uint8] T.int [false] [t25] w K') w fun t26 w =>
  guardT (isB t22 false) (fun K' => binT P .gtr T.int (.tmp 24) (.tmp 26) t24 t26 w K') w fun t27 w =>
  pickT t22 (.bool true) t27 w fun t28 w =>
  condT t28 (
  K (.int .i64 1) w) (
  K1 [(gv x0 0)] w)) fun x1 w =>
  M.pdisk_Disk_Cut.j1 t20 a2 t14 w K
/-- (*winnow/disk.Disk).Cut -/
def M.pdisk_Disk_Cut (a0 a1 a2 : Value) (w : World) (K : KV) : Prop :=
  fcallT P F.pdisk_Disk_find [a0, a1] w fun t13 w =>
  exT P t13 0 w fun t14 w =>
  exT P t13 1 w fun t15 w =>
  joinT (fun K0 =>
  binT P .neq T.api_Kind (.tmp 16) (.const (.int .i64 0)) t15 (.int .i64 0) w fun t17 w =>
  condT t17 (
  K t15 w) (
  K0 [(.int .i64 0)] w)) fun x0 w =>
  M.pdisk_Disk_Cut.j0 t14 a2 x0 w K
def M.pdisk_Disk_Cut.L : List Nat := [0, 1, 2, 6, 7, 8, 9]
def M.pdisk_Disk_Cut.pl : Nat → Plan := fun id => ⟨.nil, [], false⟩
theorem M.pdisk_Disk_Cut.eq (a0 a1 a2 : Value) (w : World) (K : KV) : M.pdisk_Disk_Cut a0 a1 a2 w K = den P M.pdisk_Disk_Cut.L M.pdisk_Disk_Cut.pl (Try.f42.body.getD .skip) (argE [a0, a1, a2]) w (bodyQ P Try.f42.results.toList K) := by kernel_rfl
theorem M.pdisk_Disk_Cut.ok : okFn M.pdisk_Disk_Cut.L M.pdisk_Disk_Cut.pl Try.f42 (Try.f42.body.getD .skip) 3 = true := by kernel_rfl
theorem M.pdisk_Disk_Cut.calls (a0 a1 a2 : Value) {w : World} {K : KV} (h : M.pdisk_Disk_Cut a0 a1 a2 w K) : callT P F.pdisk_Disk_Cut [a0, a1, a2] w K :=
  callT_of_den (by kernel_rfl) Try.func42 (by kernel_rfl) M.pdisk_Disk_Cut.ok (M.pdisk_Disk_Cut.eq a0 a1 a2 w K ▸ h)
theorem M.pdisk_Disk_Cut.fcall (args : List Value) (w : World) (K : KV) : fcallT P F.pdisk_Disk_Cut args w K = callT P F.pdisk_Disk_Cut args w K := fcallT_eq Try.func42 (by kernel_rfl) (by kernel_rfl) args w K

def M.pbuffer_Buffer_Traces.j0 (a0 : Value) (w : World) (K : KV) : Prop :=
  nilT a0 w fun t6 w =>
  faT P T.buffer_Buffer t6 4 w fun t7 w =>
  ldT P T.map_uint64_p_buffer_entry t7 w fun t8 w =>
  fcallT P F.maps_Keys_map_uint64_buffer_entry_uint64_buffer_entry [t8] w fun t9 w =>
  fcallT P F.slices_Sorted_uint64 [t9] w fun t10 w =>
  K t10 w
/-- (*winnow/buffer.Buffer).Traces -/
def M.pbuffer_Buffer_Traces (a0 : Value) (w : World) (K : KV) : Prop :=
  joinT (fun K0 =>
  binT P .eql T.p_buffer_Buffer (.tmp 3) (.const (.pointer none)) a0 (.pointer none) w fun t4 w =>
  condT t4 (
  K (.slice none 0 0) w) (
  K0 [(.slice none 0 0)] w)) fun x0 w =>
  M.pbuffer_Buffer_Traces.j0 a0 w K
def M.pbuffer_Buffer_Traces.L : List Nat := [0, 2]
def M.pbuffer_Buffer_Traces.pl : Nat → Plan := fun id => ⟨.nil, [], false⟩
theorem M.pbuffer_Buffer_Traces.eq (a0 : Value) (w : World) (K : KV) : M.pbuffer_Buffer_Traces a0 w K = den P M.pbuffer_Buffer_Traces.L M.pbuffer_Buffer_Traces.pl (Try.f43.body.getD .skip) (argE [a0]) w (bodyQ P Try.f43.results.toList K) := by kernel_rfl
theorem M.pbuffer_Buffer_Traces.ok : okFn M.pbuffer_Buffer_Traces.L M.pbuffer_Buffer_Traces.pl Try.f43 (Try.f43.body.getD .skip) 1 = true := by kernel_rfl
theorem M.pbuffer_Buffer_Traces.calls (a0 : Value) {w : World} {K : KV} (h : M.pbuffer_Buffer_Traces a0 w K) : callT P F.pbuffer_Buffer_Traces [a0] w K :=
  callT_of_den (by kernel_rfl) Try.func43 (by kernel_rfl) M.pbuffer_Buffer_Traces.ok (M.pbuffer_Buffer_Traces.eq a0 w K ▸ h)
theorem M.pbuffer_Buffer_Traces.fcall (args : List Value) (w : World) (K : KV) : fcallT P F.pbuffer_Buffer_Traces args w K = callT P F.pbuffer_Buffer_Traces args w K := fcallT_eq Try.func43 (by kernel_rfl) (by kernel_rfl) args w K

def M.winnowlaw16_light.j3 (a0 : Value) (x2 : List Value) (K2 : KL) (w : World) (K : KV) : Prop :=
  joinT (fun K4 =>
  iaT P T.sl_winnowlaw16_Op a0 (gv x2 1) w fun t15 w =>
  faT P T.winnowlaw16_Op t15 1 w fun t16 w =>
  faT P T.api_Span t16 6 w fun t17 w =>
  ldT P T.string t17 w fun t18 w =>
  biT P .len #[T.string] T.int [false] [t18] w fun t19 w =>
  binT P .gtr T.int (.tmp 19) (.const (.int .i64 200)) t19 (.int .i64 200) w fun t20 w =>
  guardT (isB t20 false) (fun K' => K' a0 w) w fun t22 w =>
  guardT (isB t20 false) (fun K' => K' (gv x2 1) w) w fun t23 w =>
  guardT (isB t20 false) (fun K' => iaT P T.sl_winnowlaw16_Op t22 t23 w K') w fun t24 w =>
  guardT (isB t20 false) (fun K' => faT P T.winnowlaw16_Op t24 1 w K') w fun t25 w =>
  guardT (isB t20 false) (fun K' => faT P T.api_Span t25 5 w K') w fun t26 w =>
  guardT (isB t20 false) (fun K' => ldT P T.string t26 w K') w fun t27 w =>
  guardT (isB t20 false) (fun K' => biT P .len #[T.string] T.int [false] [t27] w K') w fun t28 w =>
  guardT (isB t20 false) (fun K' => binT P .gtr T.int (.tmp 28) (.const (.int .i64 200)) t28 (.int .i64 200) w K') w fun t29 w =>
  pickT t20 (.bool true) t29 w fun t30 w =>
  condT t30 (
  K (.bool false) w) (
  K4 [(gv x2 0)] w)) fun x4 w =>
  binT P .add T.int (.tmp 11) (.const (.int .i64 1)) (gv x2 1) (.int .i64 1) w fun t12 w =>
  K2 [(gv x4 0), t12] w
def M.winnowlaw16_light.j0 (x0 : List Value) (a0 : Value) (w : World) (K : KV) : Prop :=
  joinT (fun K1 =>
  loopT [(gv x0 0), (.int .i64 0)] w fun K2 x2 w =>
  joinT (fun K3 =>
  biT P .len #[T.sl_winnowlaw16_Op] T.int [false] [a0] w fun t9 w =>
  binT P .lss T.int (.tmp 7) (.tmp 9) (gv x2 1) t9 w fun t10 w =>
  condT t10 (
  K3 [] w) (
  K1 [(gv x2 1), (gv x2 0)] w)) fun x3 w =>
  M.winnowlaw16_light.j3 a0 x2 K2 w K) fun x1 w =>
  K (.bool true) w
/-- winnow/winnowlaw16.light -/
def M.winnowlaw16_light (a0 : Value) (w : World) (K : KV) : Prop :=
  joinT (fun K0 =>
  biT P .len #[T.sl_winnowlaw16_Op] T.int [false] [a0] w fun t5 w =>
  binT P .gtr T.int (.tmp 5) (.const (.int .i64 200)) t5 (.int .i64 200) w fun t6 w =>
  condT t6 (
  K (.bool false) w) (
  K0 [(.bool false)] w)) fun x0 w =>
  M.winnowlaw16_light.j0 x0 a0 w K
def M.winnowlaw16_light.L : List Nat := [0, 2, 3]
def M.winnowlaw16_light.pl : Nat → Plan := fun id => ⟨.nil, [], false⟩
theorem M.winnowlaw16_light.eq (a0 : Value) (w : World) (K : KV) : M.winnowlaw16_light a0 w K = den P M.winnowlaw16_light.L M.winnowlaw16_light.pl (Try.f44.body.getD .skip) (argE [a0]) w (bodyQ P Try.f44.results.toList K) := by kernel_rfl
theorem M.winnowlaw16_light.ok : okFn M.winnowlaw16_light.L M.winnowlaw16_light.pl Try.f44 (Try.f44.body.getD .skip) 1 = true := by kernel_rfl
theorem M.winnowlaw16_light.calls (a0 : Value) {w : World} {K : KV} (h : M.winnowlaw16_light a0 w K) : callT P F.winnowlaw16_light [a0] w K :=
  callT_of_den (by kernel_rfl) Try.func44 (by kernel_rfl) M.winnowlaw16_light.ok (M.winnowlaw16_light.eq a0 w K ▸ h)
theorem M.winnowlaw16_light.fcall (args : List Value) (w : World) (K : KV) : fcallT P F.winnowlaw16_light args w K = callT P F.winnowlaw16_light args w K := fcallT_eq Try.func44 (by kernel_rfl) (by kernel_rfl) args w K

/-- winnow/winnowref16.New -/
def M.winnowref16_New (a0 a1 a2 : Value) (w : World) (K : KV) : Prop :=
  joinT (fun K0 =>
  binT P .lss T.int (.tmp 7) (.const (.int .i64 1)) a0 (.int .i64 1) w fun t8 w =>
  guardT (isB t8 false) (fun K' => K' a0 w) w fun t10 w =>
  guardT (isB t8 false) (fun K' => binT P .gtr T.int (.tmp 10) (.const (.int .i64 64)) t10 (.int .i64 64) w K') w fun t11 w =>
  pickT t8 (.bool true) t11 w fun t12 w =>
  guardT (isB t12 false) (fun K' => K' a1 w) w fun t14 w =>
  guardT (isB t12 false) (fun K' => binT P .lss T.int (.tmp 14) (.const (.int .i64 1)) t14 (.int .i64 1) w K') w fun t15 w =>
  pickT t12 (.bool true) t15 w fun t16 w =>
  guardT (isB t16 false) (fun K' => K' a1 w) w fun t18 w =>
  guardT (isB t16 false) (fun K' => binT P .gtr T.int (.tmp 18) (.const (.int .i64 16)) t18 (.int .i64 16) w K') w fun t19 w =>
  pickT t16 (.bool true) t19 w fun t20 w =>
  guardT (isB t20 false) (fun K' => K' a2 w) w fun t22 w =>
  guardT (isB t20 false) (fun K' => binT P .gtr T.uint64 (.tmp 22) (.const (.int .u64 1099511627776)) t22 (.int .u64 1099511627776) w K') w fun t23 w =>
  pickT t20 (.bool true) t23 w fun t24 w =>
  condT t24 (
  K (.pointer none) w) (
  K0 [(.pointer none)] w)) fun x0 w =>
  bldT P T.winnowref16_Buffer #[(0, a0), (1, a1), (2, a2)] w fun t28 w =>
  boxT P T.winnowref16_Buffer t28 w fun t29 w =>
  K t29 w
def M.winnowref16_New.L : List Nat := [0, 1, 2, 6]
def M.winnowref16_New.pl : Nat → Plan := fun id => ⟨.nil, [], false⟩
theorem M.winnowref16_New.eq (a0 a1 a2 : Value) (w : World) (K : KV) : M.winnowref16_New a0 a1 a2 w K = den P M.winnowref16_New.L M.winnowref16_New.pl (Try.f45.body.getD .skip) (argE [a0, a1, a2]) w (bodyQ P Try.f45.results.toList K) := by kernel_rfl
theorem M.winnowref16_New.ok : okFn M.winnowref16_New.L M.winnowref16_New.pl Try.f45 (Try.f45.body.getD .skip) 3 = true := by kernel_rfl
theorem M.winnowref16_New.calls (a0 a1 a2 : Value) {w : World} {K : KV} (h : M.winnowref16_New a0 a1 a2 w K) : callT P F.winnowref16_New [a0, a1, a2] w K :=
  callT_of_den (by kernel_rfl) Try.func45 (by kernel_rfl) M.winnowref16_New.ok (M.winnowref16_New.eq a0 a1 a2 w K ▸ h)
theorem M.winnowref16_New.fcall (args : List Value) (w : World) (K : KV) : fcallT P F.winnowref16_New args w K = callT P F.winnowref16_New args w K := fcallT_eq Try.func45 (by kernel_rfl) (by kernel_rfl) args w K

end Go.Proofs.Ytgcpljghnlohbaa
