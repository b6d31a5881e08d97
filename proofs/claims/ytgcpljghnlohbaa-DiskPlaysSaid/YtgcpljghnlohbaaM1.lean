/-
  Printed by wip/Shallow.lean: functions of the program, read shallow; each is what its code does. No condition.
-/
import Derived.Test.YtgcpljghnlohbaaN
set_option maxRecDepth 1000000
namespace Go.Proofs.Ytgcpljghnlohbaa
open Go.Eng

def M.winnowlaw06_Same.j3 (a0 : Value) (x2 : List Value) (a1 : Value) (K2 : KL) (w : World) (K : KV) : Prop :=
  joinT (fun K4 =>
  fcallT P F.pdisk_Disk_Read [a0, (gv x2 5)] w fun t39 w =>
  exT P t39 0 w fun t40 w =>
  exT P t39 1 w fun t41 w =>
  fcallT P F.pwinnowref06_Disk_Read [a1, (gv x2 5)] w fun t45 w =>
  exT P t45 0 w fun t46 w =>
  exT P t45 1 w fun t47 w =>
  binT P .neq T.api_Kind (.tmp 48) (.tmp 49) t41 t47 w fun t50 w =>
  guardT (isB t50 false) (fun K' => K' t40 w) w fun t52 w =>
  guardT (isB t50 false) (fun K' => K' t46 w) w fun t53 w =>
  guardT (isB t50 false) (fun K' => fcallT P F.winnowref01_Same [t52, t53] w K') w fun t54 w =>
  guardT (isB t50 false) (fun K' => unT P .not t54 w K') w fun t55 w =>
  pickT t50 (.bool true) t55 w fun t56 w =>
  condT t56 (
  K (.bool false) w) (
  K4 [t40, t41, t46, t47, (gv x2 4)] w)) fun x4 w =>
  binT P .add T.int (.tmp 34) (.const (.int .i64 1)) (gv x2 5) (.int .i64 1) w fun t35 w =>
  K2 [(gv x4 0), (gv x4 1), (gv x4 2), (gv x4 3), (gv x4 4), t35] w
def M.winnowlaw06_Same.j2 (x2 : List Value) (K1 : KL) (a0 : Value) (a1 : Value) (K2 : KL) (w : World) (K : KV) : Prop :=
  joinT (fun K3 =>
  binT P .leq T.int (.tmp 32) (.const (.int .i64 64)) (gv x2 5) (.int .i64 64) w fun t33 w =>
  condT t33 (
  K3 [] w) (
  K1 [(gv x2 5), (gv x2 0), (gv x2 1), (gv x2 2), (gv x2 3), (gv x2 4)] w)) fun x3 w =>
  M.winnowlaw06_Same.j3 a0 x2 a1 K2 w K
/-- winnow/winnowlaw06.Same -/
def M.winnowlaw06_Same (a0 a1 : Value) (w : World) (K : KV) : Prop :=
  joinT (fun K0 =>
  drawT w fun w =>
  w = w ∧ w = w ∧ fcallT P F.pdisk_Disk_Files [a0] w fun t11 w =>
  stabT (fun K' => K' a1 w) w a1 ∧ fcallT P F.pwinnowref06_Disk_Files [a1] w fun t13 w =>
  fcallT P F.winnowlaw06_ints [t11, t13] w fun t14 w =>
  quietT (fun K' => unT P .not t14 w K') w fun t15 =>
  w = w ∧ quietT (fun K' => guardT (isB t15 false) (fun K' => K' a0 w) w K') w fun t17 =>
  quietT (fun K' => guardT (isB t15 false) (fun K' => K' a1 w) w K') w fun t19 =>
  guardT (isB t15 false) (fun K' => fcallT P F.pdisk_Disk_Used [t17] w K') w fun t18 w =>
  stabT (fun K' => guardT (isB t15 false) (fun K' => K' a1 w) w K') w t19 ∧ guardT (isB t15 false) (fun K' => fcallT P F.pwinnowref06_Disk_Used [t19] w K') w fun t20 w =>
  quietT (fun K' => guardT (isB t15 false) (fun K' => binT P .neq T.int (.tmp 18) (.tmp 20) t18 t20 w K') w K') w fun t21 =>
  quietT (fun K' => pickT t15 (.bool true) t21 w K') w fun t22 =>
  w = w ∧ quietT (fun K' => guardT (isB t22 false) (fun K' => K' a0 w) w K') w fun t24 =>
  quietT (fun K' => guardT (isB t22 false) (fun K' => K' a1 w) w K') w fun t26 =>
  quietT (fun K' => guardT (isB t22 false) (fun K' => nilT t26 w K') w K') w fun t27 =>
  quietT (fun K' => guardT (isB t22 false) (fun K' => faT P T.winnowref06_Disk t27 3 w K') w K') w fun t28 =>
  quietT (fun K' => guardT (isB t22 false) (fun K' => ldT P T.bool t28 w K') w K') w fun t29 =>
  guardT (isB t22 false) (fun K' => fcallT P F.pdisk_Disk_Down [t24] w K') w fun t25 w =>
  stabT (fun K' => guardT (isB t22 false) (fun K' => ldT P T.bool t28 w K') w K') w t29 ∧ stabT (fun K' => guardT (isB t22 false) (fun K' => faT P T.winnowref06_Disk t27 3 w K') w K') w t28 ∧ stabT (fun K' => guardT (isB t22 false) (fun K' => nilT t26 w K') w K') w t27 ∧ stabT (fun K' => guardT (isB t22 false) (fun K' => K' a1 w) w K') w t26 ∧ quietT (fun K' => guardT (isB t22 false) (fun K' => binT P .neq T.bool (.tmp 25) (.tmp 29) t25 t29 w K') w K') w fun t30 =>
  quietT (fun K' => pickT t22 (.bool true) t30 w K') w fun t31 =>
  condT t31 (
  K (.bool false) w) (
  K0 [(.bool false)] w)) fun x0 w =>
  joinT (fun K1 =>
  loopT [undef, undef, undef, undef, (gv x0 0), (.int .i64 (-1))] w fun K2 x2 w =>
  M.winnowlaw06_Same.j2 x2 K1 a0 a1 K2 w K) fun x1 w =>
  K (.bool true) w
def M.winnowlaw06_Same.L : List Nat := [0, 1, 4, 5, 6, 7, 8, 9]
def M.winnowlaw06_Same.pl : Nat → Plan := fun id => cond (Nat.beq id 1) ⟨(.go 0 (.go 2 (.eff 1 (.eff 3 (.eff 4 (.go 5 (.go 6 (.go 7 (.go 9 (.eff 8 (.eff 10 (.go 11 (.go 12 (.go 13 (.go 14 (.go 16 (.go 17 (.go 18 (.go 19 (.eff 15 (.go 20 (.go 21 .nil)) .stop))))))))) .stop) .stop))))) .stop) .stop) .stop))), [1, 3, 4, 8, 10, 15], false⟩ (⟨.nil, [], false⟩)
theorem M.winnowlaw06_Same.eq (a0 a1 : Value) (w : World) (K : KV) : M.winnowlaw06_Same a0 a1 w K = den P M.winnowlaw06_Same.L M.winnowlaw06_Same.pl (Try.f41.body.getD .skip) (argE [a0, a1]) w (bodyQ P Try.f41.results.toList K) := by kernel_rfl
theorem M.winnowlaw06_Same.ok : okFn M.winnowlaw06_Same.L M.winnowlaw06_Same.pl Try.f41 (Try.f41.body.getD .skip) 2 = true := by kernel_rfl
theorem M.winnowlaw06_Same.calls (a0 a1 : Value) {w : World} {K : KV} (h : M.winnowlaw06_Same a0 a1 w K) : callT P F.winnowlaw06_Same [a0, a1] w K :=
  callT_of_den (by kernel_rfl) Try.func41 (by kernel_rfl) M.winnowlaw06_Same.ok (M.winnowlaw06_Same.eq a0 a1 w K ▸ h)
theorem M.winnowlaw06_Same.fcall (args : List Value) (w : World) (K : KV) : fcallT P F.winnowlaw06_Same args w K = callT P F.winnowlaw06_Same args w K := fcallT_eq Try.func41 (by kernel_rfl) (by kernel_rfl) args w K
theorem M.winnowlaw06_Same.rcall (a c args : List Value) (w : World) (K : KV) : callRT P (.func (.func F.winnowlaw06_Same) a.toArray c.toArray) args w K = callT P F.winnowlaw06_Same (a ++ args ++ c) w K := callR_fn Try.func41 (by kernel_rfl) (by kernel_rfl) a c args w K

def M.pdisk_Disk_Cut.j1 (t20 : Value) (a2 : Value) (t14 : Value) (w : World) (K : KV) : Prop :=
  slT P T.sl_uint8 t20 none (some a2) none w fun t33 w =>
  nilT t14 w fun t34 w =>
  faT P T.disk_file t34 0 w fun t35 w =>
  stT P T.sl_uint8 t35 t33 w fun _ w =>
  nilT t14 w fun t36 w =>
  faT P T.disk_file t36 1 w fun t37 w =>
  stT P T.sl_uint8 t37 (.slice none 0 0) w fun _ w =>
  K (.int .i64 0) w
def M.pdisk_Disk_Cut.j0 (t14 : Value) (a2 : Value) (x0 : List Value) (w : World) (K : KV) : Prop :=
  fcallT P F.pdisk_file_all [t14] w fun t20 w =>
  joinT (fun K1 =>
  binT P .lss T.int (.tmp 21) (.const (.int .i64 0)) a2 (.int .i64 0) w fun t22 w =>
  guardT (isB t22 false) (fun K' => K' a2 w) w fun t24 w =>
  guardT (isB t22 false) (fun K' => K' t20 w) w fun t25 w =>
  guardT (isB t22 false) (fun K' => biT P .len #[T.sl_uint8] T.int [false] [t25] w K') w fun t26 w =>
  guardT (isB t22 false) (fun K' => binT P .gtr T.int (.tmp 24) (.tmp 26) t24 t26 w K') w fun t27 w =>
  pickT t22 (.bool true) t27 w fun t28 w =>
  condT t28 (
  K (.int .i64 1) w) (
  K1 [(gv x0 0)] w)) fun x1 w =>
  M.pdisk_Disk_Cut.j1 t20 a2 t14 w K
/-- (*winnow/disk.Disk).Cut -/
def M.pdisk_Disk_Cut (a0 a1 a2 : Value) (w : World) (K : KV) : Prop :=
  fcallT P F.pdisk_Disk_find [a0, a1] w fun t13 w =>
  exT P t13 0 w fun t14 w =>
  exT P t13 1 w fun t15 w =>
  joinT (fun K0 =>
  binT P .neq T.api_Kind (.tmp 16) (.const (.int .i64 0)) t15 (.int .i64 0) w fun t17 w =>
  condT t17 (
  K t15 w) (
  K0 [(.int .i64 0)] w)) fun x0 w =>
  M.pdisk_Disk_Cut.j0 t14 a2 x0 w K
def M.pdisk_Disk_Cut.L : List Nat := [0, 1, 2, 6, 7, 8, 9]
def M.pdisk_Disk_Cut.pl : Nat → Plan := fun id => ⟨.nil, [], false⟩
theorem M.pdisk_Disk_Cut.eq (a0 a1 a2 : Value) (w : World) (K : KV) : M.pdisk_Disk_Cut a0 a1 a2 w K = den P M.pdisk_Disk_Cut.L M.pdisk_Disk_Cut.pl (Try.f42.body.getD .skip) (argE [a0, a1, a2]) w (bodyQ P Try.f42.results.toList K) := by kernel_rfl
theorem M.pdisk_Disk_Cut.ok : okFn M.pdisk_Disk_Cut.L M.pdisk_Disk_Cut.pl Try.f42 (Try.f42.body.getD .skip) 3 = true := by kernel_rfl
theorem M.pdisk_Disk_Cut.calls (a0 a1 a2 : Value) {w : World} {K : KV} (h : M.pdisk_Disk_Cut a0 a1 a2 w K) : callT P F.pdisk_Disk_Cut [a0, a1, a2] w K :=
  callT_of_den (by kernel_rfl) Try.func42 (by kernel_rfl) M.pdisk_Disk_Cut.ok (M.pdisk_Disk_Cut.eq a0 a1 a2 w K ▸ h)
theorem M.pdisk_Disk_Cut.fcall (args : List Value) (w : World) (K : KV) : fcallT P F.pdisk_Disk_Cut args w K = callT P F.pdisk_Disk_Cut args w K := fcallT_eq Try.func42 (by kernel_rfl) (by kernel_rfl) args w K
theorem M.pdisk_Disk_Cut.rcall (a c args : List Value) (w : World) (K : KV) : callRT P (.func (.func F.pdisk_Disk_Cut) a.toArray c.toArray) args w K = callT P F.pdisk_Disk_Cut (a ++ args ++ c) w K := callR_fn Try.func42 (by kernel_rfl) (by kernel_rfl) a c args w K

/-- (*winnow/disk.Disk).state -/
def M.pdisk_Disk_state (a0 : Value) (w : World) (K : KV) : Prop :=
  joinT (fun K0 =>
  binT P .eql T.p_disk_Disk (.tmp 4) (.const (.pointer none)) a0 (.pointer none) w fun t5 w =>
  condT t5 (
  K (.int .i64 13) w) (
  nilT a0 w fun t8 w =>
  faT P T.disk_Disk t8 4 w fun t9 w =>
  ldT P T.bool t9 w fun t10 w =>
  condT t10 (
  K (.int .i64 10) w) (
  K0 [t5, (.int .i64 0), t10] w))) fun x0 w =>
  K (.int .i64 0) w
def M.pdisk_Disk_state.L : List Nat := [0, 2, 3, 6]
def M.pdisk_Disk_state.pl : Nat → Plan := fun id => ⟨.nil, [], false⟩
theorem M.pdisk_Disk_state.eq (a0 : Value) (w : World) (K : KV) : M.pdisk_Disk_state a0 w K = den P M.pdisk_Disk_state.L M.pdisk_Disk_state.pl (Try.f66.body.getD .skip) (argE [a0]) w (bodyQ P Try.f66.results.toList K) := by kernel_rfl
theorem M.pdisk_Disk_state.ok : okFn M.pdisk_Disk_state.L M.pdisk_Disk_state.pl Try.f66 (Try.f66.body.getD .skip) 1 = true := by kernel_rfl
theorem M.pdisk_Disk_state.calls (a0 : Value) {w : World} {K : KV} (h : M.pdisk_Disk_state a0 w K) : callT P F.pdisk_Disk_state [a0] w K :=
  callT_of_den (by kernel_rfl) Try.func66 (by kernel_rfl) M.pdisk_Disk_state.ok (M.pdisk_Disk_state.eq a0 w K ▸ h)
theorem M.pdisk_Disk_state.fcall (args : List Value) (w : World) (K : KV) : fcallT P F.pdisk_Disk_state args w K = callT P F.pdisk_Disk_state args w K := fcallT_eq Try.func66 (by kernel_rfl) (by kernel_rfl) args w K
theorem M.pdisk_Disk_state.rcall (a c args : List Value) (w : World) (K : KV) : callRT P (.func (.func F.pdisk_Disk_state) a.toArray c.toArray) args w K = callT P F.pdisk_Disk_state (a ++ args ++ c) w K := callR_fn Try.func66 (by kernel_rfl) (by kernel_rfl) a c args w K

def M.pdisk_Disk_find.j0 (a0 : Value) (a1 : Value) (x0 : List Value) (w : World) (K : KV) : Prop :=
  nilT a0 w fun t14 w =>
  faT P T.disk_Disk t14 1 w fun t15 w =>
  ldT P T.map_int_p_disk_file t15 w fun t16 w =>
  luT P T.map_int_p_disk_file t16 a1 false w fun t18 w =>
  joinT (fun K1 =>
  binT P .eql T.p_disk_file (.tmp 19) (.const (.pointer none)) t18 (.pointer none) w fun t20 w =>
  condT t20 (
  K (.tuple #[(.pointer none), (.int .i64 11)]) w) (
  K1 [(gv x0 1), (gv x0 2)] w)) fun x1 w =>
  K (.tuple #[t18, (.int .i64 0)]) w
/-- (*winnow/disk.Disk).find -/
def M.pdisk_Disk_find (a0 a1 : Value) (w : World) (K : KV) : Prop :=
  joinT (fun K0 =>
  fcallT P F.pdisk_Disk_state [a0] w fun t9 w =>
  binT P .neq T.api_Kind (.tmp 10) (.const (.int .i64 0)) t9 (.int .i64 0) w fun t11 w =>
  condT t11 (
  K (.tuple #[(.pointer none), t9]) w) (
  K0 [t9, (.pointer none), (.int .i64 0)] w)) fun x0 w =>
  M.pdisk_Disk_find.j0 a0 a1 x0 w K
def M.pdisk_Disk_find.L : List Nat := [0, 1, 4, 5, 6, 7]
def M.pdisk_Disk_find.pl : Nat → Plan := fun id => ⟨.nil, [], false⟩
theorem M.pdisk_Disk_find.eq (a0 a1 : Value) (w : World) (K : KV) : M.pdisk_Disk_find a0 a1 w K = den P M.pdisk_Disk_find.L M.pdisk_Disk_find.pl (Try.f67.body.getD .skip) (argE [a0, a1]) w (bodyQ P Try.f67.results.toList K) := by kernel_rfl
theorem M.pdisk_Disk_find.ok : okFn M.pdisk_Disk_find.L M.pdisk_Disk_find.pl Try.f67 (Try.f67.body.getD .skip) 2 = true := by kernel_rfl
theorem M.pdisk_Disk_find.calls (a0 a1 : Value) {w : World} {K : KV} (h : M.pdisk_Disk_find a0 a1 w K) : callT P F.pdisk_Disk_find [a0, a1] w K :=
  callT_of_den (by kernel_rfl) Try.func67 (by kernel_rfl) M.pdisk_Disk_find.ok (M.pdisk_Disk_find.eq a0 a1 w K ▸ h)
theorem M.pdisk_Disk_find.fcall (args : List Value) (w : World) (K : KV) : fcallT P F.pdisk_Disk_find args w K = callT P F.pdisk_Disk_find args w K := fcallT_eq Try.func67 (by kernel_rfl) (by kernel_rfl) args w K
theorem M.pdisk_Disk_find.rcall (a c args : List Value) (w : World) (K : KV) : callRT P (.func (.func F.pdisk_Disk_find) a.toArray c.toArray) args w K = callT P F.pdisk_Disk_find (a ++ args ++ c) w K := callR_fn Try.func67 (by kernel_rfl) (by kernel_rfl) a c args w K

/-- (*winnow/disk.file).all -/
def M.pdisk_file_all (a0 : Value) (w : World) (K : KV) : Prop :=
  drawT w fun w =>
  w = w ∧ quietT (fun K' => nilT a0 w K') w fun t4 =>
  quietT (fun K' => faT P T.disk_file t4 0 w K') w fun t5 =>
  quietT (fun K' => ldT P T.sl_uint8 t5 w K') w fun t6 =>
  w = w ∧ quietT (fun K' => nilT a0 w K') w fun t8 =>
  quietT (fun K' => faT P T.disk_file t8 1 w K') w fun t9 =>
  quietT (fun K' => ldT P T.sl_uint8 t9 w K') w fun t10 =>
  bsT P T.sl_sl_uint8 2 #[(0, t6), (1, t10)] w fun t11 w =>
  fcallT P F.slices_Concat_byte_byte [t11] w fun t12 w =>
  K t12 w
def M.pdisk_file_all.L : List Nat := [0, 2]
def M.pdisk_file_all.pl : Nat → Plan := fun id => cond (Nat.beq id 1) ⟨(.go 0 (.go 1 (.go 2 (.go 3 (.go 4 (.go 5 (.go 6 (.go 7 (.eff 8 (.eff 9 (.eff 10 .nil .stop) .stop) .stop))))))))), [8, 9, 10], false⟩ (⟨.nil, [], false⟩)
theorem M.pdisk_file_all.eq (a0 : Value) (w : World) (K : KV) : M.pdisk_file_all a0 w K = den P M.pdisk_file_all.L M.pdisk_file_all.pl (Try.f68.body.getD .skip) (argE [a0]) w (bodyQ P Try.f68.results.toList K) := by kernel_rfl
theorem M.pdisk_file_all.ok : okFn M.pdisk_file_all.L M.pdisk_file_all.pl Try.f68 (Try.f68.body.getD .skip) 1 = true := by kernel_rfl
theorem M.pdisk_file_all.calls (a0 : Value) {w : World} {K : KV} (h : M.pdisk_file_all a0 w K) : callT P F.pdisk_file_all [a0] w K :=
  callT_of_den (by kernel_rfl) Try.func68 (by kernel_rfl) M.pdisk_file_all.ok (M.pdisk_file_all.eq a0 w K ▸ h)
theorem M.pdisk_file_all.fcall (args : List Value) (w : World) (K : KV) : fcallT P F.pdisk_file_all args w K = callT P F.pdisk_file_all args w K := fcallT_eq Try.func68 (by kernel_rfl) (by kernel_rfl) args w K
theorem M.pdisk_file_all.rcall (a c args : List Value) (w : World) (K : KV) : callRT P (.func (.func F.pdisk_file_all) a.toArray c.toArray) args w K = callT P F.pdisk_file_all (a ++ args ++ c) w K := callR_fn Try.func68 (by kernel_rfl) (by kernel_rfl) a c args w K

def M.slices_Concat_byte_byte.j2 (a0 : Value) (x1 : List Value) (K1 : KL) (w : World) (K : KV) : Prop :=
  joinT (fun K3 =>
  iaT P T.sl_sl_uint8 a0 (gv x1 2) w fun t13 w =>
  ldT P T.sl_uint8 t13 w fun t14 w =>
  biT P .len #[T.sl_uint8] T.int [false] [t14] w fun t17 w =>
  binT P .add T.int (.tmp 15) (.tmp 17) (gv x1 1) t17 w fun t18 w =>
  binT P .lss T.int (.tmp 19) (.const (.int .i64 0)) t18 (.int .i64 0) w fun t20 w =>
  condT t20 (
  mkiT P T.string (.string ⟨#[108, 101, 110, 32, 111, 117, 116, 32, 111, 102, 32, 114, 97, 110, 103, 101]⟩) w fun t21 w =>
  panicT w fun _ w =>
  K3 [t14, t18] w) (
  K3 [t14, t18] w)) fun x3 w =>
  binT P .add T.int (.tmp 11) (.const (.int .i64 1)) (gv x1 2) (.int .i64 1) w fun t22 w =>
  K1 [(gv x3 0), (gv x3 1), t22] w
def M.slices_Concat_byte_byte.j6 (a0 : Value) (x5 : List Value) (K5 : KL) (w : World) (K : KV) : Prop :=
  joinT (fun K7 =>
  iaT P T.sl_sl_uint8 a0 (gv x5 2) w fun t29 w =>
  ldT P T.sl_uint8 t29 w fun t30 w =>
  biT P .append #[T.sl_uint8, T.sl_uint8] T.sl_uint8 [false, false] [(gv x5 1), t30] w fun t33 w =>
  K7 [t30, t33] w) fun x7 w =>
  binT P .add T.int (.tmp 27) (.const (.int .i64 1)) (gv x5 2) (.int .i64 1) w fun t34 w =>
  K5 [(gv x7 0), (gv x7 1), t34] w
def M.slices_Concat_byte_byte.j0 (x0 : List Value) (a0 : Value) (w : World) (K : KV) : Prop :=
  fcallT P F.slices_Grow_byte_byte [(.slice none 0 0), (gv x0 4)] w fun t24 w =>
  joinT (fun K4 =>
  biT P .len #[T.sl_sl_uint8] T.int [false] [a0] w fun t26 w =>
  loopT [undef, t24, (.int .i64 0)] w fun K5 x5 w =>
  binT P .lss T.int (.tmp 27) (.tmp 26) (gv x5 2) t26 w fun t28 w =>
  joinT (fun K6 =>
  condT t28 (
  K6 [] w) (
  K4 [a0, t26, (gv x5 2), (gv x5 0), (gv x5 1)] w)) fun x6 w =>
  M.slices_Concat_byte_byte.j6 a0 x5 K5 w K) fun x4 w =>
  K (gv x4 4) w
/-- slices.Concat[[]byte,byte] -/
def M.slices_Concat_byte_byte (a0 : Value) (w : World) (K : KV) : Prop :=
  joinT (fun K0 =>
  biT P .len #[T.sl_sl_uint8] T.int [false] [a0] w fun t10 w =>
  loopT [undef, (.int .i64 0), (.int .i64 0)] w fun K1 x1 w =>
  binT P .lss T.int (.tmp 11) (.tmp 10) (gv x1 2) t10 w fun t12 w =>
  joinT (fun K2 =>
  condT t12 (
  K2 [] w) (
  K0 [a0, t10, (gv x1 2), (gv x1 0), (gv x1 1)] w)) fun x2 w =>
  M.slices_Concat_byte_byte.j2 a0 x1 K1 w K) fun x0 w =>
  M.slices_Concat_byte_byte.j0 x0 a0 w K
def M.slices_Concat_byte_byte.L : List Nat := [0, 2, 3, 5, 6, 8, 11, 10, 9, 27, 26, 25]
def M.slices_Concat_byte_byte.pl : Nat → Plan := fun id => ⟨.nil, [], false⟩
theorem M.slices_Concat_byte_byte.eq (a0 : Value) (w : World) (K : KV) : M.slices_Concat_byte_byte a0 w K = den P M.slices_Concat_byte_byte.L M.slices_Concat_byte_byte.pl (Try.f69.body.getD .skip) (argE [a0]) w (bodyQ P Try.f69.results.toList K) := by kernel_rfl
theorem M.slices_Concat_byte_byte.ok : okFn M.slices_Concat_byte_byte.L M.slices_Concat_byte_byte.pl Try.f69 (Try.f69.body.getD .skip) 1 = true := by kernel_rfl
theorem M.slices_Concat_byte_byte.calls (a0 : Value) {w : World} {K : KV} (h : M.slices_Concat_byte_byte a0 w K) : callT P F.slices_Concat_byte_byte [a0] w K :=
  callT_of_den (by kernel_rfl) Try.func69 (by kernel_rfl) M.slices_Concat_byte_byte.ok (M.slices_Concat_byte_byte.eq a0 w K ▸ h)
theorem M.slices_Concat_byte_byte.fcall (args : List Value) (w : World) (K : KV) : fcallT P F.slices_Concat_byte_byte args w K = callT P F.slices_Concat_byte_byte args w K := fcallT_eq Try.func69 (by kernel_rfl) (by kernel_rfl) args w K
theorem M.slices_Concat_byte_byte.rcall (a c args : List Value) (w : World) (K : KV) : callRT P (.func (.func F.slices_Concat_byte_byte) a.toArray c.toArray) args w K = callT P F.slices_Concat_byte_byte (a ++ args ++ c) w K := callR_fn Try.func69 (by kernel_rfl) (by kernel_rfl) a c args w K

/-- slices.Sorted[int] -/
def M.slices_Sorted_int (a0 : Value) (w : World) (K : KV) : Prop :=
  fcallT P F.slices_Collect_int [a0] w fun t5 w =>
  fcallT P F.slices_Sort_int_int [t5] w fun t7 w =>
  K t5 w
def M.slices_Sorted_int.L : List Nat := [0, 2, 3]
def M.slices_Sorted_int.pl : Nat → Plan := fun id => ⟨.nil, [], false⟩
theorem M.slices_Sorted_int.eq (a0 : Value) (w : World) (K : KV) : M.slices_Sorted_int a0 w K = den P M.slices_Sorted_int.L M.slices_Sorted_int.pl (Try.f70.body.getD .skip) (argE [a0]) w (bodyQ P Try.f70.results.toList K) := by kernel_rfl
theorem M.slices_Sorted_int.ok : okFn M.slices_Sorted_int.L M.slices_Sorted_int.pl Try.f70 (Try.f70.body.getD .skip) 1 = true := by kernel_rfl
theorem M.slices_Sorted_int.calls (a0 : Value) {w : World} {K : KV} (h : M.slices_Sorted_int a0 w K) : callT P F.slices_Sorted_int [a0] w K :=
  callT_of_den (by kernel_rfl) Try.func70 (by kernel_rfl) M.slices_Sorted_int.ok (M.slices_Sorted_int.eq a0 w K ▸ h)
theorem M.slices_Sorted_int.fcall (args : List Value) (w : World) (K : KV) : fcallT P F.slices_Sorted_int args w K = callT P F.slices_Sorted_int args w K := fcallT_eq Try.func70 (by kernel_rfl) (by kernel_rfl) args w K
theorem M.slices_Sorted_int.rcall (a c args : List Value) (w : World) (K : KV) : callRT P (.func (.func F.slices_Sorted_int) a.toArray c.toArray) args w K = callT P F.slices_Sorted_int (a ++ args ++ c) w K := callR_fn Try.func70 (by kernel_rfl) (by kernel_rfl) a c args w K

/-- maps.Keys[map[int]*winnow/disk.file,int,*winnow/disk.file] -/
def M.maps_Keys_map_int_disk_file_int_disk_file (a0 : Value) (w : World) (K : KV) : Prop :=
  boxT P T.map_int_p_disk_file a0 w fun t1 w =>
  mkfT P (.func F.maps_Keys_map_int_disk_file_int_disk_file_1) [] [t1] w fun t3 w =>
  K t3 w
def M.maps_Keys_map_int_disk_file_int_disk_file.L : List Nat := [0, 2]
def M.maps_Keys_map_int_disk_file_int_disk_file.pl : Nat → Plan := fun id => ⟨.nil, [], false⟩
theorem M.maps_Keys_map_int_disk_file_int_disk_file.eq (a0 : Value) (w : World) (K : KV) : M.maps_Keys_map_int_disk_file_int_disk_file a0 w K = den P M.maps_Keys_map_int_disk_file_int_disk_file.L M.maps_Keys_map_int_disk_file_int_disk_file.pl (Try.f71.body.getD .skip) (argE [a0]) w (bodyQ P Try.f71.results.toList K) := by kernel_rfl
theorem M.maps_Keys_map_int_disk_file_int_disk_file.ok : okFn M.maps_Keys_map_int_disk_file_int_disk_file.L M.maps_Keys_map_int_disk_file_int_disk_file.pl Try.f71 (Try.f71.body.getD .skip) 1 = true := by kernel_rfl
theorem M.maps_Keys_map_int_disk_file_int_disk_file.calls (a0 : Value) {w : World} {K : KV} (h : M.maps_Keys_map_int_disk_file_int_disk_file a0 w K) : callT P F.maps_Keys_map_int_disk_file_int_disk_file [a0] w K :=
  callT_of_den (by kernel_rfl) Try.func71 (by kernel_rfl) M.maps_Keys_map_int_disk_file_int_disk_file.ok (M.maps_Keys_map_int_disk_file_int_disk_file.eq a0 w K ▸ h)
theorem M.maps_Keys_map_int_disk_file_int_disk_file.fcall (args : List Value) (w : World) (K : KV) : fcallT P F.maps_Keys_map_int_disk_file_int_disk_file args w K = callT P F.maps_Keys_map_int_disk_file_int_disk_file args w K := fcallT_eq Try.func71 (by kernel_rfl) (by kernel_rfl) args w K
theorem M.maps_Keys_map_int_disk_file_int_disk_file.rcall (a c args : List Value) (w : World) (K : KV) : callRT P (.func (.func F.maps_Keys_map_int_disk_file_int_disk_file) a.toArray c.toArray) args w K = callT P F.maps_Keys_map_int_disk_file_int_disk_file (a ++ args ++ c) w K := callR_fn Try.func71 (by kernel_rfl) (by kernel_rfl) a c args w K

def M.pwinnowref06_Disk_Append.j4 (a0 : Value) (a1 : Value) (x3 : List Value) (w : World) (K : KV) : Prop :=
  nilT a0 w fun t67 w =>
  faT P T.winnowref06_Disk t67 1 w fun t68 w =>
  ldT P T.sl_winnowref06_File t68 w fun t69 w =>
  iaT P T.sl_winnowref06_File t69 a1 w fun t71 w =>
  faT P T.winnowref06_File t71 0 w fun t72 w =>
  stT P T.bool t72 (.bool true) w fun _ w =>
  drawT w fun w =>
  w = w ∧ quietT (fun K' => nilT a0 w K') w fun t74 =>
  quietT (fun K' => faT P T.winnowref06_Disk t74 1 w K') w fun t75 =>
  quietT (fun K' => ldT P T.sl_winnowref06_File t75 w K') w fun t76 =>
  w = w ∧ w = w ∧ quietT (fun K' => nilT a0 w K') w fun t80 =>
  quietT (fun K' => faT P T.winnowref06_Disk t80 1 w K') w fun t81 =>
  quietT (fun K' => ldT P T.sl_winnowref06_File t81 w K') w fun t82 =>
  w = w ∧ quietT (fun K' => iaT P T.sl_winnowref06_File t82 a1 w K') w fun t84 =>
  quietT (fun K' => faT P T.winnowref06_File t84 1 w K') w fun t85 =>
  quietT (fun K' => ldT P T.sl_uint8 t85 w K') w fun t86 =>
  w = w ∧ bsT P T.sl_uint8 0 #[] w fun t78 w =>
  stabT (fun K' => K' (gv x3 0) w) w (gv x3 0) ∧ stabT (fun K' => ldT P T.sl_uint8 t85 w K') w t86 ∧ stabT (fun K' => faT P T.winnowref06_File t84 1 w K') w t85 ∧ stabT (fun K' => iaT P T.sl_winnowref06_File t82 a1 w K') w t84 ∧ stabT (fun K' => K' a1 w) w a1 ∧ stabT (fun K' => ldT P T.sl_winnowref06_File t81 w K') w t82 ∧ stabT (fun K' => faT P T.winnowref06_Disk t80 1 w K') w t81 ∧ stabT (fun K' => nilT a0 w K') w t80 ∧ stabT (fun K' => K' a0 w) w a0 ∧ stabT (fun K' => K' a1 w) w a1 ∧ stabT (fun K' => ldT P T.sl_winnowref06_File t75 w K') w t76 ∧ stabT (fun K' => faT P T.winnowref06_Disk t74 1 w K') w t75 ∧ stabT (fun K' => nilT a0 w K') w t74 ∧ stabT (fun K' => K' a0 w) w a0 ∧ biT P .append #[T.sl_uint8, T.sl_uint8] T.sl_uint8 [false, false] [t78, t86] w fun t87 w =>
  stabT (fun K' => K' (gv x3 0) w) w (gv x3 0) ∧ stabT (fun K' => K' a1 w) w a1 ∧ stabT (fun K' => ldT P T.sl_winnowref06_File t75 w K') w t76 ∧ stabT (fun K' => faT P T.winnowref06_Disk t74 1 w K') w t75 ∧ stabT (fun K' => nilT a0 w K') w t74 ∧ stabT (fun K' => K' a0 w) w a0 ∧ biT P .append #[T.sl_uint8, T.sl_uint8] T.sl_uint8 [false, false] [t87, (gv x3 0)] w fun t89 w =>
  stabT (fun K' => K' a1 w) w a1 ∧ stabT (fun K' => ldT P T.sl_winnowref06_File t75 w K') w t76 ∧ stabT (fun K' => faT P T.winnowref06_Disk t74 1 w K') w t75 ∧ stabT (fun K' => nilT a0 w K') w t74 ∧ stabT (fun K' => K' a0 w) w a0 ∧ quietT (fun K' => iaT P T.sl_winnowref06_File t76 a1 w K') w fun t90 =>
  quietT (fun K' => faT P T.winnowref06_File t90 1 w K') w fun t91 =>
  stT P T.sl_uint8 t91 t89 w fun _ w =>
  K (gv x3 1) w
def M.pwinnowref06_Disk_Append.j3 (a0 : Value) (x3 : List Value) (a1 : Value) (w : World) (K : KV) : Prop :=
  joinT (fun K4 =>
  nilT a0 w fun t52 w =>
  faT P T.winnowref06_Disk t52 2 w fun t53 w =>
  ldT P T.int t53 w fun t54 w =>
  binT P .geq T.int (.tmp 54) (.const (.int .i64 0)) t54 (.int .i64 0) w fun t55 w =>
  condT t55 (
  nilT a0 w fun t58 w =>
  faT P T.winnowref06_Disk t58 2 w fun t59 w =>
  ldT P T.int t59 w fun t60 w =>
  biT P .len #[T.sl_uint8] T.int [false] [(gv x3 0)] w fun t62 w =>
  binT P .sub T.int (.tmp 60) (.tmp 62) t60 t62 w fun t63 w =>
  nilT a0 w fun t64 w =>
  faT P T.winnowref06_Disk t64 2 w fun t65 w =>
  stT P T.int t65 t63 w fun _ w =>
  K4 [] w) (
  K4 [] w)) fun x4 w =>
  M.pwinnowref06_Disk_Append.j4 a0 a1 x3 w K
def M.pwinnowref06_Disk_Append.j2 (a0 : Value) (a2 : Value) (a1 : Value) (w : World) (K : KV) : Prop :=
  joinT (fun K3 =>
  nilT a0 w fun t29 w =>
  faT P T.winnowref06_Disk t29 2 w fun t30 w =>
  ldT P T.int t30 w fun t31 w =>
  binT P .geq T.int (.tmp 31) (.const (.int .i64 0)) t31 (.int .i64 0) w fun t32 w =>
  guardT (isB t32 true) (fun K' => K' a2 w) w fun t34 w =>
  guardT (isB t32 true) (fun K' => biT P .len #[T.sl_uint8] T.int [false] [t34] w K') w fun t35 w =>
  guardT (isB t32 true) (fun K' => K' a0 w) w fun t36 w =>
  guardT (isB t32 true) (fun K' => nilT t36 w K') w fun t37 w =>
  guardT (isB t32 true) (fun K' => faT P T.winnowref06_Disk t37 2 w K') w fun t38 w =>
  guardT (isB t32 true) (fun K' => ldT P T.int t38 w K') w fun t39 w =>
  guardT (isB t32 true) (fun K' => binT P .gtr T.int (.tmp 35) (.tmp 39) t35 t39 w K') w fun t40 w =>
  pickT t32 t40 (.bool false) w fun t41 w =>
  condT t41 (
  nilT a0 w fun t44 w =>
  faT P T.winnowref06_Disk t44 2 w fun t45 w =>
  ldT P T.int t45 w fun t46 w =>
  slT P T.sl_uint8 a2 none (some t46) none w fun t47 w =>
  nilT a0 w fun t49 w =>
  faT P T.winnowref06_Disk t49 3 w fun t50 w =>
  stT P T.bool t50 (.bool true) w fun _ w =>
  K3 [t47, (.int .i64 10)] w) (
  K3 [a2, (.int .i64 0)] w)) fun x3 w =>
  M.pwinnowref06_Disk_Append.j3 a0 x3 a1 w K
def M.pwinnowref06_Disk_Append.j1 (a2 : Value) (a0 : Value) (x1 : List Value) (a1 : Value) (w : World) (K : KV) : Prop :=
  joinT (fun K2 =>
  drawT w fun w =>
  w = w ∧ quietT (fun K' => biT P .len #[T.sl_uint8] T.int [false] [a2] w K') w fun t19 =>
  w = w ∧ quietT (fun K' => nilT a0 w K') w fun t21 =>
  quietT (fun K' => faT P T.winnowref06_Disk t21 0 w K') w fun t22 =>
  quietT (fun K' => ldT P T.int t22 w K') w fun t23 =>
  w = w ∧ fcallT P F.pwinnowref06_Disk_Used [a0] w fun t25 w =>
  stabT (fun K' => ldT P T.int t22 w K') w t23 ∧ stabT (fun K' => faT P T.winnowref06_Disk t21 0 w K') w t22 ∧ stabT (fun K' => nilT a0 w K') w t21 ∧ stabT (fun K' => K' a0 w) w a0 ∧ stabT (fun K' => biT P .len #[T.sl_uint8] T.int [false] [a2] w K') w t19 ∧ stabT (fun K' => K' a2 w) w a2 ∧ quietT (fun K' => binT P .sub T.int (.tmp 23) (.tmp 25) t23 t25 w K') w fun t26 =>
  quietT (fun K' => binT P .gtr T.int (.tmp 19) (.tmp 26) t19 t26 w K') w fun t27 =>
  condT t27 (
  K (.int .i64 9) w) (
  K2 [(gv x1 0)] w)) fun x2 w =>
  M.pwinnowref06_Disk_Append.j2 a0 a2 a1 w K
def M.pwinnowref06_Disk_Append.j0 (a1 : Value) (x0 : List Value) (a2 : Value) (a0 : Value) (w : World) (K : KV) : Prop :=
  joinT (fun K1 =>
  binT P .lss T.int (.tmp 12) (.const (.int .i64 0)) a1 (.int .i64 0) w fun t13 w =>
  guardT (isB t13 false) (fun K' => K' a1 w) w fun t15 w =>
  guardT (isB t13 false) (fun K' => binT P .geq T.int (.tmp 15) (.const (.int .i64 64)) t15 (.int .i64 64) w K') w fun t16 w =>
  pickT t13 (.bool true) t16 w fun t17 w =>
  condT t17 (
  K (.int .i64 1) w) (
  K1 [(gv x0 0)] w)) fun x1 w =>
  M.pwinnowref06_Disk_Append.j1 a2 a0 x1 a1 w K
/-- (*winnow/winnowref06.Disk).Append -/
def M.pwinnowref06_Disk_Append (a0 a1 a2 : Value) (w : World) (K : KV) : Prop :=
  joinT (fun K0 =>
  nilT a0 w fun t9 w =>
  faT P T.winnowref06_Disk t9 3 w fun t10 w =>
  ldT P T.bool t10 w fun t11 w =>
  condT t11 (
  K (.int .i64 10) w) (
  K0 [(.int .i64 0)] w)) fun x0 w =>
  M.pwinnowref06_Disk_Append.j0 a1 x0 a2 a0 w K
def M.pwinnowref06_Disk_Append.L : List Nat := [0, 1, 2, 6, 7]
def M.pwinnowref06_Disk_Append.pl : Nat → Plan := fun id => cond (Nat.beq id 5) ⟨(.go 0 (.go 1 (.go 2 (.go 3 (.go 4 (.go 5 (.go 6 (.eff 7 (.go 8 (.go 9 .nil)) .stop)))))))), [7], false⟩ (cond (Nat.beq id 15) ⟨(.go 0 (.go 1 (.go 2 (.go 3 (.go 4 (.go 6 (.go 7 (.go 8 (.go 9 (.go 10 (.go 11 (.go 12 (.go 13 (.go 15 (.eff 5 (.eff 14 (.eff 16 (.go 17 (.go 18 (.eff 19 .nil .stop))) .stop) .stop) .stop))))))))))))))), [5, 14, 16, 19], false⟩ (⟨.nil, [], false⟩))
theorem M.pwinnowref06_Disk_Append.eq (a0 a1 a2 : Value) (w : World) (K : KV) : M.pwinnowref06_Disk_Append a0 a1 a2 w K = den P M.pwinnowref06_Disk_Append.L M.pwinnowref06_Disk_Append.pl (Try.f72.body.getD .skip) (argE [a0, a1, a2]) w (bodyQ P Try.f72.results.toList K) := by kernel_rfl
theorem M.pwinnowref06_Disk_Append.ok : okFn M.pwinnowref06_Disk_Append.L M.pwinnowref06_Disk_Append.pl Try.f72 (Try.f72.body.getD .skip) 3 = true := by kernel_rfl
theorem M.pwinnowref06_Disk_Append.calls (a0 a1 a2 : Value) {w : World} {K : KV} (h : M.pwinnowref06_Disk_Append a0 a1 a2 w K) : callT P F.pwinnowref06_Disk_Append [a0, a1, a2] w K :=
  callT_of_den (by kernel_rfl) Try.func72 (by kernel_rfl) M.pwinnowref06_Disk_Append.ok (M.pwinnowref06_Disk_Append.eq a0 a1 a2 w K ▸ h)
theorem M.pwinnowref06_Disk_Append.fcall (args : List Value) (w : World) (K : KV) : fcallT P F.pwinnowref06_Disk_Append args w K = callT P F.pwinnowref06_Disk_Append args w K := fcallT_eq Try.func72 (by kernel_rfl) (by kernel_rfl) args w K
theorem M.pwinnowref06_Disk_Append.rcall (a c args : List Value) (w : World) (K : KV) : callRT P (.func (.func F.pwinnowref06_Disk_Append) a.toArray c.toArray) args w K = callT P F.pwinnowref06_Disk_Append (a ++ args ++ c) w K := callR_fn Try.func72 (by kernel_rfl) (by kernel_rfl) a c args w K

/-- (*winnow/winnowref06.Disk).Sync -/
def M.pwinnowref06_Disk_Sync (a0 a1 : Value) (w : World) (K : KV) : Prop :=
  fcallT P F.pwinnowref06_Disk_asked [a0, a1] w fun t8 w =>
  joinT (fun K0 =>
  binT P .eql T.api_Kind (.tmp 9) (.const (.int .i64 0)) t8 (.int .i64 0) w fun t10 w =>
  condT t10 (
  drawT w fun w =>
  w = w ∧ quietT (fun K' => nilT a0 w K') w fun t12 =>
  quietT (fun K' => faT P T.winnowref06_Disk t12 1 w K') w fun t13 =>
  quietT (fun K' => ldT P T.sl_winnowref06_File t13 w K') w fun t14 =>
  w = w ∧ w = w ∧ quietT (fun K' => nilT a0 w K') w fun t17 =>
  quietT (fun K' => faT P T.winnowref06_Disk t17 1 w K') w fun t18 =>
  quietT (fun K' => ldT P T.sl_winnowref06_File t18 w K') w fun t19 =>
  w = w ∧ quietT (fun K' => iaT P T.sl_winnowref06_File t19 a1 w K') w fun t21 =>
  quietT (fun K' => faT P T.winnowref06_File t21 1 w K') w fun t22 =>
  quietT (fun K' => ldT P T.sl_uint8 t22 w K') w fun t23 =>
  quietT (fun K' => biT P .len #[T.sl_uint8] T.int [false] [t23] w K') w fun t24 =>
  quietT (fun K' => iaT P T.sl_winnowref06_File t14 a1 w K') w fun t25 =>
  quietT (fun K' => faT P T.winnowref06_File t25 2 w K') w fun t26 =>
  stT P T.int t26 t24 w fun _ w =>
  K0 [] w) (
  K0 [] w)) fun x0 w =>
  K t8 w
def M.pwinnowref06_Disk_Sync.L : List Nat := [0, 1, 4, 5]
def M.pwinnowref06_Disk_Sync.pl : Nat → Plan := fun id => cond (Nat.beq id 3) ⟨(.go 0 (.go 1 (.go 2 (.go 3 (.go 4 (.go 5 (.go 6 (.go 7 (.go 8 (.go 9 (.go 10 (.go 11 (.go 12 (.go 13 (.go 14 (.go 15 (.eff 16 .nil .stop))))))))))))))))), [16], false⟩ (⟨.nil, [], false⟩)
theorem M.pwinnowref06_Disk_Sync.eq (a0 a1 : Value) (w : World) (K : KV) : M.pwinnowref06_Disk_Sync a0 a1 w K = den P M.pwinnowref06_Disk_Sync.L M.pwinnowref06_Disk_Sync.pl (Try.f73.body.getD .skip) (argE [a0, a1]) w (bodyQ P Try.f73.results.toList K) := by kernel_rfl
theorem M.pwinnowref06_Disk_Sync.ok : okFn M.pwinnowref06_Disk_Sync.L M.pwinnowref06_Disk_Sync.pl Try.f73 (Try.f73.body.getD .skip) 2 = true := by kernel_rfl
theorem M.pwinnowref06_Disk_Sync.calls (a0 a1 : Value) {w : World} {K : KV} (h : M.pwinnowref06_Disk_Sync a0 a1 w K) : callT P F.pwinnowref06_Disk_Sync [a0, a1] w K :=
  callT_of_den (by kernel_rfl) Try.func73 (by kernel_rfl) M.pwinnowref06_Disk_Sync.ok (M.pwinnowref06_Disk_Sync.eq a0 a1 w K ▸ h)
theorem M.pwinnowref06_Disk_Sync.fcall (args : List Value) (w : World) (K : KV) : fcallT P F.pwinnowref06_Disk_Sync args w K = callT P F.pwinnowref06_Disk_Sync args w K := fcallT_eq Try.func73 (by kernel_rfl) (by kernel_rfl) args w K
theorem M.pwinnowref06_Disk_Sync.rcall (a c args : List Value) (w : World) (K : KV) : callRT P (.func (.func F.pwinnowref06_Disk_Sync) a.toArray c.toArray) args w K = callT P F.pwinnowref06_Disk_Sync (a ++ args ++ c) w K := callR_fn Try.func73 (by kernel_rfl) (by kernel_rfl) a c args w K

def M.pwinnowref06_Disk_Cut.j1 (a0 : Value) (a1 : Value) (a2 : Value) (w : World) (K : KV) : Prop :=
  drawT w fun w =>
  w = w ∧ quietT (fun K' => nilT a0 w K') w fun t30 =>
  quietT (fun K' => faT P T.winnowref06_Disk t30 1 w K') w fun t31 =>
  quietT (fun K' => ldT P T.sl_winnowref06_File t31 w K') w fun t32 =>
  w = w ∧ w = w ∧ quietT (fun K' => nilT a0 w K') w fun t35 =>
  quietT (fun K' => faT P T.winnowref06_Disk t35 1 w K') w fun t36 =>
  quietT (fun K' => ldT P T.sl_winnowref06_File t36 w K') w fun t37 =>
  w = w ∧ quietT (fun K' => iaT P T.sl_winnowref06_File t37 a1 w K') w fun t39 =>
  quietT (fun K' => faT P T.winnowref06_File t39 1 w K') w fun t40 =>
  quietT (fun K' => ldT P T.sl_uint8 t40 w K') w fun t41 =>
  w = w ∧ quietT (fun K' => slT P T.sl_uint8 t41 none (some a2) none w K') w fun t43 =>
  quietT (fun K' => iaT P T.sl_winnowref06_File t32 a1 w K') w fun t44 =>
  quietT (fun K' => faT P T.winnowref06_File t44 1 w K') w fun t45 =>
  stT P T.sl_uint8 t45 t43 w fun _ w =>
  nilT a0 w fun t47 w =>
  faT P T.winnowref06_Disk t47 1 w fun t48 w =>
  ldT P T.sl_winnowref06_File t48 w fun t49 w =>
  iaT P T.sl_winnowref06_File t49 a1 w fun t52 w =>
  faT P T.winnowref06_File t52 2 w fun t53 w =>
  stT P T.int t53 a2 w fun _ w =>
  K (.int .i64 0) w
def M.pwinnowref06_Disk_Cut.j0 (a2 : Value) (a0 : Value) (a1 : Value) (x0 : List Value) (w : World) (K : KV) : Prop :=
  joinT (fun K1 =>
  binT P .lss T.int (.tmp 14) (.const (.int .i64 0)) a2 (.int .i64 0) w fun t15 w =>
  guardT (isB t15 false) (fun K' => K' a2 w) w fun t17 w =>
  guardT (isB t15 false) (fun K' => K' a0 w) w fun t18 w =>
  guardT (isB t15 false) (fun K' => nilT t18 w K') w fun t19 w =>
  guardT (isB t15 false) (fun K' => faT P T.winnowref06_Disk t19 1 w K') w fun t20 w =>
  guardT (isB t15 false) (fun K' => ldT P T.sl_winnowref06_File t20 w K') w fun t21 w =>
  guardT (isB t15 false) (fun K' => K' a1 w) w fun t22 w =>
  guardT (isB t15 false) (fun K' => iaT P T.sl_winnowref06_File t21 t22 w K') w fun t23 w =>
  guardT (isB t15 false) (fun K' => faT P T.winnowref06_File t23 1 w K') w fun t24 w =>
  guardT (isB t15 false) (fun K' => ldT P T.sl_uint8 t24 w K') w fun t25 w =>
  guardT (isB t15 false) (fun K' => biT P .len #[T.sl_uint8] T.int [false] [t25] w K') w fun t26 w =>
  guardT (isB t15 false) (fun K' => binT P .gtr T.int (.tmp 17) (.tmp 26) t17 t26 w K') w fun t27 w =>
  pickT t15 (.bool true) t27 w fun t28 w =>
  condT t28 (
  K (.int .i64 1) w) (
  K1 [(gv x0 1)] w)) fun x1 w =>
  M.pwinnowref06_Disk_Cut.j1 a0 a1 a2 w K
/-- (*winnow/winnowref06.Disk).Cut -/
def M.pwinnowref06_Disk_Cut (a0 a1 a2 : Value) (w : World) (K : KV) : Prop :=
  joinT (fun K0 =>
  fcallT P F.pwinnowref06_Disk_asked [a0, a1] w fun t10 w =>
  binT P .neq T.api_Kind (.tmp 11) (.const (.int .i64 0)) t10 (.int .i64 0) w fun t12 w =>
  condT t12 (
  K t10 w) (
  K0 [t10, (.int .i64 0)] w)) fun x0 w =>
  M.pwinnowref06_Disk_Cut.j0 a2 a0 a1 x0 w K
def M.pwinnowref06_Disk_Cut.L : List Nat := [0, 1, 2, 6, 7]
def M.pwinnowref06_Disk_Cut.pl : Nat → Plan := fun id => cond (Nat.beq id 6) ⟨(.go 0 (.go 1 (.go 2 (.go 3 (.go 4 (.go 5 (.go 6 (.go 7 (.go 8 (.go 9 (.go 10 (.go 11 (.go 12 (.go 13 (.go 14 (.go 15 (.go 16 (.eff 17 .nil .stop)))))))))))))))))), [17], false⟩ (⟨.nil, [], false⟩)
theorem M.pwinnowref06_Disk_Cut.eq (a0 a1 a2 : Value) (w : World) (K : KV) : M.pwinnowref06_Disk_Cut a0 a1 a2 w K = den P M.pwinnowref06_Disk_Cut.L M.pwinnowref06_Disk_Cut.pl (Try.f74.body.getD .skip) (argE [a0, a1, a2]) w (bodyQ P Try.f74.results.toList K) := by kernel_rfl
theorem M.pwinnowref06_Disk_Cut.ok : okFn M.pwinnowref06_Disk_Cut.L M.pwinnowref06_Disk_Cut.pl Try.f74 (Try.f74.body.getD .skip) 3 = true := by kernel_rfl
theorem M.pwinnowref06_Disk_Cut.calls (a0 a1 a2 : Value) {w : World} {K : KV} (h : M.pwinnowref06_Disk_Cut a0 a1 a2 w K) : callT P F.pwinnowref06_Disk_Cut [a0, a1, a2] w K :=
  callT_of_den (by kernel_rfl) Try.func74 (by kernel_rfl) M.pwinnowref06_Disk_Cut.ok (M.pwinnowref06_Disk_Cut.eq a0 a1 a2 w K ▸ h)
theorem M.pwinnowref06_Disk_Cut.fcall (args : List Value) (w : World) (K : KV) : fcallT P F.pwinnowref06_Disk_Cut args w K = callT P F.pwinnowref06_Disk_Cut args w K := fcallT_eq Try.func74 (by kernel_rfl) (by kernel_rfl) args w K
theorem M.pwinnowref06_Disk_Cut.rcall (a c args : List Value) (w : World) (K : KV) : callRT P (.func (.func F.pwinnowref06_Disk_Cut) a.toArray c.toArray) args w K = callT P F.pwinnowref06_Disk_Cut (a ++ args ++ c) w K := callR_fn Try.func74 (by kernel_rfl) (by kernel_rfl) a c args w K

/-- (*winnow/winnowref06.Disk).Remove -/
def M.pwinnowref06_Disk_Remove (a0 a1 : Value) (w : World) (K : KV) : Prop :=
  fcallT P F.pwinnowref06_Disk_asked [a0, a1] w fun t8 w =>
  joinT (fun K0 =>
  binT P .eql T.api_Kind (.tmp 9) (.const (.int .i64 0)) t8 (.int .i64 0) w fun t10 w =>
  condT t10 (
  nilT a0 w fun t12 w =>
  faT P T.winnowref06_Disk t12 1 w fun t13 w =>
  ldT P T.sl_winnowref06_File t13 w fun t14 w =>
  bldT P T.winnowref06_File #[] w fun t16 w =>
  iaT P T.sl_winnowref06_File t14 a1 w fun t17 w =>
  stT P T.winnowref06_File t17 t16 w fun _ w =>
  K0 [] w) (
  K0 [] w)) fun x0 w =>
  K t8 w
def M.pwinnowref06_Disk_Remove.L : List Nat := [0, 1, 4, 5]
def M.pwinnowref06_Disk_Remove.pl : Nat → Plan := fun id => ⟨.nil, [], false⟩
theorem M.pwinnowref06_Disk_Remove.eq (a0 a1 : Value) (w : World) (K : KV) : M.pwinnowref06_Disk_Remove a0 a1 w K = den P M.pwinnowref06_Disk_Remove.L M.pwinnowref06_Disk_Remove.pl (Try.f75.body.getD .skip) (argE [a0, a1]) w (bodyQ P Try.f75.results.toList K) := by kernel_rfl
theorem M.pwinnowref06_Disk_Remove.ok : okFn M.pwinnowref06_Disk_Remove.L M.pwinnowref06_Disk_Remove.pl Try.f75 (Try.f75.body.getD .skip) 2 = true := by kernel_rfl
theorem M.pwinnowref06_Disk_Remove.calls (a0 a1 : Value) {w : World} {K : KV} (h : M.pwinnowref06_Disk_Remove a0 a1 w K) : callT P F.pwinnowref06_Disk_Remove [a0, a1] w K :=
  callT_of_den (by kernel_rfl) Try.func75 (by kernel_rfl) M.pwinnowref06_Disk_Remove.ok (M.pwinnowref06_Disk_Remove.eq a0 a1 w K ▸ h)
theorem M.pwinnowref06_Disk_Remove.fcall (args : List Value) (w : World) (K : KV) : fcallT P F.pwinnowref06_Disk_Remove args w K = callT P F.pwinnowref06_Disk_Remove args w K := fcallT_eq Try.func75 (by kernel_rfl) (by kernel_rfl) args w K
theorem M.pwinnowref06_Disk_Remove.rcall (a c args : List Value) (w : World) (K : KV) : callRT P (.func (.func F.pwinnowref06_Disk_Remove) a.toArray c.toArray) args w K = callT P F.pwinnowref06_Disk_Remove (a ++ args ++ c) w K := callR_fn Try.func75 (by kernel_rfl) (by kernel_rfl) a c args w K

/-- (*winnow/winnowref06.Disk).Arm -/
def M.pwinnowref06_Disk_Arm (a0 a1 : Value) (w : World) (K : KV) : Prop :=
  biT P .max #[T.int, T.int] T.int [false, true] [a1, (.int .i64 (-1))] w fun t6 w =>
  nilT a0 w fun t7 w =>
  faT P T.winnowref06_Disk t7 2 w fun t8 w =>
  stT P T.int t8 t6 w fun _ w =>
  K (.tuple #[]) w
def M.pwinnowref06_Disk_Arm.L : List Nat := [0, 1]
def M.pwinnowref06_Disk_Arm.pl : Nat → Plan := fun id => ⟨.nil, [], false⟩
theorem M.pwinnowref06_Disk_Arm.eq (a0 a1 : Value) (w : World) (K : KV) : M.pwinnowref06_Disk_Arm a0 a1 w K = den P M.pwinnowref06_Disk_Arm.L M.pwinnowref06_Disk_Arm.pl (Try.f76.body.getD .skip) (argE [a0, a1]) w (bodyQ P Try.f76.results.toList K) := by kernel_rfl
theorem M.pwinnowref06_Disk_Arm.ok : okFn M.pwinnowref06_Disk_Arm.L M.pwinnowref06_Disk_Arm.pl Try.f76 (Try.f76.body.getD .skip) 2 = true := by kernel_rfl
theorem M.pwinnowref06_Disk_Arm.calls (a0 a1 : Value) {w : World} {K : KV} (h : M.pwinnowref06_Disk_Arm a0 a1 w K) : callT P F.pwinnowref06_Disk_Arm [a0, a1] w K :=
  callT_of_den (by kernel_rfl) Try.func76 (by kernel_rfl) M.pwinnowref06_Disk_Arm.ok (M.pwinnowref06_Disk_Arm.eq a0 a1 w K ▸ h)
theorem M.pwinnowref06_Disk_Arm.fcall (args : List Value) (w : World) (K : KV) : fcallT P F.pwinnowref06_Disk_Arm args w K = callT P F.pwinnowref06_Disk_Arm args w K := fcallT_eq Try.func76 (by kernel_rfl) (by kernel_rfl) args w K
theorem M.pwinnowref06_Disk_Arm.rcall (a c args : List Value) (w : World) (K : KV) : callRT P (.func (.func F.pwinnowref06_Disk_Arm) a.toArray c.toArray) args w K = callT P F.pwinnowref06_Disk_Arm (a ++ args ++ c) w K := callR_fn Try.func76 (by kernel_rfl) (by kernel_rfl) a c args w K

def M.pwinnowref06_Disk_Crash.j4 (t24 : Value) (x4 : List Value) (K3 : KL) (w : World) (K : KV) : Prop :=
  drawT w fun w =>
  w = w ∧ w = w ∧ quietT (fun K' => nilT t24 w K') w fun t47 =>
  quietT (fun K' => faT P T.winnowref06_File t47 1 w K') w fun t48 =>
  quietT (fun K' => ldT P T.sl_uint8 t48 w K') w fun t49 =>
  w = w ∧ quietT (fun K' => nilT t24 w K') w fun t51 =>
  quietT (fun K' => faT P T.winnowref06_File t51 2 w K') w fun t52 =>
  quietT (fun K' => ldT P T.int t52 w K') w fun t53 =>
  w = w ∧ quietT (fun K' => binT P .add T.int (.tmp 53) (.tmp 54) t53 (gv x4 0) w K') w fun t55 =>
  quietT (fun K' => slT P T.sl_uint8 t49 none (some t55) none w K') w fun t56 =>
  quietT (fun K' => nilT t24 w K') w fun t57 =>
  quietT (fun K' => faT P T.winnowref06_File t57 1 w K') w fun t58 =>
  stT P T.sl_uint8 t58 t56 w fun _ w =>
  nilT t24 w fun t61 w =>
  faT P T.winnowref06_File t61 1 w fun t62 w =>
  ldT P T.sl_uint8 t62 w fun t63 w =>
  biT P .len #[T.sl_uint8] T.int [false] [t63] w fun t64 w =>
  nilT t24 w fun t65 w =>
  faT P T.winnowref06_File t65 2 w fun t66 w =>
  stT P T.int t66 t64 w fun _ w =>
  K3 [t24, (gv x4 0)] w
def M.pwinnowref06_Disk_Crash.j2 (a0 : Value) (t9 : Value) (x1 : List Value) (a1 : Value) (K1 : KL) (w : World) (K : KV) : Prop :=
  joinT (fun K3 =>
  drawT w fun w =>
  w = w ∧ quietT (fun K' => nilT a0 w K') w fun t17 =>
  quietT (fun K' => faT P T.winnowref06_Disk t17 1 w K') w fun t18 =>
  quietT (fun K' => ldT P T.sl_winnowref06_File t18 w K') w fun t19 =>
  w = w ∧ w = w ∧ quietT (fun K' => iaT P T.sl_int t9 (gv x1 2) w K') w fun t22 =>
  quietT (fun K' => ldT P T.int t22 w K') w fun t23 =>
  quietT (fun K' => iaT P T.sl_winnowref06_File t19 t23 w K') w fun t24 =>
  joinT (fun K4 =>
  biT P .len #[T.sl_int] T.int [false] [a1] w fun t27 w =>
  binT P .lss T.int (.tmp 25) (.tmp 27) (gv x1 2) t27 w fun t28 w =>
  condT t28 (
  drawT w fun w =>
  w = w ∧ w = w ∧ quietT (fun K' => iaT P T.sl_int a1 (gv x1 2) w K') w fun t31 =>
  quietT (fun K' => ldT P T.int t31 w K') w fun t32 =>
  w = w ∧ quietT (fun K' => nilT t24 w K') w fun t34 =>
  quietT (fun K' => faT P T.winnowref06_File t34 1 w K') w fun t35 =>
  quietT (fun K' => ldT P T.sl_uint8 t35 w K') w fun t36 =>
  quietT (fun K' => biT P .len #[T.sl_uint8] T.int [false] [t36] w K') w fun t37 =>
  w = w ∧ quietT (fun K' => nilT t24 w K') w fun t39 =>
  quietT (fun K' => faT P T.winnowref06_File t39 2 w K') w fun t40 =>
  quietT (fun K' => ldT P T.int t40 w K') w fun t41 =>
  quietT (fun K' => binT P .sub T.int (.tmp 37) (.tmp 41) t37 t41 w K') w fun t42 =>
  quietT (fun K' => biT P .min #[T.int, T.int] T.int [false, false] [t32, t42] w K') w fun t43 =>
  quietT (fun K' => biT P .max #[T.int, T.int] T.int [true, false] [(.int .i64 0), t43] w K') w fun t44 =>
  K4 [t44] w) (
  K4 [(.int .i64 0)] w)) fun x4 w =>
  M.pwinnowref06_Disk_Crash.j4 t24 x4 K3 w K) fun x3 w =>
  binT P .add T.int (.tmp 14) (.const (.int .i64 1)) (gv x1 2) (.int .i64 1) w fun t15 w =>
  K1 [(gv x3 0), (gv x3 1), t15] w
def M.pwinnowref06_Disk_Crash.j1 (t9 : Value) (x1 : List Value) (K0 : KL) (a0 : Value) (a1 : Value) (K1 : KL) (w : World) (K : KV) : Prop :=
  joinT (fun K2 =>
  biT P .len #[T.sl_int] T.int [false] [t9] w fun t12 w =>
  binT P .lss T.int (.tmp 10) (.tmp 12) (gv x1 2) t12 w fun t13 w =>
  condT t13 (
  K2 [] w) (
  K0 [(gv x1 2), (gv x1 0), (gv x1 1)] w)) fun x2 w =>
  M.pwinnowref06_Disk_Crash.j2 a0 t9 x1 a1 K1 w K
/-- (*winnow/winnowref06.Disk).Crash -/
def M.pwinnowref06_Disk_Crash (a0 a1 : Value) (w : World) (K : KV) : Prop :=
  fcallT P F.pwinnowref06_Disk_Files [a0] w fun t9 w =>
  joinT (fun K0 =>
  loopT [undef, undef, (.int .i64 0)] w fun K1 x1 w =>
  M.pwinnowref06_Disk_Crash.j1 t9 x1 K0 a0 a1 K1 w K) fun x0 w =>
  nilT a0 w fun t68 w =>
  faT P T.winnowref06_Disk t68 3 w fun t69 w =>
  stT P T.bool t69 (.bool false) w fun _ w =>
  nilT a0 w fun t71 w =>
  faT P T.winnowref06_Disk t71 2 w fun t72 w =>
  stT P T.int t72 (.int .i64 (-1)) w fun _ w =>
  K (.tuple #[]) w
def M.pwinnowref06_Disk_Crash.L : List Nat := [0, 1, 4, 5, 6, 7]
def M.pwinnowref06_Disk_Crash.pl : Nat → Plan := fun id => cond (Nat.beq id 4) ⟨(.go 0 (.go 1 (.go 2 (.go 3 (.go 4 (.go 5 (.go 6 (.go 7 (.go 8 (.eff 9 .nil .stop)))))))))), [9], false⟩ (cond (Nat.beq id 7) ⟨(.go 0 (.go 1 (.go 2 (.go 3 (.go 4 (.go 5 (.go 6 (.go 7 (.go 8 (.go 9 (.go 10 (.go 11 (.go 12 (.go 13 (.go 14 (.go 15 (.eff 16 .nil .stop))))))))))))))))), [16], false⟩ (cond (Nat.beq id 8) ⟨(.go 0 (.go 1 (.go 2 (.go 3 (.go 4 (.go 5 (.go 6 (.go 7 (.go 8 (.go 9 (.go 10 (.go 11 (.go 12 (.go 13 (.eff 14 .nil .stop))))))))))))))), [14], false⟩ (⟨.nil, [], false⟩)))
theorem M.pwinnowref06_Disk_Crash.eq (a0 a1 : Value) (w : World) (K : KV) : M.pwinnowref06_Disk_Crash a0 a1 w K = den P M.pwinnowref06_Disk_Crash.L M.pwinnowref06_Disk_Crash.pl (Try.f77.body.getD .skip) (argE [a0, a1]) w (bodyQ P Try.f77.results.toList K) := by kernel_rfl
theorem M.pwinnowref06_Disk_Crash.ok : okFn M.pwinnowref06_Disk_Crash.L M.pwinnowref06_Disk_Crash.pl Try.f77 (Try.f77.body.getD .skip) 2 = true := by kernel_rfl
theorem M.pwinnowref06_Disk_Crash.calls (a0 a1 : Value) {w : World} {K : KV} (h : M.pwinnowref06_Disk_Crash a0 a1 w K) : callT P F.pwinnowref06_Disk_Crash [a0, a1] w K :=
  callT_of_den (by kernel_rfl) Try.func77 (by kernel_rfl) M.pwinnowref06_Disk_Crash.ok (M.pwinnowref06_Disk_Crash.eq a0 a1 w K ▸ h)
theorem M.pwinnowref06_Disk_Crash.fcall (args : List Value) (w : World) (K : KV) : fcallT P F.pwinnowref06_Disk_Crash args w K = callT P F.pwinnowref06_Disk_Crash args w K := fcallT_eq Try.func77 (by kernel_rfl) (by kernel_rfl) args w K
theorem M.pwinnowref06_Disk_Crash.rcall (a c args : List Value) (w : World) (K : KV) : callRT P (.func (.func F.pwinnowref06_Disk_Crash) a.toArray c.toArray) args w K = callT P F.pwinnowref06_Disk_Crash (a ++ args ++ c) w K := callR_fn Try.func77 (by kernel_rfl) (by kernel_rfl) a c args w K

def M.pwinnowref06_Disk_Files.j2 (a0 : Value) (x1 : List Value) (K1 : KL) (w : World) (K : KV) : Prop :=
  joinT (fun K3 =>
  nilT a0 w fun t15 w =>
  faT P T.winnowref06_Disk t15 1 w fun t16 w =>
  ldT P T.sl_winnowref06_File t16 w fun t17 w =>
  iaT P T.sl_winnowref06_File t17 (gv x1 1) w fun t19 w =>
  faT P T.winnowref06_File t19 0 w fun t20 w =>
  ldT P T.bool t20 w fun t21 w =>
  condT t21 (
  bsT P T.sl_int 1 #[(0, (gv x1 1))] w fun t24 w =>
  biT P .append #[T.sl_int, T.sl_int] T.sl_int [false, false] [(gv x1 0), t24] w fun t25 w =>
  K3 [t25] w) (
  K3 [(gv x1 0)] w)) fun x3 w =>
  binT P .add T.int (.tmp 12) (.const (.int .i64 1)) (gv x1 1) (.int .i64 1) w fun t13 w =>
  K1 [(gv x3 0), t13] w
def M.pwinnowref06_Disk_Files.j1 (a0 : Value) (x1 : List Value) (K0 : KL) (K1 : KL) (w : World) (K : KV) : Prop :=
  joinT (fun K2 =>
  nilT a0 w fun t7 w =>
  faT P T.winnowref06_Disk t7 1 w fun t8 w =>
  ldT P T.sl_winnowref06_File t8 w fun t9 w =>
  biT P .len #[T.sl_winnowref06_File] T.int [false] [t9] w fun t10 w =>
  binT P .lss T.int (.tmp 5) (.tmp 10) (gv x1 1) t10 w fun t11 w =>
  condT t11 (
  K2 [] w) (
  K0 [(gv x1 1), (gv x1 0)] w)) fun x2 w =>
  M.pwinnowref06_Disk_Files.j2 a0 x1 K1 w K
/-- (*winnow/winnowref06.Disk).Files -/
def M.pwinnowref06_Disk_Files (a0 : Value) (w : World) (K : KV) : Prop :=
  joinT (fun K0 =>
  loopT [(.slice none 0 0), (.int .i64 0)] w fun K1 x1 w =>
  M.pwinnowref06_Disk_Files.j1 a0 x1 K0 K1 w K) fun x0 w =>
  K (gv x0 1) w
def M.pwinnowref06_Disk_Files.L : List Nat := [0, 2, 3, 4]
def M.pwinnowref06_Disk_Files.pl : Nat → Plan := fun id => ⟨.nil, [], false⟩
theorem M.pwinnowref06_Disk_Files.eq (a0 : Value) (w : World) (K : KV) : M.pwinnowref06_Disk_Files a0 w K = den P M.pwinnowref06_Disk_Files.L M.pwinnowref06_Disk_Files.pl (Try.f78.body.getD .skip) (argE [a0]) w (bodyQ P Try.f78.results.toList K) := by kernel_rfl
theorem M.pwinnowref06_Disk_Files.ok : okFn M.pwinnowref06_Disk_Files.L M.pwinnowref06_Disk_Files.pl Try.f78 (Try.f78.body.getD .skip) 1 = true := by kernel_rfl
theorem M.pwinnowref06_Disk_Files.calls (a0 : Value) {w : World} {K : KV} (h : M.pwinnowref06_Disk_Files a0 w K) : callT P F.pwinnowref06_Disk_Files [a0] w K :=
  callT_of_den (by kernel_rfl) Try.func78 (by kernel_rfl) M.pwinnowref06_Disk_Files.ok (M.pwinnowref06_Disk_Files.eq a0 w K ▸ h)
theorem M.pwinnowref06_Disk_Files.fcall (args : List Value) (w : World) (K : KV) : fcallT P F.pwinnowref06_Disk_Files args w K = callT P F.pwinnowref06_Disk_Files args w K := fcallT_eq Try.func78 (by kernel_rfl) (by kernel_rfl) args w K
theorem M.pwinnowref06_Disk_Files.rcall (a c args : List Value) (w : World) (K : KV) : callRT P (.func (.func F.pwinnowref06_Disk_Files) a.toArray c.toArray) args w K = callT P F.pwinnowref06_Disk_Files (a ++ args ++ c) w K := callR_fn Try.func78 (by kernel_rfl) (by kernel_rfl) a c args w K

def M.pwinnowref06_Disk_Used.j2 (a0 : Value) (x1 : List Value) (K1 : KL) (w : World) (K : KV) : Prop :=
  joinT (fun K3 =>
  nilT a0 w fun t16 w =>
  faT P T.winnowref06_Disk t16 1 w fun t17 w =>
  ldT P T.sl_winnowref06_File t17 w fun t18 w =>
  iaT P T.sl_winnowref06_File t18 (gv x1 1) w fun t20 w =>
  faT P T.winnowref06_File t20 1 w fun t21 w =>
  ldT P T.sl_uint8 t21 w fun t22 w =>
  biT P .len #[T.sl_uint8] T.int [false] [t22] w fun t23 w =>
  binT P .add T.int (.tmp 14) (.tmp 23) (gv x1 0) t23 w fun t24 w =>
  K3 [t24] w) fun x3 w =>
  binT P .add T.int (.tmp 12) (.const (.int .i64 1)) (gv x1 1) (.int .i64 1) w fun t13 w =>
  K1 [(gv x3 0), t13] w
def M.pwinnowref06_Disk_Used.j1 (a0 : Value) (x1 : List Value) (K0 : KL) (K1 : KL) (w : World) (K : KV) : Prop :=
  joinT (fun K2 =>
  nilT a0 w fun t7 w =>
  faT P T.winnowref06_Disk t7 1 w fun t8 w =>
  ldT P T.sl_winnowref06_File t8 w fun t9 w =>
  biT P .len #[T.sl_winnowref06_File] T.int [false] [t9] w fun t10 w =>
  binT P .lss T.int (.tmp 5) (.tmp 10) (gv x1 1) t10 w fun t11 w =>
  condT t11 (
  K2 [] w) (
  K0 [(gv x1 1), (gv x1 0)] w)) fun x2 w =>
  M.pwinnowref06_Disk_Used.j2 a0 x1 K1 w K
/-- (*winnow/winnowref06.Disk).Used -/
def M.pwinnowref06_Disk_Used (a0 : Value) (w : World) (K : KV) : Prop :=
  joinT (fun K0 =>
  loopT [(.int .i64 0), (.int .i64 0)] w fun K1 x1 w =>
  M.pwinnowref06_Disk_Used.j1 a0 x1 K0 K1 w K) fun x0 w =>
  K (gv x0 1) w
def M.pwinnowref06_Disk_Used.L : List Nat := [0, 2, 3, 4]
def M.pwinnowref06_Disk_Used.pl : Nat → Plan := fun id => ⟨.nil, [], false⟩
theorem M.pwinnowref06_Disk_Used.eq (a0 : Value) (w : World) (K : KV) : M.pwinnowref06_Disk_Used a0 w K = den P M.pwinnowref06_Disk_Used.L M.pwinnowref06_Disk_Used.pl (Try.f79.body.getD .skip) (argE [a0]) w (bodyQ P Try.f79.results.toList K) := by kernel_rfl
theorem M.pwinnowref06_Disk_Used.ok : okFn M.pwinnowref06_Disk_Used.L M.pwinnowref06_Disk_Used.pl Try.f79 (Try.f79.body.getD .skip) 1 = true := by kernel_rfl
theorem M.pwinnowref06_Disk_Used.calls (a0 : Value) {w : World} {K : KV} (h : M.pwinnowref06_Disk_Used a0 w K) : callT P F.pwinnowref06_Disk_Used [a0] w K :=
  callT_of_den (by kernel_rfl) Try.func79 (by kernel_rfl) M.pwinnowref06_Disk_Used.ok (M.pwinnowref06_Disk_Used.eq a0 w K ▸ h)
theorem M.pwinnowref06_Disk_Used.fcall (args : List Value) (w : World) (K : KV) : fcallT P F.pwinnowref06_Disk_Used args w K = callT P F.pwinnowref06_Disk_Used args w K := fcallT_eq Try.func79 (by kernel_rfl) (by kernel_rfl) args w K
theorem M.pwinnowref06_Disk_Used.rcall (a c args : List Value) (w : World) (K : KV) : callRT P (.func (.func F.pwinnowref06_Disk_Used) a.toArray c.toArray) args w K = callT P F.pwinnowref06_Disk_Used (a ++ args ++ c) w K := callR_fn Try.func79 (by kernel_rfl) (by kernel_rfl) a c args w K

def M.pwinnowref06_Disk_Read.j0 (a0 : Value) (a1 : Value) (w : World) (K : KV) : Prop :=
  nilT a0 w fun t14 w =>
  faT P T.winnowref06_Disk t14 1 w fun t15 w =>
  ldT P T.sl_winnowref06_File t15 w fun t16 w =>
  iaT P T.sl_winnowref06_File t16 a1 w fun t18 w =>
  faT P T.winnowref06_File t18 1 w fun t19 w =>
  ldT P T.sl_uint8 t19 w fun t20 w =>
  K (.tuple #[t20, (.int .i64 0)]) w
/-- (*winnow/winnowref06.Disk).Read -/
def M.pwinnowref06_Disk_Read (a0 a1 : Value) (w : World) (K : KV) : Prop :=
  joinT (fun K0 =>
  fcallT P F.pwinnowref06_Disk_asked [a0, a1] w fun t9 w =>
  binT P .neq T.api_Kind (.tmp 10) (.const (.int .i64 0)) t9 (.int .i64 0) w fun t11 w =>
  condT t11 (
  K (.tuple #[(.slice none 0 0), t9]) w) (
  K0 [t9, (.slice none 0 0), (.int .i64 0)] w)) fun x0 w =>
  M.pwinnowref06_Disk_Read.j0 a0 a1 w K
def M.pwinnowref06_Disk_Read.L : List Nat := [0, 1, 4, 5, 6]
def M.pwinnowref06_Disk_Read.pl : Nat → Plan := fun id => ⟨.nil, [], false⟩
theorem M.pwinnowref06_Disk_Read.eq (a0 a1 : Value) (w : World) (K : KV) : M.pwinnowref06_Disk_Read a0 a1 w K = den P M.pwinnowref06_Disk_Read.L M.pwinnowref06_Disk_Read.pl (Try.f80.body.getD .skip) (argE [a0, a1]) w (bodyQ P Try.f80.results.toList K) := by kernel_rfl
theorem M.pwinnowref06_Disk_Read.ok : okFn M.pwinnowref06_Disk_Read.L M.pwinnowref06_Disk_Read.pl Try.f80 (Try.f80.body.getD .skip) 2 = true := by kernel_rfl
theorem M.pwinnowref06_Disk_Read.calls (a0 a1 : Value) {w : World} {K : KV} (h : M.pwinnowref06_Disk_Read a0 a1 w K) : callT P F.pwinnowref06_Disk_Read [a0, a1] w K :=
  callT_of_den (by kernel_rfl) Try.func80 (by kernel_rfl) M.pwinnowref06_Disk_Read.ok (M.pwinnowref06_Disk_Read.eq a0 a1 w K ▸ h)
theorem M.pwinnowref06_Disk_Read.fcall (args : List Value) (w : World) (K : KV) : fcallT P F.pwinnowref06_Disk_Read args w K = callT P F.pwinnowref06_Disk_Read args w K := fcallT_eq Try.func80 (by kernel_rfl) (by kernel_rfl) args w K
theorem M.pwinnowref06_Disk_Read.rcall (a c args : List Value) (w : World) (K : KV) : callRT P (.func (.func F.pwinnowref06_Disk_Read) a.toArray c.toArray) args w K = callT P F.pwinnowref06_Disk_Read (a ++ args ++ c) w K := callR_fn Try.func80 (by kernel_rfl) (by kernel_rfl) a c args w K

def M.slices_Grow_byte_byte.j0 (a0 : Value) (a1 : Value) (w : World) (K : KV) : Prop :=
  joinT (fun K1 =>
  biT P .cap #[T.sl_uint8] T.int [false] [a0] w fun t10 w =>
  biT P .len #[T.sl_uint8] T.int [false] [a0] w fun t12 w =>
  binT P .sub T.int (.tmp 10) (.tmp 12) t10 t12 w fun t13 w =>
  binT P .sub T.int (.tmp 8) (.tmp 13) a1 t13 w fun t14 w =>
  binT P .gtr T.int (.tmp 15) (.const (.int .i64 0)) t14 (.int .i64 0) w fun t16 w =>
  condT t16 (
  biT P .cap #[T.sl_uint8] T.int [false] [a0] w fun t19 w =>
  slT P T.sl_uint8 a0 none (some t19) none w fun t20 w =>
  biT P .append #[T.sl_uint8, T.int] T.sl_uint8 [false, false] [t20, t14] w fun t22 w =>
  biT P .len #[T.sl_uint8] T.int [false] [a0] w fun t24 w =>
  slT P T.sl_uint8 t22 none (some t24) none w fun t25 w =>
  K1 [t14, t25] w) (
  K1 [t14, a0] w)) fun x1 w =>
  K (gv x1 1) w
/-- slices.Grow[[]byte,byte] -/
def M.slices_Grow_byte_byte (a0 a1 : Value) (w : World) (K : KV) : Prop :=
  joinT (fun K0 =>
  binT P .lss T.int (.tmp 5) (.const (.int .i64 0)) a1 (.int .i64 0) w fun t6 w =>
  condT t6 (
  mkiT P T.string (.string ⟨#[99, 97, 110, 110, 111, 116, 32, 98, 101, 32, 110, 101, 103, 97, 116, 105, 118, 101]⟩) w fun t7 w =>
  panicT w fun _ w =>
  K0 [] w) (
  K0 [] w)) fun x0 w =>
  M.slices_Grow_byte_byte.j0 a0 a1 w K
def M.slices_Grow_byte_byte.L : List Nat := [0, 1, 4]
def M.slices_Grow_byte_byte.pl : Nat → Plan := fun id => ⟨.nil, [], false⟩
theorem M.slices_Grow_byte_byte.eq (a0 a1 : Value) (w : World) (K : KV) : M.slices_Grow_byte_byte a0 a1 w K = den P M.slices_Grow_byte_byte.L M.slices_Grow_byte_byte.pl (Try.f100.body.getD .skip) (argE [a0, a1]) w (bodyQ P Try.f100.results.toList K) := by kernel_rfl
theorem M.slices_Grow_byte_byte.ok : okFn M.slices_Grow_byte_byte.L M.slices_Grow_byte_byte.pl Try.f100 (Try.f100.body.getD .skip) 2 = true := by kernel_rfl
theorem M.slices_Grow_byte_byte.calls (a0 a1 : Value) {w : World} {K : KV} (h : M.slices_Grow_byte_byte a0 a1 w K) : callT P F.slices_Grow_byte_byte [a0, a1] w K :=
  callT_of_den (by kernel_rfl) Try.func100 (by kernel_rfl) M.slices_Grow_byte_byte.ok (M.slices_Grow_byte_byte.eq a0 a1 w K ▸ h)
theorem M.slices_Grow_byte_byte.fcall (args : List Value) (w : World) (K : KV) : fcallT P F.slices_Grow_byte_byte args w K = callT P F.slices_Grow_byte_byte args w K := fcallT_eq Try.func100 (by kernel_rfl) (by kernel_rfl) args w K
theorem M.slices_Grow_byte_byte.rcall (a c args : List Value) (w : World) (K : KV) : callRT P (.func (.func F.slices_Grow_byte_byte) a.toArray c.toArray) args w K = callT P F.slices_Grow_byte_byte (a ++ args ++ c) w K := callR_fn Try.func100 (by kernel_rfl) (by kernel_rfl) a c args w K

/-- slices.Collect[int] -/
def M.slices_Collect_int (a0 : Value) (w : World) (K : KV) : Prop :=
  fcallT P F.slices_AppendSeq_int_int [(.slice none 0 0), a0] w fun t4 w =>
  K t4 w
def M.slices_Collect_int.L : List Nat := [0, 2]
def M.slices_Collect_int.pl : Nat → Plan := fun id => ⟨.nil, [], false⟩
theorem M.slices_Collect_int.eq (a0 : Value) (w : World) (K : KV) : M.slices_Collect_int a0 w K = den P M.slices_Collect_int.L M.slices_Collect_int.pl (Try.f101.body.getD .skip) (argE [a0]) w (bodyQ P Try.f101.results.toList K) := by kernel_rfl
theorem M.slices_Collect_int.ok : okFn M.slices_Collect_int.L M.slices_Collect_int.pl Try.f101 (Try.f101.body.getD .skip) 1 = true := by kernel_rfl
theorem M.slices_Collect_int.calls (a0 : Value) {w : World} {K : KV} (h : M.slices_Collect_int a0 w K) : callT P F.slices_Collect_int [a0] w K :=
  callT_of_den (by kernel_rfl) Try.func101 (by kernel_rfl) M.slices_Collect_int.ok (M.slices_Collect_int.eq a0 w K ▸ h)
theorem M.slices_Collect_int.fcall (args : List Value) (w : World) (K : KV) : fcallT P F.slices_Collect_int args w K = callT P F.slices_Collect_int args w K := fcallT_eq Try.func101 (by kernel_rfl) (by kernel_rfl) args w K
theorem M.slices_Collect_int.rcall (a c args : List Value) (w : World) (K : KV) : callRT P (.func (.func F.slices_Collect_int) a.toArray c.toArray) args w K = callT P F.slices_Collect_int (a ++ args ++ c) w K := callR_fn Try.func101 (by kernel_rfl) (by kernel_rfl) a c args w K

/-- slices.Sort[[]int,int] -/
def M.slices_Sort_int_int (a0 : Value) (w : World) (K : KV) : Prop :=
  biT P .len #[T.sl_int] T.int [false] [a0] w fun t4 w =>
  cvT P T.int T.uint t4 w fun t8 w =>
  fcallT P F.math_bits_Len [t8] w fun t9 w =>
  fcallT P F.slices_pdqsortOrdered_int [a0, (.int .i64 0), t4, t9] w fun t10 w =>
  K (.tuple #[]) w
def M.slices_Sort_int_int.L : List Nat := [0, 2]
def M.slices_Sort_int_int.pl : Nat → Plan := fun id => ⟨.nil, [], false⟩
theorem M.slices_Sort_int_int.eq (a0 : Value) (w : World) (K : KV) : M.slices_Sort_int_int a0 w K = den P M.slices_Sort_int_int.L M.slices_Sort_int_int.pl (Try.f102.body.getD .skip) (argE [a0]) w (bodyQ P Try.f102.results.toList K) := by kernel_rfl
theorem M.slices_Sort_int_int.ok : okFn M.slices_Sort_int_int.L M.slices_Sort_int_int.pl Try.f102 (Try.f102.body.getD .skip) 1 = true := by kernel_rfl
theorem M.slices_Sort_int_int.calls (a0 : Value) {w : World} {K : KV} (h : M.slices_Sort_int_int a0 w K) : callT P F.slices_Sort_int_int [a0] w K :=
  callT_of_den (by kernel_rfl) Try.func102 (by kernel_rfl) M.slices_Sort_int_int.ok (M.slices_Sort_int_int.eq a0 w K ▸ h)
theorem M.slices_Sort_int_int.fcall (args : List Value) (w : World) (K : KV) : fcallT P F.slices_Sort_int_int args w K = callT P F.slices_Sort_int_int args w K := fcallT_eq Try.func102 (by kernel_rfl) (by kernel_rfl) args w K
theorem M.slices_Sort_int_int.rcall (a c args : List Value) (w : World) (K : KV) : callRT P (.func (.func F.slices_Sort_int_int) a.toArray c.toArray) args w K = callT P F.slices_Sort_int_int (a ++ args ++ c) w K := callR_fn Try.func102 (by kernel_rfl) (by kernel_rfl) a c args w K

def M.maps_Keys_map_int_disk_file_int_disk_file_1.j0 (t5 : Value) (a0 : Value) (K0 : KL) (w : World) (K : KV) : Prop :=
  nxT P t5 false T._ w fun t6 w =>
  exT P t6 0 w fun t7 w =>
  joinT (fun K1 =>
  condT t7 (
  K1 [] w) (
  K (.tuple #[]) w)) fun x1 w =>
  enT P t5 w fun t8 w =>
  exT P t8 0 w fun t9 w =>
  callRT P a0 [t9] w fun t12 w =>
  unT P .not t12 w fun t13 w =>
  condT t13 (
  K (.tuple #[]) w) (
  K0 [t9] w)
/-- maps.Keys[map[int]*winnow/disk.file,int,*winnow/disk.file]$1 -/
def M.maps_Keys_map_int_disk_file_int_disk_file_1 (a0 a1 : Value) (w : World) (K : KV) : Prop :=
  ldT P T.map_int_p_disk_file a1 w fun t4 w =>
  rgT P T.map_int_p_disk_file t4 w fun t5 w =>
  loopT [undef] w fun K0 x0 w =>
  M.maps_Keys_map_int_disk_file_int_disk_file_1.j0 t5 a0 K0 w K
def M.maps_Keys_map_int_disk_file_int_disk_file_1.L : List Nat := [0, 1, 3, 5]
def M.maps_Keys_map_int_disk_file_int_disk_file_1.pl : Nat → Plan := fun id => ⟨.nil, [], false⟩
theorem M.maps_Keys_map_int_disk_file_int_disk_file_1.eq (a0 a1 : Value) (w : World) (K : KV) : M.maps_Keys_map_int_disk_file_int_disk_file_1 a0 a1 w K = den P M.maps_Keys_map_int_disk_file_int_disk_file_1.L M.maps_Keys_map_int_disk_file_int_disk_file_1.pl (Try.f103.body.getD .skip) (argE [a0, a1]) w (bodyQ P Try.f103.results.toList K) := by kernel_rfl
theorem M.maps_Keys_map_int_disk_file_int_disk_file_1.ok : okFn M.maps_Keys_map_int_disk_file_int_disk_file_1.L M.maps_Keys_map_int_disk_file_int_disk_file_1.pl Try.f103 (Try.f103.body.getD .skip) 2 = true := by kernel_rfl
theorem M.maps_Keys_map_int_disk_file_int_disk_file_1.calls (a0 a1 : Value) {w : World} {K : KV} (h : M.maps_Keys_map_int_disk_file_int_disk_file_1 a0 a1 w K) : callT P F.maps_Keys_map_int_disk_file_int_disk_file_1 [a0, a1] w K :=
  callT_of_den (by kernel_rfl) Try.func103 (by kernel_rfl) M.maps_Keys_map_int_disk_file_int_disk_file_1.ok (M.maps_Keys_map_int_disk_file_int_disk_file_1.eq a0 a1 w K ▸ h)
theorem M.maps_Keys_map_int_disk_file_int_disk_file_1.fcall (args : List Value) (w : World) (K : KV) : fcallT P F.maps_Keys_map_int_disk_file_int_disk_file_1 args w K = callT P F.maps_Keys_map_int_disk_file_int_disk_file_1 args w K := fcallT_eq Try.func103 (by kernel_rfl) (by kernel_rfl) args w K
theorem M.maps_Keys_map_int_disk_file_int_disk_file_1.rcall (a c args : List Value) (w : World) (K : KV) : callRT P (.func (.func F.maps_Keys_map_int_disk_file_int_disk_file_1) a.toArray c.toArray) args w K = callT P F.maps_Keys_map_int_disk_file_int_disk_file_1 (a ++ args ++ c) w K := callR_fn Try.func103 (by kernel_rfl) (by kernel_rfl) a c args w K

def M.pwinnowref06_Disk_asked.j0 (a1 : Value) (a0 : Value) (x0 : List Value) (w : World) (K : KV) : Prop :=
  joinT (fun K1 =>
  binT P .lss T.int (.tmp 9) (.const (.int .i64 0)) a1 (.int .i64 0) w fun t10 w =>
  guardT (isB t10 false) (fun K' => K' a1 w) w fun t12 w =>
  guardT (isB t10 false) (fun K' => binT P .geq T.int (.tmp 12) (.const (.int .i64 64)) t12 (.int .i64 64) w K') w fun t13 w =>
  pickT t10 (.bool true) t13 w fun t14 w =>
  guardT (isB t14 false) (fun K' => K' a0 w) w fun t16 w =>
  guardT (isB t14 false) (fun K' => nilT t16 w K') w fun t17 w =>
  guardT (isB t14 false) (fun K' => faT P T.winnowref06_Disk t17 1 w K') w fun t18 w =>
  guardT (isB t14 false) (fun K' => ldT P T.sl_winnowref06_File t18 w K') w fun t19 w =>
  guardT (isB t14 false) (fun K' => K' a1 w) w fun t20 w =>
  guardT (isB t14 false) (fun K' => iaT P T.sl_winnowref06_File t19 t20 w K') w fun t21 w =>
  guardT (isB t14 false) (fun K' => faT P T.winnowref06_File t21 0 w K') w fun t22 w =>
  guardT (isB t14 false) (fun K' => ldT P T.bool t22 w K') w fun t23 w =>
  guardT (isB t14 false) (fun K' => unT P .not t23 w K') w fun t24 w =>
  pickT t14 (.bool true) t24 w fun t25 w =>
  condT t25 (
  K (.int .i64 11) w) (
  K1 [(gv x0 0)] w)) fun x1 w =>
  K (.int .i64 0) w
/-- (*winnow/winnowref06.Disk).asked -/
def M.pwinnowref06_Disk_asked (a0 a1 : Value) (w : World) (K : KV) : Prop :=
  joinT (fun K0 =>
  nilT a0 w fun t6 w =>
  faT P T.winnowref06_Disk t6 3 w fun t7 w =>
  ldT P T.bool t7 w fun t8 w =>
  condT t8 (
  K (.int .i64 10) w) (
  K0 [(.int .i64 0)] w)) fun x0 w =>
  M.pwinnowref06_Disk_asked.j0 a1 a0 x0 w K
def M.pwinnowref06_Disk_asked.L : List Nat := [0, 1, 4]
def M.pwinnowref06_Disk_asked.pl : Nat → Plan := fun id => ⟨.nil, [], false⟩
theorem M.pwinnowref06_Disk_asked.eq (a0 a1 : Value) (w : World) (K : KV) : M.pwinnowref06_Disk_asked a0 a1 w K = den P M.pwinnowref06_Disk_asked.L M.pwinnowref06_Disk_asked.pl (Try.f104.body.getD .skip) (argE [a0, a1]) w (bodyQ P Try.f104.results.toList K) := by kernel_rfl
theorem M.pwinnowref06_Disk_asked.ok : okFn M.pwinnowref06_Disk_asked.L M.pwinnowref06_Disk_asked.pl Try.f104 (Try.f104.body.getD .skip) 2 = true := by kernel_rfl
theorem M.pwinnowref06_Disk_asked.calls (a0 a1 : Value) {w : World} {K : KV} (h : M.pwinnowref06_Disk_asked a0 a1 w K) : callT P F.pwinnowref06_Disk_asked [a0, a1] w K :=
  callT_of_den (by kernel_rfl) Try.func104 (by kernel_rfl) M.pwinnowref06_Disk_asked.ok (M.pwinnowref06_Disk_asked.eq a0 a1 w K ▸ h)
theorem M.pwinnowref06_Disk_asked.fcall (args : List Value) (w : World) (K : KV) : fcallT P F.pwinnowref06_Disk_asked args w K = callT P F.pwinnowref06_Disk_asked args w K := fcallT_eq Try.func104 (by kernel_rfl) (by kernel_rfl) args w K
theorem M.pwinnowref06_Disk_asked.rcall (a c args : List Value) (w : World) (K : KV) : callRT P (.func (.func F.pwinnowref06_Disk_asked) a.toArray c.toArray) args w K = callT P F.pwinnowref06_Disk_asked (a ++ args ++ c) w K := callR_fn Try.func104 (by kernel_rfl) (by kernel_rfl) a c args w K

def M.slices_pdqsortOrdered_int.j6 (a0 : Value) (x6 : List Value) (x0 : List Value) (x4 : List Value) (t21 : Value) (x3 : List Value) (K0 : KL) (w : World) (K : KV) : Prop :=
  fcallT P F.slices_partitionOrdered_int [a0, (gv x6 1), (gv x0 13), (gv x4 0)] w fun t99 w =>
  exT P t99 0 w fun t100 w =>
  exT P t99 1 w fun t101 w =>
  binT P .sub T.int (.tmp 103) (.tmp 104) t100 (gv x6 1) w fun t105 w =>
  binT P .sub T.int (.tmp 106) (.tmp 107) (gv x0 13) t100 w fun t108 w =>
  binT P .quo T.int (.tmp 109) (.const (.int .i64 8)) t21 (.int .i64 8) w fun t110 w =>
  binT P .lss T.int (.tmp 111) (.tmp 112) t105 t108 w fun t113 w =>
  condT t113 (
  binT P .geq T.int (.tmp 114) (.tmp 115) t105 t110 w fun t116 w =>
  fcallT P F.slices_pdqsortOrdered_int [a0, (gv x6 1), t100, (gv x3 0)] w fun t121 w =>
  binT P .add T.int (.tmp 122) (.const (.int .i64 1)) t100 (.int .i64 1) w fun t123 w =>
  K0 [t21, (gv x3 0), (gv x4 0), (gv x4 1), (gv x6 0), t123, t100, t101, t101, t105, t108, t110, t116, (gv x0 13)] w) (
  binT P .geq T.int (.tmp 124) (.tmp 125) t108 t110 w fun t126 w =>
  binT P .add T.int (.tmp 128) (.const (.int .i64 1)) t100 (.int .i64 1) w fun t129 w =>
  fcallT P F.slices_pdqsortOrdered_int [a0, t129, (gv x0 13), (gv x3 0)] w fun t132 w =>
  K0 [t21, (gv x3 0), (gv x4 0), (gv x4 1), (gv x6 0), (gv x6 1), t100, t101, t101, t105, t108, t110, t126, t100] w)
def M.slices_pdqsortOrdered_int.j5 (x0 : List Value) (a0 : Value) (x4 : List Value) (K0 : KL) (t21 : Value) (x3 : List Value) (w : World) (K : KV) : Prop :=
  joinT (fun K6 =>
  drawT w fun w =>
  w = w ∧ quietT (fun K' => binT P .gtr T.int (.tmp 73) (.const (.int .i64 0)) (gv x0 5) (.int .i64 0) w K') w fun t74 =>
  w = w ∧ quietT (fun K' => guardT (isB t74 true) (fun K' => K' a0 w) w K') w fun t76 =>
  quietT (fun K' => guardT (isB t74 true) (fun K' => K' (gv x0 5) w) w K') w fun t77 =>
  quietT (fun K' => guardT (isB t74 true) (fun K' => binT P .sub T.int (.tmp 77) (.const (.int .i64 1)) t77 (.int .i64 1) w K') w K') w fun t78 =>
  quietT (fun K' => guardT (isB t74 true) (fun K' => iaT P T.sl_int t76 t78 w K') w K') w fun t79 =>
  quietT (fun K' => guardT (isB t74 true) (fun K' => ldT P T.int t79 w K') w K') w fun t80 =>
  quietT (fun K' => guardT (isB t74 true) (fun K' => K' a0 w) w K') w fun t81 =>
  quietT (fun K' => guardT (isB t74 true) (fun K' => K' (gv x4 0) w) w K') w fun t82 =>
  quietT (fun K' => guardT (isB t74 true) (fun K' => iaT P T.sl_int t81 t82 w K') w K') w fun t83 =>
  quietT (fun K' => guardT (isB t74 true) (fun K' => ldT P T.int t83 w K') w K') w fun t84 =>
  guardT (isB t74 true) (fun K' => fcallT P F.cmp_Less_int [t80, t84] w K') w fun t85 w =>
  quietT (fun K' => guardT (isB t74 true) (fun K' => unT P .not t85 w K') w K') w fun t86 =>
  quietT (fun K' => pickT t74 t86 (.bool false) w K') w fun t87 =>
  condT t87 (
  fcallT P F.slices_partitionEqualOrdered_int [a0, (gv x0 5), (gv x0 13), (gv x4 0)] w fun t92 w =>
  K0 [t21, (gv x3 0), (gv x4 0), (gv x4 1), t92, t92, (gv x0 6), (gv x0 7), (gv x0 8), (gv x0 9), (gv x0 10), (gv x0 11), (gv x0 12), (gv x0 13)] w) (
  K6 [(gv x0 4), (gv x0 5)] w)) fun x6 w =>
  M.slices_pdqsortOrdered_int.j6 a0 x6 x0 x4 t21 x3 K0 w K
def M.slices_pdqsortOrdered_int.j4 (x0 : List Value) (x4 : List Value) (a0 : Value) (K0 : KL) (t21 : Value) (x3 : List Value) (w : World) (K : KV) : Prop :=
  joinT (fun K5 =>
  guardT (isB (gv x0 12) true) (fun K' => K' (gv x0 8) w) w fun t63 w =>
  pickT (gv x0 12) t63 (.bool false) w fun t64 w =>
  guardT (isB t64 true) (fun K' => K' (gv x4 1) w) w fun t66 w =>
  guardT (isB t64 true) (fun K' => binT P .eql T.slices_sortedHint (.tmp 66) (.const (.int .i64 1)) t66 (.int .i64 1) w K') w fun t67 w =>
  pickT t64 t67 (.bool false) w fun t68 w =>
  condT t68 (
  fcallT P F.slices_partialInsertionSortOrdered_int [a0, (gv x0 5), (gv x0 13)] w fun t72 w =>
  condT t72 (
  K (.tuple #[]) w) (
  K5 [] w)) (
  K5 [] w)) fun x5 w =>
  M.slices_pdqsortOrdered_int.j5 x0 a0 x4 K0 t21 x3 w K
def M.slices_pdqsortOrdered_int.j3 (a0 : Value) (x0 : List Value) (K0 : KL) (t21 : Value) (x3 : List Value) (w : World) (K : KV) : Prop :=
  fcallT P F.slices_choosePivotOrdered_int [a0, (gv x0 5), (gv x0 13)] w fun t46 w =>
  exT P t46 0 w fun t47 w =>
  exT P t46 1 w fun t48 w =>
  joinT (fun K4 =>
  binT P .eql T.slices_sortedHint (.tmp 49) (.const (.int .i64 2)) t48 (.int .i64 2) w fun t50 w =>
  condT t50 (
  fcallT P F.slices_reverseRangeOrdered_int [a0, (gv x0 5), (gv x0 13)] w fun t54 w =>
  binT P .sub T.int (.tmp 55) (.const (.int .i64 1)) (gv x0 13) (.int .i64 1) w fun t56 w =>
  binT P .sub T.int (.tmp 57) (.tmp 58) t47 (gv x0 5) w fun t59 w =>
  binT P .sub T.int (.tmp 56) (.tmp 59) t56 t59 w fun t60 w =>
  K4 [t60, (.int .i64 1)] w) (
  K4 [t47, t48] w)) fun x4 w =>
  M.slices_pdqsortOrdered_int.j4 x0 x4 a0 K0 t21 x3 w K
def M.slices_pdqsortOrdered_int.j2 (x0 : List Value) (a0 : Value) (K0 : KL) (t21 : Value) (w : World) (K : KV) : Prop :=
  joinT (fun K3 =>
  unT P .not (gv x0 12) w fun t35 w =>
  condT t35 (
  fcallT P F.slices_breakPatternsOrdered_int [a0, (gv x0 5), (gv x0 13)] w fun t39 w =>
  binT P .sub T.int (.tmp 40) (.const (.int .i64 1)) (gv x0 1) (.int .i64 1) w fun t41 w =>
  K3 [t41] w) (
  K3 [(gv x0 1)] w)) fun x3 w =>
  M.slices_pdqsortOrdered_int.j3 a0 x0 K0 t21 x3 w K
def M.slices_pdqsortOrdered_int.j1 (x0 : List Value) (a0 : Value) (K0 : KL) (t21 : Value) (w : World) (K : KV) : Prop :=
  joinT (fun K2 =>
  binT P .eql T.int (.tmp 28) (.const (.int .i64 0)) (gv x0 1) (.int .i64 0) w fun t29 w =>
  condT t29 (
  fcallT P F.slices_heapSortOrdered_int [a0, (gv x0 5), (gv x0 13)] w fun t33 w =>
  K (.tuple #[]) w) (
  K2 [] w)) fun x2 w =>
  M.slices_pdqsortOrdered_int.j2 x0 a0 K0 t21 w K
def M.slices_pdqsortOrdered_int.j0 (x0 : List Value) (a0 : Value) (K0 : KL) (w : World) (K : KV) : Prop :=
  binT P .sub T.int (.tmp 19) (.tmp 20) (gv x0 13) (gv x0 5) w fun t21 w =>
  joinT (fun K1 =>
  binT P .leq T.int (.tmp 22) (.const (.int .i64 12)) t21 (.int .i64 12) w fun t23 w =>
  condT t23 (
  fcallT P F.slices_insertionSortOrdered_int [a0, (gv x0 5), (gv x0 13)] w fun t27 w =>
  K (.tuple #[]) w) (
  K1 [] w)) fun x1 w =>
  M.slices_pdqsortOrdered_int.j1 x0 a0 K0 t21 w K
/-- slices.pdqsortOrdered[int] -/
def M.slices_pdqsortOrdered_int (a0 a1 a2 a3 : Value) (w : World) (K : KV) : Prop :=
  loopT [undef, a3, undef, undef, undef, a1, undef, undef, (.bool true), undef, undef, undef, (.bool true), a2] w fun K0 x0 w =>
  M.slices_pdqsortOrdered_int.j0 x0 a0 K0 w K
def M.slices_pdqsortOrdered_int.L : List Nat := [0, 1, 2, 3, 8, 9, 10, 11, 12, 13, 14, 15, 16, 17, 18]
def M.slices_pdqsortOrdered_int.pl : Nat → Plan := fun id => cond (Nat.beq id 17) ⟨(.go 0 (.go 1 (.go 2 (.go 3 (.go 4 (.go 5 (.go 6 (.go 7 (.go 8 (.go 9 (.go 10 (.go 11 (.eff 12 (.go 13 (.go 14 .nil)) .stop))))))))))))), [12], false⟩ (⟨.nil, [], false⟩)
theorem M.slices_pdqsortOrdered_int.eq (a0 a1 a2 a3 : Value) (w : World) (K : KV) : M.slices_pdqsortOrdered_int a0 a1 a2 a3 w K = den P M.slices_pdqsortOrdered_int.L M.slices_pdqsortOrdered_int.pl (Try.f120.body.getD .skip) (argE [a0, a1, a2, a3]) w (bodyQ P Try.f120.results.toList K) := by kernel_rfl
theorem M.slices_pdqsortOrdered_int.ok : okFn M.slices_pdqsortOrdered_int.L M.slices_pdqsortOrdered_int.pl Try.f120 (Try.f120.body.getD .skip) 4 = true := by kernel_rfl
theorem M.slices_pdqsortOrdered_int.calls (a0 a1 a2 a3 : Value) {w : World} {K : KV} (h : M.slices_pdqsortOrdered_int a0 a1 a2 a3 w K) : callT P F.slices_pdqsortOrdered_int [a0, a1, a2, a3] w K :=
  callT_of_den (by kernel_rfl) Try.func120 (by kernel_rfl) M.slices_pdqsortOrdered_int.ok (M.slices_pdqsortOrdered_int.eq a0 a1 a2 a3 w K ▸ h)
theorem M.slices_pdqsortOrdered_int.fcall (args : List Value) (w : World) (K : KV) : fcallT P F.slices_pdqsortOrdered_int args w K = callT P F.slices_pdqsortOrdered_int args w K := fcallT_eq Try.func120 (by kernel_rfl) (by kernel_rfl) args w K
theorem M.slices_pdqsortOrdered_int.rcall (a c args : List Value) (w : World) (K : KV) : callRT P (.func (.func F.slices_pdqsortOrdered_int) a.toArray c.toArray) args w K = callT P F.slices_pdqsortOrdered_int (a ++ args ++ c) w K := callR_fn Try.func120 (by kernel_rfl) (by kernel_rfl) a c args w K

/-- math/bits.Len -/
def M.math_bits_Len (a0 : Value) (w : World) (K : KV) : Prop :=
  joinT (fun K0 =>
  condT (.bool false) (
  cvT P T.uint T.uint32 a0 w fun t4 w =>
  fcallT P F.math_bits_Len32 [t4] w fun t5 w =>
  K t5 w) (
  K0 [(.int .i64 0)] w)) fun x0 w =>
  fcallT P F.math_bits_Len64 [a0] w fun t7 w =>
  K t7 w
def M.math_bits_Len.L : List Nat := [0, 2]
def M.math_bits_Len.pl : Nat → Plan := fun id => ⟨.nil, [], false⟩
theorem M.math_bits_Len.eq (a0 : Value) (w : World) (K : KV) : M.math_bits_Len a0 w K = den P M.math_bits_Len.L M.math_bits_Len.pl (Try.f121.body.getD .skip) (argE [a0]) w (bodyQ P Try.f121.results.toList K) := by kernel_rfl
theorem M.math_bits_Len.ok : okFn M.math_bits_Len.L M.math_bits_Len.pl Try.f121 (Try.f121.body.getD .skip) 1 = true := by kernel_rfl
theorem M.math_bits_Len.calls (a0 : Value) {w : World} {K : KV} (h : M.math_bits_Len a0 w K) : callT P F.math_bits_Len [a0] w K :=
  callT_of_den (by kernel_rfl) Try.func121 (by kernel_rfl) M.math_bits_Len.ok (M.math_bits_Len.eq a0 w K ▸ h)
theorem M.math_bits_Len.fcall (args : List Value) (w : World) (K : KV) : fcallT P F.math_bits_Len args w K = callT P F.math_bits_Len args w K := fcallT_eq Try.func121 (by kernel_rfl) (by kernel_rfl) args w K
theorem M.math_bits_Len.rcall (a c args : List Value) (w : World) (K : KV) : callRT P (.func (.func F.math_bits_Len) a.toArray c.toArray) args w K = callT P F.math_bits_Len (a ++ args ++ c) w K := callR_fn Try.func121 (by kernel_rfl) (by kernel_rfl) a c args w K

/-- cmp.isNaN[int] -/
def M.cmp_isNaN_int (a0 : Value) (w : World) (K : KV) : Prop :=
  binT P .neq T.int (.tmp 3) (.tmp 4) a0 a0 w fun t5 w =>
  K t5 w
def M.cmp_isNaN_int.L : List Nat := [0, 2]
def M.cmp_isNaN_int.pl : Nat → Plan := fun id => ⟨.nil, [], false⟩
theorem M.cmp_isNaN_int.eq (a0 : Value) (w : World) (K : KV) : M.cmp_isNaN_int a0 w K = den P M.cmp_isNaN_int.L M.cmp_isNaN_int.pl (Try.f125.body.getD .skip) (argE [a0]) w (bodyQ P Try.f125.results.toList K) := by kernel_rfl
theorem M.cmp_isNaN_int.ok : okFn M.cmp_isNaN_int.L M.cmp_isNaN_int.pl Try.f125 (Try.f125.body.getD .skip) 1 = true := by kernel_rfl
theorem M.cmp_isNaN_int.calls (a0 : Value) {w : World} {K : KV} (h : M.cmp_isNaN_int a0 w K) : callT P F.cmp_isNaN_int [a0] w K :=
  callT_of_den (by kernel_rfl) Try.func125 (by kernel_rfl) M.cmp_isNaN_int.ok (M.cmp_isNaN_int.eq a0 w K ▸ h)
theorem M.cmp_isNaN_int.fcall (args : List Value) (w : World) (K : KV) : fcallT P F.cmp_isNaN_int args w K = callT P F.cmp_isNaN_int args w K := fcallT_eq Try.func125 (by kernel_rfl) (by kernel_rfl) args w K
theorem M.cmp_isNaN_int.rcall (a c args : List Value) (w : World) (K : KV) : callRT P (.func (.func F.cmp_isNaN_int) a.toArray c.toArray) args w K = callT P F.cmp_isNaN_int (a ++ args ++ c) w K := callR_fn Try.func125 (by kernel_rfl) (by kernel_rfl) a c args w K

def M.slices_insertionSortOrdered_int.j4 (x3 : List Value) (a0 : Value) (K3 : KL) (w : World) (K : KV) : Prop :=
  joinT (fun K5 =>
  drawT w fun w =>
  w = w ∧ w = w ∧ w = w ∧ w = w ∧ quietT (fun K' => binT P .sub T.int (.tmp 36) (.const (.int .i64 1)) (gv x3 0) (.int .i64 1) w K') w fun t37 =>
  w = w ∧ w = w ∧ quietT (fun K' => binT P .sub T.int (.tmp 39) (.const (.int .i64 1)) (gv x3 0) (.int .i64 1) w K') w fun t40 =>
  quietT (fun K' => iaT P T.sl_int a0 t40 w K') w fun t41 =>
  quietT (fun K' => ldT P T.int t41 w K') w fun t42 =>
  w = w ∧ w = w ∧ quietT (fun K' => iaT P T.sl_int a0 (gv x3 0) w K') w fun t45 =>
  quietT (fun K' => ldT P T.int t45 w K') w fun t46 =>
  quietT (fun K' => iaT P T.sl_int a0 (gv x3 0) w K') w fun t47 =>
  stT P T.int t47 t42 w fun _ w =>
  stabT (fun K' => binT P .sub T.int (.tmp 36) (.const (.int .i64 1)) (gv x3 0) (.int .i64 1) w K') w t37 ∧ stabT (fun K' => K' (gv x3 0) w) w (gv x3 0) ∧ stabT (fun K' => K' a0 w) w a0 ∧ quietT (fun K' => iaT P T.sl_int a0 t37 w K') w fun t48 =>
  stT P T.int t48 t46 w fun _ w =>
  K5 [] w) fun x5 w =>
  binT P .sub T.int (.tmp 31) (.const (.int .i64 1)) (gv x3 0) (.int .i64 1) w fun t32 w =>
  K3 [t32] w
def M.slices_insertionSortOrdered_int.j3 (x3 : List Value) (a1 : Value) (a0 : Value) (K2 : KL) (K3 : KL) (w : World) (K : KV) : Prop :=
  joinT (fun K4 =>
  drawT w fun w =>
  w = w ∧ w = w ∧ quietT (fun K' => binT P .gtr T.int (.tmp 16) (.tmp 17) (gv x3 0) a1 w K') w fun t18 =>
  w = w ∧ quietT (fun K' => guardT (isB t18 true) (fun K' => K' a0 w) w K') w fun t20 =>
  quietT (fun K' => guardT (isB t18 true) (fun K' => K' (gv x3 0) w) w K') w fun t21 =>
  quietT (fun K' => guardT (isB t18 true) (fun K' => iaT P T.sl_int t20 t21 w K') w K') w fun t22 =>
  quietT (fun K' => guardT (isB t18 true) (fun K' => ldT P T.int t22 w K') w K') w fun t23 =>
  quietT (fun K' => guardT (isB t18 true) (fun K' => K' a0 w) w K') w fun t24 =>
  quietT (fun K' => guardT (isB t18 true) (fun K' => K' (gv x3 0) w) w K') w fun t25 =>
  quietT (fun K' => guardT (isB t18 true) (fun K' => binT P .sub T.int (.tmp 25) (.const (.int .i64 1)) t25 (.int .i64 1) w K') w K') w fun t26 =>
  quietT (fun K' => guardT (isB t18 true) (fun K' => iaT P T.sl_int t24 t26 w K') w K') w fun t27 =>
  quietT (fun K' => guardT (isB t18 true) (fun K' => ldT P T.int t27 w K') w K') w fun t28 =>
  guardT (isB t18 true) (fun K' => fcallT P F.cmp_Less_int [t23, t28] w K') w fun t29 w =>
  quietT (fun K' => pickT t18 t29 (.bool false) w K') w fun t30 =>
  condT t30 (
  K4 [] w) (
  K2 [(gv x3 0)] w)) fun x4 w =>
  M.slices_insertionSortOrdered_int.j4 x3 a0 K3 w K
def M.slices_insertionSortOrdered_int.j0 (x0 : List Value) (a2 : Value) (a1 : Value) (a0 : Value) (K0 : KL) (w : World) (K : KV) : Prop :=
  joinT (fun K1 =>
  binT P .lss T.int (.tmp 10) (.tmp 11) (gv x0 1) a2 w fun t12 w =>
  condT t12 (
  K1 [] w) (
  K (.tuple #[]) w)) fun x1 w =>
  joinT (fun K2 =>
  loopT [(gv x0 1)] w fun K3 x3 w =>
  M.slices_insertionSortOrdered_int.j3 x3 a1 a0 K2 K3 w K) fun x2 w =>
  binT P .add T.int (.tmp 13) (.const (.int .i64 1)) (gv x0 1) (.int .i64 1) w fun t14 w =>
  K0 [(gv x2 0), t14] w
/-- slices.insertionSortOrdered[int] -/
def M.slices_insertionSortOrdered_int (a0 a1 a2 : Value) (w : World) (K : KV) : Prop :=
  binT P .add T.int (.tmp 8) (.const (.int .i64 1)) a1 (.int .i64 1) w fun t9 w =>
  loopT [undef, t9] w fun K0 x0 w =>
  M.slices_insertionSortOrdered_int.j0 x0 a2 a1 a0 K0 w K
def M.slices_insertionSortOrdered_int.L : List Nat := [0, 1, 2, 6, 7]
def M.slices_insertionSortOrdered_int.pl : Nat → Plan := fun id => cond (Nat.beq id 4) ⟨(.go 0 (.go 1 (.go 2 (.go 3 (.go 4 (.go 5 (.go 6 (.go 7 (.go 8 (.go 9 (.go 10 (.go 11 (.go 12 (.eff 13 (.go 14 .nil) .stop)))))))))))))), [13], false⟩ (cond (Nat.beq id 6) ⟨(.go 0 (.go 1 (.go 2 (.go 3 (.go 4 (.go 5 (.go 6 (.go 7 (.go 8 (.go 9 (.go 10 (.go 11 (.go 12 (.go 13 (.go 14 (.eff 15 (.go 16 (.eff 17 .nil .stop)) .stop)))))))))))))))), [15, 17], false⟩ (⟨.nil, [], false⟩))
theorem M.slices_insertionSortOrdered_int.eq (a0 a1 a2 : Value) (w : World) (K : KV) : M.slices_insertionSortOrdered_int a0 a1 a2 w K = den P M.slices_insertionSortOrdered_int.L M.slices_insertionSortOrdered_int.pl (Try.f131.body.getD .skip) (argE [a0, a1, a2]) w (bodyQ P Try.f131.results.toList K) := by kernel_rfl
theorem M.slices_insertionSortOrdered_int.ok : okFn M.slices_insertionSortOrdered_int.L M.slices_insertionSortOrdered_int.pl Try.f131 (Try.f131.body.getD .skip) 3 = true := by kernel_rfl
theorem M.slices_insertionSortOrdered_int.calls (a0 a1 a2 : Value) {w : World} {K : KV} (h : M.slices_insertionSortOrdered_int a0 a1 a2 w K) : callT P F.slices_insertionSortOrdered_int [a0, a1, a2] w K :=
  callT_of_den (by kernel_rfl) Try.func131 (by kernel_rfl) M.slices_insertionSortOrdered_int.ok (M.slices_insertionSortOrdered_int.eq a0 a1 a2 w K ▸ h)
theorem M.slices_insertionSortOrdered_int.fcall (args : List Value) (w : World) (K : KV) : fcallT P F.slices_insertionSortOrdered_int args w K = callT P F.slices_insertionSortOrdered_int args w K := fcallT_eq Try.func131 (by kernel_rfl) (by kernel_rfl) args w K
theorem M.slices_insertionSortOrdered_int.rcall (a c args : List Value) (w : World) (K : KV) : callRT P (.func (.func F.slices_insertionSortOrdered_int) a.toArray c.toArray) args w K = callT P F.slices_insertionSortOrdered_int (a ++ args ++ c) w K := callR_fn Try.func131 (by kernel_rfl) (by kernel_rfl) a c args w K

def M.slices_heapSortOrdered_int.j1 (x1 : List Value) (K0 : KL) (a0 : Value) (t14 : Value) (a1 : Value) (K1 : KL) (w : World) (K : KV) : Prop :=
  joinT (fun K2 =>
  binT P .geq T.int (.tmp 18) (.const (.int .i64 0)) (gv x1 0) (.int .i64 0) w fun t19 w =>
  condT t19 (
  K2 [] w) (
  K0 [(gv x1 0)] w)) fun x2 w =>
  joinT (fun K3 =>
  fcallT P F.slices_siftDownOrdered_int [a0, (gv x1 0), t14, a1] w fun t26 w =>
  K3 [] w) fun x3 w =>
  binT P .sub T.int (.tmp 20) (.const (.int .i64 1)) (gv x1 0) (.int .i64 1) w fun t21 w =>
  K1 [t21] w
def M.slices_heapSortOrdered_int.j5 (a1 : Value) (x4 : List Value) (a0 : Value) (K4 : KL) (w : World) (K : KV) : Prop :=
  joinT (fun K6 =>
  drawT w fun w =>
  w = w ∧ w = w ∧ w = w ∧ w = w ∧ w = w ∧ quietT (fun K' => binT P .add T.int (.tmp 36) (.tmp 37) a1 (gv x4 0) w K') w fun t38 =>
  w = w ∧ w = w ∧ w = w ∧ quietT (fun K' => binT P .add T.int (.tmp 40) (.tmp 41) a1 (gv x4 0) w K') w fun t42 =>
  quietT (fun K' => iaT P T.sl_int a0 t42 w K') w fun t43 =>
  quietT (fun K' => ldT P T.int t43 w K') w fun t44 =>
  w = w ∧ w = w ∧ quietT (fun K' => iaT P T.sl_int a0 a1 w K') w fun t47 =>
  quietT (fun K' => ldT P T.int t47 w K') w fun t48 =>
  quietT (fun K' => iaT P T.sl_int a0 a1 w K') w fun t49 =>
  stT P T.int t49 t44 w fun _ w =>
  stabT (fun K' => binT P .add T.int (.tmp 36) (.tmp 37) a1 (gv x4 0) w K') w t38 ∧ stabT (fun K' => K' (gv x4 0) w) w (gv x4 0) ∧ stabT (fun K' => K' a1 w) w a1 ∧ stabT (fun K' => K' a0 w) w a0 ∧ quietT (fun K' => iaT P T.sl_int a0 t38 w K') w fun t50 =>
  stT P T.int t50 t48 w fun _ w =>
  fcallT P F.slices_siftDownOrdered_int [a0, (.int .i64 0), (gv x4 0), a1] w fun t55 w =>
  K6 [] w) fun x6 w =>
  binT P .sub T.int (.tmp 31) (.const (.int .i64 1)) (gv x4 0) (.int .i64 1) w fun t32 w =>
  K4 [t32] w
def M.slices_heapSortOrdered_int.j0 (t14 : Value) (a1 : Value) (a0 : Value) (w : World) (K : KV) : Prop :=
  binT P .sub T.int (.tmp 27) (.const (.int .i64 1)) t14 (.int .i64 1) w fun t28 w =>
  loopT [t28] w fun K4 x4 w =>
  joinT (fun K5 =>
  binT P .geq T.int (.tmp 29) (.const (.int .i64 0)) (gv x4 0) (.int .i64 0) w fun t30 w =>
  condT t30 (
  K5 [] w) (
  K (.tuple #[]) w)) fun x5 w =>
  M.slices_heapSortOrdered_int.j5 a1 x4 a0 K4 w K
/-- slices.heapSortOrdered[int] -/
def M.slices_heapSortOrdered_int (a0 a1 a2 : Value) (w : World) (K : KV) : Prop :=
  binT P .sub T.int (.tmp 12) (.tmp 13) a2 a1 w fun t14 w =>
  joinT (fun K0 =>
  binT P .sub T.int (.tmp 15) (.const (.int .i64 1)) t14 (.int .i64 1) w fun t16 w =>
  binT P .quo T.int (.tmp 16) (.const (.int .i64 2)) t16 (.int .i64 2) w fun t17 w =>
  loopT [t17] w fun K1 x1 w =>
  M.slices_heapSortOrdered_int.j1 x1 K0 a0 t14 a1 K1 w K) fun x0 w =>
  M.slices_heapSortOrdered_int.j0 t14 a1 a0 w K
def M.slices_heapSortOrdered_int.L : List Nat := [0, 1, 2, 6, 7, 8, 9, 10]
def M.slices_heapSortOrdered_int.pl : Nat → Plan := fun id => cond (Nat.beq id 10) ⟨(.go 0 (.go 1 (.go 2 (.go 3 (.go 4 (.go 5 (.go 6 (.go 7 (.go 8 (.go 9 (.go 10 (.go 11 (.go 12 (.go 13 (.go 14 (.go 15 (.go 16 (.eff 17 (.go 18 (.eff 19 .nil .stop)) .stop)))))))))))))))))), [17, 19], false⟩ (⟨.nil, [], false⟩)
theorem M.slices_heapSortOrdered_int.eq (a0 a1 a2 : Value) (w : World) (K : KV) : M.slices_heapSortOrdered_int a0 a1 a2 w K = den P M.slices_heapSortOrdered_int.L M.slices_heapSortOrdered_int.pl (Try.f132.body.getD .skip) (argE [a0, a1, a2]) w (bodyQ P Try.f132.results.toList K) := by kernel_rfl
theorem M.slices_heapSortOrdered_int.ok : okFn M.slices_heapSortOrdered_int.L M.slices_heapSortOrdered_int.pl Try.f132 (Try.f132.body.getD .skip) 3 = true := by kernel_rfl
theorem M.slices_heapSortOrdered_int.calls (a0 a1 a2 : Value) {w : World} {K : KV} (h : M.slices_heapSortOrdered_int a0 a1 a2 w K) : callT P F.slices_heapSortOrdered_int [a0, a1, a2] w K :=
  callT_of_den (by kernel_rfl) Try.func132 (by kernel_rfl) M.slices_heapSortOrdered_int.ok (M.slices_heapSortOrdered_int.eq a0 a1 a2 w K ▸ h)
theorem M.slices_heapSortOrdered_int.fcall (args : List Value) (w : World) (K : KV) : fcallT P F.slices_heapSortOrdered_int args w K = callT P F.slices_heapSortOrdered_int args w K := fcallT_eq Try.func132 (by kernel_rfl) (by kernel_rfl) args w K
theorem M.slices_heapSortOrdered_int.rcall (a c args : List Value) (w : World) (K : KV) : callRT P (.func (.func F.slices_heapSortOrdered_int) a.toArray c.toArray) args w K = callT P F.slices_heapSortOrdered_int (a ++ args ++ c) w K := callR_fn Try.func132 (by kernel_rfl) (by kernel_rfl) a c args w K

end Go.Proofs.Ytgcpljghnlohbaa
