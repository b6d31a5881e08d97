/-
  Printed by wip/Shallow.lean: functions of the program, read shallow; each is what its code does. No condition.
-/
import Derived.Test.YtgcpljghnlohbaaN
set_option maxRecDepth 1000000
namespace Go.Proofs.Ytgcpljghnlohbaa
open Go.Eng

def M.slices_Concat_byte_byte.j2 (a0 : Value) (x1 : List Value) (K1 : KL) (w : World) (K : KV) : Prop :=
  joinT (fun K3 =>
  iaT P T.sl_sl_uint8 a0 (gv x1 2) w fun t13 w =>
  ldT P T.sl_uint8 t13 w fun t14 w =>
  biT P .len #[T.sl_uint8] T.int [false] [t14] w fun t17 w =>
  binT P .add T.int (.tmp 15) (.tmp 17) (gv x1 1) t17 w fun t18 w =>
  binT P .lss T.int (.tmp 19) (.const (.int .i64 0)) t18 (.int .i64 0) w fun t20 w =>
  condT t20 (
  mkiT P T.string (.string ⟨#[108, 101, 110, 32, 111, 117, 116, 32, 111, 102, 32, 114, 97, 110, 103, 101]⟩) w fun t21 w =>
  panicT w fun _ w =>
  K3 [t14, t18] w) (
  K3 [t14, t18] w)) fun x3 w =>
  binT P .add T.int (.tmp 11) (.const (.int .i64 1)) (gv x1 2) (.int .i64 1) w fun t22 w =>
  K1 [(gv x3 0), (gv x3 1), t22] w
def M.slices_Concat_byte_byte.j6 (a0 : Value) (x5 : List Value) (K5 : KL) (w : World) (K : KV) : Prop :=
  joinT (fun K7 =>
  iaT P T.sl_sl_uint8 a0 (gv x5 2) w fun t29 w =>
  ldT P T.sl_uint8 t29 w fun t30 w =>
  biT P .append #[T.sl_uint8, T.sl_uint8] T.sl_uint8 [false, false] [(gv x5 1), t30] w fun t33 w =>
  K7 [t30, t33] w) fun x7 w =>
  binT P .add T.int (.tmp 27) (.const (.int .i64 1)) (gv x5 2) (.int .i64 1) w fun t34 w =>
  K5 [(gv x7 0), (gv x7 1), t34] w
def M.slices_Concat_byte_byte.j0 (x0 : List Value) (a0 : Value) (w : World) (K : KV) : Prop :=
  fcallT P F.slices_Grow_byte_byte [(.slice none 0 0), (gv x0 4)] w fun t24 w =>
  joinT (fun K4 =>
  biT P .len #[T.sl_sl_uint8] T.int [false] [a0] w fun t26 w =>
  loopT [undef, t24, (.int .i64 0)] w fun K5 x5 w =>
  binT P .lss T.int (.tmp 27) (.tmp 26) (gv x5 2) t26 w fun t28 w =>
  joinT (fun K6 =>
  condT t28 (
  K6 [] w) (
  K4 [a0, t26, (gv x5 2), (gv x5 0), (gv x5 1)] w)) fun x6 w =>
  M.slices_Concat_byte_byte.j6 a0 x5 K5 w K) fun x4 w =>
  K (gv x4 4) w
/-- slices.Concat[[]byte,byte] -/
def M.slices_Concat_byte_byte (a0 : Value) (w : World) (K : KV) : Prop :=
  joinT (fun K0 =>
  biT P .len #[T.sl_sl_uint8] T.int [false] [a0] w fun t10 w =>
  loopT [undef, (.int .i64 0), (.int .i64 0)] w fun K1 x1 w =>
  binT P .lss T.int (.tmp 11) (.tmp 10) (gv x1 2) t10 w fun t12 w =>
  joinT (fun K2 =>
  condT t12 (
  K2 [] w) (
  K0 [a0, t10, (gv x1 2), (gv x1 0), (gv x1 1)] w)) fun x2 w =>
  M.slices_Concat_byte_byte.j2 a0 x1 K1 w K) fun x0 w =>
  M.slices_Concat_byte_byte.j0 x0 a0 w K
def M.slices_Concat_byte_byte.L : List Nat := [0, 2, 3, 5, 6, 8, 11, 10, 9, 27, 26, 25]
def M.slices_Concat_byte_byte.pl : Nat → Plan := fun id => ⟨.nil, [], false⟩
theorem M.slices_Concat_byte_byte.eq (a0 : Value) (w : World) (K : KV) : M.slices_Concat_byte_byte a0 w K = den P M.slices_Concat_byte_byte.L M.slices_Concat_byte_byte.pl (Try.f69.body.getD .skip) (argE [a0]) w (bodyQ P Try.f69.results.toList K) := by kernel_rfl
theorem M.slices_Concat_byte_byte.ok : okFn M.slices_Concat_byte_byte.L M.slices_Concat_byte_byte.pl Try.f69 (Try.f69.body.getD .skip) 1 = true := by kernel_rfl
theorem M.slices_Concat_byte_byte.calls (a0 : Value) {w : World} {K : KV} (h : M.slices_Concat_byte_byte a0 w K) : callT P F.slices_Concat_byte_byte [a0] w K :=
  callT_of_den (by kernel_rfl) Try.func69 (by kernel_rfl) M.slices_Concat_byte_byte.ok (M.slices_Concat_byte_byte.eq a0 w K ▸ h)
theorem M.slices_Concat_byte_byte.fcall (args : List Value) (w : World) (K : KV) : fcallT P F.slices_Concat_byte_byte args w K = callT P F.slices_Concat_byte_byte args w K := fcallT_eq Try.func69 (by kernel_rfl) (by kernel_rfl) args w K

/-- slices.Sorted[int] -/
def M.slices_Sorted_int (a0 : Value) (w : World) (K : KV) : Prop :=
  fcallT P F.slices_Collect_int [a0] w fun t5 w =>
  fcallT P F.slices_Sort_int_int [t5] w fun t7 w =>
  K t5 w
def M.slices_Sorted_int.L : List Nat := [0, 2, 3]
def M.slices_Sorted_int.pl : Nat → Plan := fun id => ⟨.nil, [], false⟩
theorem M.slices_Sorted_int.eq (a0 : Value) (w : World) (K : KV) : M.slices_Sorted_int a0 w K = den P M.slices_Sorted_int.L M.slices_Sorted_int.pl (Try.f70.body.getD .skip) (argE [a0]) w (bodyQ P Try.f70.results.toList K) := by kernel_rfl
theorem M.slices_Sorted_int.ok : okFn M.slices_Sorted_int.L M.slices_Sorted_int.pl Try.f70 (Try.f70.body.getD .skip) 1 = true := by kernel_rfl
theorem M.slices_Sorted_int.calls (a0 : Value) {w : World} {K : KV} (h : M.slices_Sorted_int a0 w K) : callT P F.slices_Sorted_int [a0] w K :=
  callT_of_den (by kernel_rfl) Try.func70 (by kernel_rfl) M.slices_Sorted_int.ok (M.slices_Sorted_int.eq a0 w K ▸ h)
theorem M.slices_Sorted_int.fcall (args : List Value) (w : World) (K : KV) : fcallT P F.slices_Sorted_int args w K = callT P F.slices_Sorted_int args w K := fcallT_eq Try.func70 (by kernel_rfl) (by kernel_rfl) args w K

/-- maps.Keys[map[int]*winnow/disk.file,int,*winnow/disk.file] -/
def M.maps_Keys_map_int_disk_file_int_disk_file (a0 : Value) (w : World) (K : KV) : Prop :=
  boxT P T.map_int_p_disk_file a0 w fun t1 w =>
  mkfT P (.func F.maps_Keys_map_int_disk_file_int_disk_file_1) [] [t1] w fun t3 w =>
  K t3 w
def M.maps_Keys_map_int_disk_file_int_disk_file.L : List Nat := [0, 2]
def M.maps_Keys_map_int_disk_file_int_disk_file.pl : Nat → Plan := fun id => ⟨.nil, [], false⟩
theorem M.maps_Keys_map_int_disk_file_int_disk_file.eq (a0 : Value) (w : World) (K : KV) : M.maps_Keys_map_int_disk_file_int_disk_file a0 w K = den P M.maps_Keys_map_int_disk_file_int_disk_file.L M.maps_Keys_map_int_disk_file_int_disk_file.pl (Try.f71.body.getD .skip) (argE [a0]) w (bodyQ P Try.f71.results.toList K) := by kernel_rfl
theorem M.maps_Keys_map_int_disk_file_int_disk_file.ok : okFn M.maps_Keys_map_int_disk_file_int_disk_file.L M.maps_Keys_map_int_disk_file_int_disk_file.pl Try.f71 (Try.f71.body.getD .skip) 1 = true := by kernel_rfl
theorem M.maps_Keys_map_int_disk_file_int_disk_file.calls (a0 : Value) {w : World} {K : KV} (h : M.maps_Keys_map_int_disk_file_int_disk_file a0 w K) : callT P F.maps_Keys_map_int_disk_file_int_disk_file [a0] w K :=
  callT_of_den (by kernel_rfl) Try.func71 (by kernel_rfl) M.maps_Keys_map_int_disk_file_int_disk_file.ok (M.maps_Keys_map_int_disk_file_int_disk_file.eq a0 w K ▸ h)
theorem M.maps_Keys_map_int_disk_file_int_disk_file.fcall (args : List Value) (w : World) (K : KV) : fcallT P F.maps_Keys_map_int_disk_file_int_disk_file args w K = callT P F.maps_Keys_map_int_disk_file_int_disk_file args w K := fcallT_eq Try.func71 (by kernel_rfl) (by kernel_rfl) args w K

def M.pwinnowref06_Disk_Append.j4 (a0 : Value) (a1 : Value) (x3 : List Value) (w : World) (K : KV) : Prop :=
  nilT a0 w fun t67 w =>
  faT P T.winnowref06_Disk t67 1 w fun t68 w =>
  ldT P T.sl_winnowref06_File t68 w fun t69 w =>
  iaT P T.sl_winnowref06_File t69 a1 w fun t71 w =>
  faT P T.winnowref06_File t71 0 w fun t72 w =>
  stT P T.bool t72 (.bool true) w fun _ w =>
  drawT w fun w =>
  w = w ∧ quietT (fun K' => nilT a0 w K') w fun t74 =>
  quietT (fun K' => faT P T.winnowref06_Disk t74 1 w K') w fun t75 =>
  quietT (fun K' => ldT P T.sl_winnowref06_File t75 w K') w fun t76 =>
  w = w ∧ w = w ∧ quietT (fun K' => nilT a0 w K') w fun t80 =>
  quietT (fun K' => faT P T.winnowref06_Disk t80 1 w K') w fun t81 =>
  quietT (fun K' => ldT P T.sl_winnowref06_File t81 w K') w fun t82 =>
  w = w ∧ quietT (fun K' => iaT P T.sl_winnowref06_File t82 a1 w K') w fun t84 =>
  quietT (fun K' => faT P T.winnowref06_File t84 1 w K') w fun t85 =>
  quietT (fun K' => ldT P T.sl_uint8 t85 w K') w fun t86 =>
  w = w ∧ bsT P T.sl_uint8 0 #[] w fun t78 w =>
  stabT (fun K' => K' (gv x3 0) w) w (gv x3 0) ∧ stabT (fun K' => ldT P T.sl_uint8 t85 w K') w t86 ∧ stabT (fun K' => faT P T.winnowref06_File t84 1 w K') w t85 ∧ stabT (fun K' => iaT P T.sl_winnowref06_File t82 a1 w K') w t84 ∧ stabT (fun K' => K' a1 w) w a1 ∧ stabT (fun K' => ldT P T.sl_winnowref06_File t81 w K') w t82 ∧ stabT (fun K' => faT P T.winnowref06_Disk t80 1 w K') w t81 ∧ stabT (fun K' => nilT a0 w K') w t80 ∧ stabT (fun K' => K' a0 w) w a0 ∧ stabT (fun K' => K' a1 w) w a1 ∧ stabT (fun K' => ldT P T.sl_winnowref06_File t75 w K') w t76 ∧ stabT (fun K' => faT P T.winnowref06_Disk t74 1 w K') w t75 ∧ stabT (fun K' => nilT a0 w K') w t74 ∧ stabT (fun K' => K' a0 w) w a0 ∧ biT P .append #[T.sl_uint8, T.sl_uint8] T.sl_uint8 [false, false] [t78, t86] w fun t87 w =>
  stabT (fun K' => K' (gv x3 0) w) w (gv x3 0) ∧ stabT (fun K' => K' a1 w) w a1 ∧ stabT (fun K' => ldT P T.sl_winnowref06_File t75 w K') w t76 ∧ stabT (fun K' => faT P T.winnowref06_Disk t74 1 w K') w t75 ∧ stabT (fun K' => nilT a0 w K') w t74 ∧ stabT (fun K' => K' a0 w) w a0 ∧ biT P .append #[T.sl_uint8, T.sl_uint8] T.sl_uint8 [false, false] [t87, (gv x3 0)] w fun t89 w =>
  stabT (fun K' => K' a1 w) w a1 ∧ stabT (fun K' => ldT P T.sl_winnowref06_File t75 w K') w t76 ∧ stabT (fun K' => faT P T.winnowref06_Disk t74 1 w K') w t75 ∧ stabT (fun K' => nilT a0 w K') w t74 ∧ stabT (fun K' => K' a0 w) w a0 ∧ quietT (fun K' => iaT P T.sl_winnowref06_File t76 a1 w K') w fun t90 =>
  quietT (fun K' => faT P T.winnowref06_File t90 1 w K') w fun t91 =>
  stT P T.sl_uint8 t91 t89 w fun _ w =>
  K (gv x3 1) w
def M.pwinnowref06_Disk_Append.j3 (a0 : Value) (x3 : List Value) (a1 : Value) (w : World) (K : KV) : Prop :=
  joinT (fun K4 =>
  nilT a0 w fun t52 w =>
  faT P T.winnowref06_Disk t52 2 w fun t53 w =>
  ldT P T.int t53 w fun t54 w =>
  binT P .geq T.int (.tmp 54) (.const (.int .i64 0)) t54 (.int .i64 0) w fun t55 w =>
  condT t55 (
  nilT a0 w fun t58 w =>
  faT P T.winnowref06_Disk t58 2 w fun t59 w =>
  ldT P T.int t59 w fun t60 w =>
  biT P .len #[T.sl_uint8] T.int [false] [(gv x3 0)] w fun t62 w =>
  binT P .sub T.int (.tmp 60) (.tmp 62) t60 t62 w fun t63 w =>
  nilT a0 w fun t64 w =>
  faT P T.winnowref06_Disk t64 2 w fun t65 w =>
  stT P T.int t65 t63 w fun _ w =>
  K4 [] w) (
  K4 [] w)) fun x4 w =>
  M.pwinnowref06_Disk_Append.j4 a0 a1 x3 w K
def M.pwinnowref06_Disk_Append.j2 (a0 : Value) (a2 : Value) (a1 : Value) (w : World) (K : KV) : Prop :=
  joinT (fun K3 =>
  nilT a0 w fun t29 w =>
  faT P T.winnowref06_Disk t29 2 w fun t30 w =>
  ldT P T.int t30 w fun t31 w =>
  binT P .geq T.int (.tmp 31) (.const (.int .i64 0)) t31 (.int .i64 0) w fun t32 w =>
  guardT (isB t32 true) (fun K' => K' a2 w) w fun t34 w =>
  guardT (isB t32 true) (fun K' => biT P .len #[T.sl_uint8] T.int [false] [t34] w K') w fun t35 w =>
  guardT (isB t32 true) (fun K' => K' a0 w) w fun t36 w =>
  guardT (isB t32 true) (fun K' => nilT t36 w K') w fun t37 w =>
  guardT (isB t32 true) (fun K' => faT P T.winnowref06_Disk t37 2 w K') w fun t38 w =>
  guardT (isB t32 true) (fun K' => ldT P T.int t38 w K') w fun t39 w =>
  guardT (isB t32 true) (fun K' => binT P .gtr T.int (.tmp 35) (.tmp 39) t35 t39 w K') w fun t40 w =>
  pickT t32 t40 (.bool false) w fun t41 w =>
  condT t41 (
  nilT a0 w fun t44 w =>
  faT P T.winnowref06_Disk t44 2 w fun t45 w =>
  ldT P T.int t45 w fun t46 w =>
  slT P T.sl_uint8 a2 none (some t46) none w fun t47 w =>
  nilT a0 w fun t49 w =>
  faT P T.winnowref06_Disk t49 3 w fun t50 w =>
  stT P T.bool t50 (.bool true) w fun _ w =>
  K3 [t47, (.int .i64 10)] w) (
  K3 [a2, (.int .i64 0)] w)) fun x3 w =>
  M.pwinnowref06_Disk_Append.j3 a0 x3 a1 w K
def M.pwinnowref06_Disk_Append.j1 (a2 : Value) (a0 : Value) (x1 : List Value) (a1 : Value) (w : World) (K : KV) : Prop :=
  joinT (fun K2 =>
  drawT w fun w =>
  w = w ∧ quietT (fun K' => biT P .len #[T.sl_uint8] T.int [false] [a2] w K') w fun t19 =>
  w = w ∧ quietT (fun K' => nilT a0 w K') w fun t21 =>
  quietT (fun K' => faT P T.winnowref06_Disk t21 0 w K') w fun t22 =>
  quietT (fun K' => ldT P T.int t22 w K') w fun t23 =>
  w = w ∧ fcallT P F.pwinnowref06_Disk_Used [a0] w fun t25 w =>
  stabT (fun K' => ldT P T.int t22 w K') w t23 ∧ stabT (fun K' => faT P T.winnowref06_Disk t21 0 w K') w t22 ∧ stabT (fun K' => nilT a0 w K') w t21 ∧ stabT (fun K' => K' a0 w) w a0 ∧ stabT (fun K' => biT P .len #[T.sl_uint8] T.int [false] [a2] w K') w t19 ∧ stabT (fun K' => K' a2 w) w a2 ∧ quietT (fun K' => binT P .sub T.int (.tmp 23) (.tmp 25) t23 t25 w K') w fun t26 =>
  quietT (fun K' => binT P .gtr T.int (.tmp 19) (.tmp 26) t19 t26 w K') w fun t27 =>
  condT t27 (
  K (.int .i64 9) w) (
  K2 [(gv x1 0)] w)) fun x2 w =>
  M.pwinnowref06_Disk_Append.j2 a0 a2 a1 w K
def M.pwinnowref06_Disk_Append.j0 (a1 : Value) (x0 : List Value) (a2 : Value) (a0 : Value) (w : World) (K : KV) : Prop :=
  joinT (fun K1 =>
  binT P .lss T.int (.tmp 12) (.const (.int .i64 0)) a1 (.int .i64 0) w fun t13 w =>
  guardT (isB t13 false) (fun K' => K' a1 w) w fun t15 w =>
  guardT (isB t13 false) (fun K' => binT P .geq T.int (.tmp 15) (.const (.int .i64 64)) t15 (.int .i64 64) w K') w fun t16 w =>
  pickT t13 (.bool true) t16 w fun t17 w =>
  condT t17 (
  K (.int .i64 1) w) (
  K1 [(gv x0 0)] w)) fun x1 w =>
  M.pwinnowref06_Disk_Append.j1 a2 a0 x1 a1 w K
/-- (*winnow/winnowref06.Disk).Append -/
def M.pwinnowref06_Disk_Append (a0 a1 a2 : Value) (w : World) (K : KV) : Prop :=
  joinT (fun K0 =>
  nilT a0 w fun t9 w =>
  faT P T.winnowref06_Disk t9 3 w fun t10 w =>
  ldT P T.bool t10 w fun t11 w =>
  condT t11 (
  K (.int .i64 10) w) (
  K0 [(.int .i64 0)] w)) fun x0 w =>
  M.pwinnowref06_Disk_Append.j0 a1 x0 a2 a0 w K
def M.pwinnowref06_Disk_Append.L : List Nat := [0, 1, 2, 6, 7]
def M.pwinnowref06_Disk_Append.pl : Nat → Plan := fun id => cond (Nat.beq id 5) ⟨(.go 0 (.go 1 (.go 2 (.go 3 (.go 4 (.go 5 (.go 6 (.eff 7 (.go 8 (.go 9 .nil)) .stop)))))))), [7], false⟩ (cond (Nat.beq id 15) ⟨(.go 0 (.go 1 (.go 2 (.go 3 (.go 4 (.go 6 (.go 7 (.go 8 (.go 9 (.go 10 (.go 11 (.go 12 (.go 13 (.go 15 (.eff 5 (.eff 14 (.eff 16 (.go 17 (.go 18 (.eff 19 .nil .stop))) .stop) .stop) .stop))))))))))))))), [5, 14, 16, 19], false⟩ (⟨.nil, [], false⟩))
theorem M.pwinnowref06_Disk_Append.eq (a0 a1 a2 : Value) (w : World) (K : KV) : M.pwinnowref06_Disk_Append a0 a1 a2 w K = den P M.pwinnowref06_Disk_Append.L M.pwinnowref06_Disk_Append.pl (Try.f72.body.getD .skip) (argE [a0, a1, a2]) w (bodyQ P Try.f72.results.toList K) := by kernel_rfl
theorem M.pwinnowref06_Disk_Append.ok : okFn M.pwinnowref06_Disk_Append.L M.pwinnowref06_Disk_Append.pl Try.f72 (Try.f72.body.getD .skip) 3 = true := by kernel_rfl
theorem M.pwinnowref06_Disk_Append.calls (a0 a1 a2 : Value) {w : World} {K : KV} (h : M.pwinnowref06_Disk_Append a0 a1 a2 w K) : callT P F.pwinnowref06_Disk_Append [a0, a1, a2] w K :=
  callT_of_den (by kernel_rfl) Try.func72 (by kernel_rfl) M.pwinnowref06_Disk_Append.ok (M.pwinnowref06_Disk_Append.eq a0 a1 a2 w K ▸ h)
theorem M.pwinnowref06_Disk_Append.fcall (args : List Value) (w : World) (K : KV) : fcallT P F.pwinnowref06_Disk_Append args w K = callT P F.pwinnowref06_Disk_Append args w K := fcallT_eq Try.func72 (by kernel_rfl) (by kernel_rfl) args w K

/-- (*winnow/winnowref06.Disk).Sync -/
def M.pwinnowref06_Disk_Sync (a0 a1 : Value) (w : World) (K : KV) : Prop :=
  fcallT P F.pwinnowref06_Disk_asked [a0, a1] w fun t8 w =>
  joinT (fun K0 =>
  binT P .eql T.api_Kind (.tmp 9) (.const (.int .i64 0)) t8 (.int .i64 0) w fun t10 w =>
  condT t10 (
  drawT w fun w =>
  w = w ∧ quietT (fun K' => nilT a0 w K') w fun t12 =>
  quietT (fun K' => faT P T.winnowref06_Disk t12 1 w K') w fun t13 =>
  quietT (fun K' => ldT P T.sl_winnowref06_File t13 w K') w fun t14 =>
  w = w ∧ w = w ∧ quietT (fun K' => nilT a0 w K') w fun t17 =>
  quietT (fun K' => faT P T.winnowref06_Disk t17 1 w K') w fun t18 =>
  quietT (fun K' => ldT P T.sl_winnowref06_File t18 w K') w fun t19 =>
  w = w ∧ quietT (fun K' => iaT P T.sl_winnowref06_File t19 a1 w K') w fun t21 =>
  quietT (fun K' => faT P T.winnowref06_File t21 1 w K') w fun t22 =>
  quietT (fun K' => ldT P T.sl_uint8 t22 w K') w fun t23 =>
  quietT (fun K' => biT P .len #[T.sl_uint8] T.int [false] [t23] w K') w fun t24 =>
  quietT (fun K' => iaT P T.sl_winnowref06_File t14 a1 w K') w fun t25 =>
  quietT (fun K' => faT P T.winnowref06_File t25 2 w K') w fun t26 =>
  stT P T.int t26 t24 w fun _ w =>
  K0 [] w) (
  K0 [] w)) fun x0 w =>
  K t8 w
def M.pwinnowref06_Disk_Sync.L : List Nat := [0, 1, 4, 5]
def M.pwinnowref06_Disk_Sync.pl : Nat → Plan := fun id => cond (Nat.beq id 3) ⟨(.go 0 (.go 1 (.go 2 (.go 3 (.go 4 (.go 5 (.go 6 (.go 7 (.go 8 (.go 9 (.go 10 (.go 11 (.go 12 (.go 13 (.go 14 (.go 15 (.eff 16 .nil .stop))))))))))))))))), [16], false⟩ (⟨.nil, [], false⟩)
theorem M.pwinnowref06_Disk_Sync.eq (a0 a1 : Value) (w : World) (K : KV) : M.pwinnowref06_Disk_Sync a0 a1 w K = den P M.pwinnowref06_Disk_Sync.L M.pwinnowref06_Disk_Sync.pl (Try.f73.body.getD .skip) (argE [a0, a1]) w (bodyQ P Try.f73.results.toList K) := by kernel_rfl
theorem M.pwinnowref06_Disk_Sync.ok : okFn M.pwinnowref06_Disk_Sync.L M.pwinnowref06_Disk_Sync.pl Try.f73 (Try.f73.body.getD .skip) 2 = true := by kernel_rfl
theorem M.pwinnowref06_Disk_Sync.calls (a0 a1 : Value) {w : World} {K : KV} (h : M.pwinnowref06_Disk_Sync a0 a1 w K) : callT P F.pwinnowref06_Disk_Sync [a0, a1] w K :=
  callT_of_den (by kernel_rfl) Try.func73 (by kernel_rfl) M.pwinnowref06_Disk_Sync.ok (M.pwinnowref06_Disk_Sync.eq a0 a1 w K ▸ h)
theorem M.pwinnowref06_Disk_Sync.fcall (args : List Value) (w : World) (K : KV) : fcallT P F.pwinnowref06_Disk_Sync args w K = callT P F.pwinnowref06_Disk_Sync args w K := fcallT_eq Try.func73 (by kernel_rfl) (by kernel_rfl) args w K

def M.pwinnowref06_Disk_Cut.j1 (a0 : Value) (a1 : Value) (a2 : Value) (w : World) (K : KV) : Prop :=
  drawT w fun w =>
  w = w ∧ quietT (fun K' => nilT a0 w K') w fun t30 =>
  quietT (fun K' => faT P T.winnowref06_Disk t30 1 w K') w fun t31 =>
  quietT (fun K' => ldT P T.sl_winnowref06_File t31 w K') w fun t32 =>
  w = w ∧ w = w ∧ quietT (fun K' => nilT a0 w K') w fun t35 =>
  quietT (fun K' => faT P T.winnowref06_Disk t35 1 w K') w fun t36 =>
  quietT (fun K' => ldT P T.sl_winnowref06_File t36 w K') w fun t37 =>
  w = w ∧ quietT (fun K' => iaT P T.sl_winnowref06_File t37 a1 w K') w fun t39 =>
  quietT (fun K' => faT P T.winnowref06_File t39 1 w K') w fun t40 =>
  quietT (fun K' => ldT P T.sl_uint8 t40 w K') w fun t41 =>
  w = w ∧ quietT (fun K' => slT P T.sl_uint8 t41 none (some a2) none w K') w fun t43 =>
  quietT (fun K' => iaT P T.sl_winnowref06_File t32 a1 w K') w fun t44 =>
  quietT (fun K' => faT P T.winnowref06_File t44 1 w K') w fun t45 =>
  stT P T.sl_uint8 t45 t43 w fun _ w =>
  nilT a0 w fun t47 w =>
  faT P T.winnowref06_Disk t47 1 w fun t48 w =>
  ldT P T.sl_winnowref06_File t48 w fun t49 w =>
  iaT P T.sl_winnowref06_File t49 a1 w fun t52 w =>
  faT P T.winnowref06_File t52 2 w fun t53 w =>
  stT P T.int t53 a2 w fun _ w =>
  K (.int .i64 0) w
def M.pwinnowref06_Disk_Cut.j0 (a2 : Value) (a0 : Value) (a1 : Value) (x0 : List Value) (w : World) (K : KV) : Prop :=
  joinT (fun K1 =>
  binT P .lss T.int (.tmp 14) (.const (.int .i64 0)) a2 (.int .i64 0) w fun t15 w =>
  guardT (isB t15 false) (fun K' => K' a2 w) w fun t17 w =>
  guardT (isB t15 false) (fun K' => K' a0 w) w fun t18 w =>
  guardT (isB t15 false) (fun K' => nilT t18 w K') w fun t19 w =>
  guardT (isB t15 false) (fun K' => faT P T.winnowref06_Disk t19 1 w K') w fun t20 w =>
  guardT (isB t15 false) (fun K' => ldT P T.sl_winnowref06_File t20 w K') w fun t21 w =>
  guardT (isB t15 false) (fun K' => K' a1 w) w fun t22 w =>
  guardT (isB t15 false) (fun K' => iaT P T.sl_winnowref06_File t21 t22 w K') w fun t23 w =>
  guardT (isB t15 false) (fun K' => faT P T.winnowref06_File t23 1 w K') w fun t24 w =>
  guardT (isB t15 false) (fun K' => ldT P T.sl_uint8 t24 w K') w fun t25 w =>
  guardT (isB t15 false) (fun K' => biT P .len #[T.sl_uint8] T.int [false] [t25] w K') w fun t26 w =>
  guardT (isB t15 false) (fun K' => binT P .gtr T.int (.tmp 17) (.tmp 26) t17 t26 w K') w fun t27 w =>
  pickT t15 (.bool true) t27 w fun t28 w =>
  condT t28 (
  K (.int .i64 1) w) (
  K1 [(gv x0 1)] w)) fun x1 w =>
  M.pwinnowref06_Disk_Cut.j1 a0 a1 a2 w K
/-- (*winnow/winnowref06.Disk).Cut -/
def M.pwinnowref06_Disk_Cut (a0 a1 a2 : Value) (w : World) (K : KV) : Prop :=
  joinT (fun K0 =>
  fcallT P F.pwinnowref06_Disk_asked [a0, a1] w fun t10 w =>
  binT P .neq T.api_Kind (.tmp 11) (.const (.int .i64 0)) t10 (.int .i64 0) w fun t12 w =>
  condT t12 (
  K t10 w) (
  K0 [t10, (.int .i64 0)] w)) fun x0 w =>
  M.pwinnowref06_Disk_Cut.j0 a2 a0 a1 x0 w K
def M.pwinnowref06_Disk_Cut.L : List Nat := [0, 1, 2, 6, 7]
def M.pwinnowref06_Disk_Cut.pl : Nat → Plan := fun id => cond (Nat.beq id 6) ⟨(.go 0 (.go 1 (.go 2 (.go 3 (.go 4 (.go 5 (.go 6 (.go 7 (.go 8 (.go 9 (.go 10 (.go 11 (.go 12 (.go 13 (.go 14 (.go 15 (.go 16 (.eff 17 .nil .stop)))))))))))))))))), [17], false⟩ (⟨.nil, [], false⟩)
theorem M.pwinnowref06_Disk_Cut.eq (a0 a1 a2 : Value) (w : World) (K : KV) : M.pwinnowref06_Disk_Cut a0 a1 a2 w K = den P M.pwinnowref06_Disk_Cut.L M.pwinnowref06_Disk_Cut.pl (Try.f74.body.getD .skip) (argE [a0, a1, a2]) w (bodyQ P Try.f74.results.toList K) := by kernel_rfl
theorem M.pwinnowref06_Disk_Cut.ok : okFn M.pwinnowref06_Disk_Cut.L M.pwinnowref06_Disk_Cut.pl Try.f74 (Try.f74.body.getD .skip) 3 = true := by kernel_rfl
theorem M.pwinnowref06_Disk_Cut.calls (a0 a1 a2 : Value) {w : World} {K : KV} (h : M.pwinnowref06_Disk_Cut a0 a1 a2 w K) : callT P F.pwinnowref06_Disk_Cut [a0, a1, a2] w K :=
  callT_of_den (by kernel_rfl) Try.func74 (by kernel_rfl) M.pwinnowref06_Disk_Cut.ok (M.pwinnowref06_Disk_Cut.eq a0 a1 a2 w K ▸ h)
theorem M.pwinnowref06_Disk_Cut.fcall (args : List Value) (w : World) (K : KV) : fcallT P F.pwinnowref06_Disk_Cut args w K = callT P F.pwinnowref06_Disk_Cut args w K := fcallT_eq Try.func74 (by kernel_rfl) (by kernel_rfl) args w K

/-- (*winnow/winnowref06.Disk).Remove -/
def M.pwinnowref06_Disk_Remove (a0 a1 : Value) (w : World) (K : KV) : Prop :=
  fcallT P F.pwinnowref06_Disk_asked [a0, a1] w fun t8 w =>
  joinT (fun K0 =>
  binT P .eql T.api_Kind (.tmp 9) (.const (.int .i64 0)) t8 (.int .i64 0) w fun t10 w =>
  condT t10 (
  nilT a0 w fun t12 w =>
  faT P T.winnowref06_Disk t12 1 w fun t13 w =>
  ldT P T.sl_winnowref06_File t13 w fun t14 w =>
  bldT P T.winnowref06_File #[] w fun t16 w =>
  iaT P T.sl_winnowref06_File t14 a1 w fun t17 w =>
  stT P T.winnowref06_File t17 t16 w fun _ w =>
  K0 [] w) (
  K0 [] w)) fun x0 w =>
  K t8 w
def M.pwinnowref06_Disk_Remove.L : List Nat := [0, 1, 4, 5]
def M.pwinnowref06_Disk_Remove.pl : Nat → Plan := fun id => ⟨.nil, [], false⟩
theorem M.pwinnowref06_Disk_Remove.eq (a0 a1 : Value) (w : World) (K : KV) : M.pwinnowref06_Disk_Remove a0 a1 w K = den P M.pwinnowref06_Disk_Remove.L M.pwinnowref06_Disk_Remove.pl (Try.f75.body.getD .skip) (argE [a0, a1]) w (bodyQ P Try.f75.results.toList K) := by kernel_rfl
theorem M.pwinnowref06_Disk_Remove.ok : okFn M.pwinnowref06_Disk_Remove.L M.pwinnowref06_Disk_Remove.pl Try.f75 (Try.f75.body.getD .skip) 2 = true := by kernel_rfl
theorem M.pwinnowref06_Disk_Remove.calls (a0 a1 : Value) {w : World} {K : KV} (h : M.pwinnowref06_Disk_Remove a0 a1 w K) : callT P F.pwinnowref06_Disk_Remove [a0, a1] w K :=
  callT_of_den (by kernel_rfl) Try.func75 (by kernel_rfl) M.pwinnowref06_Disk_Remove.ok (M.pwinnowref06_Disk_Remove.eq a0 a1 w K ▸ h)
theorem M.pwinnowref06_Disk_Remove.fcall (args : List Value) (w : World) (K : KV) : fcallT P F.pwinnowref06_Disk_Remove args w K = callT P F.pwinnowref06_Disk_Remove args w K := fcallT_eq Try.func75 (by kernel_rfl) (by kernel_rfl) args w K

/-- (*winnow/winnowref06.Disk).Arm -/
def M.pwinnowref06_Disk_Arm (a0 a1 : Value) (w : World) (K : KV) : Prop :=
  biT P .max #[T.int, T.int] T.int [false, true] [a1, (.int .i64 (-1))] w fun t6 w =>
  nilT a0 w fun t7 w =>
  faT P T.winnowref06_Disk t7 2 w fun t8 w =>
  stT P T.int t8 t6 w fun _ w =>
  K (.tuple #[]) w
def M.pwinnowref06_Disk_Arm.L : List Nat := [0, 1]
def M.pwinnowref06_Disk_Arm.pl : Nat → Plan := fun id => ⟨.nil, [], false⟩
theorem M.pwinnowref06_Disk_Arm.eq (a0 a1 : Value) (w : World) (K : KV) : M.pwinnowref06_Disk_Arm a0 a1 w K = den P M.pwinnowref06_Disk_Arm.L M.pwinnowref06_Disk_Arm.pl (Try.f76.body.getD .skip) (argE [a0, a1]) w (bodyQ P Try.f76.results.toList K) := by kernel_rfl
theorem M.pwinnowref06_Disk_Arm.ok : okFn M.pwinnowref06_Disk_Arm.L M.pwinnowref06_Disk_Arm.pl Try.f76 (Try.f76.body.getD .skip) 2 = true := by kernel_rfl
theorem M.pwinnowref06_Disk_Arm.calls (a0 a1 : Value) {w : World} {K : KV} (h : M.pwinnowref06_Disk_Arm a0 a1 w K) : callT P F.pwinnowref06_Disk_Arm [a0, a1] w K :=
  callT_of_den (by kernel_rfl) Try.func76 (by kernel_rfl) M.pwinnowref06_Disk_Arm.ok (M.pwinnowref06_Disk_Arm.eq a0 a1 w K ▸ h)
theorem M.pwinnowref06_Disk_Arm.fcall (args : List Value) (w : World) (K : KV) : fcallT P F.pwinnowref06_Disk_Arm args w K = callT P F.pwinnowref06_Disk_Arm args w K := fcallT_eq Try.func76 (by kernel_rfl) (by kernel_rfl) args w K

def M.pwinnowref06_Disk_Crash.j4 (t24 : Value) (x4 : List Value) (K3 : KL) (w : World) (K : KV) : Prop :=
  drawT w fun w =>
  w = w ∧ w = w ∧ quietT (fun K' => nilT t24 w K') w fun t47 =>
  quietT (fun K' => faT P T.winnowref06_File t47 1 w K') w fun t48 =>
  quietT (fun K' => ldT P T.sl_uint8 t48 w K') w fun t49 =>
  w = w ∧ quietT (fun K' => nilT t24 w K') w fun t51 =>
  quietT (fun K' => faT P T.winnowref06_File t51 2 w K') w fun t52 =>
  quietT (fun K' => ldT P T.int t52 w K') w fun t53 =>
  w = w ∧ quietT (fun K' => binT P .add T.int (.tmp 53) (.tmp 54) t53 (gv x4 0) w K') w fun t55 =>
  quietT (fun K' => slT P T.sl_uint8 t49 none (some t55) none w K') w fun t56 =>
  quietT (fun K' => nilT t24 w K') w fun t57 =>
  quietT (fun K' => faT P T.winnowref06_File t57 1 w K') w fun t58 =>
  stT P T.sl_uint8 t58 t56 w fun _ w =>
  nilT t24 w fun t61 w =>
  faT P T.winnowref06_File t61 1 w fun t62 w =>
  ldT P T.sl_uint8 t62 w fun t63 w =>
  biT P .len #[T.sl_uint8] T.int [false] [t63] w fun t64 w =>
  nilT t24 w fun t65 w =>
  faT P T.winnowref06_File t65 2 w fun t66 w =>
  stT P T.int t66 t64 w fun _ w =>
  K3 [t24, (gv x4 0)] w
def M.pwinnowref06_Disk_Crash.j2 (a0 : Value) (t9 : Value) (x1 : List Value) (a1 : Value) (K1 : KL) (w : World) (K : KV) : Prop :=
  joinT (fun K3 =>
  drawT w fun w =>
  w = w ∧ quietT (fun K' => nilT a0 w K') w fun t17 =>
  quietT (fun K' => faT P T.winnowref06_Disk t17 1 w K') w fun t18 =>
  quietT (fun K' => ldT P T.sl_winnowref06_File t18 w K') w fun t19 =>
  w = w ∧ w = w ∧ quietT (fun K' => iaT P T.sl_int t9 (gv x1 2) w K') w fun t22 =>
  quietT (fun K' => ldT P T.int t22 w K') w fun t23 =>
  quietT (fun K' => iaT P T.sl_winnowref06_File t19 t23 w K') w fun t24 =>
  joinT (fun K4 =>
  biT P .len #[T.sl_int] T.int [false] [a1] w fun t27 w =>
  binT P .lss T.int (.tmp 25) (.tmp 27) (gv x1 2) t27 w fun t28 w =>
  condT t28 (
  drawT w fun w =>
  w = w ∧ w = w ∧ quietT (fun K' => iaT P T.sl_int a1 (gv x1 2) w K') w fun t31 =>
  quietT (fun K' => ldT P T.int t31 w K') w fun t32 =>
  w = w ∧ quietT (fun K' => nilT t24 w K') w fun t34 =>
  quietT (fun K' => faT P T.winnowref06_File t34 1 w K') w fun t35 =>
  quietT (fun K' => ldT P T.sl_uint8 t35 w K') w fun t36 =>
  quietT (fun K' => biT P .len #[T.sl_uint8] T.int [false] [t36] w K') w fun t37 =>
  w = w ∧ quietT (fun K' => nilT t24 w K') w fun t39 =>
  quietT (fun K' => faT P T.winnowref06_File t39 2 w K') w fun t40 =>
  quietT (fun K' => ldT P T.int t40 w K') w fun t41 =>
  quietT (fun K' => binT P .sub T.int (.tmp 37) (.tmp 41) t37 t41 w K') w fun t42 =>
  quietT (fun K' => biT P .min #[T.int, T.int] T.int [false, false] [t32, t42] w K') w fun t43 =>
  quietT (fun K' => biT P .max #[T.int, T.int] T.int [true, false] [(.int .i64 0), t43] w K') w fun t44 =>
  K4 [t44] w) (
  K4 [(.int .i64 0)] w)) fun x4 w =>
  M.pwinnowref06_Disk_Crash.j4 t24 x4 K3 w K) fun x3 w =>
  binT P .add T.int (.tmp 14) (.const (.int .i64 1)) (gv x1 2) (.int .i64 1) w fun t15 w =>
  K1 [(gv x3 0), (gv x3 1), t15] w
def M.pwinnowref06_Disk_Crash.j1 (t9 : Value) (x1 : List Value) (K0 : KL) (a0 : Value) (a1 : Value) (K1 : KL) (w : World) (K : KV) : Prop :=
  joinT (fun K2 =>
  biT P .len #[T.sl_int] T.int [false] [t9] w fun t12 w =>
  binT P .lss T.int (.tmp 10) (.tmp 12) (gv x1 2) t12 w fun t13 w =>
  condT t13 (
  K2 [] w) (
  K0 [(gv x1 2), (gv x1 0), (gv x1 1)] w)) fun x2 w =>
  M.pwinnowref06_Disk_Crash.j2 a0 t9 x1 a1 K1 w K
/-- (*winnow/winnowref06.Disk).Crash -/
def M.pwinnowref06_Disk_Crash (a0 a1 : Value) (w : World) (K : KV) : Prop :=
  fcallT P F.pwinnowref06_Disk_Files [a0] w fun t9 w =>
  joinT (fun K0 =>
  loopT [undef, undef, (.int .i64 0)] w fun K1 x1 w =>
  M.pwinnowref06_Disk_Crash.j1 t9 x1 K0 a0 a1 K1 w K) fun x0 w =>
  nilT a0 w fun t68 w =>
  faT P T.winnowref06_Disk t68 3 w fun t69 w =>
  stT P T.bool t69 (.bool false) w fun _ w =>
  nilT a0 w fun t71 w =>
  faT P T.winnowref06_Disk t71 2 w fun t72 w =>
  stT P T.int t72 (.int .i64 (-1)) w fun _ w =>
  K (.tuple #[]) w
def M.pwinnowref06_Disk_Crash.L : List Nat := [0, 1, 4, 5, 6, 7]
def M.pwinnowref06_Disk_Crash.pl : Nat → Plan := fun id => cond (Nat.beq id 4) ⟨(.go 0 (.go 1 (.go 2 (.go 3 (.go 4 (.go 5 (.go 6 (.go 7 (.go 8 (.eff 9 .nil .stop)))))))))), [9], false⟩ (cond (Nat.beq id 7) ⟨(.go 0 (.go 1 (.go 2 (.go 3 (.go 4 (.go 5 (.go 6 (.go 7 (.go 8 (.go 9 (.go 10 (.go 11 (.go 12 (.go 13 (.go 14 (.go 15 (.eff 16 .nil .stop))))))))))))))))), [16], false⟩ (cond (Nat.beq id 8) ⟨(.go 0 (.go 1 (.go 2 (.go 3 (.go 4 (.go 5 (.go 6 (.go 7 (.go 8 (.go 9 (.go 10 (.go 11 (.go 12 (.go 13 (.eff 14 .nil .stop))))))))))))))), [14], false⟩ (⟨.nil, [], false⟩)))
theorem M.pwinnowref06_Disk_Crash.eq (a0 a1 : Value) (w : World) (K : KV) : M.pwinnowref06_Disk_Crash a0 a1 w K = den P M.pwinnowref06_Disk_Crash.L M.pwinnowref06_Disk_Crash.pl (Try.f77.body.getD .skip) (argE [a0, a1]) w (bodyQ P Try.f77.results.toList K) := by kernel_rfl
theorem M.pwinnowref06_Disk_Crash.ok : okFn M.pwinnowref06_Disk_Crash.L M.pwinnowref06_Disk_Crash.pl Try.f77 (Try.f77.body.getD .skip) 2 = true := by kernel_rfl
theorem M.pwinnowref06_Disk_Crash.calls (a0 a1 : Value) {w : World} {K : KV} (h : M.pwinnowref06_Disk_Crash a0 a1 w K) : callT P F.pwinnowref06_Disk_Crash [a0, a1] w K :=
  callT_of_den (by kernel_rfl) Try.func77 (by kernel_rfl) M.pwinnowref06_Disk_Crash.ok (M.pwinnowref06_Disk_Crash.eq a0 a1 w K ▸ h)
theorem M.pwinnowref06_Disk_Crash.fcall (args : List Value) (w : World) (K : KV) : fcallT P F.pwinnowref06_Disk_Crash args w K = callT P F.pwinnowref06_Disk_Crash args w K := fcallT_eq Try.func77 (by kernel_rfl) (by kernel_rfl) args w K

def M.pwinnowref06_Disk_Files.j2 (a0 : Value) (x1 : List Value) (K1 : KL) (w : World) (K : KV) : Prop :=
  joinT (fun K3 =>
  nilT a0 w fun t15 w =>
  faT P T.winnowref06_Disk t15 1 w fun t16 w =>
  ldT P T.sl_winnowref06_File t16 w fun t17 w =>
  iaT P T.sl_winnowref06_File t17 (gv x1 1) w fun t19 w =>
  faT P T.winnowref06_File t19 0 w fun t20 w =>
  ldT P T.bool t20 w fun t21 w =>
  condT t21 (
  bsT P T.sl_int 1 #[(0, (gv x1 1))] w fun t24 w =>
  biT P .append #[T.sl_int, T.sl_int] T.sl_int [false, false] [(gv x1 0), t24] w fun t25 w =>
  K3 [t25] w) (
  K3 [(gv x1 0)] w)) fun x3 w =>
  binT P .add T.int (.tmp 12) (.const (.int .i64 1)) (gv x1 1) (.int .i64 1) w fun t13 w =>
  K1 [(gv x3 0), t13] w
def M.pwinnowref06_Disk_Files.j1 (a0 : Value) (x1 : List Value) (K0 : KL) (K1 : KL) (w : World) (K : KV) : Prop :=
  joinT (fun K2 =>
  nilT a0 w fun t7 w =>
  faT P T.winnowref06_Disk t7 1 w fun t8 w =>
  ldT P T.sl_winnowref06_File t8 w fun t9 w =>
  biT P .len #[T.sl_winnowref06_File] T.int [false] [t9] w fun t10 w =>
  binT P .lss T.int (.tmp 5) (.tmp 10) (gv x1 1) t10 w fun t11 w =>
  condT t11 (
  K2 [] w) (
  K0 [(gv x1 1), (gv x1 0)] w)) fun x2 w =>
  M.pwinnowref06_Disk_Files.j2 a0 x1 K1 w K
/-- (*winnow/winnowref06.Disk).Files -/
def M.pwinnowref06_Disk_Files (a0 : Value) (w : World) (K : KV) : Prop :=
  joinT (fun K0 =>
  loopT [(.slice none 0 0), (.int .i64 0)] w fun K1 x1 w =>
  M.pwinnowref06_Disk_Files.j1 a0 x1 K0 K1 w K) fun x0 w =>
  K (gv x0 1) w
def M.pwinnowref06_Disk_Files.L : List Nat := [0, 2, 3, 4]
def M.pwinnowref06_Disk_Files.pl : Nat → Plan := fun id => ⟨.nil, [], false⟩
theorem M.pwinnowref06_Disk_Files.eq (a0 : Value) (w : World) (K : KV) : M.pwinnowref06_Disk_Files a0 w K = den P M.pwinnowref06_Disk_Files.L M.pwinnowref06_Disk_Files.pl (Try.f78.body.getD .skip) (argE [a0]) w (bodyQ P Try.f78.results.toList K) := by kernel_rfl
theorem M.pwinnowref06_Disk_Files.ok : okFn M.pwinnowref06_Disk_Files.L M.pwinnowref06_Disk_Files.pl Try.f78 (Try.f78.body.getD .skip) 1 = true := by kernel_rfl
theorem M.pwinnowref06_Disk_Files.calls (a0 : Value) {w : World} {K : KV} (h : M.pwinnowref06_Disk_Files a0 w K) : callT P F.pwinnowref06_Disk_Files [a0] w K :=
  callT_of_den (by kernel_rfl) Try.func78 (by kernel_rfl) M.pwinnowref06_Disk_Files.ok (M.pwinnowref06_Disk_Files.eq a0 w K ▸ h)
theorem M.pwinnowref06_Disk_Files.fcall (args : List Value) (w : World) (K : KV) : fcallT P F.pwinnowref06_Disk_Files args w K = callT P F.pwinnowref06_Disk_Files args w K := fcallT_eq Try.func78 (by kernel_rfl) (by kernel_rfl) args w K

def M.pwinnowref06_Disk_Used.j2 (a0 : Value) (x1 : List Value) (K1 : KL) (w : World) (K : KV) : Prop :=
  joinT (fun K3 =>
  nilT a0 w fun t16 w =>
  faT P T.winnowref06_Disk t16 1 w fun t17 w =>
  ldT P T.sl_winnowref06_File t17 w fun t18 w =>
  iaT P T.sl_winnowref06_File t18 (gv x1 1) w fun t20 w =>
  faT P T.winnowref06_File t20 1 w fun t21 w =>
  ldT P T.sl_uint8 t21 w fun t22 w =>
  biT P .len #[T.sl_uint8] T.int [false] [t22] w fun t23 w =>
  binT P .add T.int (.tmp 14) (.tmp 23) (gv x1 0) t23 w fun t24 w =>
  K3 [t24] w) fun x3 w =>
  binT P .add T.int (.tmp 12) (.const (.int .i64 1)) (gv x1 1) (.int .i64 1) w fun t13 w =>
  K1 [(gv x3 0), t13] w
def M.pwinnowref06_Disk_Used.j1 (a0 : Value) (x1 : List Value) (K0 : KL) (K1 : KL) (w : World) (K : KV) : Prop :=
  joinT (fun K2 =>
  nilT a0 w fun t7 w =>
  faT P T.winnowref06_Disk t7 1 w fun t8 w =>
  ldT P T.sl_winnowref06_File t8 w fun t9 w =>
  biT P .len #[T.sl_winnowref06_File] T.int [false] [t9] w fun t10 w =>
  binT P .lss T.int (.tmp 5) (.tmp 10) (gv x1 1) t10 w fun t11 w =>
  condT t11 (
  K2 [] w) (
  K0 [(gv x1 1), (gv x1 0)] w)) fun x2 w =>
  M.pwinnowref06_Disk_Used.j2 a0 x1 K1 w K
/-- (*winnow/winnowref06.Disk).Used -/
def M.pwinnowref06_Disk_Used (a0 : Value) (w : World) (K : KV) : Prop :=
  joinT (fun K0 =>
  loopT [(.int .i64 0), (.int .i64 0)] w fun K1 x1 w =>
  M.pwinnowref06_Disk_Used.j1 a0 x1 K0 K1 w K) fun x0 w =>
  K (gv x0 1) w
def M.pwinnowref06_Disk_Used.L : List Nat := [0, 2, 3, 4]
def M.pwinnowref06_Disk_Used.pl : Nat → Plan := fun id => ⟨.nil, [], false⟩
theorem M.pwinnowref06_Disk_Used.eq (a0 : Value) (w : World) (K : KV) : M.pwinnowref06_Disk_Used a0 w K = den P M.pwinnowref06_Disk_Used.L M.pwinnowref06_Disk_Used.pl (Try.f79.body.getD .skip) (argE [a0]) w (bodyQ P Try.f79.results.toList K) := by kernel_rfl
theorem M.pwinnowref06_Disk_Used.ok : okFn M.pwinnowref06_Disk_Used.L M.pwinnowref06_Disk_Used.pl Try.f79 (Try.f79.body.getD .skip) 1 = true := by kernel_rfl
theorem M.pwinnowref06_Disk_Used.calls (a0 : Value) {w : World} {K : KV} (h : M.pwinnowref06_Disk_Used a0 w K) : callT P F.pwinnowref06_Disk_Used [a0] w K :=
  callT_of_den (by kernel_rfl) Try.func79 (by kernel_rfl) M.pwinnowref06_Disk_Used.ok (M.pwinnowref06_Disk_Used.eq a0 w K ▸ h)
theorem M.pwinnowref06_Disk_Used.fcall (args : List Value) (w : World) (K : KV) : fcallT P F.pwinnowref06_Disk_Used args w K = callT P F.pwinnowref06_Disk_Used args w K := fcallT_eq Try.func79 (by kernel_rfl) (by kernel_rfl) args w K

def M.pwinnowref06_Disk_Read.j0 (a0 : Value) (a1 : Value) (w : World) (K : KV) : Prop :=
  nilT a0 w fun t14 w =>
  faT P T.winnowref06_Disk t14 1 w fun t15 w =>
  ldT P T.sl_winnowref06_File t15 w fun t16 w =>
  iaT P T.sl_winnowref06_File t16 a1 w fun t18 w =>
  faT P T.winnowref06_File t18 1 w fun t19 w =>
  ldT P T.sl_uint8 t19 w fun t20 w =>
  K (.tuple #[t20, (.int .i64 0)]) w
/-- (*winnow/winnowref06.Disk).Read -/
def M.pwinnowref06_Disk_Read (a0 a1 : Value) (w : World) (K : KV) : Prop :=
  joinT (fun K0 =>
  fcallT P F.pwinnowref06_Disk_asked [a0, a1] w fun t9 w =>
  binT P .neq T.api_Kind (.tmp 10) (.const (.int .i64 0)) t9 (.int .i64 0) w fun t11 w =>
  condT t11 (
  K (.tuple #[(.slice none 0 0), t9]) w) (
  K0 [t9, (.slice none 0 0), (.int .i64 0)] w)) fun x0 w =>
  M.pwinnowref06_Disk_Read.j0 a0 a1 w K
def M.pwinnowref06_Disk_Read.L : List Nat := [0, 1, 4, 5, 6]
def M.pwinnowref06_Disk_Read.pl : Nat → Plan := fun id => ⟨.nil, [], false⟩
theorem M.pwinnowref06_Disk_Read.eq (a0 a1 : Value) (w : World) (K : KV) : M.pwinnowref06_Disk_Read a0 a1 w K = den P M.pwinnowref06_Disk_Read.L M.pwinnowref06_Disk_Read.pl (Try.f80.body.getD .skip) (argE [a0, a1]) w (bodyQ P Try.f80.results.toList K) := by kernel_rfl
theorem M.pwinnowref06_Disk_Read.ok : okFn M.pwinnowref06_Disk_Read.L M.pwinnowref06_Disk_Read.pl Try.f80 (Try.f80.body.getD .skip) 2 = true := by kernel_rfl
theorem M.pwinnowref06_Disk_Read.calls (a0 a1 : Value) {w : World} {K : KV} (h : M.pwinnowref06_Disk_Read a0 a1 w K) : callT P F.pwinnowref06_Disk_Read [a0, a1] w K :=
  callT_of_den (by kernel_rfl) Try.func80 (by kernel_rfl) M.pwinnowref06_Disk_Read.ok (M.pwinnowref06_Disk_Read.eq a0 a1 w K ▸ h)
theorem M.pwinnowref06_Disk_Read.fcall (args : List Value) (w : World) (K : KV) : fcallT P F.pwinnowref06_Disk_Read args w K = callT P F.pwinnowref06_Disk_Read args w K := fcallT_eq Try.func80 (by kernel_rfl) (by kernel_rfl) args w K

/-- slices.Sorted[uint64] -/
def M.slices_Sorted_uint64 (a0 : Value) (w : World) (K : KV) : Prop :=
  fcallT P F.slices_Collect_uint64 [a0] w fun t5 w =>
  fcallT P F.slices_Sort_uint64_uint64 [t5] w fun t7 w =>
  K t5 w
def M.slices_Sorted_uint64.L : List Nat := [0, 2, 3]
def M.slices_Sorted_uint64.pl : Nat → Plan := fun id => ⟨.nil, [], false⟩
theorem M.slices_Sorted_uint64.eq (a0 : Value) (w : World) (K : KV) : M.slices_Sorted_uint64 a0 w K = den P M.slices_Sorted_uint64.L M.slices_Sorted_uint64.pl (Try.f81.body.getD .skip) (argE [a0]) w (bodyQ P Try.f81.results.toList K) := by kernel_rfl
theorem M.slices_Sorted_uint64.ok : okFn M.slices_Sorted_uint64.L M.slices_Sorted_uint64.pl Try.f81 (Try.f81.body.getD .skip) 1 = true := by kernel_rfl
theorem M.slices_Sorted_uint64.calls (a0 : Value) {w : World} {K : KV} (h : M.slices_Sorted_uint64 a0 w K) : callT P F.slices_Sorted_uint64 [a0] w K :=
  callT_of_den (by kernel_rfl) Try.func81 (by kernel_rfl) M.slices_Sorted_uint64.ok (M.slices_Sorted_uint64.eq a0 w K ▸ h)
theorem M.slices_Sorted_uint64.fcall (args : List Value) (w : World) (K : KV) : fcallT P F.slices_Sorted_uint64 args w K = callT P F.slices_Sorted_uint64 args w K := fcallT_eq Try.func81 (by kernel_rfl) (by kernel_rfl) args w K

/-- maps.Keys[map[uint64]*winnow/buffer.entry,uint64,*winnow/buffer.entry] -/
def M.maps_Keys_map_uint64_buffer_entry_uint64_buffer_entry (a0 : Value) (w : World) (K : KV) : Prop :=
  boxT P T.map_uint64_p_buffer_entry a0 w fun t1 w =>
  mkfT P (.func F.maps_Keys_map_uint64_buffer_entry_uint64_buffer_entry_1) [] [t1] w fun t3 w =>
  K t3 w
def M.maps_Keys_map_uint64_buffer_entry_uint64_buffer_entry.L : List Nat := [0, 2]
def M.maps_Keys_map_uint64_buffer_entry_uint64_buffer_entry.pl : Nat → Plan := fun id => ⟨.nil, [], false⟩
theorem M.maps_Keys_map_uint64_buffer_entry_uint64_buffer_entry.eq (a0 : Value) (w : World) (K : KV) : M.maps_Keys_map_uint64_buffer_entry_uint64_buffer_entry a0 w K = den P M.maps_Keys_map_uint64_buffer_entry_uint64_buffer_entry.L M.maps_Keys_map_uint64_buffer_entry_uint64_buffer_entry.pl (Try.f82.body.getD .skip) (argE [a0]) w (bodyQ P Try.f82.results.toList K) := by kernel_rfl
theorem M.maps_Keys_map_uint64_buffer_entry_uint64_buffer_entry.ok : okFn M.maps_Keys_map_uint64_buffer_entry_uint64_buffer_entry.L M.maps_Keys_map_uint64_buffer_entry_uint64_buffer_entry.pl Try.f82 (Try.f82.body.getD .skip) 1 = true := by kernel_rfl
theorem M.maps_Keys_map_uint64_buffer_entry_uint64_buffer_entry.calls (a0 : Value) {w : World} {K : KV} (h : M.maps_Keys_map_uint64_buffer_entry_uint64_buffer_entry a0 w K) : callT P F.maps_Keys_map_uint64_buffer_entry_uint64_buffer_entry [a0] w K :=
  callT_of_den (by kernel_rfl) Try.func82 (by kernel_rfl) M.maps_Keys_map_uint64_buffer_entry_uint64_buffer_entry.ok (M.maps_Keys_map_uint64_buffer_entry_uint64_buffer_entry.eq a0 w K ▸ h)
theorem M.maps_Keys_map_uint64_buffer_entry_uint64_buffer_entry.fcall (args : List Value) (w : World) (K : KV) : fcallT P F.maps_Keys_map_uint64_buffer_entry_uint64_buffer_entry args w K = callT P F.maps_Keys_map_uint64_buffer_entry_uint64_buffer_entry args w K := fcallT_eq Try.func82 (by kernel_rfl) (by kernel_rfl) args w K

def M.pwinnowref16_Buffer_Due.j6 (x6 : List Value) (x1 : List Value) (a0 : Value) (K5 : KL) (K6 : KL) (w : World) (K : KV) : Prop :=
  joinT (fun K7 =>
  drawT w fun w =>
  w = w ∧ quietT (fun K' => binT P .gtr T.int (.tmp 31) (.const (.int .i64 0)) (gv x6 0) (.int .i64 0) w K') w fun t32 =>
  w = w ∧ quietT (fun K' => guardT (isB t32 true) (fun K' => K' (gv x1 1) w) w K') w fun t34 =>
  quietT (fun K' => guardT (isB t32 true) (fun K' => K' (gv x6 0) w) w K') w fun t35 =>
  quietT (fun K' => guardT (isB t32 true) (fun K' => binT P .sub T.int (.tmp 35) (.const (.int .i64 1)) t35 (.int .i64 1) w K') w K') w fun t36 =>
  quietT (fun K' => guardT (isB t32 true) (fun K' => iaT P T.sl_winnowref16_Trace t34 t36 w K') w K') w fun t37 =>
  quietT (fun K' => guardT (isB t32 true) (fun K' => faT P T.winnowref16_Trace t37 1 w K') w K') w fun t38 =>
  quietT (fun K' => guardT (isB t32 true) (fun K' => ldT P T.uint64 t38 w K') w K') w fun t39 =>
  quietT (fun K' => guardT (isB t32 true) (fun K' => K' a0 w) w K') w fun t40 =>
  quietT (fun K' => guardT (isB t32 true) (fun K' => nilT t40 w K') w K') w fun t41 =>
  quietT (fun K' => guardT (isB t32 true) (fun K' => faT P T.winnowref16_Buffer t41 3 w K') w K') w fun t42 =>
  quietT (fun K' => guardT (isB t32 true) (fun K' => ldT P T.sl_winnowref16_Trace t42 w K') w K') w fun t43 =>
  quietT (fun K' => guardT (isB t32 true) (fun K' => K' (gv x1 2) w) w K') w fun t44 =>
  quietT (fun K' => guardT (isB t32 true) (fun K' => iaT P T.sl_winnowref16_Trace t43 t44 w K') w K') w fun t45 =>
  quietT (fun K' => guardT (isB t32 true) (fun K' => faT P T.winnowref16_Trace t45 1 w K') w K') w fun t46 =>
  quietT (fun K' => guardT (isB t32 true) (fun K' => ldT P T.uint64 t46 w K') w K') w fun t47 =>
  quietT (fun K' => guardT (isB t32 true) (fun K' => binT P .gtr T.uint64 (.tmp 39) (.tmp 47) t39 t47 w K') w K') w fun t48 =>
  quietT (fun K' => pickT t32 t48 (.bool false) w K') w fun t49 =>
  condT t49 (
  K7 [] w) (
  K5 [(gv x6 0)] w)) fun x7 w =>
  binT P .sub T.int (.tmp 50) (.const (.int .i64 1)) (gv x6 0) (.int .i64 1) w fun t51 w =>
  K6 [t51] w
def M.pwinnowref16_Buffer_Due.j5 (x1 : List Value) (x5 : List Value) (a0 : Value) (K3 : KL) (w : World) (K : KV) : Prop :=
  drawT w fun w =>
  joinT (fun K8 =>
  w = w ∧ w = w ∧ quietT (fun K' => slT P T.sl_winnowref16_Trace (gv x1 1) none (some (gv x5 0)) none w K') w fun t55 =>
  w = w ∧ quietT (fun K' => nilT a0 w K') w fun t58 =>
  quietT (fun K' => faT P T.winnowref16_Buffer t58 3 w K') w fun t59 =>
  quietT (fun K' => ldT P T.sl_winnowref16_Trace t59 w K') w fun t60 =>
  w = w ∧ quietT (fun K' => iaT P T.sl_winnowref16_Trace t60 (gv x1 2) w K') w fun t62 =>
  quietT (fun K' => ldT P T.winnowref16_Trace t62 w K') w fun t63 =>
  w = w ∧ w = w ∧ quietT (fun K' => slT P T.sl_winnowref16_Trace (gv x1 1) (some (gv x5 0)) none none w K') w fun t68 =>
  (bsT P T.sl_winnowref16_Trace 0 #[] w fun t52 w =>
  stabT (fun K' => slT P T.sl_winnowref16_Trace (gv x1 1) (some (gv x5 0)) none none w K') w t68 ∧ stabT (fun K' => K' (gv x5 0) w) w (gv x5 0) ∧ stabT (fun K' => K' (gv x1 1) w) w (gv x1 1) ∧ stabT (fun K' => ldT P T.winnowref16_Trace t62 w K') w t63 ∧ stabT (fun K' => iaT P T.sl_winnowref16_Trace t60 (gv x1 2) w K') w t62 ∧ stabT (fun K' => K' (gv x1 2) w) w (gv x1 2) ∧ stabT (fun K' => ldT P T.sl_winnowref16_Trace t59 w K') w t60 ∧ stabT (fun K' => faT P T.winnowref16_Buffer t58 3 w K') w t59 ∧ stabT (fun K' => nilT a0 w K') w t58 ∧ stabT (fun K' => K' a0 w) w a0 ∧ stabT (fun K' => slT P T.sl_winnowref16_Trace (gv x1 1) none (some (gv x5 0)) none w K') w t55 ∧ stabT (fun K' => K' (gv x5 0) w) w (gv x5 0) ∧ stabT (fun K' => K' (gv x1 1) w) w (gv x1 1) ∧ (biT P .append #[T.sl_winnowref16_Trace, T.sl_winnowref16_Trace] T.sl_winnowref16_Trace [false, false] [t52, t55] w fun t56 w =>
  stabT (fun K' => slT P T.sl_winnowref16_Trace (gv x1 1) (some (gv x5 0)) none none w K') w t68 ∧ stabT (fun K' => K' (gv x5 0) w) w (gv x5 0) ∧ stabT (fun K' => K' (gv x1 1) w) w (gv x1 1) ∧ stabT (fun K' => ldT P T.winnowref16_Trace t62 w K') w t63 ∧ stabT (fun K' => iaT P T.sl_winnowref16_Trace t60 (gv x1 2) w K') w t62 ∧ stabT (fun K' => K' (gv x1 2) w) w (gv x1 2) ∧ stabT (fun K' => ldT P T.sl_winnowref16_Trace t59 w K') w t60 ∧ stabT (fun K' => faT P T.winnowref16_Buffer t58 3 w K') w t59 ∧ stabT (fun K' => nilT a0 w K') w t58 ∧ stabT (fun K' => K' a0 w) w a0 ∧ bsT P T.sl_winnowref16_Trace 1 #[(0, t63)] w fun t64 w =>
  stabT (fun K' => slT P T.sl_winnowref16_Trace (gv x1 1) (some (gv x5 0)) none none w K') w t68 ∧ stabT (fun K' => K' (gv x5 0) w) w (gv x5 0) ∧ stabT (fun K' => K' (gv x1 1) w) w (gv x1 1) ∧ stabT (fun K' => slT P T.sl_winnowref16_Trace (gv x1 1) none (some (gv x5 0)) none w K') w t55 ∧ stabT (fun K' => K' (gv x5 0) w) w (gv x5 0) ∧ stabT (fun K' => K' (gv x1 1) w) w (gv x1 1) ∧ biT P .append #[T.sl_winnowref16_Trace, T.sl_winnowref16_Trace] T.sl_winnowref16_Trace [false, false] [t56, t64] w fun t65 w =>
  stabT (fun K' => slT P T.sl_winnowref16_Trace (gv x1 1) (some (gv x5 0)) none none w K') w t68 ∧ stabT (fun K' => K' (gv x5 0) w) w (gv x5 0) ∧ stabT (fun K' => K' (gv x1 1) w) w (gv x1 1) ∧ biT P .append #[T.sl_winnowref16_Trace, T.sl_winnowref16_Trace] T.sl_winnowref16_Trace [false, false] [t65, t68] w fun t69 w =>
  K8 [t52, (gv x1 1), (gv x5 0), t55, t56, a0, t58, t59, t60, (gv x1 2), t62, t63, t64, t65, (gv x1 1), (gv x5 0), t68, t69, t69] w) ∧
  (bsT P T.sl_winnowref16_Trace 1 #[(0, t63)] w fun t64 w =>
  stabT (fun K' => slT P T.sl_winnowref16_Trace (gv x1 1) (some (gv x5 0)) none none w K') w t68 ∧ stabT (fun K' => K' (gv x5 0) w) w (gv x5 0) ∧ stabT (fun K' => K' (gv x1 1) w) w (gv x1 1) ∧ stabT (fun K' => slT P T.sl_winnowref16_Trace (gv x1 1) none (some (gv x5 0)) none w K') w t55 ∧ stabT (fun K' => K' (gv x5 0) w) w (gv x5 0) ∧ stabT (fun K' => K' (gv x1 1) w) w (gv x1 1) ∧ biT P .append #[T.sl_winnowref16_Trace, T.sl_winnowref16_Trace] T.sl_winnowref16_Trace [false, false] [t52, t55] w fun t56 w =>
  stabT (fun K' => slT P T.sl_winnowref16_Trace (gv x1 1) (some (gv x5 0)) none none w K') w t68 ∧ stabT (fun K' => K' (gv x5 0) w) w (gv x5 0) ∧ stabT (fun K' => K' (gv x1 1) w) w (gv x1 1) ∧ stabT (fun K' => ldT P T.winnowref16_Trace t62 w K') w t63 ∧ stabT (fun K' => iaT P T.sl_winnowref16_Trace t60 (gv x1 2) w K') w t62 ∧ stabT (fun K' => K' (gv x1 2) w) w (gv x1 2) ∧ stabT (fun K' => ldT P T.sl_winnowref16_Trace t59 w K') w t60 ∧ stabT (fun K' => faT P T.winnowref16_Buffer t58 3 w K') w t59 ∧ stabT (fun K' => nilT a0 w K') w t58 ∧ stabT (fun K' => K' a0 w) w a0 ∧ biT P .append #[T.sl_winnowref16_Trace, T.sl_winnowref16_Trace] T.sl_winnowref16_Trace [false, false] [t56, t64] w fun t65 w =>
  stabT (fun K' => slT P T.sl_winnowref16_Trace (gv x1 1) (some (gv x5 0)) none none w K') w t68 ∧ stabT (fun K' => K' (gv x5 0) w) w (gv x5 0) ∧ stabT (fun K' => K' (gv x1 1) w) w (gv x1 1) ∧ biT P .append #[T.sl_winnowref16_Trace, T.sl_winnowref16_Trace] T.sl_winnowref16_Trace [false, false] [t65, t68] w fun t69 w =>
  K8 [t52, (gv x1 1), (gv x5 0), t55, t56, a0, t58, t59, t60, (gv x1 2), t62, t63, t64, t65, (gv x1 1), (gv x5 0), t68, t69, t69] w)) ∧
  (bsT P T.sl_winnowref16_Trace 1 #[(0, t63)] w fun t64 w =>
  stabT (fun K' => slT P T.sl_winnowref16_Trace (gv x1 1) (some (gv x5 0)) none none w K') w t68 ∧ stabT (fun K' => K' (gv x5 0) w) w (gv x5 0) ∧ stabT (fun K' => K' (gv x1 1) w) w (gv x1 1) ∧ stabT (fun K' => slT P T.sl_winnowref16_Trace (gv x1 1) none (some (gv x5 0)) none w K') w t55 ∧ stabT (fun K' => K' (gv x5 0) w) w (gv x5 0) ∧ stabT (fun K' => K' (gv x1 1) w) w (gv x1 1) ∧ bsT P T.sl_winnowref16_Trace 0 #[] w fun t52 w =>
  stabT (fun K' => slT P T.sl_winnowref16_Trace (gv x1 1) (some (gv x5 0)) none none w K') w t68 ∧ stabT (fun K' => K' (gv x5 0) w) w (gv x5 0) ∧ stabT (fun K' => K' (gv x1 1) w) w (gv x1 1) ∧ stabT (fun K' => ldT P T.winnowref16_Trace t62 w K') w t63 ∧ stabT (fun K' => iaT P T.sl_winnowref16_Trace t60 (gv x1 2) w K') w t62 ∧ stabT (fun K' => K' (gv x1 2) w) w (gv x1 2) ∧ stabT (fun K' => ldT P T.sl_winnowref16_Trace t59 w K') w t60 ∧ stabT (fun K' => faT P T.winnowref16_Buffer t58 3 w K') w t59 ∧ stabT (fun K' => nilT a0 w K') w t58 ∧ stabT (fun K' => K' a0 w) w a0 ∧ stabT (fun K' => slT P T.sl_winnowref16_Trace (gv x1 1) none (some (gv x5 0)) none w K') w t55 ∧ stabT (fun K' => K' (gv x5 0) w) w (gv x5 0) ∧ stabT (fun K' => K' (gv x1 1) w) w (gv x1 1) ∧ biT P .append #[T.sl_winnowref16_Trace, T.sl_winnowref16_Trace] T.sl_winnowref16_Trace [false, false] [t52, t55] w fun t56 w =>
  stabT (fun K' => slT P T.sl_winnowref16_Trace (gv x1 1) (some (gv x5 0)) none none w K') w t68 ∧ stabT (fun K' => K' (gv x5 0) w) w (gv x5 0) ∧ stabT (fun K' => K' (gv x1 1) w) w (gv x1 1) ∧ stabT (fun K' => ldT P T.winnowref16_Trace t62 w K') w t63 ∧ stabT (fun K' => iaT P T.sl_winnowref16_Trace t60 (gv x1 2) w K') w t62 ∧ stabT (fun K' => K' (gv x1 2) w) w (gv x1 2) ∧ stabT (fun K' => ldT P T.sl_winnowref16_Trace t59 w K') w t60 ∧ stabT (fun K' => faT P T.winnowref16_Buffer t58 3 w K') w t59 ∧ stabT (fun K' => nilT a0 w K') w t58 ∧ stabT (fun K' => K' a0 w) w a0 ∧ biT P .append #[T.sl_winnowref16_Trace, T.sl_winnowref16_Trace] T.sl_winnowref16_Trace [false, false] [t56, t64] w fun t65 w =>
  stabT (fun K' => slT P T.sl_winnowref16_Trace (gv x1 1) (some (gv x5 0)) none none w K') w t68 ∧ stabT (fun K' => K' (gv x5 0) w) w (gv x5 0) ∧ stabT (fun K' => K' (gv x1 1) w) w (gv x1 1) ∧ biT P .append #[T.sl_winnowref16_Trace, T.sl_winnowref16_Trace] T.sl_winnowref16_Trace [false, false] [t65, t68] w fun t69 w =>
  K8 [t52, (gv x1 1), (gv x5 0), t55, t56, a0, t58, t59, t60, (gv x1 2), t62, t63, t64, t65, (gv x1 1), (gv x5 0), t68, t69, t69] w)) fun x8 w =>
  K3 [(gv x5 0), (gv x8 18)] w
def M.pwinnowref16_Buffer_Due.j2 (a0 : Value) (x1 : List Value) (a1 : Value) (K1 : KL) (w : World) (K : KV) : Prop :=
  joinT (fun K3 =>
  joinT (fun K4 =>
  nilT a0 w fun t20 w =>
  faT P T.winnowref16_Buffer t20 3 w fun t21 w =>
  ldT P T.sl_winnowref16_Trace t21 w fun t22 w =>
  iaT P T.sl_winnowref16_Trace t22 (gv x1 2) w fun t24 w =>
  faT P T.winnowref16_Trace t24 1 w fun t25 w =>
  ldT P T.uint64 t25 w fun t26 w =>
  binT P .gtr T.uint64 (.tmp 26) (.tmp 27) t26 a1 w fun t28 w =>
  condT t28 (
  K3 [(gv x1 0), (gv x1 1)] w) (
  K4 [] w)) fun x4 w =>
  biT P .len #[T.sl_winnowref16_Trace] T.int [false] [(gv x1 1)] w fun t30 w =>
  joinT (fun K5 =>
  loopT [t30] w fun K6 x6 w =>
  M.pwinnowref16_Buffer_Due.j6 x6 x1 a0 K5 K6 w K) fun x5 w =>
  M.pwinnowref16_Buffer_Due.j5 x1 x5 a0 K3 w K) fun x3 w =>
  binT P .add T.int (.tmp 17) (.const (.int .i64 1)) (gv x1 2) (.int .i64 1) w fun t18 w =>
  K1 [(gv x3 0), (gv x3 1), t18] w
def M.pwinnowref16_Buffer_Due.j1 (a0 : Value) (x1 : List Value) (K0 : KL) (a1 : Value) (K1 : KL) (w : World) (K : KV) : Prop :=
  joinT (fun K2 =>
  nilT a0 w fun t12 w =>
  faT P T.winnowref16_Buffer t12 3 w fun t13 w =>
  ldT P T.sl_winnowref16_Trace t13 w fun t14 w =>
  biT P .len #[T.sl_winnowref16_Trace] T.int [false] [t14] w fun t15 w =>
  binT P .lss T.int (.tmp 10) (.tmp 15) (gv x1 2) t15 w fun t16 w =>
  condT t16 (
  K2 [] w) (
  K0 [(gv x1 2), (gv x1 0), (gv x1 1)] w)) fun x2 w =>
  M.pwinnowref16_Buffer_Due.j2 a0 x1 a1 K1 w K
def M.pwinnowref16_Buffer_Due.j11 (x0 : List Value) (x10 : List Value) (K10 : KL) (w : World) (K : KV) : Prop :=
  joinT (fun K12 =>
  iaT P T.sl_winnowref16_Trace (gv x0 2) (gv x10 1) w fun t79 w =>
  faT P T.winnowref16_Trace t79 0 w fun t80 w =>
  ldT P T.uint64 t80 w fun t81 w =>
  bsT P T.sl_uint64 1 #[(0, t81)] w fun t82 w =>
  biT P .append #[T.sl_uint64, T.sl_uint64] T.sl_uint64 [false, false] [(gv x10 0), t82] w fun t83 w =>
  K12 [t83] w) fun x12 w =>
  binT P .add T.int (.tmp 74) (.const (.int .i64 1)) (gv x10 1) (.int .i64 1) w fun t75 w =>
  K10 [(gv x12 0), t75] w
def M.pwinnowref16_Buffer_Due.j10 (x0 : List Value) (x10 : List Value) (K9 : KL) (K10 : KL) (w : World) (K : KV) : Prop :=
  joinT (fun K11 =>
  biT P .len #[T.sl_winnowref16_Trace] T.int [false] [(gv x0 2)] w fun t72 w =>
  binT P .lss T.int (.tmp 70) (.tmp 72) (gv x10 1) t72 w fun t73 w =>
  condT t73 (
  K11 [] w) (
  K9 [(gv x10 1), (gv x10 0)] w)) fun x11 w =>
  M.pwinnowref16_Buffer_Due.j11 x0 x10 K10 w K
/-- (*winnow/winnowref16.Buffer).Due -/
def M.pwinnowref16_Buffer_Due (a0 a1 : Value) (w : World) (K : KV) : Prop :=
  joinT (fun K0 =>
  loopT [undef, (.slice none 0 0), (.int .i64 0)] w fun K1 x1 w =>
  M.pwinnowref16_Buffer_Due.j1 a0 x1 K0 a1 K1 w K) fun x0 w =>
  joinT (fun K9 =>
  loopT [(.slice none 0 0), (.int .i64 0)] w fun K10 x10 w =>
  M.pwinnowref16_Buffer_Due.j10 x0 x10 K9 K10 w K) fun x9 w =>
  K (gv x9 1) w
def M.pwinnowref16_Buffer_Due.L : List Nat := [0, 1, 4, 5, 6, 7, 8, 9]
def M.pwinnowref16_Buffer_Due.pl : Nat → Plan := fun id => cond (Nat.beq id 7) ⟨(.go 0 (.go 1 (.go 2 (.go 3 (.go 4 (.go 5 (.go 6 (.go 7 (.go 8 (.go 9 (.go 10 (.go 11 (.go 12 (.go 13 (.go 14 (.go 15 (.go 16 (.go 17 (.go 18 .nil))))))))))))))))))), [], false⟩ (cond (Nat.beq id 9) ⟨(.go 1 (.go 2 (.go 3 (.go 5 (.go 6 (.go 7 (.go 8 (.go 9 (.go 10 (.go 11 (.go 14 (.go 15 (.go 16 (.eff 0 (.eff 4 (.eff 12 (.eff 13 (.eff 17 (.eff 18 .nil .stop) .stop) .stop) .stop) (.eff 12 (.eff 4 (.eff 13 (.eff 17 (.eff 18 .nil .stop) .stop) .stop) .stop) .stop)) (.eff 12 (.eff 0 (.eff 4 (.eff 13 (.eff 17 (.eff 18 .nil .stop) .stop) .stop) .stop) .stop) .stop))))))))))))))), [0, 4, 12, 13, 17, 18], true⟩ (⟨.nil, [], false⟩))
theorem M.pwinnowref16_Buffer_Due.eq (a0 a1 : Value) (w : World) (K : KV) : M.pwinnowref16_Buffer_Due a0 a1 w K = den P M.pwinnowref16_Buffer_Due.L M.pwinnowref16_Buffer_Due.pl (Try.f83.body.getD .skip) (argE [a0, a1]) w (bodyQ P Try.f83.results.toList K) := by kernel_rfl
theorem M.pwinnowref16_Buffer_Due.ok : okFn M.pwinnowref16_Buffer_Due.L M.pwinnowref16_Buffer_Due.pl Try.f83 (Try.f83.body.getD .skip) 2 = true := by kernel_rfl
theorem M.pwinnowref16_Buffer_Due.calls (a0 a1 : Value) {w : World} {K : KV} (h : M.pwinnowref16_Buffer_Due a0 a1 w K) : callT P F.pwinnowref16_Buffer_Due [a0, a1] w K :=
  callT_of_den (by kernel_rfl) Try.func83 (by kernel_rfl) M.pwinnowref16_Buffer_Due.ok (M.pwinnowref16_Buffer_Due.eq a0 a1 w K ▸ h)
theorem M.pwinnowref16_Buffer_Due.fcall (args : List Value) (w : World) (K : KV) : fcallT P F.pwinnowref16_Buffer_Due args w K = callT P F.pwinnowref16_Buffer_Due args w K := fcallT_eq Try.func83 (by kernel_rfl) (by kernel_rfl) args w K

/-- winnow/view.Newer -/
def M.view_Newer (a0 a1 : Value) (w : World) (K : KV) : Prop :=
  boxT P T.api_Member a0 w fun t2 w =>
  boxT P T.api_Member a1 w fun t3 w =>
  drawT w fun w =>
  quietT (fun K' => faT P T.api_Member t2 1 w K') w fun t5 =>
  quietT (fun K' => ldT P T.uint64 t5 w K') w fun t6 =>
  quietT (fun K' => faT P T.api_Member t3 1 w K') w fun t7 =>
  quietT (fun K' => ldT P T.uint64 t7 w K') w fun t8 =>
  quietT (fun K' => faT P T.api_Member t2 2 w K') w fun t10 =>
  quietT (fun K' => ldT P T.int t10 w K') w fun t11 =>
  quietT (fun K' => faT P T.api_Member t3 2 w K') w fun t12 =>
  quietT (fun K' => ldT P T.int t12 w K') w fun t13 =>
  fcallT P F.cmp_Compare_uint64 [t6, t8] w fun t9 w =>
  stabT (fun K' => ldT P T.int t12 w K') w t13 ∧ stabT (fun K' => faT P T.api_Member t3 2 w K') w t12 ∧ stabT (fun K' => ldT P T.int t10 w K') w t11 ∧ stabT (fun K' => faT P T.api_Member t2 2 w K') w t10 ∧ fcallT P F.cmp_Compare_int [t11, t13] w fun t14 w =>
  bsT P T.sl_int 2 #[(0, t9), (1, t14)] w fun t15 w =>
  fcallT P F.cmp_Or_int [t15] w fun t16 w =>
  quietT (fun K' => binT P .gtr T.int (.tmp 16) (.const (.int .i64 0)) t16 (.int .i64 0) w K') w fun t17 =>
  K t17 w
def M.view_Newer.L : List Nat := [0, 1, 4]
def M.view_Newer.pl : Nat → Plan := fun id => cond (Nat.beq id 1) ⟨(.go 0 (.go 1 (.go 2 (.go 3 (.go 5 (.go 6 (.go 7 (.go 8 (.eff 4 (.eff 9 (.eff 10 (.eff 11 (.go 12 (.eff 13 .nil .stop)) .stop) .stop) .stop) .stop))))))))), [4, 9, 10, 11, 13], false⟩ (⟨.nil, [], false⟩)
theorem M.view_Newer.eq (a0 a1 : Value) (w : World) (K : KV) : M.view_Newer a0 a1 w K = den P M.view_Newer.L M.view_Newer.pl (Try.f84.body.getD .skip) (argE [a0, a1]) w (bodyQ P Try.f84.results.toList K) := by kernel_rfl
theorem M.view_Newer.ok : okFn M.view_Newer.L M.view_Newer.pl Try.f84 (Try.f84.body.getD .skip) 2 = true := by kernel_rfl
theorem M.view_Newer.calls (a0 a1 : Value) {w : World} {K : KV} (h : M.view_Newer a0 a1 w K) : callT P F.view_Newer [a0, a1] w K :=
  callT_of_den (by kernel_rfl) Try.func84 (by kernel_rfl) M.view_Newer.ok (M.view_Newer.eq a0 a1 w K ▸ h)
theorem M.view_Newer.fcall (args : List Value) (w : World) (K : KV) : fcallT P F.view_Newer args w K = callT P F.view_Newer args w K := fcallT_eq Try.func84 (by kernel_rfl) (by kernel_rfl) args w K

def M.cmp_Or_api_Kind.j2 (a0 : Value) (x1 : List Value) (K1 : KL) (w : World) (K : KV) : Prop :=
  joinT (fun K3 =>
  iaT P T.sl_api_Kind a0 (gv x1 2) w fun t10 w =>
  ldT P T.api_Kind t10 w fun t11 w =>
  binT P .neq T.api_Kind (.tmp 12) (.tmp 13) t11 (.int .i64 0) w fun t14 w =>
  condT t14 (
  K t11 w) (
  K3 [t11, (gv x1 1)] w)) fun x3 w =>
  binT P .add T.int (.tmp 8) (.const (.int .i64 1)) (gv x1 2) (.int .i64 1) w fun t16 w =>
  K1 [(gv x3 0), (gv x3 1), t16] w
/-- cmp.Or[winnow/api.Kind] -/
def M.cmp_Or_api_Kind (a0 : Value) (w : World) (K : KV) : Prop :=
  joinT (fun K0 =>
  biT P .len #[T.sl_api_Kind] T.int [false] [a0] w fun t7 w =>
  loopT [undef, (.int .i64 0), (.int .i64 0)] w fun K1 x1 w =>
  binT P .lss T.int (.tmp 8) (.tmp 7) (gv x1 2) t7 w fun t9 w =>
  joinT (fun K2 =>
  condT t9 (
  K2 [] w) (
  K0 [a0, t7, (gv x1 2), (gv x1 0), (gv x1 1)] w)) fun x2 w =>
  M.cmp_Or_api_Kind.j2 a0 x1 K1 w K) fun x0 w =>
  K (.int .i64 0) w
def M.cmp_Or_api_Kind.L : List Nat := [0, 2, 3, 5, 8, 7, 6]
def M.cmp_Or_api_Kind.pl : Nat → Plan := fun id => ⟨.nil, [], false⟩
theorem M.cmp_Or_api_Kind.eq (a0 : Value) (w : World) (K : KV) : M.cmp_Or_api_Kind a0 w K = den P M.cmp_Or_api_Kind.L M.cmp_Or_api_Kind.pl (Try.f85.body.getD .skip) (argE [a0]) w (bodyQ P Try.f85.results.toList K) := by kernel_rfl
theorem M.cmp_Or_api_Kind.ok : okFn M.cmp_Or_api_Kind.L M.cmp_Or_api_Kind.pl Try.f85 (Try.f85.body.getD .skip) 1 = true := by kernel_rfl
theorem M.cmp_Or_api_Kind.calls (a0 : Value) {w : World} {K : KV} (h : M.cmp_Or_api_Kind a0 w K) : callT P F.cmp_Or_api_Kind [a0] w K :=
  callT_of_den (by kernel_rfl) Try.func85 (by kernel_rfl) M.cmp_Or_api_Kind.ok (M.cmp_Or_api_Kind.eq a0 w K ▸ h)
theorem M.cmp_Or_api_Kind.fcall (args : List Value) (w : World) (K : KV) : fcallT P F.cmp_Or_api_Kind args w K = callT P F.cmp_Or_api_Kind args w K := fcallT_eq Try.func85 (by kernel_rfl) (by kernel_rfl) args w K

end Go.Proofs.Ytgcpljghnlohbaa
