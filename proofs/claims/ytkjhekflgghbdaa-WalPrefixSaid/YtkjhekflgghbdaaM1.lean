/-
  Printed by wip/Shallow.lean: functions of the program, read shallow; each is what its code does. No condition.
-/
import Derived.Test.YtkjhekflgghbdaaN
set_option maxRecDepth 1000000
namespace Go.Proofs.Ytkjhekflgghbdaa
open Go.Eng

def M.wal_order.j2 (a0 : Value) (x1 : List Value) (K1 : KL) (w : World) (K : KV) : Prop :=
  joinT (fun K3 =>
  iaT P T.sl_int a0 (gv x1 3) w fun t10 w =>
  ldT P T.int t10 w fun t11 w =>
  binT P .add T.int (.tmp 13) (.const (.int .i64 64)) t11 (.int .i64 64) w fun t14 w =>
  binT P .sub T.int (.tmp 14) (.const (.int .i64 1)) t14 (.int .i64 1) w fun t15 w =>
  binT P .rem T.int (.tmp 15) (.const (.int .i64 64)) t15 (.int .i64 64) w fun t16 w =>
  fcallT P F.slices_Contains_int_int [a0, t16] w fun t17 w =>
  unT P .not t17 w fun t18 w =>
  guardT (isB t18 true) (fun K' => K' (gv x1 3) w) w fun t20 w =>
  guardT (isB t18 true) (fun K' => binT P .gtr T.int (.tmp 20) (.const (.int .i64 0)) t20 (.int .i64 0) w K') w fun t21 w =>
  pickT t18 t21 (.bool false) w fun t22 w =>
  condT t22 (
  drawT w fun w =>
  w = w ∧ w = w ∧ quietT (fun K' => slT P T.sl_int a0 (some (gv x1 3)) none none w K') w fun t25 =>
  w = w ∧ w = w ∧ quietT (fun K' => slT P T.sl_int a0 none (some (gv x1 3)) none w K') w fun t28 =>
  bsT P T.sl_sl_int 2 #[(0, t25), (1, t28)] w fun t29 w =>
  fcallT P F.slices_Concat_int_int [t29] w fun t30 w =>
  K t30 w) (
  K3 [(gv x1 3), t11, (gv x1 2)] w)) fun x3 w =>
  binT P .add T.int (.tmp 7) (.const (.int .i64 1)) (gv x1 3) (.int .i64 1) w fun t31 w =>
  K1 [(gv x3 0), (gv x3 1), (gv x3 2), t31] w
/-- winnow/wal.order -/
def M.wal_order (a0 : Value) (w : World) (K : KV) : Prop :=
  joinT (fun K0 =>
  biT P .len #[T.sl_int] T.int [false] [a0] w fun t6 w =>
  loopT [undef, undef, (.slice none 0 0), (.int .i64 0)] w fun K1 x1 w =>
  binT P .lss T.int (.tmp 7) (.tmp 6) (gv x1 3) t6 w fun t8 w =>
  joinT (fun K2 =>
  condT t8 (
  K2 [] w) (
  K0 [a0, t6, (gv x1 3), (gv x1 0), (gv x1 1), (gv x1 2)] w)) fun x2 w =>
  M.wal_order.j2 a0 x1 K1 w K) fun x0 w =>
  K a0 w
def M.wal_order.L : List Nat := [0, 2, 3, 4, 7, 6, 5]
def M.wal_order.pl : Nat → Plan := fun id => cond (Nat.beq id 5) ⟨(.go 0 (.go 1 (.go 2 (.go 3 (.go 4 (.go 5 (.eff 6 (.eff 7 (.eff 8 .nil .stop) .stop) .stop))))))), [6, 7, 8], false, [0, 0, 3, 0, 0, 24, 63, 127, 255]⟩ (⟨.nil, [], false, []⟩)
theorem M.wal_order.eq (a0 : Value) (w : World) (K : KV) : M.wal_order a0 w K = den P M.wal_order.L M.wal_order.pl (Try.f79.body.getD .skip) (argE [a0]) w (bodyQ P Try.f79.results.toList K) := by kernel_rfl
theorem M.wal_order.ok : okFn M.wal_order.L M.wal_order.pl Try.f79 (Try.f79.body.getD .skip) 1 = true := by kernel_rfl
theorem M.wal_order.calls (a0 : Value) {w : World} {K : KV} (h : M.wal_order a0 w K) : callT P F.wal_order [a0] w K :=
  callT_of_den (by kernel_rfl) Try.func79 (by kernel_rfl) M.wal_order.ok (M.wal_order.eq a0 w K ▸ h)
theorem M.wal_order.fcall (args : List Value) (w : World) (K : KV) : fcallT P F.wal_order args w K = callT P F.wal_order args w K := fcallT_eq Try.func79 (by kernel_rfl) (by kernel_rfl) args w K
theorem M.wal_order.rcall (a c args : List Value) (w : World) (K : KV) : callRT P (.func (.func F.wal_order) a.toArray c.toArray) args w K = callT P F.wal_order (a ++ args ++ c) w K := callR_fn Try.func79 (by kernel_rfl) (by kernel_rfl) a c args w K

/-- (*winnow/disk.Disk).Files -/
def M.pdisk_Disk_Files (a0 : Value) (w : World) (K : KV) : Prop :=
  joinT (fun K0 =>
  binT P .eql T.p_disk_Disk (.tmp 3) (.const (.pointer none)) a0 (.pointer none) w fun t4 w =>
  condT t4 (
  K (.slice none 0 0) w) (
  K0 [(.slice none 0 0)] w)) fun x0 w =>
  nilT a0 w fun t6 w =>
  faT P T.disk_Disk t6 1 w fun t7 w =>
  ldT P T.map_int_p_disk_file t7 w fun t8 w =>
  fcallT P F.maps_Keys_map_int_disk_file_int_disk_file [t8] w fun t9 w =>
  fcallT P F.slices_Sorted_int [t9] w fun t10 w =>
  K t10 w
def M.pdisk_Disk_Files.L : List Nat := [0, 2]
def M.pdisk_Disk_Files.pl : Nat → Plan := fun id => ⟨.nil, [], false, []⟩
theorem M.pdisk_Disk_Files.eq (a0 : Value) (w : World) (K : KV) : M.pdisk_Disk_Files a0 w K = den P M.pdisk_Disk_Files.L M.pdisk_Disk_Files.pl (Try.f80.body.getD .skip) (argE [a0]) w (bodyQ P Try.f80.results.toList K) := by kernel_rfl
theorem M.pdisk_Disk_Files.ok : okFn M.pdisk_Disk_Files.L M.pdisk_Disk_Files.pl Try.f80 (Try.f80.body.getD .skip) 1 = true := by kernel_rfl
theorem M.pdisk_Disk_Files.calls (a0 : Value) {w : World} {K : KV} (h : M.pdisk_Disk_Files a0 w K) : callT P F.pdisk_Disk_Files [a0] w K :=
  callT_of_den (by kernel_rfl) Try.func80 (by kernel_rfl) M.pdisk_Disk_Files.ok (M.pdisk_Disk_Files.eq a0 w K ▸ h)
theorem M.pdisk_Disk_Files.fcall (args : List Value) (w : World) (K : KV) : fcallT P F.pdisk_Disk_Files args w K = callT P F.pdisk_Disk_Files args w K := fcallT_eq Try.func80 (by kernel_rfl) (by kernel_rfl) args w K
theorem M.pdisk_Disk_Files.rcall (a c args : List Value) (w : World) (K : KV) : callRT P (.func (.func F.pdisk_Disk_Files) a.toArray c.toArray) args w K = callT P F.pdisk_Disk_Files (a ++ args ++ c) w K := callR_fn Try.func80 (by kernel_rfl) (by kernel_rfl) a c args w K

def M.pwal_Log_load.j1 (t29 : Value) (t30 : Value) (a1 : Value) (w : World) (K : KV) : Prop :=
  drawT w fun w =>
  w = w ∧ w = w ∧ quietT (fun K' => iaT P T.sl_sl_uint8 t29 (.int .i64 0) w K') w fun t82 =>
  quietT (fun K' => ldT P T.sl_uint8 t82 w K') w fun t83 =>
  w = w ∧ quietT (fun K' => slT P T.sl_sl_uint8 t29 (some (.int .i64 1)) none none w K') w fun t87 =>
  w = w ∧ fcallT P F.num_U64 [t83] w fun t84 w =>
  stabT (fun K' => K' t30 w) w t30 ∧ stabT (fun K' => slT P T.sl_sl_uint8 t29 (some (.int .i64 1)) none none w K') w t87 ∧ stabT (fun K' => K' t29 w) w t29 ∧ stabT (fun K' => K' a1 w) w a1 ∧ quietT (fun K' => cvT P T.uint64 T.int t84 w K') w fun t85 =>
  quietT (fun K' => bldT P T.wal_part #[(0, a1), (1, t85), (2, t87), (3, t30)] w K') w fun t89 =>
  boxT P T.wal_part t89 w fun t90 w =>
  K (.tuple #[t90, (.int .i64 0)]) w
def M.pwal_Log_load.j0 (t21 : Value) (a2 : Value) (a0 : Value) (a1 : Value) (x0 : List Value) (w : World) (K : KV) : Prop :=
  fcallT P F.frame_All [t21] w fun t28 w =>
  exT P t28 0 w fun t29 w =>
  exT P t28 1 w fun t30 w =>
  exT P t28 2 w fun t31 w =>
  joinT (fun K1 =>
  unT P .not a2 w fun t34 w =>
  guardT (isB t34 true) (fun K' => K' t30 w) w fun t36 w =>
  guardT (isB t34 true) (fun K' => K' t21 w) w fun t37 w =>
  guardT (isB t34 true) (fun K' => biT P .len #[T.sl_uint8] T.int [false] [t37] w K') w fun t38 w =>
  guardT (isB t34 true) (fun K' => binT P .lss T.int (.tmp 36) (.tmp 38) t36 t38 w K') w fun t39 w =>
  pickT t34 t39 (.bool false) w fun t40 w =>
  condT t40 (
  K (.tuple #[(.pointer none), (.int .i64 6)]) w) (
  biT P .len #[T.sl_sl_uint8] T.int [false] [t29] w fun t43 w =>
  binT P .eql T.int (.tmp 43) (.const (.int .i64 0)) t43 (.int .i64 0) w fun t44 w =>
  guardT (isB t44 true) (fun K' => K' a2 w) w fun t46 w =>
  pickT t44 t46 (.bool false) w fun t47 w =>
  condT t47 (
  nilT a0 w fun t49 w =>
  faT P T.wal_Log t49 0 w fun t50 w =>
  ldT P T.p_disk_Disk t50 w fun t51 w =>
  fcallT P F.pdisk_Disk_Remove [t51, a1] w fun t53 w =>
  K (.tuple #[(.pointer none), t53]) w) (
  biT P .len #[T.sl_sl_uint8] T.int [false] [t29] w fun t56 w =>
  binT P .eql T.int (.tmp 56) (.const (.int .i64 0)) t56 (.int .i64 0) w fun t57 w =>
  guardT (isB t57 false) (fun K' => K' t29 w) w fun t59 w =>
  guardT (isB t57 false) (fun K' => iaT P T.sl_sl_uint8 t59 (.int .i64 0) w K') w fun t60 w =>
  guardT (isB t57 false) (fun K' => ldT P T.sl_uint8 t60 w K') w fun t61 w =>
  guardT (isB t57 false) (fun K' => biT P .len #[T.sl_uint8] T.int [false] [t61] w K') w fun t62 w =>
  guardT (isB t57 false) (fun K' => binT P .neq T.int (.tmp 62) (.const (.int .i64 8)) t62 (.int .i64 8) w K') w fun t63 w =>
  pickT t57 (.bool true) t63 w fun t64 w =>
  condT t64 (
  K (.tuple #[(.pointer none), (.int .i64 6)]) w) (
  biT P .len #[T.sl_uint8] T.int [false] [t21] w fun t68 w =>
  binT P .lss T.int (.tmp 66) (.tmp 68) t30 t68 w fun t69 w =>
  condT t69 (
  nilT a0 w fun t71 w =>
  faT P T.wal_Log t71 0 w fun t72 w =>
  ldT P T.p_disk_Disk t72 w fun t73 w =>
  fcallT P F.pdisk_Disk_Cut [t73, a1, t30] w fun t76 w =>
  binT P .neq T.api_Kind (.tmp 77) (.const (.int .i64 0)) t76 (.int .i64 0) w fun t78 w =>
  condT t78 (
  K (.tuple #[(.pointer none), t76]) w) (
  K1 [t40, (gv x0 0), (gv x0 1), t47, t64, t69, t76] w)) (
  K1 [t40, (gv x0 0), (gv x0 1), t47, t64, t69, undef] w))))) fun x1 w =>
  M.pwal_Log_load.j1 t29 t30 a1 w K
/-- (*winnow/wal.Log).load -/
def M.pwal_Log_load (a0 a1 a2 : Value) (w : World) (K : KV) : Prop :=
  nilT a0 w fun t16 w =>
  faT P T.wal_Log t16 0 w fun t17 w =>
  ldT P T.p_disk_Disk t17 w fun t18 w =>
  fcallT P F.pdisk_Disk_Read [t18, a1] w fun t20 w =>
  exT P t20 0 w fun t21 w =>
  exT P t20 1 w fun t22 w =>
  joinT (fun K0 =>
  binT P .neq T.api_Kind (.tmp 23) (.const (.int .i64 0)) t22 (.int .i64 0) w fun t24 w =>
  condT t24 (
  K (.tuple #[(.pointer none), t22]) w) (
  K0 [(.pointer none), (.int .i64 0)] w)) fun x0 w =>
  M.pwal_Log_load.j0 t21 a2 a0 a1 x0 w K
def M.pwal_Log_load.L : List Nat := [0, 1, 2, 6, 7, 8, 9, 10, 11, 12, 32, 41, 54, 65, 13]
def M.pwal_Log_load.pl : Nat → Plan := fun id => cond (Nat.beq id 15) ⟨(.go 0 (.go 1 (.go 2 (.go 3 (.go 6 (.go 7 (.go 8 (.eff 4 (.go 5 (.go 9 (.eff 10 (.eff 11 (.eff 12 .nil .stop) .stop) .stop))) .stop)))))))), [4, 10, 11, 12], false, [0, 0, 2, 6, 14, 30, 0, 64, 0, 511, 1023, 2047, 4095]⟩ (⟨.nil, [], false, []⟩)
theorem M.pwal_Log_load.eq (a0 a1 a2 : Value) (w : World) (K : KV) : M.pwal_Log_load a0 a1 a2 w K = den P M.pwal_Log_load.L M.pwal_Log_load.pl (Try.f81.body.getD .skip) (argE [a0, a1, a2]) w (bodyQ P Try.f81.results.toList K) := by kernel_rfl
theorem M.pwal_Log_load.ok : okFn M.pwal_Log_load.L M.pwal_Log_load.pl Try.f81 (Try.f81.body.getD .skip) 3 = true := by kernel_rfl
theorem M.pwal_Log_load.calls (a0 a1 a2 : Value) {w : World} {K : KV} (h : M.pwal_Log_load a0 a1 a2 w K) : callT P F.pwal_Log_load [a0, a1, a2] w K :=
  callT_of_den (by kernel_rfl) Try.func81 (by kernel_rfl) M.pwal_Log_load.ok (M.pwal_Log_load.eq a0 a1 a2 w K ▸ h)
theorem M.pwal_Log_load.fcall (args : List Value) (w : World) (K : KV) : fcallT P F.pwal_Log_load args w K = callT P F.pwal_Log_load args w K := fcallT_eq Try.func81 (by kernel_rfl) (by kernel_rfl) args w K
theorem M.pwal_Log_load.rcall (a c args : List Value) (w : World) (K : KV) : callRT P (.func (.func F.pwal_Log_load) a.toArray c.toArray) args w K = callT P F.pwal_Log_load (a ++ args ++ c) w K := callR_fn Try.func81 (by kernel_rfl) (by kernel_rfl) a c args w K

def M.pwal_Log_next.j0 (t5 : Value) (w : World) (K : KV) : Prop :=
  drawT w fun w =>
  w = w ∧ quietT (fun K' => nilT t5 w K') w fun t9 =>
  quietT (fun K' => faT P T.wal_part t9 1 w K') w fun t10 =>
  quietT (fun K' => ldT P T.int t10 w K') w fun t11 =>
  w = w ∧ quietT (fun K' => nilT t5 w K') w fun t13 =>
  quietT (fun K' => faT P T.wal_part t13 2 w K') w fun t14 =>
  quietT (fun K' => ldT P T.sl_sl_uint8 t14 w K') w fun t15 =>
  quietT (fun K' => biT P .len #[T.sl_sl_uint8] T.int [false] [t15] w K') w fun t16 =>
  quietT (fun K' => binT P .add T.int (.tmp 11) (.tmp 16) t11 t16 w K') w fun t17 =>
  K t17 w
/-- (*winnow/wal.Log).next -/
def M.pwal_Log_next (a0 : Value) (w : World) (K : KV) : Prop :=
  fcallT P F.pwal_Log_last [a0] w fun t5 w =>
  joinT (fun K0 =>
  binT P .eql T.p_wal_part (.tmp 6) (.const (.pointer none)) t5 (.pointer none) w fun t7 w =>
  condT t7 (
  K (.int .i64 0) w) (
  K0 [(.int .i64 0)] w)) fun x0 w =>
  M.pwal_Log_next.j0 t5 w K
def M.pwal_Log_next.L : List Nat := [0, 2, 3]
def M.pwal_Log_next.pl : Nat → Plan := fun id => cond (Nat.beq id 4) ⟨(.go 0 (.go 1 (.go 2 (.go 3 (.go 4 (.go 5 (.go 6 (.go 7 (.go 8 (.go 9 (.eff 10 .nil .stop))))))))))), [10], false, [0, 1, 3, 7, 0, 16, 48, 112, 240, 511, 1023]⟩ (⟨.nil, [], false, []⟩)
theorem M.pwal_Log_next.eq (a0 : Value) (w : World) (K : KV) : M.pwal_Log_next a0 w K = den P M.pwal_Log_next.L M.pwal_Log_next.pl (Try.f82.body.getD .skip) (argE [a0]) w (bodyQ P Try.f82.results.toList K) := by kernel_rfl
theorem M.pwal_Log_next.ok : okFn M.pwal_Log_next.L M.pwal_Log_next.pl Try.f82 (Try.f82.body.getD .skip) 1 = true := by kernel_rfl
theorem M.pwal_Log_next.calls (a0 : Value) {w : World} {K : KV} (h : M.pwal_Log_next a0 w K) : callT P F.pwal_Log_next [a0] w K :=
  callT_of_den (by kernel_rfl) Try.func82 (by kernel_rfl) M.pwal_Log_next.ok (M.pwal_Log_next.eq a0 w K ▸ h)
theorem M.pwal_Log_next.fcall (args : List Value) (w : World) (K : KV) : fcallT P F.pwal_Log_next args w K = callT P F.pwal_Log_next args w K := fcallT_eq Try.func82 (by kernel_rfl) (by kernel_rfl) args w K
theorem M.pwal_Log_next.rcall (a c args : List Value) (w : World) (K : KV) : callRT P (.func (.func F.pwal_Log_next) a.toArray c.toArray) args w K = callT P F.pwal_Log_next (a ++ args ++ c) w K := callR_fn Try.func82 (by kernel_rfl) (by kernel_rfl) a c args w K

def M.frame_Put.j0 (a1 : Value) (a0 : Value) (w : World) (K : KV) : Prop :=
  biT P .len #[T.sl_uint8] T.int [false] [a1] w fun t11 w =>
  cvT P T.int T.uint32 t11 w fun t12 w =>
  fcallT P F.num_Put32 [(.slice none 0 0), t12] w fun t13 w =>
  biT P .append #[T.sl_uint8, T.sl_uint8] T.sl_uint8 [false, false] [t13, a1] w fun t16 w =>
  fcallT P F.crc_Sum [t16] w fun t19 w =>
  fcallT P F.num_Put32 [t16, t19] w fun t20 w =>
  bsT P T.sl_sl_uint8 2 #[(0, a0), (1, t20)] w fun t23 w =>
  fcallT P F.slices_Concat_byte_byte [t23] w fun t24 w =>
  K (.tuple #[t24, (.int .i64 0)]) w
/-- winnow/frame.Put -/
def M.frame_Put (a0 a1 : Value) (w : World) (K : KV) : Prop :=
  joinT (fun K0 =>
  biT P .len #[T.sl_uint8] T.int [false] [a1] w fun t8 w =>
  binT P .gtr T.int (.tmp 8) (.const (.int .i64 8192)) t8 (.int .i64 8192) w fun t9 w =>
  condT t9 (
  K (.tuple #[(.slice none 0 0), (.int .i64 4)]) w) (
  K0 [(.slice none 0 0), (.int .i64 0)] w)) fun x0 w =>
  M.frame_Put.j0 a1 a0 w K
def M.frame_Put.L : List Nat := [0, 1, 4, 5, 6]
def M.frame_Put.pl : Nat → Plan := fun id => ⟨.nil, [], false, []⟩
theorem M.frame_Put.eq (a0 a1 : Value) (w : World) (K : KV) : M.frame_Put a0 a1 w K = den P M.frame_Put.L M.frame_Put.pl (Try.f83.body.getD .skip) (argE [a0, a1]) w (bodyQ P Try.f83.results.toList K) := by kernel_rfl
theorem M.frame_Put.ok : okFn M.frame_Put.L M.frame_Put.pl Try.f83 (Try.f83.body.getD .skip) 2 = true := by kernel_rfl
theorem M.frame_Put.calls (a0 a1 : Value) {w : World} {K : KV} (h : M.frame_Put a0 a1 w K) : callT P F.frame_Put [a0, a1] w K :=
  callT_of_den (by kernel_rfl) Try.func83 (by kernel_rfl) M.frame_Put.ok (M.frame_Put.eq a0 a1 w K ▸ h)
theorem M.frame_Put.fcall (args : List Value) (w : World) (K : KV) : fcallT P F.frame_Put args w K = callT P F.frame_Put args w K := fcallT_eq Try.func83 (by kernel_rfl) (by kernel_rfl) args w K
theorem M.frame_Put.rcall (a c args : List Value) (w : World) (K : KV) : callRT P (.func (.func F.frame_Put) a.toArray c.toArray) args w K = callT P F.frame_Put (a ++ args ++ c) w K := callR_fn Try.func83 (by kernel_rfl) (by kernel_rfl) a c args w K

def M.pwal_Log_last.j0 (a0 : Value) (w : World) (K : KV) : Prop :=
  drawT w fun w =>
  w = w ∧ quietT (fun K' => nilT a0 w K') w fun t10 =>
  quietT (fun K' => faT P T.wal_Log t10 2 w K') w fun t11 =>
  quietT (fun K' => ldT P T.sl_p_wal_part t11 w K') w fun t12 =>
  w = w ∧ quietT (fun K' => nilT a0 w K') w fun t14 =>
  quietT (fun K' => faT P T.wal_Log t14 2 w K') w fun t15 =>
  quietT (fun K' => ldT P T.sl_p_wal_part t15 w K') w fun t16 =>
  quietT (fun K' => biT P .len #[T.sl_p_wal_part] T.int [false] [t16] w K') w fun t17 =>
  quietT (fun K' => binT P .sub T.int (.tmp 17) (.const (.int .i64 1)) t17 (.int .i64 1) w K') w fun t18 =>
  quietT (fun K' => iaT P T.sl_p_wal_part t12 t18 w K') w fun t19 =>
  quietT (fun K' => ldT P T.p_wal_part t19 w K') w fun t20 =>
  K t20 w
/-- (*winnow/wal.Log).last -/
def M.pwal_Log_last (a0 : Value) (w : World) (K : KV) : Prop :=
  joinT (fun K0 =>
  nilT a0 w fun t4 w =>
  faT P T.wal_Log t4 2 w fun t5 w =>
  ldT P T.sl_p_wal_part t5 w fun t6 w =>
  biT P .len #[T.sl_p_wal_part] T.int [false] [t6] w fun t7 w =>
  binT P .eql T.int (.tmp 7) (.const (.int .i64 0)) t7 (.int .i64 0) w fun t8 w =>
  condT t8 (
  K (.pointer none) w) (
  K0 [(.pointer none)] w)) fun x0 w =>
  M.pwal_Log_last.j0 a0 w K
def M.pwal_Log_last.L : List Nat := [0, 2]
def M.pwal_Log_last.pl : Nat → Plan := fun id => cond (Nat.beq id 3) ⟨(.go 0 (.go 1 (.go 2 (.go 3 (.go 4 (.go 5 (.go 6 (.go 7 (.go 8 (.go 9 (.go 10 (.go 11 (.eff 12 .nil .stop))))))))))))), [12], false, [0, 1, 3, 7, 0, 16, 48, 112, 240, 496, 1023, 2047, 4095]⟩ (⟨.nil, [], false, []⟩)
theorem M.pwal_Log_last.eq (a0 : Value) (w : World) (K : KV) : M.pwal_Log_last a0 w K = den P M.pwal_Log_last.L M.pwal_Log_last.pl (Try.f84.body.getD .skip) (argE [a0]) w (bodyQ P Try.f84.results.toList K) := by kernel_rfl
theorem M.pwal_Log_last.ok : okFn M.pwal_Log_last.L M.pwal_Log_last.pl Try.f84 (Try.f84.body.getD .skip) 1 = true := by kernel_rfl
theorem M.pwal_Log_last.calls (a0 : Value) {w : World} {K : KV} (h : M.pwal_Log_last a0 w K) : callT P F.pwal_Log_last [a0] w K :=
  callT_of_den (by kernel_rfl) Try.func84 (by kernel_rfl) M.pwal_Log_last.ok (M.pwal_Log_last.eq a0 w K ▸ h)
theorem M.pwal_Log_last.fcall (args : List Value) (w : World) (K : KV) : fcallT P F.pwal_Log_last args w K = callT P F.pwal_Log_last args w K := fcallT_eq Try.func84 (by kernel_rfl) (by kernel_rfl) args w K
theorem M.pwal_Log_last.rcall (a c args : List Value) (w : World) (K : KV) : callRT P (.func (.func F.pwal_Log_last) a.toArray c.toArray) args w K = callT P F.pwal_Log_last (a ++ args ++ c) w K := callR_fn Try.func84 (by kernel_rfl) (by kernel_rfl) a c args w K

def M.pwal_Log_begin.j2 (t21 : Value) (t19 : Value) (K0 : KL) (x2 : List Value) (w : World) (K : KV) : Prop :=
  nilT t21 w fun t44 w =>
  faT P T.wal_part t44 0 w fun t45 w =>
  ldT P T.int t45 w fun t46 w =>
  binT P .add T.int (.tmp 46) (.const (.int .i64 1)) t46 (.int .i64 1) w fun t47 w =>
  binT P .rem T.int (.tmp 47) (.const (.int .i64 64)) t47 (.int .i64 64) w fun t48 w =>
  nilT t19 w fun t49 w =>
  faT P T.wal_part t49 0 w fun t50 w =>
  stT P T.int t50 t48 w fun _ w =>
  K0 [t21, (gv x2 1), (gv x2 0)] w
def M.pwal_Log_begin.j1 (a0 : Value) (t21 : Value) (x1 : List Value) (t19 : Value) (K0 : KL) (w : World) (K : KV) : Prop :=
  joinT (fun K2 =>
  drawT w fun w =>
  w = w ∧ quietT (fun K' => nilT a0 w K') w fun t31 =>
  quietT (fun K' => faT P T.wal_Log t31 0 w K') w fun t32 =>
  quietT (fun K' => ldT P T.p_disk_Disk t32 w K') w fun t33 =>
  w = w ∧ quietT (fun K' => nilT t21 w K') w fun t35 =>
  quietT (fun K' => faT P T.wal_part t35 0 w K') w fun t36 =>
  quietT (fun K' => ldT P T.int t36 w K') w fun t37 =>
  fcallT P F.pdisk_Disk_Sync [t33, t37] w fun t38 w =>
  binT P .neq T.api_Kind (.tmp 39) (.const (.int .i64 0)) t38 (.int .i64 0) w fun t40 w =>
  condT t40 (
  K t38 w) (
  K2 [t38, (gv x1 0)] w)) fun x2 w =>
  M.pwal_Log_begin.j2 t21 t19 K0 x2 w K
def M.pwal_Log_begin.j3 (t64 : Value) (t19 : Value) (a0 : Value) (w : World) (K : KV) : Prop :=
  biT P .len #[T.sl_uint8] T.int [false] [t64] w fun t80 w =>
  nilT t19 w fun t81 w =>
  faT P T.wal_part t81 3 w fun t82 w =>
  stT P T.int t82 t80 w fun _ w =>
  nilT a0 w fun t85 w =>
  faT P T.wal_Log t85 2 w fun t86 w =>
  ldT P T.sl_p_wal_part t86 w fun t87 w =>
  bsT P T.sl_p_wal_part 1 #[(0, t19)] w fun t89 w =>
  biT P .append #[T.sl_p_wal_part, T.sl_p_wal_part] T.sl_p_wal_part [false, false] [t87, t89] w fun t90 w =>
  nilT a0 w fun t91 w =>
  faT P T.wal_Log t91 2 w fun t92 w =>
  stT P T.sl_p_wal_part t92 t90 w fun _ w =>
  K (.int .i64 0) w
def M.pwal_Log_begin.j0 (t19 : Value) (a2 : Value) (a0 : Value) (x0 : List Value) (w : World) (K : KV) : Prop :=
  nilT t19 w fun t53 w =>
  faT P T.wal_part t53 1 w fun t54 w =>
  ldT P T.int t54 w fun t55 w =>
  cvT P T.int T.uint64 t55 w fun t56 w =>
  fcallT P F.num_Put64 [(.slice none 0 0), t56] w fun t57 w =>
  fcallT P F.frame_Put [(.slice none 0 0), t57] w fun t58 w =>
  exT P t58 0 w fun t59 w =>
  exT P t58 1 w fun t60 w =>
  bsT P T.sl_sl_uint8 2 #[(0, t59), (1, a2)] w fun t63 w =>
  fcallT P F.slices_Concat_byte_byte [t63] w fun t64 w =>
  joinT (fun K3 =>
  drawT w fun w =>
  w = w ∧ quietT (fun K' => nilT a0 w K') w fun t66 =>
  quietT (fun K' => faT P T.wal_Log t66 0 w K') w fun t67 =>
  quietT (fun K' => ldT P T.p_disk_Disk t67 w K') w fun t68 =>
  w = w ∧ quietT (fun K' => nilT t19 w K') w fun t70 =>
  quietT (fun K' => faT P T.wal_part t70 0 w K') w fun t71 =>
  quietT (fun K' => ldT P T.int t71 w K') w fun t72 =>
  w = w ∧ fcallT P F.pdisk_Disk_Append [t68, t72, t64] w fun t74 w =>
  binT P .neq T.api_Kind (.tmp 75) (.const (.int .i64 0)) t74 (.int .i64 0) w fun t76 w =>
  condT t76 (
  K t74 w) (
  K3 [t74, (gv x0 1)] w)) fun x3 w =>
  M.pwal_Log_begin.j3 t64 t19 a0 w K
/-- (*winnow/wal.Log).begin -/
def M.pwal_Log_begin (a0 a1 a2 : Value) (w : World) (K : KV) : Prop :=
  fcallT P F.pwal_Log_next [a0] w fun t14 w =>
  fcallT P F.slices_Clone_byte_byte [a1] w fun t16 w =>
  bsT P T.sl_sl_uint8 1 #[(0, t16)] w fun t17 w =>
  bldT P T.wal_part #[(1, t14), (2, t17)] w fun t18 w =>
  boxT P T.wal_part t18 w fun t19 w =>
  joinT (fun K0 =>
  fcallT P F.pwal_Log_last [a0] w fun t21 w =>
  binT P .neq T.p_wal_part (.tmp 22) (.const (.pointer none)) t21 (.pointer none) w fun t23 w =>
  condT t23 (
  joinT (fun K1 =>
  nilT a0 w fun t25 w =>
  faT P T.wal_Log t25 2 w fun t26 w =>
  ldT P T.sl_p_wal_part t26 w fun t27 w =>
  biT P .len #[T.sl_p_wal_part] T.int [false] [t27] w fun t28 w =>
  binT P .geq T.int (.tmp 28) (.const (.int .i64 63)) t28 (.int .i64 63) w fun t29 w =>
  condT t29 (
  K (.int .i64 9) w) (
  K1 [(.int .i64 0)] w)) fun x1 w =>
  M.pwal_Log_begin.j1 a0 t21 x1 t19 K0 w K) (
  K0 [t21, (.int .i64 0), undef] w)) fun x0 w =>
  M.pwal_Log_begin.j0 t19 a2 a0 x0 w K
def M.pwal_Log_begin.L : List Nat := [0, 1, 2, 6, 7, 8, 9, 10, 11, 12]
def M.pwal_Log_begin.pl : Nat → Plan := fun id => cond (Nat.beq id 6) ⟨(.go 0 (.go 1 (.go 2 (.go 3 (.go 4 (.go 5 (.go 6 (.go 7 (.eff 8 (.eff 9 .nil .stop) .stop))))))))), [8, 9], false, [0, 1, 3, 7, 0, 16, 48, 112, 255, 511]⟩ (cond (Nat.beq id 12) ⟨(.go 0 (.go 1 (.go 2 (.go 3 (.go 4 (.go 5 (.go 6 (.go 7 (.go 8 (.eff 9 (.eff 10 .nil .stop) .stop)))))))))), [9, 10], false, [0, 1, 3, 7, 0, 16, 48, 112, 0, 511, 1023]⟩ (⟨.nil, [], false, []⟩))
theorem M.pwal_Log_begin.eq (a0 a1 a2 : Value) (w : World) (K : KV) : M.pwal_Log_begin a0 a1 a2 w K = den P M.pwal_Log_begin.L M.pwal_Log_begin.pl (Try.f85.body.getD .skip) (argE [a0, a1, a2]) w (bodyQ P Try.f85.results.toList K) := by kernel_rfl
theorem M.pwal_Log_begin.ok : okFn M.pwal_Log_begin.L M.pwal_Log_begin.pl Try.f85 (Try.f85.body.getD .skip) 3 = true := by kernel_rfl
theorem M.pwal_Log_begin.calls (a0 a1 a2 : Value) {w : World} {K : KV} (h : M.pwal_Log_begin a0 a1 a2 w K) : callT P F.pwal_Log_begin [a0, a1, a2] w K :=
  callT_of_den (by kernel_rfl) Try.func85 (by kernel_rfl) M.pwal_Log_begin.ok (M.pwal_Log_begin.eq a0 a1 a2 w K ▸ h)
theorem M.pwal_Log_begin.fcall (args : List Value) (w : World) (K : KV) : fcallT P F.pwal_Log_begin args w K = callT P F.pwal_Log_begin args w K := fcallT_eq Try.func85 (by kernel_rfl) (by kernel_rfl) args w K
theorem M.pwal_Log_begin.rcall (a c args : List Value) (w : World) (K : KV) : callRT P (.func (.func F.pwal_Log_begin) a.toArray c.toArray) args w K = callT P F.pwal_Log_begin (a ++ args ++ c) w K := callR_fn Try.func85 (by kernel_rfl) (by kernel_rfl) a c args w K

def M.pdisk_Disk_Append.j2 (x1 : List Value) (x2 : List Value) (a0 : Value) (w : World) (K : KV) : Prop :=
  nilT (gv x1 0) w fun t83 w =>
  faT P T.disk_file t83 1 w fun t84 w =>
  ldT P T.sl_uint8 t84 w fun t85 w =>
  biT P .append #[T.sl_uint8, T.sl_uint8] T.sl_uint8 [false, false] [t85, (gv x2 0)] w fun t87 w =>
  nilT (gv x1 0) w fun t88 w =>
  faT P T.disk_file t88 1 w fun t89 w =>
  stT P T.sl_uint8 t89 t87 w fun _ w =>
  fcallT P F.pdisk_Disk_state [a0] w fun t91 w =>
  K t91 w
def M.pdisk_Disk_Append.j1 (a0 : Value) (a2 : Value) (x1 : List Value) (w : World) (K : KV) : Prop :=
  joinT (fun K2 =>
  nilT a0 w fun t50 w =>
  faT P T.disk_Disk t50 3 w fun t51 w =>
  ldT P T.bool t51 w fun t52 w =>
  condT t52 (
  biT P .len #[T.sl_uint8] T.int [false] [a2] w fun t55 w =>
  nilT a0 w fun t57 w =>
  faT P T.disk_Disk t57 2 w fun t58 w =>
  ldT P T.int t58 w fun t59 w =>
  binT P .gtr T.int (.tmp 55) (.tmp 59) t55 t59 w fun t60 w =>
  nilT a0 w fun t61 w =>
  faT P T.disk_Disk t61 4 w fun t62 w =>
  stT P T.bool t62 t60 w fun _ w =>
  biT P .len #[T.sl_uint8] T.int [false] [a2] w fun t65 w =>
  nilT a0 w fun t67 w =>
  faT P T.disk_Disk t67 2 w fun t68 w =>
  ldT P T.int t68 w fun t69 w =>
  biT P .min #[T.int, T.int] T.int [false, false] [t65, t69] w fun t70 w =>
  slT P T.sl_uint8 a2 none (some t70) none w fun t71 w =>
  nilT a0 w fun t73 w =>
  faT P T.disk_Disk t73 2 w fun t74 w =>
  ldT P T.int t74 w fun t75 w =>
  biT P .len #[T.sl_uint8] T.int [false] [t71] w fun t77 w =>
  binT P .sub T.int (.tmp 75) (.tmp 77) t75 t77 w fun t78 w =>
  nilT a0 w fun t79 w =>
  faT P T.disk_Disk t79 2 w fun t80 w =>
  stT P T.int t80 t78 w fun _ w =>
  K2 [t71] w) (
  K2 [a2] w)) fun x2 w =>
  M.pdisk_Disk_Append.j2 x1 x2 a0 w K
def M.pdisk_Disk_Append.j0 (a0 : Value) (a1 : Value) (a2 : Value) (w : World) (K : KV) : Prop :=
  nilT a0 w fun t34 w =>
  faT P T.disk_Disk t34 1 w fun t35 w =>
  ldT P T.map_int_p_disk_file t35 w fun t36 w =>
  luT P T.map_int_p_disk_file t36 a1 false w fun t38 w =>
  joinT (fun K1 =>
  binT P .eql T.p_disk_file (.tmp 39) (.const (.pointer none)) t38 (.pointer none) w fun t40 w =>
  condT t40 (
  bldT P T.disk_file #[] w fun t41 w =>
  boxT P T.disk_file t41 w fun t42 w =>
  nilT a0 w fun t44 w =>
  faT P T.disk_Disk t44 1 w fun t45 w =>
  ldT P T.map_int_p_disk_file t45 w fun t46 w =>
  muT P T.map_int_p_disk_file t46 a1 t42 w fun _ w =>
  K1 [t42] w) (
  K1 [t38] w)) fun x1 w =>
  M.pdisk_Disk_Append.j1 a0 a2 x1 w K
/-- (*winnow/disk.Disk).Append -/
def M.pdisk_Disk_Append (a0 a1 a2 : Value) (w : World) (K : KV) : Prop :=
  joinT (fun K0 =>
  fcallT P F.pdisk_Disk_state [a0] w fun t10 w =>
  binT P .neq T.api_Kind (.tmp 12) (.const (.int .i64 0)) t10 (.int .i64 0) w fun t13 w =>
  condT t13 (
  K t10 w) (
  binT P .lss T.int (.tmp 16) (.const (.int .i64 0)) a1 (.int .i64 0) w fun t17 w =>
  guardT (isB t17 false) (fun K' => K' a1 w) w fun t19 w =>
  guardT (isB t17 false) (fun K' => binT P .geq T.int (.tmp 19) (.const (.int .i64 64)) t19 (.int .i64 64) w K') w fun t20 w =>
  pickT t17 (.bool true) t20 w fun t21 w =>
  condT t21 (
  K (.int .i64 1) w) (
  drawT w fun w =>
  w = w ∧ w = w ∧ quietT (fun K' => biT P .len #[T.sl_uint8] T.int [false] [a2] w K') w fun t26 =>
  w = w ∧ quietT (fun K' => nilT a0 w K') w fun t29 =>
  quietT (fun K' => faT P T.disk_Disk t29 0 w K') w fun t30 =>
  quietT (fun K' => ldT P T.int t30 w K') w fun t31 =>
  fcallT P F.pdisk_Disk_Used [a0] w fun t24 w =>
  stabT (fun K' => ldT P T.int t30 w K') w t31 ∧ stabT (fun K' => faT P T.disk_Disk t29 0 w K') w t30 ∧ stabT (fun K' => nilT a0 w K') w t29 ∧ stabT (fun K' => K' a0 w) w a0 ∧ stabT (fun K' => biT P .len #[T.sl_uint8] T.int [false] [a2] w K') w t26 ∧ stabT (fun K' => K' a2 w) w a2 ∧ quietT (fun K' => binT P .add T.int (.tmp 24) (.tmp 26) t24 t26 w K') w fun t27 =>
  quietT (fun K' => binT P .gtr T.int (.tmp 27) (.tmp 31) t27 t31 w K') w fun t32 =>
  condT t32 (
  K (.int .i64 9) w) (
  K0 [t10, t13, (.int .i64 0), t21, t32] w)))) fun x0 w =>
  M.pdisk_Disk_Append.j0 a0 a1 a2 w K
def M.pdisk_Disk_Append.L : List Nat := [0, 1, 2, 6, 7, 11, 15, 22, 8]
def M.pdisk_Disk_Append.pl : Nat → Plan := fun id => cond (Nat.beq id 6) ⟨(.go 0 (.go 2 (.go 3 (.go 5 (.go 6 (.go 7 (.go 8 (.eff 1 (.go 4 (.go 9 (.eff 10 .nil .stop))) .stop)))))))), [1, 10], false, [0, 1, 0, 4, 15, 0, 32, 96, 224, 511, 1023]⟩ (⟨.nil, [], false, []⟩)
theorem M.pdisk_Disk_Append.eq (a0 a1 a2 : Value) (w : World) (K : KV) : M.pdisk_Disk_Append a0 a1 a2 w K = den P M.pdisk_Disk_Append.L M.pdisk_Disk_Append.pl (Try.f86.body.getD .skip) (argE [a0, a1, a2]) w (bodyQ P Try.f86.results.toList K) := by kernel_rfl
theorem M.pdisk_Disk_Append.ok : okFn M.pdisk_Disk_Append.L M.pdisk_Disk_Append.pl Try.f86 (Try.f86.body.getD .skip) 3 = true := by kernel_rfl
theorem M.pdisk_Disk_Append.calls (a0 a1 a2 : Value) {w : World} {K : KV} (h : M.pdisk_Disk_Append a0 a1 a2 w K) : callT P F.pdisk_Disk_Append [a0, a1, a2] w K :=
  callT_of_den (by kernel_rfl) Try.func86 (by kernel_rfl) M.pdisk_Disk_Append.ok (M.pdisk_Disk_Append.eq a0 a1 a2 w K ▸ h)
theorem M.pdisk_Disk_Append.fcall (args : List Value) (w : World) (K : KV) : fcallT P F.pdisk_Disk_Append args w K = callT P F.pdisk_Disk_Append args w K := fcallT_eq Try.func86 (by kernel_rfl) (by kernel_rfl) args w K
theorem M.pdisk_Disk_Append.rcall (a c args : List Value) (w : World) (K : KV) : callRT P (.func (.func F.pdisk_Disk_Append) a.toArray c.toArray) args w K = callT P F.pdisk_Disk_Append (a ++ args ++ c) w K := callR_fn Try.func86 (by kernel_rfl) (by kernel_rfl) a c args w K

/-- slices.Clone[[]byte,byte] -/
def M.slices_Clone_byte_byte (a0 : Value) (w : World) (K : KV) : Prop :=
  joinT (fun K0 =>
  binT P .eql T.sl_uint8 (.tmp 3) (.const (.slice none 0 0)) a0 (.slice none 0 0) w fun t4 w =>
  condT t4 (
  K (.slice none 0 0) w) (
  K0 [(.slice none 0 0)] w)) fun x0 w =>
  bsT P T.sl_uint8 0 #[] w fun t5 w =>
  biT P .append #[T.sl_uint8, T.sl_uint8] T.sl_uint8 [false, false] [t5, a0] w fun t7 w =>
  K t7 w
def M.slices_Clone_byte_byte.L : List Nat := [0, 2]
def M.slices_Clone_byte_byte.pl : Nat → Plan := fun id => ⟨.nil, [], false, []⟩
theorem M.slices_Clone_byte_byte.eq (a0 : Value) (w : World) (K : KV) : M.slices_Clone_byte_byte a0 w K = den P M.slices_Clone_byte_byte.L M.slices_Clone_byte_byte.pl (Try.f87.body.getD .skip) (argE [a0]) w (bodyQ P Try.f87.results.toList K) := by kernel_rfl
theorem M.slices_Clone_byte_byte.ok : okFn M.slices_Clone_byte_byte.L M.slices_Clone_byte_byte.pl Try.f87 (Try.f87.body.getD .skip) 1 = true := by kernel_rfl
theorem M.slices_Clone_byte_byte.calls (a0 : Value) {w : World} {K : KV} (h : M.slices_Clone_byte_byte a0 w K) : callT P F.slices_Clone_byte_byte [a0] w K :=
  callT_of_den (by kernel_rfl) Try.func87 (by kernel_rfl) M.slices_Clone_byte_byte.ok (M.slices_Clone_byte_byte.eq a0 w K ▸ h)
theorem M.slices_Clone_byte_byte.fcall (args : List Value) (w : World) (K : KV) : fcallT P F.slices_Clone_byte_byte args w K = callT P F.slices_Clone_byte_byte args w K := fcallT_eq Try.func87 (by kernel_rfl) (by kernel_rfl) args w K
theorem M.slices_Clone_byte_byte.rcall (a c args : List Value) (w : World) (K : KV) : callRT P (.func (.func F.slices_Clone_byte_byte) a.toArray c.toArray) args w K = callT P F.slices_Clone_byte_byte (a ++ args ++ c) w K := callR_fn Try.func87 (by kernel_rfl) (by kernel_rfl) a c args w K

def M.pdisk_Disk_find.j0 (a0 : Value) (a1 : Value) (x0 : List Value) (w : World) (K : KV) : Prop :=
  nilT a0 w fun t14 w =>
  faT P T.disk_Disk t14 1 w fun t15 w =>
  ldT P T.map_int_p_disk_file t15 w fun t16 w =>
  luT P T.map_int_p_disk_file t16 a1 false w fun t18 w =>
  joinT (fun K1 =>
  binT P .eql T.p_disk_file (.tmp 19) (.const (.pointer none)) t18 (.pointer none) w fun t20 w =>
  condT t20 (
  K (.tuple #[(.pointer none), (.int .i64 11)]) w) (
  K1 [(gv x0 1), (gv x0 2)] w)) fun x1 w =>
  K (.tuple #[t18, (.int .i64 0)]) w
/-- (*winnow/disk.Disk).find -/
def M.pdisk_Disk_find (a0 a1 : Value) (w : World) (K : KV) : Prop :=
  joinT (fun K0 =>
  fcallT P F.pdisk_Disk_state [a0] w fun t9 w =>
  binT P .neq T.api_Kind (.tmp 10) (.const (.int .i64 0)) t9 (.int .i64 0) w fun t11 w =>
  condT t11 (
  K (.tuple #[(.pointer none), t9]) w) (
  K0 [t9, (.pointer none), (.int .i64 0)] w)) fun x0 w =>
  M.pdisk_Disk_find.j0 a0 a1 x0 w K
def M.pdisk_Disk_find.L : List Nat := [0, 1, 4, 5, 6, 7]
def M.pdisk_Disk_find.pl : Nat → Plan := fun id => ⟨.nil, [], false, []⟩
theorem M.pdisk_Disk_find.eq (a0 a1 : Value) (w : World) (K : KV) : M.pdisk_Disk_find a0 a1 w K = den P M.pdisk_Disk_find.L M.pdisk_Disk_find.pl (Try.f88.body.getD .skip) (argE [a0, a1]) w (bodyQ P Try.f88.results.toList K) := by kernel_rfl
theorem M.pdisk_Disk_find.ok : okFn M.pdisk_Disk_find.L M.pdisk_Disk_find.pl Try.f88 (Try.f88.body.getD .skip) 2 = true := by kernel_rfl
theorem M.pdisk_Disk_find.calls (a0 a1 : Value) {w : World} {K : KV} (h : M.pdisk_Disk_find a0 a1 w K) : callT P F.pdisk_Disk_find [a0, a1] w K :=
  callT_of_den (by kernel_rfl) Try.func88 (by kernel_rfl) M.pdisk_Disk_find.ok (M.pdisk_Disk_find.eq a0 a1 w K ▸ h)
theorem M.pdisk_Disk_find.fcall (args : List Value) (w : World) (K : KV) : fcallT P F.pdisk_Disk_find args w K = callT P F.pdisk_Disk_find args w K := fcallT_eq Try.func88 (by kernel_rfl) (by kernel_rfl) args w K
theorem M.pdisk_Disk_find.rcall (a c args : List Value) (w : World) (K : KV) : callRT P (.func (.func F.pdisk_Disk_find) a.toArray c.toArray) args w K = callT P F.pdisk_Disk_find (a ++ args ++ c) w K := callR_fn Try.func88 (by kernel_rfl) (by kernel_rfl) a c args w K

/-- (*winnow/disk.file).all -/
def M.pdisk_file_all (a0 : Value) (w : World) (K : KV) : Prop :=
  drawT w fun w =>
  w = w ∧ quietT (fun K' => nilT a0 w K') w fun t4 =>
  quietT (fun K' => faT P T.disk_file t4 0 w K') w fun t5 =>
  quietT (fun K' => ldT P T.sl_uint8 t5 w K') w fun t6 =>
  w = w ∧ quietT (fun K' => nilT a0 w K') w fun t8 =>
  quietT (fun K' => faT P T.disk_file t8 1 w K') w fun t9 =>
  quietT (fun K' => ldT P T.sl_uint8 t9 w K') w fun t10 =>
  bsT P T.sl_sl_uint8 2 #[(0, t6), (1, t10)] w fun t11 w =>
  fcallT P F.slices_Concat_byte_byte [t11] w fun t12 w =>
  K t12 w
def M.pdisk_file_all.L : List Nat := [0, 2]
def M.pdisk_file_all.pl : Nat → Plan := fun id => cond (Nat.beq id 1) ⟨(.go 0 (.go 1 (.go 2 (.go 3 (.go 4 (.go 5 (.go 6 (.go 7 (.eff 8 (.eff 9 (.eff 10 .nil .stop) .stop) .stop))))))))), [8, 9, 10], false, [0, 1, 3, 7, 0, 16, 48, 112, 255, 511, 1023]⟩ (⟨.nil, [], false, []⟩)
theorem M.pdisk_file_all.eq (a0 : Value) (w : World) (K : KV) : M.pdisk_file_all a0 w K = den P M.pdisk_file_all.L M.pdisk_file_all.pl (Try.f89.body.getD .skip) (argE [a0]) w (bodyQ P Try.f89.results.toList K) := by kernel_rfl
theorem M.pdisk_file_all.ok : okFn M.pdisk_file_all.L M.pdisk_file_all.pl Try.f89 (Try.f89.body.getD .skip) 1 = true := by kernel_rfl
theorem M.pdisk_file_all.calls (a0 : Value) {w : World} {K : KV} (h : M.pdisk_file_all a0 w K) : callT P F.pdisk_file_all [a0] w K :=
  callT_of_den (by kernel_rfl) Try.func89 (by kernel_rfl) M.pdisk_file_all.ok (M.pdisk_file_all.eq a0 w K ▸ h)
theorem M.pdisk_file_all.fcall (args : List Value) (w : World) (K : KV) : fcallT P F.pdisk_file_all args w K = callT P F.pdisk_file_all args w K := fcallT_eq Try.func89 (by kernel_rfl) (by kernel_rfl) args w K
theorem M.pdisk_file_all.rcall (a c args : List Value) (w : World) (K : KV) : callRT P (.func (.func F.pdisk_file_all) a.toArray c.toArray) args w K = callT P F.pdisk_file_all (a ++ args ++ c) w K := callR_fn Try.func89 (by kernel_rfl) (by kernel_rfl) a c args w K

def M.winnowref01_Same.j3 (a0 : Value) (x2 : List Value) (a1 : Value) (K2 : KL) (w : World) (K : KV) : Prop :=
  joinT (fun K4 =>
  drawT w fun w =>
  w = w ∧ w = w ∧ quietT (fun K' => iaT P T.sl_uint8 a0 (gv x2 1) w K') w fun t19 =>
  quietT (fun K' => ldT P T.uint8 t19 w K') w fun t20 =>
  w = w ∧ w = w ∧ quietT (fun K' => iaT P T.sl_uint8 a1 (gv x2 1) w K') w fun t23 =>
  quietT (fun K' => ldT P T.uint8 t23 w K') w fun t24 =>
  quietT (fun K' => binT P .neq T.uint8 (.tmp 20) (.tmp 24) t20 t24 w K') w fun t25 =>
  condT t25 (
  K (.bool false) w) (
  K4 [(gv x2 0)] w)) fun x4 w =>
  binT P .add T.int (.tmp 15) (.const (.int .i64 1)) (gv x2 1) (.int .i64 1) w fun t16 w =>
  K2 [(gv x4 0), t16] w
def M.winnowref01_Same.j0 (x0 : List Value) (a0 : Value) (a1 : Value) (w : World) (K : KV) : Prop :=
  joinT (fun K1 =>
  loopT [(gv x0 0), (.int .i64 0)] w fun K2 x2 w =>
  joinT (fun K3 =>
  biT P .len #[T.sl_uint8] T.int [false] [a0] w fun t13 w =>
  binT P .lss T.int (.tmp 11) (.tmp 13) (gv x2 1) t13 w fun t14 w =>
  condT t14 (
  K3 [] w) (
  K1 [(gv x2 1), (gv x2 0)] w)) fun x3 w =>
  M.winnowref01_Same.j3 a0 x2 a1 K2 w K) fun x1 w =>
  K (.bool true) w
/-- winnow/winnowref01.Same -/
def M.winnowref01_Same (a0 a1 : Value) (w : World) (K : KV) : Prop :=
  joinT (fun K0 =>
  biT P .len #[T.sl_uint8] T.int [false] [a0] w fun t7 w =>
  biT P .len #[T.sl_uint8] T.int [false] [a1] w fun t9 w =>
  binT P .neq T.int (.tmp 7) (.tmp 9) t7 t9 w fun t10 w =>
  condT t10 (
  K (.bool false) w) (
  K0 [(.bool false)] w)) fun x0 w =>
  M.winnowref01_Same.j0 x0 a0 a1 w K
def M.winnowref01_Same.L : List Nat := [0, 1, 4, 5]
def M.winnowref01_Same.pl : Nat → Plan := fun id => cond (Nat.beq id 6) ⟨(.go 0 (.go 1 (.go 2 (.go 3 (.go 4 (.go 5 (.go 6 (.go 7 (.go 8 .nil))))))))), [], false, [0, 0, 3, 7, 0, 0, 48, 112, 255]⟩ (⟨.nil, [], false, []⟩)
theorem M.winnowref01_Same.eq (a0 a1 : Value) (w : World) (K : KV) : M.winnowref01_Same a0 a1 w K = den P M.winnowref01_Same.L M.winnowref01_Same.pl (Try.f90.body.getD .skip) (argE [a0, a1]) w (bodyQ P Try.f90.results.toList K) := by kernel_rfl
theorem M.winnowref01_Same.ok : okFn M.winnowref01_Same.L M.winnowref01_Same.pl Try.f90 (Try.f90.body.getD .skip) 2 = true := by kernel_rfl
theorem M.winnowref01_Same.calls (a0 a1 : Value) {w : World} {K : KV} (h : M.winnowref01_Same a0 a1 w K) : callT P F.winnowref01_Same [a0, a1] w K :=
  callT_of_den (by kernel_rfl) Try.func90 (by kernel_rfl) M.winnowref01_Same.ok (M.winnowref01_Same.eq a0 a1 w K ▸ h)
theorem M.winnowref01_Same.fcall (args : List Value) (w : World) (K : KV) : fcallT P F.winnowref01_Same args w K = callT P F.winnowref01_Same args w K := fcallT_eq Try.func90 (by kernel_rfl) (by kernel_rfl) args w K
theorem M.winnowref01_Same.rcall (a c args : List Value) (w : World) (K : KV) : callRT P (.func (.func F.winnowref01_Same) a.toArray c.toArray) args w K = callT P F.winnowref01_Same (a ++ args ++ c) w K := callR_fn Try.func90 (by kernel_rfl) (by kernel_rfl) a c args w K

/-- (*winnow/disk.Disk).Sync -/
def M.pdisk_Disk_Sync (a0 a1 : Value) (w : World) (K : KV) : Prop :=
  fcallT P F.pdisk_Disk_find [a0, a1] w fun t10 w =>
  exT P t10 0 w fun t11 w =>
  exT P t10 1 w fun t12 w =>
  joinT (fun K0 =>
  binT P .eql T.api_Kind (.tmp 13) (.const (.int .i64 0)) t12 (.int .i64 0) w fun t14 w =>
  condT t14 (
  fcallT P F.pdisk_file_all [t11] w fun t18 w =>
  nilT t11 w fun t19 w =>
  faT P T.disk_file t19 0 w fun t20 w =>
  stT P T.sl_uint8 t20 t18 w fun _ w =>
  nilT t11 w fun t21 w =>
  faT P T.disk_file t21 1 w fun t22 w =>
  stT P T.sl_uint8 t22 (.slice none 0 0) w fun _ w =>
  K0 [] w) (
  K0 [] w)) fun x0 w =>
  K t12 w
def M.pdisk_Disk_Sync.L : List Nat := [0, 1, 4, 5, 6]
def M.pdisk_Disk_Sync.pl : Nat → Plan := fun id => ⟨.nil, [], false, []⟩
theorem M.pdisk_Disk_Sync.eq (a0 a1 : Value) (w : World) (K : KV) : M.pdisk_Disk_Sync a0 a1 w K = den P M.pdisk_Disk_Sync.L M.pdisk_Disk_Sync.pl (Try.f91.body.getD .skip) (argE [a0, a1]) w (bodyQ P Try.f91.results.toList K) := by kernel_rfl
theorem M.pdisk_Disk_Sync.ok : okFn M.pdisk_Disk_Sync.L M.pdisk_Disk_Sync.pl Try.f91 (Try.f91.body.getD .skip) 2 = true := by kernel_rfl
theorem M.pdisk_Disk_Sync.calls (a0 a1 : Value) {w : World} {K : KV} (h : M.pdisk_Disk_Sync a0 a1 w K) : callT P F.pdisk_Disk_Sync [a0, a1] w K :=
  callT_of_den (by kernel_rfl) Try.func91 (by kernel_rfl) M.pdisk_Disk_Sync.ok (M.pdisk_Disk_Sync.eq a0 a1 w K ▸ h)
theorem M.pdisk_Disk_Sync.fcall (args : List Value) (w : World) (K : KV) : fcallT P F.pdisk_Disk_Sync args w K = callT P F.pdisk_Disk_Sync args w K := fcallT_eq Try.func91 (by kernel_rfl) (by kernel_rfl) args w K
theorem M.pdisk_Disk_Sync.rcall (a c args : List Value) (w : World) (K : KV) : callRT P (.func (.func F.pdisk_Disk_Sync) a.toArray c.toArray) args w K = callT P F.pdisk_Disk_Sync (a ++ args ++ c) w K := callR_fn Try.func91 (by kernel_rfl) (by kernel_rfl) a c args w K

def M.slices_Concat_byte_byte.j2 (a0 : Value) (x1 : List Value) (K1 : KL) (w : World) (K : KV) : Prop :=
  joinT (fun K3 =>
  iaT P T.sl_sl_uint8 a0 (gv x1 2) w fun t13 w =>
  ldT P T.sl_uint8 t13 w fun t14 w =>
  biT P .len #[T.sl_uint8] T.int [false] [t14] w fun t17 w =>
  binT P .add T.int (.tmp 15) (.tmp 17) (gv x1 1) t17 w fun t18 w =>
  binT P .lss T.int (.tmp 19) (.const (.int .i64 0)) t18 (.int .i64 0) w fun t20 w =>
  condT t20 (
  mkiT P T.string (.string ⟨#[108, 101, 110, 32, 111, 117, 116, 32, 111, 102, 32, 114, 97, 110, 103, 101]⟩) w fun t21 w =>
  panicT w fun _ w =>
  K3 [t14, t18] w) (
  K3 [t14, t18] w)) fun x3 w =>
  binT P .add T.int (.tmp 11) (.const (.int .i64 1)) (gv x1 2) (.int .i64 1) w fun t22 w =>
  K1 [(gv x3 0), (gv x3 1), t22] w
def M.slices_Concat_byte_byte.j6 (a0 : Value) (x5 : List Value) (K5 : KL) (w : World) (K : KV) : Prop :=
  joinT (fun K7 =>
  iaT P T.sl_sl_uint8 a0 (gv x5 2) w fun t29 w =>
  ldT P T.sl_uint8 t29 w fun t30 w =>
  biT P .append #[T.sl_uint8, T.sl_uint8] T.sl_uint8 [false, false] [(gv x5 1), t30] w fun t33 w =>
  K7 [t30, t33] w) fun x7 w =>
  binT P .add T.int (.tmp 27) (.const (.int .i64 1)) (gv x5 2) (.int .i64 1) w fun t34 w =>
  K5 [(gv x7 0), (gv x7 1), t34] w
def M.slices_Concat_byte_byte.j0 (x0 : List Value) (a0 : Value) (w : World) (K : KV) : Prop :=
  fcallT P F.slices_Grow_byte_byte [(.slice none 0 0), (gv x0 4)] w fun t24 w =>
  joinT (fun K4 =>
  biT P .len #[T.sl_sl_uint8] T.int [false] [a0] w fun t26 w =>
  loopT [undef, t24, (.int .i64 0)] w fun K5 x5 w =>
  binT P .lss T.int (.tmp 27) (.tmp 26) (gv x5 2) t26 w fun t28 w =>
  joinT (fun K6 =>
  condT t28 (
  K6 [] w) (
  K4 [a0, t26, (gv x5 2), (gv x5 0), (gv x5 1)] w)) fun x6 w =>
  M.slices_Concat_byte_byte.j6 a0 x5 K5 w K) fun x4 w =>
  K (gv x4 4) w
/-- slices.Concat[[]byte,byte] -/
def M.slices_Concat_byte_byte (a0 : Value) (w : World) (K : KV) : Prop :=
  joinT (fun K0 =>
  biT P .len #[T.sl_sl_uint8] T.int [false] [a0] w fun t10 w =>
  loopT [undef, (.int .i64 0), (.int .i64 0)] w fun K1 x1 w =>
  binT P .lss T.int (.tmp 11) (.tmp 10) (gv x1 2) t10 w fun t12 w =>
  joinT (fun K2 =>
  condT t12 (
  K2 [] w) (
  K0 [a0, t10, (gv x1 2), (gv x1 0), (gv x1 1)] w)) fun x2 w =>
  M.slices_Concat_byte_byte.j2 a0 x1 K1 w K) fun x0 w =>
  M.slices_Concat_byte_byte.j0 x0 a0 w K
def M.slices_Concat_byte_byte.L : List Nat := [0, 2, 3, 5, 6, 8, 11, 10, 9, 27, 26, 25]
def M.slices_Concat_byte_byte.pl : Nat → Plan := fun id => ⟨.nil, [], false, []⟩
theorem M.slices_Concat_byte_byte.eq (a0 : Value) (w : World) (K : KV) : M.slices_Concat_byte_byte a0 w K = den P M.slices_Concat_byte_byte.L M.slices_Concat_byte_byte.pl (Try.f92.body.getD .skip) (argE [a0]) w (bodyQ P Try.f92.results.toList K) := by kernel_rfl
theorem M.slices_Concat_byte_byte.ok : okFn M.slices_Concat_byte_byte.L M.slices_Concat_byte_byte.pl Try.f92 (Try.f92.body.getD .skip) 1 = true := by kernel_rfl
theorem M.slices_Concat_byte_byte.calls (a0 : Value) {w : World} {K : KV} (h : M.slices_Concat_byte_byte a0 w K) : callT P F.slices_Concat_byte_byte [a0] w K :=
  callT_of_den (by kernel_rfl) Try.func92 (by kernel_rfl) M.slices_Concat_byte_byte.ok (M.slices_Concat_byte_byte.eq a0 w K ▸ h)
theorem M.slices_Concat_byte_byte.fcall (args : List Value) (w : World) (K : KV) : fcallT P F.slices_Concat_byte_byte args w K = callT P F.slices_Concat_byte_byte args w K := fcallT_eq Try.func92 (by kernel_rfl) (by kernel_rfl) args w K
theorem M.slices_Concat_byte_byte.rcall (a c args : List Value) (w : World) (K : KV) : callRT P (.func (.func F.slices_Concat_byte_byte) a.toArray c.toArray) args w K = callT P F.slices_Concat_byte_byte (a ++ args ++ c) w K := callR_fn Try.func92 (by kernel_rfl) (by kernel_rfl) a c args w K

/-- (*winnow/disk.Disk).Remove -/
def M.pdisk_Disk_Remove (a0 a1 : Value) (w : World) (K : KV) : Prop :=
  fcallT P F.pdisk_Disk_find [a0, a1] w fun t10 w =>
  exT P t10 0 w fun t11 w =>
  exT P t10 1 w fun t12 w =>
  joinT (fun K0 =>
  binT P .eql T.api_Kind (.tmp 13) (.const (.int .i64 0)) t12 (.int .i64 0) w fun t14 w =>
  condT t14 (
  nilT a0 w fun t16 w =>
  faT P T.disk_Disk t16 1 w fun t17 w =>
  ldT P T.map_int_p_disk_file t17 w fun t18 w =>
  biT P .delete #[T.map_int_p_disk_file, T.int] T._ [false, false] [t18, a1] w fun _ w =>
  K0 [] w) (
  K0 [] w)) fun x0 w =>
  K t12 w
def M.pdisk_Disk_Remove.L : List Nat := [0, 1, 4, 5, 6]
def M.pdisk_Disk_Remove.pl : Nat → Plan := fun id => ⟨.nil, [], false, []⟩
theorem M.pdisk_Disk_Remove.eq (a0 a1 : Value) (w : World) (K : KV) : M.pdisk_Disk_Remove a0 a1 w K = den P M.pdisk_Disk_Remove.L M.pdisk_Disk_Remove.pl (Try.f93.body.getD .skip) (argE [a0, a1]) w (bodyQ P Try.f93.results.toList K) := by kernel_rfl
theorem M.pdisk_Disk_Remove.ok : okFn M.pdisk_Disk_Remove.L M.pdisk_Disk_Remove.pl Try.f93 (Try.f93.body.getD .skip) 2 = true := by kernel_rfl
theorem M.pdisk_Disk_Remove.calls (a0 a1 : Value) {w : World} {K : KV} (h : M.pdisk_Disk_Remove a0 a1 w K) : callT P F.pdisk_Disk_Remove [a0, a1] w K :=
  callT_of_den (by kernel_rfl) Try.func93 (by kernel_rfl) M.pdisk_Disk_Remove.ok (M.pdisk_Disk_Remove.eq a0 a1 w K ▸ h)
theorem M.pdisk_Disk_Remove.fcall (args : List Value) (w : World) (K : KV) : fcallT P F.pdisk_Disk_Remove args w K = callT P F.pdisk_Disk_Remove args w K := fcallT_eq Try.func93 (by kernel_rfl) (by kernel_rfl) args w K
theorem M.pdisk_Disk_Remove.rcall (a c args : List Value) (w : World) (K : KV) : callRT P (.func (.func F.pdisk_Disk_Remove) a.toArray c.toArray) args w K = callT P F.pdisk_Disk_Remove (a ++ args ++ c) w K := callR_fn Try.func93 (by kernel_rfl) (by kernel_rfl) a c args w K

/-- slices.Contains[[]int,int] -/
def M.slices_Contains_int_int (a0 a1 : Value) (w : World) (K : KV) : Prop :=
  fcallT P F.slices_Index_int_int [a0, a1] w fun t7 w =>
  binT P .geq T.int (.tmp 7) (.const (.int .i64 0)) t7 (.int .i64 0) w fun t8 w =>
  K t8 w
def M.slices_Contains_int_int.L : List Nat := [0, 1, 4]
def M.slices_Contains_int_int.pl : Nat → Plan := fun id => ⟨.nil, [], false, []⟩
theorem M.slices_Contains_int_int.eq (a0 a1 : Value) (w : World) (K : KV) : M.slices_Contains_int_int a0 a1 w K = den P M.slices_Contains_int_int.L M.slices_Contains_int_int.pl (Try.f115.body.getD .skip) (argE [a0, a1]) w (bodyQ P Try.f115.results.toList K) := by kernel_rfl
theorem M.slices_Contains_int_int.ok : okFn M.slices_Contains_int_int.L M.slices_Contains_int_int.pl Try.f115 (Try.f115.body.getD .skip) 2 = true := by kernel_rfl
theorem M.slices_Contains_int_int.calls (a0 a1 : Value) {w : World} {K : KV} (h : M.slices_Contains_int_int a0 a1 w K) : callT P F.slices_Contains_int_int [a0, a1] w K :=
  callT_of_den (by kernel_rfl) Try.func115 (by kernel_rfl) M.slices_Contains_int_int.ok (M.slices_Contains_int_int.eq a0 a1 w K ▸ h)
theorem M.slices_Contains_int_int.fcall (args : List Value) (w : World) (K : KV) : fcallT P F.slices_Contains_int_int args w K = callT P F.slices_Contains_int_int args w K := fcallT_eq Try.func115 (by kernel_rfl) (by kernel_rfl) args w K
theorem M.slices_Contains_int_int.rcall (a c args : List Value) (w : World) (K : KV) : callRT P (.func (.func F.slices_Contains_int_int) a.toArray c.toArray) args w K = callT P F.slices_Contains_int_int (a ++ args ++ c) w K := callR_fn Try.func115 (by kernel_rfl) (by kernel_rfl) a c args w K

def M.slices_Concat_int_int.j2 (a0 : Value) (x1 : List Value) (K1 : KL) (w : World) (K : KV) : Prop :=
  joinT (fun K3 =>
  iaT P T.sl_sl_int a0 (gv x1 2) w fun t13 w =>
  ldT P T.sl_int t13 w fun t14 w =>
  biT P .len #[T.sl_int] T.int [false] [t14] w fun t17 w =>
  binT P .add T.int (.tmp 15) (.tmp 17) (gv x1 1) t17 w fun t18 w =>
  binT P .lss T.int (.tmp 19) (.const (.int .i64 0)) t18 (.int .i64 0) w fun t20 w =>
  condT t20 (
  mkiT P T.string (.string ⟨#[108, 101, 110, 32, 111, 117, 116, 32, 111, 102, 32, 114, 97, 110, 103, 101]⟩) w fun t21 w =>
  panicT w fun _ w =>
  K3 [t14, t18] w) (
  K3 [t14, t18] w)) fun x3 w =>
  binT P .add T.int (.tmp 11) (.const (.int .i64 1)) (gv x1 2) (.int .i64 1) w fun t22 w =>
  K1 [(gv x3 0), (gv x3 1), t22] w
def M.slices_Concat_int_int.j6 (a0 : Value) (x5 : List Value) (K5 : KL) (w : World) (K : KV) : Prop :=
  joinT (fun K7 =>
  iaT P T.sl_sl_int a0 (gv x5 2) w fun t29 w =>
  ldT P T.sl_int t29 w fun t30 w =>
  biT P .append #[T.sl_int, T.sl_int] T.sl_int [false, false] [(gv x5 1), t30] w fun t33 w =>
  K7 [t30, t33] w) fun x7 w =>
  binT P .add T.int (.tmp 27) (.const (.int .i64 1)) (gv x5 2) (.int .i64 1) w fun t34 w =>
  K5 [(gv x7 0), (gv x7 1), t34] w
def M.slices_Concat_int_int.j0 (x0 : List Value) (a0 : Value) (w : World) (K : KV) : Prop :=
  fcallT P F.slices_Grow_int_int [(.slice none 0 0), (gv x0 4)] w fun t24 w =>
  joinT (fun K4 =>
  biT P .len #[T.sl_sl_int] T.int [false] [a0] w fun t26 w =>
  loopT [undef, t24, (.int .i64 0)] w fun K5 x5 w =>
  binT P .lss T.int (.tmp 27) (.tmp 26) (gv x5 2) t26 w fun t28 w =>
  joinT (fun K6 =>
  condT t28 (
  K6 [] w) (
  K4 [a0, t26, (gv x5 2), (gv x5 0), (gv x5 1)] w)) fun x6 w =>
  M.slices_Concat_int_int.j6 a0 x5 K5 w K) fun x4 w =>
  K (gv x4 4) w
/-- slices.Concat[[]int,int] -/
def M.slices_Concat_int_int (a0 : Value) (w : World) (K : KV) : Prop :=
  joinT (fun K0 =>
  biT P .len #[T.sl_sl_int] T.int [false] [a0] w fun t10 w =>
  loopT [undef, (.int .i64 0), (.int .i64 0)] w fun K1 x1 w =>
  binT P .lss T.int (.tmp 11) (.tmp 10) (gv x1 2) t10 w fun t12 w =>
  joinT (fun K2 =>
  condT t12 (
  K2 [] w) (
  K0 [a0, t10, (gv x1 2), (gv x1 0), (gv x1 1)] w)) fun x2 w =>
  M.slices_Concat_int_int.j2 a0 x1 K1 w K) fun x0 w =>
  M.slices_Concat_int_int.j0 x0 a0 w K
def M.slices_Concat_int_int.L : List Nat := [0, 2, 3, 5, 6, 8, 11, 10, 9, 27, 26, 25]
def M.slices_Concat_int_int.pl : Nat → Plan := fun id => ⟨.nil, [], false, []⟩
theorem M.slices_Concat_int_int.eq (a0 : Value) (w : World) (K : KV) : M.slices_Concat_int_int a0 w K = den P M.slices_Concat_int_int.L M.slices_Concat_int_int.pl (Try.f116.body.getD .skip) (argE [a0]) w (bodyQ P Try.f116.results.toList K) := by kernel_rfl
theorem M.slices_Concat_int_int.ok : okFn M.slices_Concat_int_int.L M.slices_Concat_int_int.pl Try.f116 (Try.f116.body.getD .skip) 1 = true := by kernel_rfl
theorem M.slices_Concat_int_int.calls (a0 : Value) {w : World} {K : KV} (h : M.slices_Concat_int_int a0 w K) : callT P F.slices_Concat_int_int [a0] w K :=
  callT_of_den (by kernel_rfl) Try.func116 (by kernel_rfl) M.slices_Concat_int_int.ok (M.slices_Concat_int_int.eq a0 w K ▸ h)
theorem M.slices_Concat_int_int.fcall (args : List Value) (w : World) (K : KV) : fcallT P F.slices_Concat_int_int args w K = callT P F.slices_Concat_int_int args w K := fcallT_eq Try.func116 (by kernel_rfl) (by kernel_rfl) args w K
theorem M.slices_Concat_int_int.rcall (a c args : List Value) (w : World) (K : KV) : callRT P (.func (.func F.slices_Concat_int_int) a.toArray c.toArray) args w K = callT P F.slices_Concat_int_int (a ++ args ++ c) w K := callR_fn Try.func116 (by kernel_rfl) (by kernel_rfl) a c args w K

/-- slices.Sorted[int] -/
def M.slices_Sorted_int (a0 : Value) (w : World) (K : KV) : Prop :=
  fcallT P F.slices_Collect_int [a0] w fun t5 w =>
  fcallT P F.slices_Sort_int_int [t5] w fun t7 w =>
  K t5 w
def M.slices_Sorted_int.L : List Nat := [0, 2, 3]
def M.slices_Sorted_int.pl : Nat → Plan := fun id => ⟨.nil, [], false, []⟩
theorem M.slices_Sorted_int.eq (a0 : Value) (w : World) (K : KV) : M.slices_Sorted_int a0 w K = den P M.slices_Sorted_int.L M.slices_Sorted_int.pl (Try.f117.body.getD .skip) (argE [a0]) w (bodyQ P Try.f117.results.toList K) := by kernel_rfl
theorem M.slices_Sorted_int.ok : okFn M.slices_Sorted_int.L M.slices_Sorted_int.pl Try.f117 (Try.f117.body.getD .skip) 1 = true := by kernel_rfl
theorem M.slices_Sorted_int.calls (a0 : Value) {w : World} {K : KV} (h : M.slices_Sorted_int a0 w K) : callT P F.slices_Sorted_int [a0] w K :=
  callT_of_den (by kernel_rfl) Try.func117 (by kernel_rfl) M.slices_Sorted_int.ok (M.slices_Sorted_int.eq a0 w K ▸ h)
theorem M.slices_Sorted_int.fcall (args : List Value) (w : World) (K : KV) : fcallT P F.slices_Sorted_int args w K = callT P F.slices_Sorted_int args w K := fcallT_eq Try.func117 (by kernel_rfl) (by kernel_rfl) args w K
theorem M.slices_Sorted_int.rcall (a c args : List Value) (w : World) (K : KV) : callRT P (.func (.func F.slices_Sorted_int) a.toArray c.toArray) args w K = callT P F.slices_Sorted_int (a ++ args ++ c) w K := callR_fn Try.func117 (by kernel_rfl) (by kernel_rfl) a c args w K

/-- maps.Keys[map[int]*winnow/disk.file,int,*winnow/disk.file] -/
def M.maps_Keys_map_int_disk_file_int_disk_file (a0 : Value) (w : World) (K : KV) : Prop :=
  boxT P T.map_int_p_disk_file a0 w fun t1 w =>
  mkfT P (.func F.maps_Keys_map_int_disk_file_int_disk_file_1) [] [t1] w fun t3 w =>
  K t3 w
def M.maps_Keys_map_int_disk_file_int_disk_file.L : List Nat := [0, 2]
def M.maps_Keys_map_int_disk_file_int_disk_file.pl : Nat → Plan := fun id => ⟨.nil, [], false, []⟩
theorem M.maps_Keys_map_int_disk_file_int_disk_file.eq (a0 : Value) (w : World) (K : KV) : M.maps_Keys_map_int_disk_file_int_disk_file a0 w K = den P M.maps_Keys_map_int_disk_file_int_disk_file.L M.maps_Keys_map_int_disk_file_int_disk_file.pl (Try.f118.body.getD .skip) (argE [a0]) w (bodyQ P Try.f118.results.toList K) := by kernel_rfl
theorem M.maps_Keys_map_int_disk_file_int_disk_file.ok : okFn M.maps_Keys_map_int_disk_file_int_disk_file.L M.maps_Keys_map_int_disk_file_int_disk_file.pl Try.f118 (Try.f118.body.getD .skip) 1 = true := by kernel_rfl
theorem M.maps_Keys_map_int_disk_file_int_disk_file.calls (a0 : Value) {w : World} {K : KV} (h : M.maps_Keys_map_int_disk_file_int_disk_file a0 w K) : callT P F.maps_Keys_map_int_disk_file_int_disk_file [a0] w K :=
  callT_of_den (by kernel_rfl) Try.func118 (by kernel_rfl) M.maps_Keys_map_int_disk_file_int_disk_file.ok (M.maps_Keys_map_int_disk_file_int_disk_file.eq a0 w K ▸ h)
theorem M.maps_Keys_map_int_disk_file_int_disk_file.fcall (args : List Value) (w : World) (K : KV) : fcallT P F.maps_Keys_map_int_disk_file_int_disk_file args w K = callT P F.maps_Keys_map_int_disk_file_int_disk_file args w K := fcallT_eq Try.func118 (by kernel_rfl) (by kernel_rfl) args w K
theorem M.maps_Keys_map_int_disk_file_int_disk_file.rcall (a c args : List Value) (w : World) (K : KV) : callRT P (.func (.func F.maps_Keys_map_int_disk_file_int_disk_file) a.toArray c.toArray) args w K = callT P F.maps_Keys_map_int_disk_file_int_disk_file (a ++ args ++ c) w K := callR_fn Try.func118 (by kernel_rfl) (by kernel_rfl) a c args w K

def M.frame_All.j3 (t23 : Value) (x3 : List Value) (K1 : KL) (t24 : Value) (t25 : Value) (w : World) (K : KV) : Prop :=
  bsT P T.sl_sl_uint8 1 #[(0, t23)] w fun t33 w =>
  biT P .append #[T.sl_sl_uint8, T.sl_sl_uint8] T.sl_sl_uint8 [false, false] [(gv x3 0), t33] w fun t34 w =>
  biT P .len #[T.sl_uint8] T.int [false] [t23] w fun t37 w =>
  binT P .add T.int (.tmp 37) (.const (.int .i64 8)) t37 (.int .i64 8) w fun t38 w =>
  binT P .add T.int (.tmp 35) (.tmp 38) (gv x3 1) t38 w fun t39 w =>
  K1 [t23, t24, t25, t34, t39, (gv x3 2)] w
def M.frame_All.j2 (a0 : Value) (x1 : List Value) (K1 : KL) (w : World) (K : KV) : Prop :=
  biT P .len #[T.sl_uint8] T.int [false] [a0] w fun t16 w =>
  binT P .add T.int (.tmp 17) (.const (.int .i64 8192)) (gv x1 4) (.int .i64 8192) w fun t18 w =>
  binT P .add T.int (.tmp 18) (.const (.int .i64 8)) t18 (.int .i64 8) w fun t19 w =>
  biT P .min #[T.int, T.int] T.int [false, false] [t16, t19] w fun t20 w =>
  slT P T.sl_uint8 a0 (some (gv x1 4)) (some t20) none w fun t21 w =>
  fcallT P F.frame_Cut [t21] w fun t22 w =>
  exT P t22 0 w fun t23 w =>
  exT P t22 1 w fun t24 w =>
  exT P t22 2 w fun t25 w =>
  joinT (fun K3 =>
  binT P .neq T.api_Kind (.tmp 26) (.const (.int .i64 0)) t25 (.int .i64 0) w fun t27 w =>
  condT t27 (
  K (.tuple #[(gv x1 3), (gv x1 4), t25]) w) (
  K3 [(gv x1 3), (gv x1 4), (gv x1 5)] w)) fun x3 w =>
  M.frame_All.j3 t23 x3 K1 t24 t25 w K
def M.frame_All.j1 (a0 : Value) (x1 : List Value) (K0 : KL) (K1 : KL) (w : World) (K : KV) : Prop :=
  joinT (fun K2 =>
  biT P .len #[T.sl_uint8] T.int [false] [a0] w fun t10 w =>
  binT P .lss T.int (.tmp 8) (.tmp 10) (gv x1 4) t10 w fun t11 w =>
  condT t11 (
  K2 [] w) (
  K0 [(gv x1 0), (gv x1 1), (gv x1 2), (gv x1 3), (gv x1 4), (gv x1 5)] w)) fun x2 w =>
  M.frame_All.j2 a0 x1 K1 w K
/-- winnow/frame.All -/
def M.frame_All (a0 : Value) (w : World) (K : KV) : Prop :=
  joinT (fun K0 =>
  loopT [undef, undef, undef, (.slice none 0 0), (.int .i64 0), (.int .i64 0)] w fun K1 x1 w =>
  M.frame_All.j1 a0 x1 K0 K1 w K) fun x0 w =>
  K (.tuple #[(gv x0 3), (gv x0 4), (.int .i64 0)]) w
def M.frame_All.L : List Nat := [0, 2, 3, 4, 5, 6, 7]
def M.frame_All.pl : Nat → Plan := fun id => ⟨.nil, [], false, []⟩
theorem M.frame_All.eq (a0 : Value) (w : World) (K : KV) : M.frame_All a0 w K = den P M.frame_All.L M.frame_All.pl (Try.f119.body.getD .skip) (argE [a0]) w (bodyQ P Try.f119.results.toList K) := by kernel_rfl
theorem M.frame_All.ok : okFn M.frame_All.L M.frame_All.pl Try.f119 (Try.f119.body.getD .skip) 1 = true := by kernel_rfl
theorem M.frame_All.calls (a0 : Value) {w : World} {K : KV} (h : M.frame_All a0 w K) : callT P F.frame_All [a0] w K :=
  callT_of_den (by kernel_rfl) Try.func119 (by kernel_rfl) M.frame_All.ok (M.frame_All.eq a0 w K ▸ h)
theorem M.frame_All.fcall (args : List Value) (w : World) (K : KV) : fcallT P F.frame_All args w K = callT P F.frame_All args w K := fcallT_eq Try.func119 (by kernel_rfl) (by kernel_rfl) args w K
theorem M.frame_All.rcall (a c args : List Value) (w : World) (K : KV) : callRT P (.func (.func F.frame_All) a.toArray c.toArray) args w K = callT P F.frame_All (a ++ args ++ c) w K := callR_fn Try.func119 (by kernel_rfl) (by kernel_rfl) a c args w K

def M.num_U64.j2 (t6 : Value) (x1 : List Value) (K1 : KL) (w : World) (K : KV) : Prop :=
  joinT (fun K3 =>
  iaT P T.sl_uint8 t6 (gv x1 2) w fun t10 w =>
  ldT P T.uint8 t10 w fun t11 w =>
  binT P .shl T.uint64 (.tmp 12) (.const (.int .u64 8)) (gv x1 1) (.int .u64 8) w fun t13 w =>
  cvT P T.uint8 T.uint64 t11 w fun t15 w =>
  binT P .or T.uint64 (.tmp 13) (.tmp 15) t13 t15 w fun t16 w =>
  K3 [t11, t16] w) fun x3 w =>
  binT P .add T.int (.tmp 8) (.const (.int .i64 1)) (gv x1 2) (.int .i64 1) w fun t17 w =>
  K1 [(gv x3 0), (gv x3 1), t17] w
/-- winnow/num.U64 -/
def M.num_U64 (a0 : Value) (w : World) (K : KV) : Prop :=
  joinT (fun K0 =>
  slT P T.sl_uint8 a0 none (some (.int .i64 8)) none w fun t6 w =>
  biT P .len #[T.sl_uint8] T.int [false] [t6] w fun t7 w =>
  loopT [undef, (.int .u64 0), (.int .i64 0)] w fun K1 x1 w =>
  binT P .lss T.int (.tmp 8) (.tmp 7) (gv x1 2) t7 w fun t9 w =>
  joinT (fun K2 =>
  condT t9 (
  K2 [] w) (
  K0 [t6, t7, (gv x1 2), (gv x1 0), (gv x1 1)] w)) fun x2 w =>
  M.num_U64.j2 t6 x1 K1 w K) fun x0 w =>
  K (gv x0 4) w
def M.num_U64.L : List Nat := [0, 2, 4, 8, 7, 6]
def M.num_U64.pl : Nat → Plan := fun id => ⟨.nil, [], false, []⟩
theorem M.num_U64.eq (a0 : Value) (w : World) (K : KV) : M.num_U64 a0 w K = den P M.num_U64.L M.num_U64.pl (Try.f120.body.getD .skip) (argE [a0]) w (bodyQ P Try.f120.results.toList K) := by kernel_rfl
theorem M.num_U64.ok : okFn M.num_U64.L M.num_U64.pl Try.f120 (Try.f120.body.getD .skip) 1 = true := by kernel_rfl
theorem M.num_U64.calls (a0 : Value) {w : World} {K : KV} (h : M.num_U64 a0 w K) : callT P F.num_U64 [a0] w K :=
  callT_of_den (by kernel_rfl) Try.func120 (by kernel_rfl) M.num_U64.ok (M.num_U64.eq a0 w K ▸ h)
theorem M.num_U64.fcall (args : List Value) (w : World) (K : KV) : fcallT P F.num_U64 args w K = callT P F.num_U64 args w K := fcallT_eq Try.func120 (by kernel_rfl) (by kernel_rfl) args w K
theorem M.num_U64.rcall (a c args : List Value) (w : World) (K : KV) : callRT P (.func (.func F.num_U64) a.toArray c.toArray) args w K = callT P F.num_U64 (a ++ args ++ c) w K := callR_fn Try.func120 (by kernel_rfl) (by kernel_rfl) a c args w K

def M.num_Put32.j2 (x1 : List Value) (K1 : KL) (w : World) (K : KV) : Prop :=
  joinT (fun K3 =>
  cvT P T.uint32 T.uint8 (gv x1 1) w fun t9 w =>
  bsT P T.sl_uint8 1 #[(0, t9)] w fun t10 w =>
  biT P .append #[T.sl_uint8, T.sl_uint8] T.sl_uint8 [false, false] [(gv x1 0), t10] w fun t11 w =>
  binT P .shr T.uint32 (.tmp 12) (.const (.int .u64 8)) (gv x1 1) (.int .u64 8) w fun t13 w =>
  K3 [t11, t13] w) fun x3 w =>
  binT P .add T.int (.tmp 5) (.const (.int .i64 1)) (gv x1 2) (.int .i64 1) w fun t14 w =>
  K1 [(gv x3 0), (gv x3 1), t14] w
/-- winnow/num.Put32 -/
def M.num_Put32 (a0 a1 : Value) (w : World) (K : KV) : Prop :=
  joinT (fun K0 =>
  loopT [a0, a1, (.int .i64 0)] w fun K1 x1 w =>
  binT P .lss T.int (.tmp 5) (.const (.int .i64 4)) (gv x1 2) (.int .i64 4) w fun t6 w =>
  joinT (fun K2 =>
  condT t6 (
  K2 [] w) (
  K0 [(gv x1 2), (gv x1 0), (gv x1 1)] w)) fun x2 w =>
  M.num_Put32.j2 x1 K1 w K) fun x0 w =>
  K (gv x0 1) w
def M.num_Put32.L : List Nat := [0, 1, 4, 5]
def M.num_Put32.pl : Nat → Plan := fun id => ⟨.nil, [], false, []⟩
theorem M.num_Put32.eq (a0 a1 : Value) (w : World) (K : KV) : M.num_Put32 a0 a1 w K = den P M.num_Put32.L M.num_Put32.pl (Try.f121.body.getD .skip) (argE [a0, a1]) w (bodyQ P Try.f121.results.toList K) := by kernel_rfl
theorem M.num_Put32.ok : okFn M.num_Put32.L M.num_Put32.pl Try.f121 (Try.f121.body.getD .skip) 2 = true := by kernel_rfl
theorem M.num_Put32.calls (a0 a1 : Value) {w : World} {K : KV} (h : M.num_Put32 a0 a1 w K) : callT P F.num_Put32 [a0, a1] w K :=
  callT_of_den (by kernel_rfl) Try.func121 (by kernel_rfl) M.num_Put32.ok (M.num_Put32.eq a0 a1 w K ▸ h)
theorem M.num_Put32.fcall (args : List Value) (w : World) (K : KV) : fcallT P F.num_Put32 args w K = callT P F.num_Put32 args w K := fcallT_eq Try.func121 (by kernel_rfl) (by kernel_rfl) args w K
theorem M.num_Put32.rcall (a c args : List Value) (w : World) (K : KV) : callRT P (.func (.func F.num_Put32) a.toArray c.toArray) args w K = callT P F.num_Put32 (a ++ args ++ c) w K := callR_fn Try.func121 (by kernel_rfl) (by kernel_rfl) a c args w K

/-- winnow/crc.Sum -/
def M.crc_Sum (a0 : Value) (w : World) (K : KV) : Prop :=
  fcallT P F.crc_More [(.int .u32 0), a0] w fun t4 w =>
  K t4 w
def M.crc_Sum.L : List Nat := [0, 2]
def M.crc_Sum.pl : Nat → Plan := fun id => ⟨.nil, [], false, []⟩
theorem M.crc_Sum.eq (a0 : Value) (w : World) (K : KV) : M.crc_Sum a0 w K = den P M.crc_Sum.L M.crc_Sum.pl (Try.f122.body.getD .skip) (argE [a0]) w (bodyQ P Try.f122.results.toList K) := by kernel_rfl
theorem M.crc_Sum.ok : okFn M.crc_Sum.L M.crc_Sum.pl Try.f122 (Try.f122.body.getD .skip) 1 = true := by kernel_rfl
theorem M.crc_Sum.calls (a0 : Value) {w : World} {K : KV} (h : M.crc_Sum a0 w K) : callT P F.crc_Sum [a0] w K :=
  callT_of_den (by kernel_rfl) Try.func122 (by kernel_rfl) M.crc_Sum.ok (M.crc_Sum.eq a0 w K ▸ h)
theorem M.crc_Sum.fcall (args : List Value) (w : World) (K : KV) : fcallT P F.crc_Sum args w K = callT P F.crc_Sum args w K := fcallT_eq Try.func122 (by kernel_rfl) (by kernel_rfl) args w K
theorem M.crc_Sum.rcall (a c args : List Value) (w : World) (K : KV) : callRT P (.func (.func F.crc_Sum) a.toArray c.toArray) args w K = callT P F.crc_Sum (a ++ args ++ c) w K := callR_fn Try.func122 (by kernel_rfl) (by kernel_rfl) a c args w K

def M.num_Put64.j2 (x1 : List Value) (a1 : Value) (K1 : KL) (w : World) (K : KV) : Prop :=
  joinT (fun K3 =>
  cvT P T.int T.uint (gv x1 1) w fun t13 w =>
  binT P .shr T.uint64 (.tmp 11) (.tmp 13) a1 t13 w fun t14 w =>
  cvT P T.uint64 T.uint8 t14 w fun t15 w =>
  bsT P T.sl_uint8 1 #[(0, t15)] w fun t16 w =>
  biT P .append #[T.sl_uint8, T.sl_uint8] T.sl_uint8 [false, false] [(gv x1 0), t16] w fun t17 w =>
  K3 [t17] w) fun x3 w =>
  binT P .sub T.int (.tmp 8) (.const (.int .i64 8)) (gv x1 1) (.int .i64 8) w fun t9 w =>
  K1 [(gv x3 0), t9] w
/-- winnow/num.Put64 -/
def M.num_Put64 (a0 a1 : Value) (w : World) (K : KV) : Prop :=
  joinT (fun K0 =>
  loopT [a0, (.int .i64 56)] w fun K1 x1 w =>
  joinT (fun K2 =>
  binT P .geq T.int (.tmp 6) (.const (.int .i64 0)) (gv x1 1) (.int .i64 0) w fun t7 w =>
  condT t7 (
  K2 [] w) (
  K0 [(gv x1 1), (gv x1 0)] w)) fun x2 w =>
  M.num_Put64.j2 x1 a1 K1 w K) fun x0 w =>
  K (gv x0 1) w
def M.num_Put64.L : List Nat := [0, 1, 4, 5]
def M.num_Put64.pl : Nat → Plan := fun id => ⟨.nil, [], false, []⟩
theorem M.num_Put64.eq (a0 a1 : Value) (w : World) (K : KV) : M.num_Put64 a0 a1 w K = den P M.num_Put64.L M.num_Put64.pl (Try.f123.body.getD .skip) (argE [a0, a1]) w (bodyQ P Try.f123.results.toList K) := by kernel_rfl
theorem M.num_Put64.ok : okFn M.num_Put64.L M.num_Put64.pl Try.f123 (Try.f123.body.getD .skip) 2 = true := by kernel_rfl
theorem M.num_Put64.calls (a0 a1 : Value) {w : World} {K : KV} (h : M.num_Put64 a0 a1 w K) : callT P F.num_Put64 [a0, a1] w K :=
  callT_of_den (by kernel_rfl) Try.func123 (by kernel_rfl) M.num_Put64.ok (M.num_Put64.eq a0 a1 w K ▸ h)
theorem M.num_Put64.fcall (args : List Value) (w : World) (K : KV) : fcallT P F.num_Put64 args w K = callT P F.num_Put64 args w K := fcallT_eq Try.func123 (by kernel_rfl) (by kernel_rfl) args w K
theorem M.num_Put64.rcall (a c args : List Value) (w : World) (K : KV) : callRT P (.func (.func F.num_Put64) a.toArray c.toArray) args w K = callT P F.num_Put64 (a ++ args ++ c) w K := callR_fn Try.func123 (by kernel_rfl) (by kernel_rfl) a c args w K

/-- (*winnow/disk.Disk).state -/
def M.pdisk_Disk_state (a0 : Value) (w : World) (K : KV) : Prop :=
  joinT (fun K0 =>
  binT P .eql T.p_disk_Disk (.tmp 4) (.const (.pointer none)) a0 (.pointer none) w fun t5 w =>
  condT t5 (
  K (.int .i64 13) w) (
  nilT a0 w fun t8 w =>
  faT P T.disk_Disk t8 4 w fun t9 w =>
  ldT P T.bool t9 w fun t10 w =>
  condT t10 (
  K (.int .i64 10) w) (
  K0 [t5, (.int .i64 0), t10] w))) fun x0 w =>
  K (.int .i64 0) w
def M.pdisk_Disk_state.L : List Nat := [0, 2, 3, 6]
def M.pdisk_Disk_state.pl : Nat → Plan := fun id => ⟨.nil, [], false, []⟩
theorem M.pdisk_Disk_state.eq (a0 : Value) (w : World) (K : KV) : M.pdisk_Disk_state a0 w K = den P M.pdisk_Disk_state.L M.pdisk_Disk_state.pl (Try.f124.body.getD .skip) (argE [a0]) w (bodyQ P Try.f124.results.toList K) := by kernel_rfl
theorem M.pdisk_Disk_state.ok : okFn M.pdisk_Disk_state.L M.pdisk_Disk_state.pl Try.f124 (Try.f124.body.getD .skip) 1 = true := by kernel_rfl
theorem M.pdisk_Disk_state.calls (a0 : Value) {w : World} {K : KV} (h : M.pdisk_Disk_state a0 w K) : callT P F.pdisk_Disk_state [a0] w K :=
  callT_of_den (by kernel_rfl) Try.func124 (by kernel_rfl) M.pdisk_Disk_state.ok (M.pdisk_Disk_state.eq a0 w K ▸ h)
theorem M.pdisk_Disk_state.fcall (args : List Value) (w : World) (K : KV) : fcallT P F.pdisk_Disk_state args w K = callT P F.pdisk_Disk_state args w K := fcallT_eq Try.func124 (by kernel_rfl) (by kernel_rfl) args w K
theorem M.pdisk_Disk_state.rcall (a c args : List Value) (w : World) (K : KV) : callRT P (.func (.func F.pdisk_Disk_state) a.toArray c.toArray) args w K = callT P F.pdisk_Disk_state (a ++ args ++ c) w K := callR_fn Try.func124 (by kernel_rfl) (by kernel_rfl) a c args w K

def M.pdisk_Disk_Used.j2 (t7 : Value) (x1 : List Value) (a0 : Value) (K1 : KL) (w : World) (K : KV) : Prop :=
  joinT (fun K3 =>
  iaT P T.sl_int t7 (gv x1 2) w fun t11 w =>
  ldT P T.int t11 w fun t12 w =>
  drawT w fun w =>
  w = w ∧ w = w ∧ quietT (fun K' => nilT a0 w K') w fun t15 =>
  quietT (fun K' => faT P T.disk_Disk t15 1 w K') w fun t16 =>
  quietT (fun K' => ldT P T.map_int_p_disk_file t16 w K') w fun t17 =>
  w = w ∧ quietT (fun K' => luT P T.map_int_p_disk_file t17 t12 false w K') w fun t19 =>
  quietT (fun K' => nilT t19 w K') w fun t20 =>
  quietT (fun K' => faT P T.disk_file t20 0 w K') w fun t21 =>
  quietT (fun K' => ldT P T.sl_uint8 t21 w K') w fun t22 =>
  quietT (fun K' => biT P .len #[T.sl_uint8] T.int [false] [t22] w K') w fun t23 =>
  w = w ∧ quietT (fun K' => nilT a0 w K') w fun t25 =>
  quietT (fun K' => faT P T.disk_Disk t25 1 w K') w fun t26 =>
  quietT (fun K' => ldT P T.map_int_p_disk_file t26 w K') w fun t27 =>
  w = w ∧ quietT (fun K' => luT P T.map_int_p_disk_file t27 t12 false w K') w fun t29 =>
  quietT (fun K' => nilT t29 w K') w fun t30 =>
  quietT (fun K' => faT P T.disk_file t30 1 w K') w fun t31 =>
  quietT (fun K' => ldT P T.sl_uint8 t31 w K') w fun t32 =>
  quietT (fun K' => biT P .len #[T.sl_uint8] T.int [false] [t32] w K') w fun t33 =>
  quietT (fun K' => binT P .add T.int (.tmp 23) (.tmp 33) t23 t33 w K') w fun t34 =>
  quietT (fun K' => binT P .add T.int (.tmp 13) (.tmp 34) (gv x1 1) t34 w K') w fun t35 =>
  K3 [t12, t35] w) fun x3 w =>
  binT P .add T.int (.tmp 9) (.const (.int .i64 1)) (gv x1 2) (.int .i64 1) w fun t36 w =>
  K1 [(gv x3 0), (gv x3 1), t36] w
/-- (*winnow/disk.Disk).Used -/
def M.pdisk_Disk_Used (a0 : Value) (w : World) (K : KV) : Prop :=
  joinT (fun K0 =>
  fcallT P F.pdisk_Disk_Files [a0] w fun t7 w =>
  biT P .len #[T.sl_int] T.int [false] [t7] w fun t8 w =>
  loopT [undef, (.int .i64 0), (.int .i64 0)] w fun K1 x1 w =>
  binT P .lss T.int (.tmp 9) (.tmp 8) (gv x1 2) t8 w fun t10 w =>
  joinT (fun K2 =>
  condT t10 (
  K2 [] w) (
  K0 [t7, t8, (gv x1 2), (gv x1 0), (gv x1 1)] w)) fun x2 w =>
  M.pdisk_Disk_Used.j2 t7 x1 a0 K1 w K) fun x0 w =>
  K (gv x0 4) w
def M.pdisk_Disk_Used.L : List Nat := [0, 2, 3, 5, 9, 8, 7]
def M.pdisk_Disk_Used.pl : Nat → Plan := fun id => cond (Nat.beq id 5) ⟨(.go 0 (.go 1 (.go 2 (.go 3 (.go 4 (.go 5 (.go 6 (.go 7 (.go 8 (.go 9 (.go 10 (.go 11 (.go 12 (.go 13 (.go 14 (.go 15 (.go 16 (.go 17 (.go 18 (.go 19 (.go 20 (.go 21 (.go 22 (.eff 23 .nil .stop)))))))))))))))))))))))), [23], false, [0, 0, 2, 6, 14, 0, 62, 126, 254, 510, 1022, 0, 2048, 6144, 14336, 0, 63488, 129024, 260096, 522240, 1046528, 2097150, 4194303, 8388607]⟩ (⟨.nil, [], false, []⟩)
theorem M.pdisk_Disk_Used.eq (a0 : Value) (w : World) (K : KV) : M.pdisk_Disk_Used a0 w K = den P M.pdisk_Disk_Used.L M.pdisk_Disk_Used.pl (Try.f125.body.getD .skip) (argE [a0]) w (bodyQ P Try.f125.results.toList K) := by kernel_rfl
theorem M.pdisk_Disk_Used.ok : okFn M.pdisk_Disk_Used.L M.pdisk_Disk_Used.pl Try.f125 (Try.f125.body.getD .skip) 1 = true := by kernel_rfl
theorem M.pdisk_Disk_Used.calls (a0 : Value) {w : World} {K : KV} (h : M.pdisk_Disk_Used a0 w K) : callT P F.pdisk_Disk_Used [a0] w K :=
  callT_of_den (by kernel_rfl) Try.func125 (by kernel_rfl) M.pdisk_Disk_Used.ok (M.pdisk_Disk_Used.eq a0 w K ▸ h)
theorem M.pdisk_Disk_Used.fcall (args : List Value) (w : World) (K : KV) : fcallT P F.pdisk_Disk_Used args w K = callT P F.pdisk_Disk_Used args w K := fcallT_eq Try.func125 (by kernel_rfl) (by kernel_rfl) args w K
theorem M.pdisk_Disk_Used.rcall (a c args : List Value) (w : World) (K : KV) : callRT P (.func (.func F.pdisk_Disk_Used) a.toArray c.toArray) args w K = callT P F.pdisk_Disk_Used (a ++ args ++ c) w K := callR_fn Try.func125 (by kernel_rfl) (by kernel_rfl) a c args w K

def M.slices_Grow_byte_byte.j0 (a0 : Value) (a1 : Value) (w : World) (K : KV) : Prop :=
  joinT (fun K1 =>
  biT P .cap #[T.sl_uint8] T.int [false] [a0] w fun t10 w =>
  biT P .len #[T.sl_uint8] T.int [false] [a0] w fun t12 w =>
  binT P .sub T.int (.tmp 10) (.tmp 12) t10 t12 w fun t13 w =>
  binT P .sub T.int (.tmp 8) (.tmp 13) a1 t13 w fun t14 w =>
  binT P .gtr T.int (.tmp 15) (.const (.int .i64 0)) t14 (.int .i64 0) w fun t16 w =>
  condT t16 (
  biT P .cap #[T.sl_uint8] T.int [false] [a0] w fun t19 w =>
  slT P T.sl_uint8 a0 none (some t19) none w fun t20 w =>
  biT P .append #[T.sl_uint8, T.int] T.sl_uint8 [false, false] [t20, t14] w fun t22 w =>
  biT P .len #[T.sl_uint8] T.int [false] [a0] w fun t24 w =>
  slT P T.sl_uint8 t22 none (some t24) none w fun t25 w =>
  K1 [t14, t25] w) (
  K1 [t14, a0] w)) fun x1 w =>
  K (gv x1 1) w
/-- slices.Grow[[]byte,byte] -/
def M.slices_Grow_byte_byte (a0 a1 : Value) (w : World) (K : KV) : Prop :=
  joinT (fun K0 =>
  binT P .lss T.int (.tmp 5) (.const (.int .i64 0)) a1 (.int .i64 0) w fun t6 w =>
  condT t6 (
  mkiT P T.string (.string ⟨#[99, 97, 110, 110, 111, 116, 32, 98, 101, 32, 110, 101, 103, 97, 116, 105, 118, 101]⟩) w fun t7 w =>
  panicT w fun _ w =>
  K0 [] w) (
  K0 [] w)) fun x0 w =>
  M.slices_Grow_byte_byte.j0 a0 a1 w K
def M.slices_Grow_byte_byte.L : List Nat := [0, 1, 4]
def M.slices_Grow_byte_byte.pl : Nat → Plan := fun id => ⟨.nil, [], false, []⟩
theorem M.slices_Grow_byte_byte.eq (a0 a1 : Value) (w : World) (K : KV) : M.slices_Grow_byte_byte a0 a1 w K = den P M.slices_Grow_byte_byte.L M.slices_Grow_byte_byte.pl (Try.f126.body.getD .skip) (argE [a0, a1]) w (bodyQ P Try.f126.results.toList K) := by kernel_rfl
theorem M.slices_Grow_byte_byte.ok : okFn M.slices_Grow_byte_byte.L M.slices_Grow_byte_byte.pl Try.f126 (Try.f126.body.getD .skip) 2 = true := by kernel_rfl
theorem M.slices_Grow_byte_byte.calls (a0 a1 : Value) {w : World} {K : KV} (h : M.slices_Grow_byte_byte a0 a1 w K) : callT P F.slices_Grow_byte_byte [a0, a1] w K :=
  callT_of_den (by kernel_rfl) Try.func126 (by kernel_rfl) M.slices_Grow_byte_byte.ok (M.slices_Grow_byte_byte.eq a0 a1 w K ▸ h)
theorem M.slices_Grow_byte_byte.fcall (args : List Value) (w : World) (K : KV) : fcallT P F.slices_Grow_byte_byte args w K = callT P F.slices_Grow_byte_byte args w K := fcallT_eq Try.func126 (by kernel_rfl) (by kernel_rfl) args w K
theorem M.slices_Grow_byte_byte.rcall (a c args : List Value) (w : World) (K : KV) : callRT P (.func (.func F.slices_Grow_byte_byte) a.toArray c.toArray) args w K = callT P F.slices_Grow_byte_byte (a ++ args ++ c) w K := callR_fn Try.func126 (by kernel_rfl) (by kernel_rfl) a c args w K

/-- cmp.isNaN[int] -/
def M.cmp_isNaN_int (a0 : Value) (w : World) (K : KV) : Prop :=
  binT P .neq T.int (.tmp 3) (.tmp 4) a0 a0 w fun t5 w =>
  K t5 w
def M.cmp_isNaN_int.L : List Nat := [0, 2]
def M.cmp_isNaN_int.pl : Nat → Plan := fun id => ⟨.nil, [], false, []⟩
theorem M.cmp_isNaN_int.eq (a0 : Value) (w : World) (K : KV) : M.cmp_isNaN_int a0 w K = den P M.cmp_isNaN_int.L M.cmp_isNaN_int.pl (Try.f134.body.getD .skip) (argE [a0]) w (bodyQ P Try.f134.results.toList K) := by kernel_rfl
theorem M.cmp_isNaN_int.ok : okFn M.cmp_isNaN_int.L M.cmp_isNaN_int.pl Try.f134 (Try.f134.body.getD .skip) 1 = true := by kernel_rfl
theorem M.cmp_isNaN_int.calls (a0 : Value) {w : World} {K : KV} (h : M.cmp_isNaN_int a0 w K) : callT P F.cmp_isNaN_int [a0] w K :=
  callT_of_den (by kernel_rfl) Try.func134 (by kernel_rfl) M.cmp_isNaN_int.ok (M.cmp_isNaN_int.eq a0 w K ▸ h)
theorem M.cmp_isNaN_int.fcall (args : List Value) (w : World) (K : KV) : fcallT P F.cmp_isNaN_int args w K = callT P F.cmp_isNaN_int args w K := fcallT_eq Try.func134 (by kernel_rfl) (by kernel_rfl) args w K
theorem M.cmp_isNaN_int.rcall (a c args : List Value) (w : World) (K : KV) : callRT P (.func (.func F.cmp_isNaN_int) a.toArray c.toArray) args w K = callT P F.cmp_isNaN_int (a ++ args ++ c) w K := callR_fn Try.func134 (by kernel_rfl) (by kernel_rfl) a c args w K

/-- math/bits.Len -/
def M.math_bits_Len (a0 : Value) (w : World) (K : KV) : Prop :=
  joinT (fun K0 =>
  condT (.bool false) (
  cvT P T.uint T.uint32 a0 w fun t4 w =>
  fcallT P F.math_bits_Len32 [t4] w fun t5 w =>
  K t5 w) (
  K0 [(.int .i64 0)] w)) fun x0 w =>
  fcallT P F.math_bits_Len64 [a0] w fun t7 w =>
  K t7 w
def M.math_bits_Len.L : List Nat := [0, 2]
def M.math_bits_Len.pl : Nat → Plan := fun id => ⟨.nil, [], false, []⟩
theorem M.math_bits_Len.eq (a0 : Value) (w : World) (K : KV) : M.math_bits_Len a0 w K = den P M.math_bits_Len.L M.math_bits_Len.pl (Try.f141.body.getD .skip) (argE [a0]) w (bodyQ P Try.f141.results.toList K) := by kernel_rfl
theorem M.math_bits_Len.ok : okFn M.math_bits_Len.L M.math_bits_Len.pl Try.f141 (Try.f141.body.getD .skip) 1 = true := by kernel_rfl
theorem M.math_bits_Len.calls (a0 : Value) {w : World} {K : KV} (h : M.math_bits_Len a0 w K) : callT P F.math_bits_Len [a0] w K :=
  callT_of_den (by kernel_rfl) Try.func141 (by kernel_rfl) M.math_bits_Len.ok (M.math_bits_Len.eq a0 w K ▸ h)
theorem M.math_bits_Len.fcall (args : List Value) (w : World) (K : KV) : fcallT P F.math_bits_Len args w K = callT P F.math_bits_Len args w K := fcallT_eq Try.func141 (by kernel_rfl) (by kernel_rfl) args w K
theorem M.math_bits_Len.rcall (a c args : List Value) (w : World) (K : KV) : callRT P (.func (.func F.math_bits_Len) a.toArray c.toArray) args w K = callT P F.math_bits_Len (a ++ args ++ c) w K := callR_fn Try.func141 (by kernel_rfl) (by kernel_rfl) a c args w K

def M.slices_Index_int_int.j2 (a0 : Value) (x1 : List Value) (a1 : Value) (K1 : KL) (w : World) (K : KV) : Prop :=
  joinT (fun K3 =>
  iaT P T.sl_int a0 (gv x1 2) w fun t14 w =>
  ldT P T.int t14 w fun t15 w =>
  binT P .eql T.int (.tmp 11) (.tmp 15) a1 t15 w fun t16 w =>
  condT t16 (
  K (gv x1 2) w) (
  K3 [(gv x1 2), (gv x1 1)] w)) fun x3 w =>
  binT P .add T.int (.tmp 8) (.const (.int .i64 1)) (gv x1 2) (.int .i64 1) w fun t18 w =>
  K1 [(gv x3 0), (gv x3 1), t18] w
/-- slices.Index[[]int,int] -/
def M.slices_Index_int_int (a0 a1 : Value) (w : World) (K : KV) : Prop :=
  joinT (fun K0 =>
  biT P .len #[T.sl_int] T.int [false] [a0] w fun t7 w =>
  loopT [undef, (.int .i64 0), (.int .i64 0)] w fun K1 x1 w =>
  binT P .lss T.int (.tmp 8) (.tmp 7) (gv x1 2) t7 w fun t9 w =>
  joinT (fun K2 =>
  condT t9 (
  K2 [] w) (
  K0 [t7, (gv x1 2), (gv x1 0), (gv x1 1)] w)) fun x2 w =>
  M.slices_Index_int_int.j2 a0 x1 a1 K1 w K) fun x0 w =>
  K (.int .i64 (-1)) w
def M.slices_Index_int_int.L : List Nat := [0, 1, 4, 5, 8, 7]
def M.slices_Index_int_int.pl : Nat → Plan := fun id => ⟨.nil, [], false, []⟩
theorem M.slices_Index_int_int.eq (a0 a1 : Value) (w : World) (K : KV) : M.slices_Index_int_int a0 a1 w K = den P M.slices_Index_int_int.L M.slices_Index_int_int.pl (Try.f142.body.getD .skip) (argE [a0, a1]) w (bodyQ P Try.f142.results.toList K) := by kernel_rfl
theorem M.slices_Index_int_int.ok : okFn M.slices_Index_int_int.L M.slices_Index_int_int.pl Try.f142 (Try.f142.body.getD .skip) 2 = true := by kernel_rfl
theorem M.slices_Index_int_int.calls (a0 a1 : Value) {w : World} {K : KV} (h : M.slices_Index_int_int a0 a1 w K) : callT P F.slices_Index_int_int [a0, a1] w K :=
  callT_of_den (by kernel_rfl) Try.func142 (by kernel_rfl) M.slices_Index_int_int.ok (M.slices_Index_int_int.eq a0 a1 w K ▸ h)
theorem M.slices_Index_int_int.fcall (args : List Value) (w : World) (K : KV) : fcallT P F.slices_Index_int_int args w K = callT P F.slices_Index_int_int args w K := fcallT_eq Try.func142 (by kernel_rfl) (by kernel_rfl) args w K
theorem M.slices_Index_int_int.rcall (a c args : List Value) (w : World) (K : KV) : callRT P (.func (.func F.slices_Index_int_int) a.toArray c.toArray) args w K = callT P F.slices_Index_int_int (a ++ args ++ c) w K := callR_fn Try.func142 (by kernel_rfl) (by kernel_rfl) a c args w K

def M.slices_Grow_int_int.j0 (a0 : Value) (a1 : Value) (w : World) (K : KV) : Prop :=
  joinT (fun K1 =>
  biT P .cap #[T.sl_int] T.int [false] [a0] w fun t10 w =>
  biT P .len #[T.sl_int] T.int [false] [a0] w fun t12 w =>
  binT P .sub T.int (.tmp 10) (.tmp 12) t10 t12 w fun t13 w =>
  binT P .sub T.int (.tmp 8) (.tmp 13) a1 t13 w fun t14 w =>
  binT P .gtr T.int (.tmp 15) (.const (.int .i64 0)) t14 (.int .i64 0) w fun t16 w =>
  condT t16 (
  biT P .cap #[T.sl_int] T.int [false] [a0] w fun t19 w =>
  slT P T.sl_int a0 none (some t19) none w fun t20 w =>
  biT P .append #[T.sl_int, T.int] T.sl_int [false, false] [t20, t14] w fun t22 w =>
  biT P .len #[T.sl_int] T.int [false] [a0] w fun t24 w =>
  slT P T.sl_int t22 none (some t24) none w fun t25 w =>
  K1 [t14, t25] w) (
  K1 [t14, a0] w)) fun x1 w =>
  K (gv x1 1) w
/-- slices.Grow[[]int,int] -/
def M.slices_Grow_int_int (a0 a1 : Value) (w : World) (K : KV) : Prop :=
  joinT (fun K0 =>
  binT P .lss T.int (.tmp 5) (.const (.int .i64 0)) a1 (.int .i64 0) w fun t6 w =>
  condT t6 (
  mkiT P T.string (.string ⟨#[99, 97, 110, 110, 111, 116, 32, 98, 101, 32, 110, 101, 103, 97, 116, 105, 118, 101]⟩) w fun t7 w =>
  panicT w fun _ w =>
  K0 [] w) (
  K0 [] w)) fun x0 w =>
  M.slices_Grow_int_int.j0 a0 a1 w K
def M.slices_Grow_int_int.L : List Nat := [0, 1, 4]
def M.slices_Grow_int_int.pl : Nat → Plan := fun id => ⟨.nil, [], false, []⟩
theorem M.slices_Grow_int_int.eq (a0 a1 : Value) (w : World) (K : KV) : M.slices_Grow_int_int a0 a1 w K = den P M.slices_Grow_int_int.L M.slices_Grow_int_int.pl (Try.f143.body.getD .skip) (argE [a0, a1]) w (bodyQ P Try.f143.results.toList K) := by kernel_rfl
theorem M.slices_Grow_int_int.ok : okFn M.slices_Grow_int_int.L M.slices_Grow_int_int.pl Try.f143 (Try.f143.body.getD .skip) 2 = true := by kernel_rfl
theorem M.slices_Grow_int_int.calls (a0 a1 : Value) {w : World} {K : KV} (h : M.slices_Grow_int_int a0 a1 w K) : callT P F.slices_Grow_int_int [a0, a1] w K :=
  callT_of_den (by kernel_rfl) Try.func143 (by kernel_rfl) M.slices_Grow_int_int.ok (M.slices_Grow_int_int.eq a0 a1 w K ▸ h)
theorem M.slices_Grow_int_int.fcall (args : List Value) (w : World) (K : KV) : fcallT P F.slices_Grow_int_int args w K = callT P F.slices_Grow_int_int args w K := fcallT_eq Try.func143 (by kernel_rfl) (by kernel_rfl) args w K
theorem M.slices_Grow_int_int.rcall (a c args : List Value) (w : World) (K : KV) : callRT P (.func (.func F.slices_Grow_int_int) a.toArray c.toArray) args w K = callT P F.slices_Grow_int_int (a ++ args ++ c) w K := callR_fn Try.func143 (by kernel_rfl) (by kernel_rfl) a c args w K

/-- slices.Collect[int] -/
def M.slices_Collect_int (a0 : Value) (w : World) (K : KV) : Prop :=
  fcallT P F.slices_AppendSeq_int_int [(.slice none 0 0), a0] w fun t4 w =>
  K t4 w
def M.slices_Collect_int.L : List Nat := [0, 2]
def M.slices_Collect_int.pl : Nat → Plan := fun id => ⟨.nil, [], false, []⟩
theorem M.slices_Collect_int.eq (a0 : Value) (w : World) (K : KV) : M.slices_Collect_int a0 w K = den P M.slices_Collect_int.L M.slices_Collect_int.pl (Try.f144.body.getD .skip) (argE [a0]) w (bodyQ P Try.f144.results.toList K) := by kernel_rfl
theorem M.slices_Collect_int.ok : okFn M.slices_Collect_int.L M.slices_Collect_int.pl Try.f144 (Try.f144.body.getD .skip) 1 = true := by kernel_rfl
theorem M.slices_Collect_int.calls (a0 : Value) {w : World} {K : KV} (h : M.slices_Collect_int a0 w K) : callT P F.slices_Collect_int [a0] w K :=
  callT_of_den (by kernel_rfl) Try.func144 (by kernel_rfl) M.slices_Collect_int.ok (M.slices_Collect_int.eq a0 w K ▸ h)
theorem M.slices_Collect_int.fcall (args : List Value) (w : World) (K : KV) : fcallT P F.slices_Collect_int args w K = callT P F.slices_Collect_int args w K := fcallT_eq Try.func144 (by kernel_rfl) (by kernel_rfl) args w K
theorem M.slices_Collect_int.rcall (a c args : List Value) (w : World) (K : KV) : callRT P (.func (.func F.slices_Collect_int) a.toArray c.toArray) args w K = callT P F.slices_Collect_int (a ++ args ++ c) w K := callR_fn Try.func144 (by kernel_rfl) (by kernel_rfl) a c args w K

/-- slices.Sort[[]int,int] -/
def M.slices_Sort_int_int (a0 : Value) (w : World) (K : KV) : Prop :=
  biT P .len #[T.sl_int] T.int [false] [a0] w fun t4 w =>
  cvT P T.int T.uint t4 w fun t8 w =>
  fcallT P F.math_bits_Len [t8] w fun t9 w =>
  fcallT P F.slices_pdqsortOrdered_int [a0, (.int .i64 0), t4, t9] w fun t10 w =>
  K (.tuple #[]) w
def M.slices_Sort_int_int.L : List Nat := [0, 2]
def M.slices_Sort_int_int.pl : Nat → Plan := fun id => ⟨.nil, [], false, []⟩
theorem M.slices_Sort_int_int.eq (a0 : Value) (w : World) (K : KV) : M.slices_Sort_int_int a0 w K = den P M.slices_Sort_int_int.L M.slices_Sort_int_int.pl (Try.f145.body.getD .skip) (argE [a0]) w (bodyQ P Try.f145.results.toList K) := by kernel_rfl
theorem M.slices_Sort_int_int.ok : okFn M.slices_Sort_int_int.L M.slices_Sort_int_int.pl Try.f145 (Try.f145.body.getD .skip) 1 = true := by kernel_rfl
theorem M.slices_Sort_int_int.calls (a0 : Value) {w : World} {K : KV} (h : M.slices_Sort_int_int a0 w K) : callT P F.slices_Sort_int_int [a0] w K :=
  callT_of_den (by kernel_rfl) Try.func145 (by kernel_rfl) M.slices_Sort_int_int.ok (M.slices_Sort_int_int.eq a0 w K ▸ h)
theorem M.slices_Sort_int_int.fcall (args : List Value) (w : World) (K : KV) : fcallT P F.slices_Sort_int_int args w K = callT P F.slices_Sort_int_int args w K := fcallT_eq Try.func145 (by kernel_rfl) (by kernel_rfl) args w K
theorem M.slices_Sort_int_int.rcall (a c args : List Value) (w : World) (K : KV) : callRT P (.func (.func F.slices_Sort_int_int) a.toArray c.toArray) args w K = callT P F.slices_Sort_int_int (a ++ args ++ c) w K := callR_fn Try.func145 (by kernel_rfl) (by kernel_rfl) a c args w K

def M.maps_Keys_map_int_disk_file_int_disk_file_1.j0 (t5 : Value) (a0 : Value) (K0 : KL) (w : World) (K : KV) : Prop :=
  nxT P t5 false T._ w fun t6 w =>
  exT P t6 0 w fun t7 w =>
  joinT (fun K1 =>
  condT t7 (
  K1 [] w) (
  K (.tuple #[]) w)) fun x1 w =>
  enT P t5 w fun t8 w =>
  exT P t8 0 w fun t9 w =>
  callRT P a0 [t9] w fun t12 w =>
  unT P .not t12 w fun t13 w =>
  condT t13 (
  K (.tuple #[]) w) (
  K0 [t9] w)
/-- maps.Keys[map[int]*winnow/disk.file,int,*winnow/disk.file]$1 -/
def M.maps_Keys_map_int_disk_file_int_disk_file_1 (a0 a1 : Value) (w : World) (K : KV) : Prop :=
  ldT P T.map_int_p_disk_file a1 w fun t4 w =>
  rgT P T.map_int_p_disk_file t4 w fun t5 w =>
  loopT [undef] w fun K0 x0 w =>
  M.maps_Keys_map_int_disk_file_int_disk_file_1.j0 t5 a0 K0 w K
def M.maps_Keys_map_int_disk_file_int_disk_file_1.L : List Nat := [0, 1, 3, 5]
def M.maps_Keys_map_int_disk_file_int_disk_file_1.pl : Nat → Plan := fun id => ⟨.nil, [], false, []⟩
theorem M.maps_Keys_map_int_disk_file_int_disk_file_1.eq (a0 a1 : Value) (w : World) (K : KV) : M.maps_Keys_map_int_disk_file_int_disk_file_1 a0 a1 w K = den P M.maps_Keys_map_int_disk_file_int_disk_file_1.L M.maps_Keys_map_int_disk_file_int_disk_file_1.pl (Try.f146.body.getD .skip) (argE [a0, a1]) w (bodyQ P Try.f146.results.toList K) := by kernel_rfl
theorem M.maps_Keys_map_int_disk_file_int_disk_file_1.ok : okFn M.maps_Keys_map_int_disk_file_int_disk_file_1.L M.maps_Keys_map_int_disk_file_int_disk_file_1.pl Try.f146 (Try.f146.body.getD .skip) 2 = true := by kernel_rfl
theorem M.maps_Keys_map_int_disk_file_int_disk_file_1.calls (a0 a1 : Value) {w : World} {K : KV} (h : M.maps_Keys_map_int_disk_file_int_disk_file_1 a0 a1 w K) : callT P F.maps_Keys_map_int_disk_file_int_disk_file_1 [a0, a1] w K :=
  callT_of_den (by kernel_rfl) Try.func146 (by kernel_rfl) M.maps_Keys_map_int_disk_file_int_disk_file_1.ok (M.maps_Keys_map_int_disk_file_int_disk_file_1.eq a0 a1 w K ▸ h)
theorem M.maps_Keys_map_int_disk_file_int_disk_file_1.fcall (args : List Value) (w : World) (K : KV) : fcallT P F.maps_Keys_map_int_disk_file_int_disk_file_1 args w K = callT P F.maps_Keys_map_int_disk_file_int_disk_file_1 args w K := fcallT_eq Try.func146 (by kernel_rfl) (by kernel_rfl) args w K
theorem M.maps_Keys_map_int_disk_file_int_disk_file_1.rcall (a c args : List Value) (w : World) (K : KV) : callRT P (.func (.func F.maps_Keys_map_int_disk_file_int_disk_file_1) a.toArray c.toArray) args w K = callT P F.maps_Keys_map_int_disk_file_int_disk_file_1 (a ++ args ++ c) w K := callR_fn Try.func146 (by kernel_rfl) (by kernel_rfl) a c args w K

end Go.Proofs.Ytkjhekflgghbdaa
