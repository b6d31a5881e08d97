/-
  Printed by wip/Shallow.lean: functions of the program, read shallow; each is what its code does. No condition.
-/
import Derived.Test.YtgcpljghnlohbaaN
set_option maxRecDepth 1000000
namespace Go.Proofs.Ytgcpljghnlohbaa
open Go.Eng

def M.winnowlaw06_DiskPlays.j5 (a1 : Value) (x4 : List Value) (t16 : Value) (t19 : Value) (K4 : KL) (w : World) (K : KV) : Prop :=
  joinT (fun K6 =>
  iaT P T.sl_winnowlaw06_Op a1 (gv x4 1) w fun t48 w =>
  ldT P T.winnowlaw06_Op t48 w fun t49 w =>
  fcallT P F.winnowlaw06_one [t16, t19, t49] w fun t50 w =>
  unT P .not t50 w fun t51 w =>
  guardT (isB t51 false) (fun K' => K' t16 w) w fun t53 w =>
  guardT (isB t51 false) (fun K' => K' t19 w) w fun t54 w =>
  guardT (isB t51 false) (fun K' => fcallT P F.winnowlaw06_Same [t53, t54] w K') w fun t55 w =>
  guardT (isB t51 false) (fun K' => unT P .not t55 w K') w fun t56 w =>
  pickT t51 (.bool true) t56 w fun t57 w =>
  condT t57 (
  K (.bool false) w) (
  K6 [(gv x4 0)] w)) fun x6 w =>
  binT P .add T.int (.tmp 42) (.const (.int .i64 1)) (gv x4 1) (.int .i64 1) w fun t43 w =>
  K4 [(gv x6 0), t43] w
def M.winnowlaw06_DiskPlays.j4 (a1 : Value) (x4 : List Value) (K3 : KL) (t16 : Value) (t19 : Value) (K4 : KL) (w : World) (K : KV) : Prop :=
  joinT (fun K5 =>
  biT P .len #[T.sl_winnowlaw06_Op] T.int [false] [a1] w fun t40 w =>
  binT P .lss T.int (.tmp 38) (.tmp 40) (gv x4 1) t40 w fun t41 w =>
  condT t41 (
  K5 [] w) (
  K3 [(gv x4 1), (gv x4 0)] w)) fun x5 w =>
  M.winnowlaw06_DiskPlays.j5 a1 x4 t16 t19 K4 w K
def M.winnowlaw06_DiskPlays.j1 (t19 : Value) (x1 : List Value) (a1 : Value) (t16 : Value) (w : World) (K : KV) : Prop :=
  joinT (fun K2 =>
  binT P .eql T.p_winnowref06_Disk (.tmp 36) (.const (.pointer none)) t19 (.pointer none) w fun t37 w =>
  condT t37 (
  K (.bool true) w) (
  K2 [(gv x1 0)] w)) fun x2 w =>
  joinT (fun K3 =>
  loopT [(gv x2 0), (.int .i64 0)] w fun K4 x4 w =>
  M.winnowlaw06_DiskPlays.j4 a1 x4 K3 t16 t19 K4 w K) fun x3 w =>
  K (.bool true) w
def M.winnowlaw06_DiskPlays.j0 (a0 : Value) (x0 : List Value) (a1 : Value) (w : World) (K : KV) : Prop :=
  fcallT P F.disk_New [a0] w fun t15 w =>
  exT P t15 0 w fun t16 w =>
  exT P t15 1 w fun t17 w =>
  fcallT P F.winnowref06_New [a0] w fun t19 w =>
  joinT (fun K1 =>
  binT P .eql T.p_winnowref06_Disk (.tmp 20) (.const (.pointer none)) t19 (.pointer none) w fun t21 w =>
  binT P .eql T.api_Kind (.tmp 22) (.const (.int .i64 1)) t17 (.int .i64 1) w fun t23 w =>
  binT P .neq T.bool (.tmp 21) (.tmp 23) t21 t23 w fun t24 w =>
  guardT (isB t24 false) (fun K' => K' t16 w) w fun t26 w =>
  guardT (isB t24 false) (fun K' => binT P .eql T.p_disk_Disk (.tmp 26) (.const (.pointer none)) t26 (.pointer none) w K') w fun t27 w =>
  guardT (isB t24 false) (fun K' => K' t19 w) w fun t28 w =>
  guardT (isB t24 false) (fun K' => binT P .eql T.p_winnowref06_Disk (.tmp 28) (.const (.pointer none)) t28 (.pointer none) w K') w fun t29 w =>
  guardT (isB t24 false) (fun K' => binT P .neq T.bool (.tmp 27) (.tmp 29) t27 t29 w K') w fun t30 w =>
  pickT t24 (.bool true) t30 w fun t31 w =>
  guardT (isB t31 false) (fun K' => fcallT P F.winnowlaw06_alive [] w K') w fun t33 w =>
  guardT (isB t31 false) (fun K' => unT P .not t33 w K') w fun t34 w =>
  pickT t31 (.bool true) t34 w fun t35 w =>
  condT t35 (
  K (.bool false) w) (
  K1 [(gv x0 0)] w)) fun x1 w =>
  M.winnowlaw06_DiskPlays.j1 t19 x1 a1 t16 w K
/-- winnow/winnowlaw06.DiskPlays -/
def M.winnowlaw06_DiskPlays (a0 a1 : Value) (w : World) (K : KV) : Prop :=
  joinT (fun K0 =>
  fcallT P F.winnowlaw06_light [a1] w fun t10 w =>
  unT P .not t10 w fun t11 w =>
  condT t11 (
  fcallT P F.winnowlaw06_alive [] w fun t12 w =>
  K t12 w) (
  K0 [(.bool false)] w)) fun x0 w =>
  M.winnowlaw06_DiskPlays.j0 a0 x0 a1 w K
def M.winnowlaw06_DiskPlays.L : List Nat := [0, 1, 4, 5, 6, 7, 8]
def M.winnowlaw06_DiskPlays.pl : Nat → Plan := fun id => ⟨.nil, [], false⟩
theorem M.winnowlaw06_DiskPlays.eq (a0 a1 : Value) (w : World) (K : KV) : M.winnowlaw06_DiskPlays a0 a1 w K = den P M.winnowlaw06_DiskPlays.L M.winnowlaw06_DiskPlays.pl (Try.f8.body.getD .skip) (argE [a0, a1]) w (bodyQ P Try.f8.results.toList K) := by kernel_rfl
theorem M.winnowlaw06_DiskPlays.ok : okFn M.winnowlaw06_DiskPlays.L M.winnowlaw06_DiskPlays.pl Try.f8 (Try.f8.body.getD .skip) 2 = true := by kernel_rfl
theorem M.winnowlaw06_DiskPlays.calls (a0 a1 : Value) {w : World} {K : KV} (h : M.winnowlaw06_DiskPlays a0 a1 w K) : callT P F.winnowlaw06_DiskPlays [a0, a1] w K :=
  callT_of_den (by kernel_rfl) Try.func8 (by kernel_rfl) M.winnowlaw06_DiskPlays.ok (M.winnowlaw06_DiskPlays.eq a0 a1 w K ▸ h)
theorem M.winnowlaw06_DiskPlays.fcall (args : List Value) (w : World) (K : KV) : fcallT P F.winnowlaw06_DiskPlays args w K = callT P F.winnowlaw06_DiskPlays args w K := fcallT_eq Try.func8 (by kernel_rfl) (by kernel_rfl) args w K

def M.winnowlaw06_DiskNils.j0 (a1 : Value) (a0 : Value) (a2 : Value) (w : World) (K : KV) : Prop :=
  fcallT P F.pdisk_Disk_Arm [(.pointer none), a1] w fun t16 w =>
  bsT P T.sl_int 1 #[(0, a1)] w fun t19 w =>
  fcallT P F.pdisk_Disk_Crash [(.pointer none), t19] w fun t20 w =>
  fcallT P F.pdisk_Disk_Read [(.pointer none), a0] w fun t24 w =>
  exT P t24 0 w fun t25 w =>
  exT P t24 1 w fun t26 w =>
  fcallT P F.pdisk_Disk_Append [(.pointer none), a0, a2] w fun t30 w =>
  binT P .eql T.api_Kind (.tmp 30) (.const (.int .i64 13)) t30 (.int .i64 13) w fun t31 w =>
  guardT (isB t31 true) (fun K' => K' (.pointer none) w) w fun t33 w =>
  guardT (isB t31 true) (fun K' => K' a0 w) w fun t34 w =>
  guardT (isB t31 true) (fun K' => fcallT P F.pdisk_Disk_Sync [t33, t34] w K') w fun t35 w =>
  guardT (isB t31 true) (fun K' => binT P .eql T.api_Kind (.tmp 35) (.const (.int .i64 13)) t35 (.int .i64 13) w K') w fun t36 w =>
  pickT t31 t36 (.bool false) w fun t37 w =>
  guardT (isB t37 true) (fun K' => K' (.pointer none) w) w fun t39 w =>
  guardT (isB t37 true) (fun K' => K' a0 w) w fun t40 w =>
  guardT (isB t37 true) (fun K' => K' a1 w) w fun t41 w =>
  guardT (isB t37 true) (fun K' => fcallT P F.pdisk_Disk_Cut [t39, t40, t41] w K') w fun t42 w =>
  guardT (isB t37 true) (fun K' => binT P .eql T.api_Kind (.tmp 42) (.const (.int .i64 13)) t42 (.int .i64 13) w K') w fun t43 w =>
  pickT t37 t43 (.bool false) w fun t44 w =>
  guardT (isB t44 true) (fun K' => K' (.pointer none) w) w fun t46 w =>
  guardT (isB t44 true) (fun K' => K' a0 w) w fun t47 w =>
  guardT (isB t44 true) (fun K' => fcallT P F.pdisk_Disk_Remove [t46, t47] w K') w fun t48 w =>
  guardT (isB t44 true) (fun K' => binT P .eql T.api_Kind (.tmp 48) (.const (.int .i64 13)) t48 (.int .i64 13) w K') w fun t49 w =>
  pickT t44 t49 (.bool false) w fun t50 w =>
  guardT (isB t50 true) (fun K' => K' t26 w) w fun t52 w =>
  guardT (isB t50 true) (fun K' => binT P .eql T.api_Kind (.tmp 52) (.const (.int .i64 13)) t52 (.int .i64 13) w K') w fun t53 w =>
  pickT t50 t53 (.bool false) w fun t54 w =>
  guardT (isB t54 true) (fun K' => K' (.pointer none) w) w fun t56 w =>
  guardT (isB t54 true) (fun K' => fcallT P F.pdisk_Disk_Files [t56] w K') w fun t57 w =>
  guardT (isB t54 true) (fun K' => biT P .len #[T.sl_int] T.int [false] [t57] w K') w fun t58 w =>
  guardT (isB t54 true) (fun K' => K' (.pointer none) w) w fun t59 w =>
  guardT (isB t54 true) (fun K' => fcallT P F.pdisk_Disk_Used [t59] w K') w fun t60 w =>
  guardT (isB t54 true) (fun K' => binT P .add T.int (.tmp 58) (.tmp 60) t58 t60 w K') w fun t61 w =>
  guardT (isB t54 true) (fun K' => binT P .eql T.int (.tmp 61) (.const (.int .i64 0)) t61 (.int .i64 0) w K') w fun t62 w =>
  pickT t54 t62 (.bool false) w fun t63 w =>
  guardT (isB t63 true) (fun K' => K' (.pointer none) w) w fun t65 w =>
  guardT (isB t63 true) (fun K' => fcallT P F.pdisk_Disk_Down [t65] w K') w fun t66 w =>
  guardT (isB t63 true) (fun K' => unT P .not t66 w K') w fun t67 w =>
  pickT t63 t67 (.bool false) w fun t68 w =>
  guardT (isB t68 true) (fun K' => fcallT P F.winnowlaw06_alive [] w K') w fun t70 w =>
  pickT t68 t70 (.bool false) w fun t71 w =>
  K t71 w
/-- winnow/winnowlaw06.DiskNils -/
def M.winnowlaw06_DiskNils (a0 a1 a2 : Value) (w : World) (K : KV) : Prop :=
  joinT (fun K0 =>
  biT P .len #[T.sl_uint8] T.int [false] [a2] w fun t11 w =>
  binT P .gtr T.int (.tmp 11) (.const (.int .i64 1000)) t11 (.int .i64 1000) w fun t12 w =>
  condT t12 (
  fcallT P F.winnowlaw06_alive [] w fun t13 w =>
  K t13 w) (
  K0 [(.bool false)] w)) fun x0 w =>
  M.winnowlaw06_DiskNils.j0 a1 a0 a2 w K
def M.winnowlaw06_DiskNils.L : List Nat := [0, 1, 2, 6, 7, 8, 9]
def M.winnowlaw06_DiskNils.pl : Nat → Plan := fun id => ⟨.nil, [], false⟩
theorem M.winnowlaw06_DiskNils.eq (a0 a1 a2 : Value) (w : World) (K : KV) : M.winnowlaw06_DiskNils a0 a1 a2 w K = den P M.winnowlaw06_DiskNils.L M.winnowlaw06_DiskNils.pl (Try.f9.body.getD .skip) (argE [a0, a1, a2]) w (bodyQ P Try.f9.results.toList K) := by kernel_rfl
theorem M.winnowlaw06_DiskNils.ok : okFn M.winnowlaw06_DiskNils.L M.winnowlaw06_DiskNils.pl Try.f9 (Try.f9.body.getD .skip) 3 = true := by kernel_rfl
theorem M.winnowlaw06_DiskNils.calls (a0 a1 a2 : Value) {w : World} {K : KV} (h : M.winnowlaw06_DiskNils a0 a1 a2 w K) : callT P F.winnowlaw06_DiskNils [a0, a1, a2] w K :=
  callT_of_den (by kernel_rfl) Try.func9 (by kernel_rfl) M.winnowlaw06_DiskNils.ok (M.winnowlaw06_DiskNils.eq a0 a1 a2 w K ▸ h)
theorem M.winnowlaw06_DiskNils.fcall (args : List Value) (w : World) (K : KV) : fcallT P F.winnowlaw06_DiskNils args w K = callT P F.winnowlaw06_DiskNils args w K := fcallT_eq Try.func9 (by kernel_rfl) (by kernel_rfl) args w K

def M.winnowlaw16_BufferCaps.j6 (a2 : Value) (x3 : List Value) (t28 : Value) (t37 : Value) (K5 : KL) (x6 : List Value) (w : World) (K : KV) : Prop :=
  iaT P T.sl_api_Span a2 (gv x3 1) w fun t64 w =>
  ldT P T.api_Span t64 w fun t65 w =>
  fcallT P F.pbuffer_Buffer_Put [t28, t65, (.int .u64 0)] w fun t66 w =>
  binT P .eql T.api_Kind (.tmp 66) (.const (.int .i64 9)) t66 (.int .i64 9) w fun t67 w =>
  condT t67 (
  iaT P T.sl_api_Span a2 (gv x3 1) w fun t71 w =>
  faT P T.api_Span t71 0 w fun t72 w =>
  ldT P T.uint64 t72 w fun t73 w =>
  muT P T.map_uint64_bool t37 t73 (.bool true) w fun _ w =>
  K5 [(gv x6 0)] w) (
  K5 [(gv x6 0)] w)
def M.winnowlaw16_BufferCaps.j4 (a2 : Value) (x3 : List Value) (t28 : Value) (t37 : Value) (K3 : KL) (w : World) (K : KV) : Prop :=
  joinT (fun K5 =>
  joinT (fun K6 =>
  iaT P T.sl_api_Span a2 (gv x3 1) w fun t46 w =>
  faT P T.api_Span t46 6 w fun t47 w =>
  ldT P T.string t47 w fun t48 w =>
  biT P .len #[T.string] T.int [false] [t48] w fun t49 w =>
  binT P .gtr T.int (.tmp 49) (.const (.int .i64 200)) t49 (.int .i64 200) w fun t50 w =>
  guardT (isB t50 false) (fun K' => K' a2 w) w fun t52 w =>
  guardT (isB t50 false) (fun K' => K' (gv x3 1) w) w fun t53 w =>
  guardT (isB t50 false) (fun K' => iaT P T.sl_api_Span t52 t53 w K') w fun t54 w =>
  guardT (isB t50 false) (fun K' => faT P T.api_Span t54 5 w K') w fun t55 w =>
  guardT (isB t50 false) (fun K' => ldT P T.string t55 w K') w fun t56 w =>
  guardT (isB t50 false) (fun K' => biT P .len #[T.string] T.int [false] [t56] w K') w fun t57 w =>
  guardT (isB t50 false) (fun K' => binT P .gtr T.int (.tmp 57) (.const (.int .i64 200)) t57 (.int .i64 200) w K') w fun t58 w =>
  pickT t50 (.bool true) t58 w fun t59 w =>
  condT t59 (
  fcallT P F.winnowlaw16_alive [] w fun t60 w =>
  K t60 w) (
  K6 [(gv x3 0)] w)) fun x6 w =>
  M.winnowlaw16_BufferCaps.j6 a2 x3 t28 t37 K5 x6 w K) fun x5 w =>
  binT P .add T.int (.tmp 42) (.const (.int .i64 1)) (gv x3 1) (.int .i64 1) w fun t43 w =>
  K3 [(gv x5 0), t43] w
def M.winnowlaw16_BufferCaps.j3 (a2 : Value) (x3 : List Value) (K2 : KL) (t28 : Value) (t37 : Value) (K3 : KL) (w : World) (K : KV) : Prop :=
  joinT (fun K4 =>
  biT P .len #[T.sl_api_Span] T.int [false] [a2] w fun t40 w =>
  binT P .lss T.int (.tmp 38) (.tmp 40) (gv x3 1) t40 w fun t41 w =>
  condT t41 (
  K4 [] w) (
  K2 [(gv x3 1), (gv x3 0)] w)) fun x4 w =>
  M.winnowlaw16_BufferCaps.j4 a2 x3 t28 t37 K3 w K
def M.winnowlaw16_BufferCaps.j18 (x17 : List Value) (a2 : Value) (t93 : Value) (x13 : List Value) (K17 : KL) (w : World) (K : KV) : Prop :=
  joinT (fun K19 =>
  drawT w fun w =>
  w = w ∧ w = w ∧ quietT (fun K' => guardT (isB (gv x17 0) false) (fun K' => K' a2 w) w K') w fun t142 =>
  quietT (fun K' => guardT (isB (gv x17 0) false) (fun K' => K' (gv x17 1) w) w K') w fun t143 =>
  quietT (fun K' => guardT (isB (gv x17 0) false) (fun K' => iaT P T.sl_api_Span t142 t143 w K') w K') w fun t144 =>
  quietT (fun K' => guardT (isB (gv x17 0) false) (fun K' => ldT P T.api_Span t144 w K') w K') w fun t145 =>
  quietT (fun K' => guardT (isB (gv x17 0) false) (fun K' => K' t93 w) w K') w fun t146 =>
  quietT (fun K' => guardT (isB (gv x17 0) false) (fun K' => K' (gv x13 4) w) w K') w fun t147 =>
  quietT (fun K' => guardT (isB (gv x17 0) false) (fun K' => iaT P T.sl_api_Span t146 t147 w K') w K') w fun t148 =>
  quietT (fun K' => guardT (isB (gv x17 0) false) (fun K' => ldT P T.api_Span t148 w K') w K') w fun t149 =>
  quietT (fun K' => guardT (isB (gv x17 0) false) (fun K' => binT P .eql T.api_Span (.tmp 145) (.tmp 149) t145 t149 w K') w K') w fun t150 =>
  quietT (fun K' => pickT (gv x17 0) (.bool true) t150 w K') w fun t151 =>
  K19 [t151] w) fun x19 w =>
  binT P .add T.int (.tmp 138) (.const (.int .i64 1)) (gv x17 1) (.int .i64 1) w fun t139 w =>
  K17 [(gv x19 0), t139] w
def M.winnowlaw16_BufferCaps.j17 (a2 : Value) (x17 : List Value) (K16 : KL) (t93 : Value) (x13 : List Value) (K17 : KL) (w : World) (K : KV) : Prop :=
  joinT (fun K18 =>
  biT P .len #[T.sl_api_Span] T.int [false] [a2] w fun t136 w =>
  binT P .lss T.int (.tmp 134) (.tmp 136) (gv x17 1) t136 w fun t137 w =>
  condT t137 (
  K18 [] w) (
  K16 [(gv x17 1), (gv x17 0)] w)) fun x18 w =>
  M.winnowlaw16_BufferCaps.j18 x17 a2 t93 x13 K17 w K
def M.winnowlaw16_BufferCaps.j22 (x21 : List Value) (t93 : Value) (x13 : List Value) (K21 : KL) (w : World) (K : KV) : Prop :=
  joinT (fun K23 =>
  drawT w fun w =>
  w = w ∧ w = w ∧ quietT (fun K' => guardT (isB (gv x21 0) true) (fun K' => K' t93 w) w K') w fun t159 =>
  quietT (fun K' => guardT (isB (gv x21 0) true) (fun K' => K' (gv x21 1) w) w K') w fun t160 =>
  quietT (fun K' => guardT (isB (gv x21 0) true) (fun K' => iaT P T.sl_api_Span t159 t160 w K') w K') w fun t161 =>
  quietT (fun K' => guardT (isB (gv x21 0) true) (fun K' => faT P T.api_Span t161 1 w K') w K') w fun t162 =>
  quietT (fun K' => guardT (isB (gv x21 0) true) (fun K' => ldT P T.uint64 t162 w K') w K') w fun t163 =>
  quietT (fun K' => guardT (isB (gv x21 0) true) (fun K' => K' t93 w) w K') w fun t164 =>
  quietT (fun K' => guardT (isB (gv x21 0) true) (fun K' => K' (gv x13 4) w) w K') w fun t165 =>
  quietT (fun K' => guardT (isB (gv x21 0) true) (fun K' => iaT P T.sl_api_Span t164 t165 w K') w K') w fun t166 =>
  quietT (fun K' => guardT (isB (gv x21 0) true) (fun K' => faT P T.api_Span t166 1 w K') w K') w fun t167 =>
  quietT (fun K' => guardT (isB (gv x21 0) true) (fun K' => ldT P T.uint64 t167 w K') w K') w fun t168 =>
  quietT (fun K' => guardT (isB (gv x21 0) true) (fun K' => binT P .neq T.uint64 (.tmp 163) (.tmp 168) t163 t168 w K') w K') w fun t169 =>
  quietT (fun K' => pickT (gv x21 0) t169 (.bool false) w K') w fun t170 =>
  K23 [t170] w) fun x23 w =>
  binT P .add T.int (.tmp 155) (.const (.int .i64 1)) (gv x21 1) (.int .i64 1) w fun t156 w =>
  K21 [(gv x23 0), t156] w
def M.winnowlaw16_BufferCaps.j20 (x20 : List Value) (t93 : Value) (x13 : List Value) (t75 : Value) (x9 : List Value) (K15 : KL) (x16 : List Value) (w : World) (K : KV) : Prop :=
  drawT w fun w =>
  w = w ∧ quietT (fun K' => unT P .not (gv x20 1) w K') w fun t172 =>
  w = w ∧ quietT (fun K' => guardT (isB t172 false) (fun K' => K' t93 w) w K') w fun t174 =>
  quietT (fun K' => guardT (isB t172 false) (fun K' => K' (gv x13 4) w) w K') w fun t175 =>
  quietT (fun K' => guardT (isB t172 false) (fun K' => iaT P T.sl_api_Span t174 t175 w K') w K') w fun t176 =>
  quietT (fun K' => guardT (isB t172 false) (fun K' => faT P T.api_Span t176 0 w K') w K') w fun t177 =>
  quietT (fun K' => guardT (isB t172 false) (fun K' => ldT P T.uint64 t177 w K') w K') w fun t178 =>
  quietT (fun K' => guardT (isB t172 false) (fun K' => K' t75 w) w K') w fun t179 =>
  quietT (fun K' => guardT (isB t172 false) (fun K' => K' (gv x9 8) w) w K') w fun t180 =>
  quietT (fun K' => guardT (isB t172 false) (fun K' => iaT P T.sl_uint64 t179 t180 w K') w K') w fun t181 =>
  quietT (fun K' => guardT (isB t172 false) (fun K' => ldT P T.uint64 t181 w K') w K') w fun t182 =>
  quietT (fun K' => guardT (isB t172 false) (fun K' => binT P .neq T.uint64 (.tmp 178) (.tmp 182) t178 t182 w K') w K') w fun t183 =>
  quietT (fun K' => pickT t172 (.bool true) t183 w K') w fun t184 =>
  condT t184 (
  K (.bool false) w) (
  K15 [(gv x20 1), (gv x16 0), (gv x20 0), (gv x13 3)] w)
def M.winnowlaw16_BufferCaps.j16 (x16 : List Value) (x13 : List Value) (t93 : Value) (t75 : Value) (x9 : List Value) (K15 : KL) (w : World) (K : KV) : Prop :=
  joinT (fun K20 =>
  loopT [(gv x16 1), (.int .i64 0)] w fun K21 x21 w =>
  joinT (fun K22 =>
  binT P .lss T.int (.tmp 152) (.tmp 153) (gv x21 1) (gv x13 4) w fun t154 w =>
  condT t154 (
  K22 [] w) (
  K20 [(gv x21 1), (gv x21 0)] w)) fun x22 w =>
  M.winnowlaw16_BufferCaps.j22 x21 t93 x13 K21 w K) fun x20 w =>
  M.winnowlaw16_BufferCaps.j20 x20 t93 x13 t75 x9 K15 x16 w K
def M.winnowlaw16_BufferCaps.j14 (a2 : Value) (t93 : Value) (x13 : List Value) (t75 : Value) (x9 : List Value) (K13 : KL) (w : World) (K : KV) : Prop :=
  joinT (fun K15 =>
  joinT (fun K16 =>
  loopT [(.bool false), (.int .i64 0)] w fun K17 x17 w =>
  M.winnowlaw16_BufferCaps.j17 a2 x17 K16 t93 x13 K17 w K) fun x16 w =>
  M.winnowlaw16_BufferCaps.j16 x16 x13 t93 t75 x9 K15 w K) fun x15 w =>
  binT P .add T.int (.tmp 132) (.const (.int .i64 1)) (gv x13 4) (.int .i64 1) w fun t133 w =>
  K13 [(gv x15 0), (gv x15 1), (gv x15 2), (gv x15 3), t133] w
def M.winnowlaw16_BufferCaps.j13 (t93 : Value) (x13 : List Value) (K11 : KL) (t94 : Value) (t95 : Value) (a2 : Value) (t75 : Value) (x9 : List Value) (K13 : KL) (w : World) (K : KV) : Prop :=
  joinT (fun K14 =>
  biT P .len #[T.sl_api_Span] T.int [false] [t93] w fun t130 w =>
  binT P .lss T.int (.tmp 128) (.tmp 130) (gv x13 4) t130 w fun t131 w =>
  condT t131 (
  K14 [] w) (
  K11 [t93, t94, t95, (gv x13 3), (gv x13 4), (gv x13 0), (gv x13 1), (gv x13 2)] w)) fun x14 w =>
  M.winnowlaw16_BufferCaps.j14 a2 t93 x13 t75 x9 K13 w K
def M.winnowlaw16_BufferCaps.j10 (t75 : Value) (x9 : List Value) (t28 : Value) (a1 : Value) (t37 : Value) (a2 : Value) (K9 : KL) (w : World) (K : KV) : Prop :=
  joinT (fun K11 =>
  iaT P T.sl_uint64 t75 (gv x9 8) w fun t90 w =>
  ldT P T.uint64 t90 w fun t91 w =>
  fcallT P F.pbuffer_Buffer_Get [t28, t91] w fun t92 w =>
  exT P t92 0 w fun t93 w =>
  exT P t92 1 w fun t94 w =>
  exT P t92 2 w fun t95 w =>
  joinT (fun K12 =>
  unT P .not t95 w fun t97 w =>
  guardT (isB t97 false) (fun K' => K' t93 w) w fun t99 w =>
  guardT (isB t97 false) (fun K' => biT P .len #[T.sl_api_Span] T.int [false] [t99] w K') w fun t100 w =>
  guardT (isB t97 false) (fun K' => binT P .lss T.int (.tmp 100) (.const (.int .i64 1)) t100 (.int .i64 1) w K') w fun t101 w =>
  pickT t97 (.bool true) t101 w fun t102 w =>
  guardT (isB t102 false) (fun K' => K' t93 w) w fun t104 w =>
  guardT (isB t102 false) (fun K' => biT P .len #[T.sl_api_Span] T.int [false] [t104] w K') w fun t105 w =>
  guardT (isB t102 false) (fun K' => K' a1 w) w fun t106 w =>
  guardT (isB t102 false) (fun K' => binT P .gtr T.int (.tmp 105) (.tmp 106) t105 t106 w K') w fun t107 w =>
  pickT t102 (.bool true) t107 w fun t108 w =>
  guardT (isB t108 false) (fun K' => K' t94 w) w fun t110 w =>
  guardT (isB t108 false) (fun K' => K' t37 w) w fun t111 w =>
  guardT (isB t108 false) (fun K' => K' t75 w) w fun t112 w =>
  guardT (isB t108 false) (fun K' => K' (gv x9 8) w) w fun t113 w =>
  guardT (isB t108 false) (fun K' => iaT P T.sl_uint64 t112 t113 w K') w fun t114 w =>
  guardT (isB t108 false) (fun K' => ldT P T.uint64 t114 w K') w fun t115 w =>
  guardT (isB t108 false) (fun K' => luT P T.map_uint64_bool t111 t115 false w K') w fun t116 w =>
  guardT (isB t108 false) (fun K' => binT P .neq T.bool (.tmp 110) (.tmp 116) t110 t116 w K') w fun t117 w =>
  pickT t108 (.bool true) t117 w fun t118 w =>
  guardT (isB t118 false) (fun K' => K' t94 w) w fun t120 w =>
  guardT (isB t118 false) (fun K' => K' t120 w) w fun t121 w =>
  guardT (isB t121 true) (fun K' => K' t93 w) w fun t122 w =>
  guardT (isB t121 true) (fun K' => biT P .len #[T.sl_api_Span] T.int [false] [t122] w K') w fun t123 w =>
  guardT (isB t121 true) (fun K' => K' a1 w) w fun t124 w =>
  guardT (isB t121 true) (fun K' => binT P .neq T.int (.tmp 123) (.tmp 124) t123 t124 w K') w fun t125 w =>
  guardT (isB t118 false) (fun K' => pickT t121 t125 (.bool false) w K') w fun t126 w =>
  pickT t118 (.bool true) t126 w fun t127 w =>
  condT t127 (
  K (.bool false) w) (
  K12 [(gv x9 3)] w)) fun x12 w =>
  loopT [(gv x9 5), (gv x9 6), (gv x9 7), (gv x12 0), (.int .i64 0)] w fun K13 x13 w =>
  M.winnowlaw16_BufferCaps.j13 t93 x13 K11 t94 t95 a2 t75 x9 K13 w K) fun x11 w =>
  binT P .add T.int (.tmp 84) (.const (.int .i64 1)) (gv x9 8) (.int .i64 1) w fun t85 w =>
  K9 [(gv x11 0), (gv x11 1), (gv x11 2), (gv x11 3), (gv x11 4), (gv x11 5), (gv x11 6), (gv x11 7), t85] w
def M.winnowlaw16_BufferCaps.j9 (t75 : Value) (x9 : List Value) (K8 : KL) (t28 : Value) (a1 : Value) (t37 : Value) (a2 : Value) (K9 : KL) (w : World) (K : KV) : Prop :=
  joinT (fun K10 =>
  biT P .len #[T.sl_uint64] T.int [false] [t75] w fun t82 w =>
  binT P .lss T.int (.tmp 80) (.tmp 82) (gv x9 8) t82 w fun t83 w =>
  condT t83 (
  K10 [] w) (
  K8 [(gv x9 8), (gv x9 0), (gv x9 1), (gv x9 2), (gv x9 3), (gv x9 4), (gv x9 5), (gv x9 6), (gv x9 7)] w)) fun x10 w =>
  M.winnowlaw16_BufferCaps.j10 t75 x9 t28 a1 t37 a2 K9 w K
def M.winnowlaw16_BufferCaps.j2 (t28 : Value) (a0 : Value) (x2 : List Value) (a1 : Value) (t37 : Value) (a2 : Value) (w : World) (K : KV) : Prop :=
  fcallT P F.pbuffer_Buffer_Traces [t28] w fun t75 w =>
  joinT (fun K7 =>
  biT P .len #[T.sl_uint64] T.int [false] [t75] w fun t77 w =>
  binT P .gtr T.int (.tmp 77) (.tmp 78) t77 a0 w fun t79 w =>
  condT t79 (
  K (.bool false) w) (
  K7 [(gv x2 1)] w)) fun x7 w =>
  joinT (fun K8 =>
  loopT [undef, undef, undef, (gv x7 0), undef, undef, undef, undef, (.int .i64 0)] w fun K9 x9 w =>
  M.winnowlaw16_BufferCaps.j9 t75 x9 K8 t28 a1 t37 a2 K9 w K) fun x8 w =>
  fcallT P F.winnowlaw16_alive [] w fun t185 w =>
  K t185 w
def M.winnowlaw16_BufferCaps.j0 (a0 : Value) (a1 : Value) (x0 : List Value) (a2 : Value) (w : World) (K : KV) : Prop :=
  fcallT P F.buffer_New [a0, a1, (.int .u64 5)] w fun t27 w =>
  exT P t27 0 w fun t28 w =>
  exT P t27 1 w fun t29 w =>
  joinT (fun K1 =>
  binT P .neq T.api_Kind (.tmp 30) (.const (.int .i64 0)) t29 (.int .i64 0) w fun t31 w =>
  guardT (isB t31 false) (fun K' => K' t28 w) w fun t33 w =>
  guardT (isB t31 false) (fun K' => binT P .eql T.p_buffer_Buffer (.tmp 33) (.const (.pointer none)) t33 (.pointer none) w K') w fun t34 w =>
  pickT t31 (.bool true) t34 w fun t35 w =>
  condT t35 (
  fcallT P F.winnowlaw16_alive [] w fun t36 w =>
  K t36 w) (
  K1 [(gv x0 0)] w)) fun x1 w =>
  mkmT P T.map_uint64_bool none w fun t37 w =>
  joinT (fun K2 =>
  loopT [(gv x1 0), (.int .i64 0)] w fun K3 x3 w =>
  M.winnowlaw16_BufferCaps.j3 a2 x3 K2 t28 t37 K3 w K) fun x2 w =>
  M.winnowlaw16_BufferCaps.j2 t28 a0 x2 a1 t37 a2 w K
/-- winnow/winnowlaw16.BufferCaps -/
def M.winnowlaw16_BufferCaps (a0 a1 a2 : Value) (w : World) (K : KV) : Prop :=
  joinT (fun K0 =>
  biT P .len #[T.sl_api_Span] T.int [false] [a2] w fun t21 w =>
  binT P .gtr T.int (.tmp 21) (.const (.int .i64 200)) t21 (.int .i64 200) w fun t22 w =>
  condT t22 (
  fcallT P F.winnowlaw16_alive [] w fun t23 w =>
  K t23 w) (
  K0 [(.bool false)] w)) fun x0 w =>
  M.winnowlaw16_BufferCaps.j0 a0 a1 x0 a2 w K
def M.winnowlaw16_BufferCaps.L : List Nat := [0, 1, 2, 6, 7, 8, 9, 10, 11, 12, 13, 14, 15, 16, 17, 18, 19]
def M.winnowlaw16_BufferCaps.pl : Nat → Plan := fun id => cond (Nat.beq id 30) ⟨(.go 0 (.go 1 (.go 2 (.go 3 (.go 4 (.go 5 (.go 6 (.go 7 (.go 8 (.go 9 (.go 10 (.go 11 (.eff 12 .nil .stop))))))))))))), [12], false⟩ (cond (Nat.beq id 34) ⟨(.go 0 (.go 1 (.go 2 (.go 3 (.go 4 (.go 5 (.go 6 (.go 7 (.go 8 (.go 9 (.go 10 (.go 11 (.go 12 (.go 13 (.eff 14 .nil .stop))))))))))))))), [14], false⟩ (cond (Nat.beq id 35) ⟨(.go 0 (.go 1 (.go 2 (.go 3 (.go 4 (.go 5 (.go 6 (.go 7 (.go 8 (.go 9 (.go 10 (.go 11 (.go 12 (.go 13 .nil)))))))))))))), [], false⟩ (⟨.nil, [], false⟩)))
theorem M.winnowlaw16_BufferCaps.eq (a0 a1 a2 : Value) (w : World) (K : KV) : M.winnowlaw16_BufferCaps a0 a1 a2 w K = den P M.winnowlaw16_BufferCaps.L M.winnowlaw16_BufferCaps.pl (Try.f10.body.getD .skip) (argE [a0, a1, a2]) w (bodyQ P Try.f10.results.toList K) := by kernel_rfl
theorem M.winnowlaw16_BufferCaps.ok : okFn M.winnowlaw16_BufferCaps.L M.winnowlaw16_BufferCaps.pl Try.f10 (Try.f10.body.getD .skip) 3 = true := by kernel_rfl
theorem M.winnowlaw16_BufferCaps.calls (a0 a1 a2 : Value) {w : World} {K : KV} (h : M.winnowlaw16_BufferCaps a0 a1 a2 w K) : callT P F.winnowlaw16_BufferCaps [a0, a1, a2] w K :=
  callT_of_den (by kernel_rfl) Try.func10 (by kernel_rfl) M.winnowlaw16_BufferCaps.ok (M.winnowlaw16_BufferCaps.eq a0 a1 a2 w K ▸ h)
theorem M.winnowlaw16_BufferCaps.fcall (args : List Value) (w : World) (K : KV) : fcallT P F.winnowlaw16_BufferCaps args w K = callT P F.winnowlaw16_BufferCaps args w K := fcallT_eq Try.func10 (by kernel_rfl) (by kernel_rfl) args w K

def M.winnowlaw16_BufferPlays.j8 (t80 : Value) (t29 : Value) (t13 : Value) (K7 : KL) (t61 : Value) (x8 : List Value) (t76 : Value) (x4 : List Value) (w : World) (K : KV) : Prop :=
  binT P .geq T.int (.tmp 90) (.const (.int .i64 0)) t80 (.int .i64 0) w fun t91 w =>
  condT t91 (
  drawT w fun w =>
  w = w ∧ quietT (fun K' => nilT t29 w K') w fun t93 =>
  quietT (fun K' => faT P T.winnowref16_Buffer t93 3 w K') w fun t94 =>
  quietT (fun K' => ldT P T.sl_winnowref16_Trace t94 w K') w fun t95 =>
  w = w ∧ quietT (fun K' => faT P T.winnowlaw16_Op t13 3 w K') w fun t97 =>
  quietT (fun K' => ldT P T.uint64 t97 w K') w fun t98 =>
  quietT (fun K' => iaT P T.sl_winnowref16_Trace t95 t80 w K') w fun t99 =>
  quietT (fun K' => faT P T.winnowref16_Trace t99 1 w K') w fun t100 =>
  stT P T.uint64 t100 t98 w fun _ w =>
  K7 [t13, t61, (gv x8 0), t76, t80, (gv x4 5)] w) (
  K7 [t13, t61, (gv x8 0), t76, t80, (gv x4 5)] w)
def M.winnowlaw16_BufferPlays.j7 (a3 : Value) (x4 : List Value) (t24 : Value) (t29 : Value) (K6 : KL) (x7 : List Value) (w : World) (K : KV) : Prop :=
  iaT P T.sl_winnowlaw16_Op a3 (gv x4 6) w fun t117 w =>
  faT P T.winnowlaw16_Op t117 3 w fun t118 w =>
  ldT P T.uint64 t118 w fun t119 w =>
  fcallT P F.winnowlaw16_same [t24, t29, t119] w fun t120 w =>
  unT P .not t120 w fun t121 w =>
  condT t121 (
  K (.bool false) w) (
  K6 [(gv x7 0), (gv x7 1), (gv x7 2), (gv x7 3), (gv x7 4), (gv x7 5)] w)
def M.winnowlaw16_BufferPlays.j5 (a3 : Value) (x4 : List Value) (t24 : Value) (t29 : Value) (K4 : KL) (w : World) (K : KV) : Prop :=
  joinT (fun K6 =>
  joinT (fun K7 =>
  iaT P T.sl_winnowlaw16_Op a3 (gv x4 6) w fun t56 w =>
  ldT P T.winnowlaw16_Op t56 w fun t57 w =>
  alT P T.winnowlaw16_Op w fun t13 w =>
  stT P T.winnowlaw16_Op t13 t57 w fun _ w =>
  faT P T.winnowlaw16_Op t13 0 w fun t58 w =>
  ldT P T.int t58 w fun t59 w =>
  binT P .eql T.int (.tmp 59) (.const (.int .i64 0)) t59 (.int .i64 0) w fun t61 w =>
  condT t61 (
  drawT w fun w =>
  w = w ∧ quietT (fun K' => faT P T.winnowlaw16_Op t13 1 w K') w fun t63 =>
  quietT (fun K' => ldT P T.api_Span t63 w K') w fun t64 =>
  quietT (fun K' => faT P T.winnowlaw16_Op t13 3 w K') w fun t65 =>
  quietT (fun K' => ldT P T.uint64 t65 w K') w fun t66 =>
  w = w ∧ quietT (fun K' => faT P T.winnowlaw16_Op t13 1 w K') w fun t69 =>
  quietT (fun K' => ldT P T.api_Span t69 w K') w fun t70 =>
  quietT (fun K' => faT P T.winnowlaw16_Op t13 3 w K') w fun t71 =>
  quietT (fun K' => ldT P T.uint64 t71 w K') w fun t72 =>
  fcallT P F.pbuffer_Buffer_Put [t24, t64, t66] w fun t67 w =>
  stabT (fun K' => ldT P T.uint64 t71 w K') w t72 ∧ stabT (fun K' => faT P T.winnowlaw16_Op t13 3 w K') w t71 ∧ stabT (fun K' => ldT P T.api_Span t69 w K') w t70 ∧ stabT (fun K' => faT P T.winnowlaw16_Op t13 1 w K') w t69 ∧ stabT (fun K' => K' t29 w) w t29 ∧ fcallT P F.pwinnowref16_Buffer_Put [t29, t70, t72] w fun t73 w =>
  quietT (fun K' => binT P .neq T.api_Kind (.tmp 67) (.tmp 73) t67 t73 w K') w fun t74 =>
  condT t74 (
  K (.bool false) w) (
  K7 [t13, t61, (gv x4 2), (gv x4 3), (gv x4 4), (gv x4 5)] w)) (
  binT P .eql T.int (.tmp 59) (.const (.int .i64 1)) t59 (.int .i64 1) w fun t76 w =>
  condT t76 (
  faT P T.winnowlaw16_Op t13 2 w fun t78 w =>
  ldT P T.uint64 t78 w fun t79 w =>
  fcallT P F.pwinnowref16_Buffer_Find [t29, t79] w fun t80 w =>
  joinT (fun K8 =>
  faT P T.winnowlaw16_Op t13 2 w fun t82 w =>
  ldT P T.uint64 t82 w fun t83 w =>
  faT P T.winnowlaw16_Op t13 3 w fun t84 w =>
  ldT P T.uint64 t84 w fun t85 w =>
  fcallT P F.pbuffer_Buffer_Delay [t24, t83, t85] w fun t86 w =>
  binT P .geq T.int (.tmp 87) (.const (.int .i64 0)) t80 (.int .i64 0) w fun t88 w =>
  binT P .neq T.bool (.tmp 86) (.tmp 88) t86 t88 w fun t89 w =>
  condT t89 (
  K (.bool false) w) (
  K8 [(gv x4 2)] w)) fun x8 w =>
  M.winnowlaw16_BufferPlays.j8 t80 t29 t13 K7 t61 x8 t76 x4 w K) (
  binT P .eql T.int (.tmp 59) (.const (.int .i64 2)) t59 (.int .i64 2) w fun t102 w =>
  condT t102 (
  drawT w fun w =>
  w = w ∧ quietT (fun K' => faT P T.winnowlaw16_Op t13 2 w K') w fun t104 =>
  quietT (fun K' => ldT P T.uint64 t104 w K') w fun t105 =>
  w = w ∧ quietT (fun K' => faT P T.winnowlaw16_Op t13 2 w K') w fun t108 =>
  quietT (fun K' => ldT P T.uint64 t108 w K') w fun t109 =>
  fcallT P F.pbuffer_Buffer_Take [t24, t105] w fun t106 w =>
  stabT (fun K' => ldT P T.uint64 t108 w K') w t109 ∧ stabT (fun K' => faT P T.winnowlaw16_Op t13 2 w K') w t108 ∧ stabT (fun K' => K' t29 w) w t29 ∧ fcallT P F.pwinnowref16_Buffer_Take [t29, t109] w fun t110 w =>
  fcallT P F.winnowref03_Spans [t106, t110] w fun t111 w =>
  quietT (fun K' => unT P .not t111 w K') w fun t112 =>
  condT t112 (
  K (.bool false) w) (
  K7 [t13, t61, (gv x4 2), t76, (gv x4 4), t102] w)) (
  K7 [t13, t61, (gv x4 2), t76, (gv x4 4), t102] w)))) fun x7 w =>
  M.winnowlaw16_BufferPlays.j7 a3 x4 t24 t29 K6 x7 w K) fun x6 w =>
  binT P .add T.int (.tmp 52) (.const (.int .i64 1)) (gv x4 6) (.int .i64 1) w fun t53 w =>
  K4 [(gv x6 0), (gv x6 1), (gv x6 2), (gv x6 3), (gv x6 4), (gv x6 5), t53] w
def M.winnowlaw16_BufferPlays.j4 (a3 : Value) (x4 : List Value) (K3 : KL) (t24 : Value) (t29 : Value) (K4 : KL) (w : World) (K : KV) : Prop :=
  joinT (fun K5 =>
  biT P .len #[T.sl_winnowlaw16_Op] T.int [false] [a3] w fun t50 w =>
  binT P .lss T.int (.tmp 48) (.tmp 50) (gv x4 6) t50 w fun t51 w =>
  condT t51 (
  K5 [] w) (
  K3 [(gv x4 6), (gv x4 0), (gv x4 1), (gv x4 2), (gv x4 3), (gv x4 4), (gv x4 5)] w)) fun x5 w =>
  M.winnowlaw16_BufferPlays.j5 a3 x4 t24 t29 K4 w K
def M.winnowlaw16_BufferPlays.j1 (t29 : Value) (x1 : List Value) (a3 : Value) (t24 : Value) (w : World) (K : KV) : Prop :=
  joinT (fun K2 =>
  binT P .eql T.p_winnowref16_Buffer (.tmp 46) (.const (.pointer none)) t29 (.pointer none) w fun t47 w =>
  condT t47 (
  K (.bool true) w) (
  K2 [(gv x1 0)] w)) fun x2 w =>
  joinT (fun K3 =>
  loopT [undef, undef, (gv x2 0), undef, undef, undef, (.int .i64 0)] w fun K4 x4 w =>
  M.winnowlaw16_BufferPlays.j4 a3 x4 K3 t24 t29 K4 w K) fun x3 w =>
  K (.bool true) w
def M.winnowlaw16_BufferPlays.j0 (a0 : Value) (a1 : Value) (a2 : Value) (x0 : List Value) (a3 : Value) (w : World) (K : KV) : Prop :=
  fcallT P F.buffer_New [a0, a1, a2] w fun t23 w =>
  exT P t23 0 w fun t24 w =>
  exT P t23 1 w fun t25 w =>
  fcallT P F.winnowref16_New [a0, a1, a2] w fun t29 w =>
  joinT (fun K1 =>
  binT P .eql T.p_winnowref16_Buffer (.tmp 30) (.const (.pointer none)) t29 (.pointer none) w fun t31 w =>
  binT P .eql T.api_Kind (.tmp 32) (.const (.int .i64 1)) t25 (.int .i64 1) w fun t33 w =>
  binT P .neq T.bool (.tmp 31) (.tmp 33) t31 t33 w fun t34 w =>
  guardT (isB t34 false) (fun K' => K' t24 w) w fun t36 w =>
  guardT (isB t34 false) (fun K' => binT P .eql T.p_buffer_Buffer (.tmp 36) (.const (.pointer none)) t36 (.pointer none) w K') w fun t37 w =>
  guardT (isB t34 false) (fun K' => K' t29 w) w fun t38 w =>
  guardT (isB t34 false) (fun K' => binT P .eql T.p_winnowref16_Buffer (.tmp 38) (.const (.pointer none)) t38 (.pointer none) w K') w fun t39 w =>
  guardT (isB t34 false) (fun K' => binT P .neq T.bool (.tmp 37) (.tmp 39) t37 t39 w K') w fun t40 w =>
  pickT t34 (.bool true) t40 w fun t41 w =>
  guardT (isB t41 false) (fun K' => fcallT P F.winnowlaw16_alive [] w K') w fun t43 w =>
  guardT (isB t41 false) (fun K' => unT P .not t43 w K') w fun t44 w =>
  pickT t41 (.bool true) t44 w fun t45 w =>
  condT t45 (
  K (.bool false) w) (
  K1 [(gv x0 0)] w)) fun x1 w =>
  M.winnowlaw16_BufferPlays.j1 t29 x1 a3 t24 w K
/-- winnow/winnowlaw16.BufferPlays -/
def M.winnowlaw16_BufferPlays (a0 a1 a2 a3 : Value) (w : World) (K : KV) : Prop :=
  joinT (fun K0 =>
  fcallT P F.winnowlaw16_light [a3] w fun t16 w =>
  unT P .not t16 w fun t17 w =>
  condT t17 (
  fcallT P F.winnowlaw16_alive [] w fun t18 w =>
  K t18 w) (
  K0 [(.bool false)] w)) fun x0 w =>
  M.winnowlaw16_BufferPlays.j0 a0 a1 a2 x0 a3 w K
def M.winnowlaw16_BufferPlays.L : List Nat := [0, 1, 2, 3, 8, 9, 10, 11, 12, 60, 75, 14, 101, 13]
def M.winnowlaw16_BufferPlays.pl : Nat → Plan := fun id => cond (Nat.beq id 15) ⟨(.go 0 (.go 1 (.go 2 (.go 3 (.go 4 (.go 6 (.go 7 (.go 8 (.go 9 (.go 10 (.eff 5 (.eff 11 (.go 12 .nil) .stop) .stop))))))))))), [5, 11], false⟩ (cond (Nat.beq id 22) ⟨(.go 0 (.go 1 (.go 2 (.go 3 (.go 4 (.go 5 (.go 6 (.go 7 (.go 8 (.eff 9 .nil .stop)))))))))), [9], false⟩ (cond (Nat.beq id 24) ⟨(.go 0 (.go 1 (.go 2 (.go 4 (.go 5 (.go 6 (.eff 3 (.eff 7 (.eff 8 (.go 9 .nil) .stop) .stop) .stop))))))), [3, 7, 8], false⟩ (⟨.nil, [], false⟩)))
theorem M.winnowlaw16_BufferPlays.eq (a0 a1 a2 a3 : Value) (w : World) (K : KV) : M.winnowlaw16_BufferPlays a0 a1 a2 a3 w K = den P M.winnowlaw16_BufferPlays.L M.winnowlaw16_BufferPlays.pl (Try.f11.body.getD .skip) (argE [a0, a1, a2, a3]) w (bodyQ P Try.f11.results.toList K) := by kernel_rfl
theorem M.winnowlaw16_BufferPlays.ok : okFn M.winnowlaw16_BufferPlays.L M.winnowlaw16_BufferPlays.pl Try.f11 (Try.f11.body.getD .skip) 4 = true := by kernel_rfl
theorem M.winnowlaw16_BufferPlays.calls (a0 a1 a2 a3 : Value) {w : World} {K : KV} (h : M.winnowlaw16_BufferPlays a0 a1 a2 a3 w K) : callT P F.winnowlaw16_BufferPlays [a0, a1, a2, a3] w K :=
  callT_of_den (by kernel_rfl) Try.func11 (by kernel_rfl) M.winnowlaw16_BufferPlays.ok (M.winnowlaw16_BufferPlays.eq a0 a1 a2 a3 w K ▸ h)
theorem M.winnowlaw16_BufferPlays.fcall (args : List Value) (w : World) (K : KV) : fcallT P F.winnowlaw16_BufferPlays args w K = callT P F.winnowlaw16_BufferPlays args w K := fcallT_eq Try.func11 (by kernel_rfl) (by kernel_rfl) args w K

def M.winnowlaw16_BufferNils.j0 (t2 : Value) (a1 : Value) (w : World) (K : KV) : Prop :=
  faT P T.api_Span t2 0 w fun t22 w =>
  ldT P T.uint64 t22 w fun t23 w =>
  fcallT P F.pbuffer_Buffer_Get [(.pointer none), t23] w fun t24 w =>
  exT P t24 0 w fun t25 w =>
  exT P t24 1 w fun t26 w =>
  exT P t24 2 w fun t27 w =>
  ldT P T.api_Span t2 w fun t29 w =>
  fcallT P F.pbuffer_Buffer_Put [(.pointer none), t29, a1] w fun t31 w =>
  binT P .eql T.api_Kind (.tmp 31) (.const (.int .i64 13)) t31 (.int .i64 13) w fun t32 w =>
  guardT (isB t32 true) (fun K' => K' t25 w) w fun t34 w =>
  guardT (isB t32 true) (fun K' => biT P .len #[T.sl_api_Span] T.int [false] [t34] w K') w fun t35 w =>
  guardT (isB t32 true) (fun K' => binT P .eql T.int (.tmp 35) (.const (.int .i64 0)) t35 (.int .i64 0) w K') w fun t36 w =>
  pickT t32 t36 (.bool false) w fun t37 w =>
  guardT (isB t37 true) (fun K' => K' t26 w) w fun t39 w =>
  guardT (isB t37 true) (fun K' => unT P .not t39 w K') w fun t40 w =>
  pickT t37 t40 (.bool false) w fun t41 w =>
  guardT (isB t41 true) (fun K' => K' t27 w) w fun t43 w =>
  guardT (isB t41 true) (fun K' => unT P .not t43 w K') w fun t44 w =>
  pickT t41 t44 (.bool false) w fun t45 w =>
  guardT (isB t45 true) (fun K' => K' (.pointer none) w) w fun t47 w =>
  guardT (isB t45 true) (fun K' => K' a1 w) w fun t48 w =>
  guardT (isB t45 true) (fun K' => fcallT P F.pbuffer_Buffer_Due [t47, t48] w K') w fun t49 w =>
  guardT (isB t45 true) (fun K' => biT P .len #[T.sl_uint64] T.int [false] [t49] w K') w fun t50 w =>
  guardT (isB t45 true) (fun K' => K' (.pointer none) w) w fun t51 w =>
  guardT (isB t45 true) (fun K' => K' a1 w) w fun t52 w =>
  guardT (isB t45 true) (fun K' => fcallT P F.pbuffer_Buffer_Take [t51, t52] w K') w fun t53 w =>
  guardT (isB t45 true) (fun K' => biT P .len #[T.sl_api_Span] T.int [false] [t53] w K') w fun t54 w =>
  guardT (isB t45 true) (fun K' => binT P .add T.int (.tmp 50) (.tmp 54) t50 t54 w K') w fun t55 w =>
  guardT (isB t45 true) (fun K' => K' (.pointer none) w) w fun t56 w =>
  guardT (isB t45 true) (fun K' => fcallT P F.pbuffer_Buffer_Traces [t56] w K') w fun t57 w =>
  guardT (isB t45 true) (fun K' => biT P .len #[T.sl_uint64] T.int [false] [t57] w K') w fun t58 w =>
  guardT (isB t45 true) (fun K' => binT P .add T.int (.tmp 55) (.tmp 58) t55 t58 w K') w fun t59 w =>
  guardT (isB t45 true) (fun K' => binT P .eql T.int (.tmp 59) (.const (.int .i64 0)) t59 (.int .i64 0) w K') w fun t60 w =>
  pickT t45 t60 (.bool false) w fun t61 w =>
  guardT (isB t61 true) (fun K' => K' (.pointer none) w) w fun t63 w =>
  guardT (isB t61 true) (fun K' => K' a1 w) w fun t64 w =>
  guardT (isB t61 true) (fun K' => K' a1 w) w fun t65 w =>
  guardT (isB t61 true) (fun K' => fcallT P F.pbuffer_Buffer_Delay [t63, t64, t65] w K') w fun t66 w =>
  guardT (isB t61 true) (fun K' => unT P .not t66 w K') w fun t67 w =>
  pickT t61 t67 (.bool false) w fun t68 w =>
  guardT (isB t68 true) (fun K' => fcallT P F.winnowlaw16_alive [] w K') w fun t70 w =>
  pickT t68 t70 (.bool false) w fun t71 w =>
  K t71 w
/-- winnow/winnowlaw16.BufferNils -/
def M.winnowlaw16_BufferNils (a0 a1 : Value) (w : World) (K : KV) : Prop :=
  boxT P T.api_Span a0 w fun t2 w =>
  joinT (fun K0 =>
  faT P T.api_Span t2 6 w fun t9 w =>
  ldT P T.string t9 w fun t10 w =>
  biT P .len #[T.string] T.int [false] [t10] w fun t11 w =>
  binT P .gtr T.int (.tmp 11) (.const (.int .i64 200)) t11 (.int .i64 200) w fun t12 w =>
  guardT (isB t12 false) (fun K' => faT P T.api_Span t2 5 w K') w fun t14 w =>
  guardT (isB t12 false) (fun K' => ldT P T.string t14 w K') w fun t15 w =>
  guardT (isB t12 false) (fun K' => biT P .len #[T.string] T.int [false] [t15] w K') w fun t16 w =>
  guardT (isB t12 false) (fun K' => binT P .gtr T.int (.tmp 16) (.const (.int .i64 200)) t16 (.int .i64 200) w K') w fun t17 w =>
  pickT t12 (.bool true) t17 w fun t18 w =>
  condT t18 (
  fcallT P F.winnowlaw16_alive [] w fun t19 w =>
  K t19 w) (
  K0 [(.bool false)] w)) fun x0 w =>
  M.winnowlaw16_BufferNils.j0 t2 a1 w K
def M.winnowlaw16_BufferNils.L : List Nat := [0, 1, 4, 5, 6, 7, 8, 2]
def M.winnowlaw16_BufferNils.pl : Nat → Plan := fun id => ⟨.nil, [], false⟩
theorem M.winnowlaw16_BufferNils.eq (a0 a1 : Value) (w : World) (K : KV) : M.winnowlaw16_BufferNils a0 a1 w K = den P M.winnowlaw16_BufferNils.L M.winnowlaw16_BufferNils.pl (Try.f12.body.getD .skip) (argE [a0, a1]) w (bodyQ P Try.f12.results.toList K) := by kernel_rfl
theorem M.winnowlaw16_BufferNils.ok : okFn M.winnowlaw16_BufferNils.L M.winnowlaw16_BufferNils.pl Try.f12 (Try.f12.body.getD .skip) 2 = true := by kernel_rfl
theorem M.winnowlaw16_BufferNils.calls (a0 a1 : Value) {w : World} {K : KV} (h : M.winnowlaw16_BufferNils a0 a1 w K) : callT P F.winnowlaw16_BufferNils [a0, a1] w K :=
  callT_of_den (by kernel_rfl) Try.func12 (by kernel_rfl) M.winnowlaw16_BufferNils.ok (M.winnowlaw16_BufferNils.eq a0 a1 w K ▸ h)
theorem M.winnowlaw16_BufferNils.fcall (args : List Value) (w : World) (K : KV) : fcallT P F.winnowlaw16_BufferNils args w K = callT P F.winnowlaw16_BufferNils args w K := fcallT_eq Try.func12 (by kernel_rfl) (by kernel_rfl) args w K

def M.winnowlaw09_ViewMerges.j0 (a0 : Value) (a1 : Value) (w : World) (K : KV) : Prop :=
  fcallT P F.view_Merge [a0, a1] w fun t21 w =>
  exT P t21 0 w fun t22 w =>
  exT P t21 1 w fun t23 w =>
  fcallT P F.winnowref09_Merge [a0, a1] w fun t27 w =>
  exT P t27 0 w fun t28 w =>
  exT P t27 1 w fun t29 w =>
  fcallT P F.winnowref09_Same [t22, t28] w fun t32 w =>
  guardT (isB t32 true) (fun K' => K' t23 w) w fun t34 w =>
  guardT (isB t32 true) (fun K' => K' t29 w) w fun t35 w =>
  guardT (isB t32 true) (fun K' => binT P .eql T.api_Kind (.tmp 34) (.tmp 35) t34 t35 w K') w fun t36 w =>
  pickT t32 t36 (.bool false) w fun t37 w =>
  guardT (isB t37 true) (fun K' => fcallT P F.winnowlaw09_alive [] w K') w fun t39 w =>
  pickT t37 t39 (.bool false) w fun t40 w =>
  K t40 w
/-- winnow/winnowlaw09.ViewMerges -/
def M.winnowlaw09_ViewMerges (a0 a1 : Value) (w : World) (K : KV) : Prop :=
  joinT (fun K0 =>
  biT P .len #[T.sl_api_Member] T.int [false] [a0] w fun t10 w =>
  binT P .gtr T.int (.tmp 10) (.const (.int .i64 200)) t10 (.int .i64 200) w fun t11 w =>
  guardT (isB t11 false) (fun K' => K' a1 w) w fun t13 w =>
  guardT (isB t11 false) (fun K' => biT P .len #[T.sl_api_Member] T.int [false] [t13] w K') w fun t14 w =>
  guardT (isB t11 false) (fun K' => binT P .gtr T.int (.tmp 14) (.const (.int .i64 200)) t14 (.int .i64 200) w K') w fun t15 w =>
  pickT t11 (.bool true) t15 w fun t16 w =>
  condT t16 (
  fcallT P F.winnowlaw09_alive [] w fun t17 w =>
  K t17 w) (
  K0 [(.bool false)] w)) fun x0 w =>
  M.winnowlaw09_ViewMerges.j0 a0 a1 w K
def M.winnowlaw09_ViewMerges.L : List Nat := [0, 1, 4, 5, 6, 7, 8]
def M.winnowlaw09_ViewMerges.pl : Nat → Plan := fun id => ⟨.nil, [], false⟩
theorem M.winnowlaw09_ViewMerges.eq (a0 a1 : Value) (w : World) (K : KV) : M.winnowlaw09_ViewMerges a0 a1 w K = den P M.winnowlaw09_ViewMerges.L M.winnowlaw09_ViewMerges.pl (Try.f13.body.getD .skip) (argE [a0, a1]) w (bodyQ P Try.f13.results.toList K) := by kernel_rfl
theorem M.winnowlaw09_ViewMerges.ok : okFn M.winnowlaw09_ViewMerges.L M.winnowlaw09_ViewMerges.pl Try.f13 (Try.f13.body.getD .skip) 2 = true := by kernel_rfl
theorem M.winnowlaw09_ViewMerges.calls (a0 a1 : Value) {w : World} {K : KV} (h : M.winnowlaw09_ViewMerges a0 a1 w K) : callT P F.winnowlaw09_ViewMerges [a0, a1] w K :=
  callT_of_den (by kernel_rfl) Try.func13 (by kernel_rfl) M.winnowlaw09_ViewMerges.ok (M.winnowlaw09_ViewMerges.eq a0 a1 w K ▸ h)
theorem M.winnowlaw09_ViewMerges.fcall (args : List Value) (w : World) (K : KV) : fcallT P F.winnowlaw09_ViewMerges args w K = callT P F.winnowlaw09_ViewMerges args w K := fcallT_eq Try.func13 (by kernel_rfl) (by kernel_rfl) args w K

def M.winnowlaw09_ViewJoins.j2 (t58 : Value) (a2 : Value) (a0 : Value) (t70 : Value) (a1 : Value) (w : World) (K : KV) : Prop :=
  fcallT P F.view_Merge [t58, a2] w fun t107 w =>
  exT P t107 0 w fun t108 w =>
  exT P t107 1 w fun t109 w =>
  fcallT P F.view_Merge [a0, t70] w fun t113 w =>
  exT P t113 0 w fun t114 w =>
  exT P t113 1 w fun t115 w =>
  binT P .eql T.api_Kind (.tmp 116) (.tmp 117) t109 t115 w fun t118 w =>
  guardT (isB t118 true) (fun K' => K' t108 w) w fun t120 w =>
  guardT (isB t118 true) (fun K' => K' t114 w) w fun t121 w =>
  guardT (isB t118 true) (fun K' => fcallT P F.winnowref09_Same [t120, t121] w K') w fun t122 w =>
  pickT t118 t122 (.bool false) w fun t123 w =>
  guardT (isB t123 true) (fun K' => K' a0 w) w fun t125 w =>
  guardT (isB t123 true) (fun K' => K' t58 w) w fun t126 w =>
  guardT (isB t123 true) (fun K' => fcallT P F.winnowlaw09_below [t125, t126] w K') w fun t127 w =>
  pickT t123 t127 (.bool false) w fun t128 w =>
  guardT (isB t128 true) (fun K' => K' a1 w) w fun t130 w =>
  guardT (isB t128 true) (fun K' => K' t58 w) w fun t131 w =>
  guardT (isB t128 true) (fun K' => fcallT P F.winnowlaw09_below [t130, t131] w K') w fun t132 w =>
  pickT t128 t132 (.bool false) w fun t133 w =>
  guardT (isB t133 true) (fun K' => fcallT P F.winnowlaw09_alive [] w K') w fun t135 w =>
  pickT t133 t135 (.bool false) w fun t136 w =>
  K t136 w
def M.winnowlaw09_ViewJoins.j1 (t59 : Value) (t71 : Value) (x1 : List Value) (t58 : Value) (a2 : Value) (a0 : Value) (t70 : Value) (a1 : Value) (w : World) (K : KV) : Prop :=
  joinT (fun K2 =>
  binT P .neq T.api_Kind (.tmp 97) (.const (.int .i64 0)) t59 (.int .i64 0) w fun t98 w =>
  guardT (isB t98 false) (fun K' => K' t71 w) w fun t100 w =>
  guardT (isB t98 false) (fun K' => binT P .neq T.api_Kind (.tmp 100) (.const (.int .i64 0)) t100 (.int .i64 0) w K') w fun t101 w =>
  pickT t98 (.bool true) t101 w fun t102 w =>
  condT t102 (
  fcallT P F.winnowlaw09_alive [] w fun t103 w =>
  K t103 w) (
  K2 [(gv x1 0)] w)) fun x2 w =>
  M.winnowlaw09_ViewJoins.j2 t58 a2 a0 t70 a1 w K
def M.winnowlaw09_ViewJoins.j0 (a0 : Value) (a1 : Value) (a2 : Value) (x0 : List Value) (w : World) (K : KV) : Prop :=
  fcallT P F.view_Merge [a0, a0] w fun t51 w =>
  exT P t51 0 w fun t52 w =>
  exT P t51 1 w fun t53 w =>
  fcallT P F.view_Merge [a0, a1] w fun t57 w =>
  exT P t57 0 w fun t58 w =>
  exT P t57 1 w fun t59 w =>
  fcallT P F.view_Merge [a1, a0] w fun t63 w =>
  exT P t63 0 w fun t64 w =>
  exT P t63 1 w fun t65 w =>
  fcallT P F.view_Merge [a1, a2] w fun t69 w =>
  exT P t69 0 w fun t70 w =>
  exT P t69 1 w fun t71 w =>
  joinT (fun K1 =>
  binT P .neq T.api_Kind (.tmp 72) (.const (.int .i64 0)) t53 (.int .i64 0) w fun t73 w =>
  guardT (isB t73 false) (fun K' => K' t59 w) w fun t75 w =>
  guardT (isB t73 false) (fun K' => K' t65 w) w fun t76 w =>
  guardT (isB t73 false) (fun K' => binT P .neq T.api_Kind (.tmp 75) (.tmp 76) t75 t76 w K') w fun t77 w =>
  pickT t73 (.bool true) t77 w fun t78 w =>
  guardT (isB t78 false) (fun K' => K' t52 w) w fun t80 w =>
  guardT (isB t78 false) (fun K' => K' a0 w) w fun t81 w =>
  guardT (isB t78 false) (fun K' => fcallT P F.view_Same [t80, t81] w K') w fun t82 w =>
  guardT (isB t78 false) (fun K' => unT P .not t82 w K') w fun t83 w =>
  pickT t78 (.bool true) t83 w fun t84 w =>
  guardT (isB t84 false) (fun K' => K' t58 w) w fun t86 w =>
  guardT (isB t84 false) (fun K' => K' t64 w) w fun t87 w =>
  guardT (isB t84 false) (fun K' => fcallT P F.view_Same [t86, t87] w K') w fun t88 w =>
  guardT (isB t84 false) (fun K' => unT P .not t88 w K') w fun t89 w =>
  pickT t84 (.bool true) t89 w fun t90 w =>
  guardT (isB t90 false) (fun K' => K' t58 w) w fun t92 w =>
  guardT (isB t90 false) (fun K' => K' t64 w) w fun t93 w =>
  guardT (isB t90 false) (fun K' => fcallT P F.winnowref09_Same [t92, t93] w K') w fun t94 w =>
  guardT (isB t90 false) (fun K' => unT P .not t94 w K') w fun t95 w =>
  pickT t90 (.bool true) t95 w fun t96 w =>
  condT t96 (
  K (.bool false) w) (
  K1 [(gv x0 0)] w)) fun x1 w =>
  M.winnowlaw09_ViewJoins.j1 t59 t71 x1 t58 a2 a0 t70 a1 w K
/-- winnow/winnowlaw09.ViewJoins -/
def M.winnowlaw09_ViewJoins (a0 a1 a2 : Value) (w : World) (K : KV) : Prop :=
  joinT (fun K0 =>
  biT P .len #[T.sl_api_Member] T.int [false] [a0] w fun t20 w =>
  binT P .gtr T.int (.tmp 20) (.const (.int .i64 16)) t20 (.int .i64 16) w fun t21 w =>
  guardT (isB t21 false) (fun K' => K' a1 w) w fun t23 w =>
  guardT (isB t21 false) (fun K' => biT P .len #[T.sl_api_Member] T.int [false] [t23] w K') w fun t24 w =>
  guardT (isB t21 false) (fun K' => binT P .gtr T.int (.tmp 24) (.const (.int .i64 16)) t24 (.int .i64 16) w K') w fun t25 w =>
  pickT t21 (.bool true) t25 w fun t26 w =>
  guardT (isB t26 false) (fun K' => K' a2 w) w fun t28 w =>
  guardT (isB t26 false) (fun K' => biT P .len #[T.sl_api_Member] T.int [false] [t28] w K') w fun t29 w =>
  guardT (isB t26 false) (fun K' => binT P .gtr T.int (.tmp 29) (.const (.int .i64 16)) t29 (.int .i64 16) w K') w fun t30 w =>
  pickT t26 (.bool true) t30 w fun t31 w =>
  guardT (isB t31 false) (fun K' => K' a0 w) w fun t33 w =>
  guardT (isB t31 false) (fun K' => fcallT P F.winnowref09_Right [t33] w K') w fun t34 w =>
  guardT (isB t31 false) (fun K' => binT P .neq T.api_Kind (.tmp 34) (.const (.int .i64 0)) t34 (.int .i64 0) w K') w fun t35 w =>
  pickT t31 (.bool true) t35 w fun t36 w =>
  guardT (isB t36 false) (fun K' => K' a1 w) w fun t38 w =>
  guardT (isB t36 false) (fun K' => fcallT P F.winnowref09_Right [t38] w K') w fun t39 w =>
  guardT (isB t36 false) (fun K' => binT P .neq T.api_Kind (.tmp 39) (.const (.int .i64 0)) t39 (.int .i64 0) w K') w fun t40 w =>
  pickT t36 (.bool true) t40 w fun t41 w =>
  guardT (isB t41 false) (fun K' => K' a2 w) w fun t43 w =>
  guardT (isB t41 false) (fun K' => fcallT P F.winnowref09_Right [t43] w K') w fun t44 w =>
  guardT (isB t41 false) (fun K' => binT P .neq T.api_Kind (.tmp 44) (.const (.int .i64 0)) t44 (.int .i64 0) w K') w fun t45 w =>
  pickT t41 (.bool true) t45 w fun t46 w =>
  condT t46 (
  fcallT P F.winnowlaw09_alive [] w fun t47 w =>
  K t47 w) (
  K0 [(.bool false)] w)) fun x0 w =>
  M.winnowlaw09_ViewJoins.j0 a0 a1 a2 x0 w K
def M.winnowlaw09_ViewJoins.L : List Nat := [0, 1, 2, 6, 7, 8, 9, 10, 11, 12, 13, 14, 15, 16, 17, 18]
def M.winnowlaw09_ViewJoins.pl : Nat → Plan := fun id => ⟨.nil, [], false⟩
theorem M.winnowlaw09_ViewJoins.eq (a0 a1 a2 : Value) (w : World) (K : KV) : M.winnowlaw09_ViewJoins a0 a1 a2 w K = den P M.winnowlaw09_ViewJoins.L M.winnowlaw09_ViewJoins.pl (Try.f14.body.getD .skip) (argE [a0, a1, a2]) w (bodyQ P Try.f14.results.toList K) := by kernel_rfl
theorem M.winnowlaw09_ViewJoins.ok : okFn M.winnowlaw09_ViewJoins.L M.winnowlaw09_ViewJoins.pl Try.f14 (Try.f14.body.getD .skip) 3 = true := by kernel_rfl
theorem M.winnowlaw09_ViewJoins.calls (a0 a1 a2 : Value) {w : World} {K : KV} (h : M.winnowlaw09_ViewJoins a0 a1 a2 w K) : callT P F.winnowlaw09_ViewJoins [a0, a1, a2] w K :=
  callT_of_den (by kernel_rfl) Try.func14 (by kernel_rfl) M.winnowlaw09_ViewJoins.ok (M.winnowlaw09_ViewJoins.eq a0 a1 a2 w K ▸ h)
theorem M.winnowlaw09_ViewJoins.fcall (args : List Value) (w : World) (K : KV) : fcallT P F.winnowlaw09_ViewJoins args w K = callT P F.winnowlaw09_ViewJoins args w K := fcallT_eq Try.func14 (by kernel_rfl) (by kernel_rfl) args w K

/-- winnow/buffer.New -/
def M.buffer_New (a0 a1 a2 : Value) (w : World) (K : KV) : Prop :=
  joinT (fun K0 =>
  joinT (fun K1 =>
  binT P .lss T.int (.tmp 9) (.const (.int .i64 1)) a0 (.int .i64 1) w fun t10 w =>
  condT t10 (
  K1 [t10] w) (
  binT P .gtr T.int (.tmp 11) (.const (.int .i64 64)) a0 (.int .i64 64) w fun t12 w =>
  condT t12 (
  K1 [t12] w) (
  binT P .lss T.int (.tmp 13) (.const (.int .i64 1)) a1 (.int .i64 1) w fun t14 w =>
  condT t14 (
  K1 [t14] w) (
  binT P .gtr T.int (.tmp 15) (.const (.int .i64 16)) a1 (.int .i64 16) w fun t16 w =>
  condT t16 (
  K1 [t16] w) (
  binT P .gtr T.uint64 (.tmp 17) (.const (.int .u64 1099511627776)) a2 (.int .u64 1099511627776) w fun t18 w =>
  K1 [t18] w))))) fun x1 w =>
  condT (gv x1 0) (
  K (.tuple #[(.pointer none), (.int .i64 1)]) w) (
  K0 [(gv x1 0), (.pointer none), (.int .i64 0)] w)) fun x0 w =>
  mkmT P T.map_uint64_p_buffer_entry none w fun t22 w =>
  bldT P T.buffer_Buffer #[(1, a0), (2, a1), (3, a2), (4, t22)] w fun t23 w =>
  boxT P T.buffer_Buffer t23 w fun t24 w =>
  K (.tuple #[t24, (.int .i64 0)]) w
def M.buffer_New.L : List Nat := [0, 1, 2, 6, 7, 8]
def M.buffer_New.pl : Nat → Plan := fun id => ⟨.nil, [], false⟩
theorem M.buffer_New.eq (a0 a1 a2 : Value) (w : World) (K : KV) : M.buffer_New a0 a1 a2 w K = den P M.buffer_New.L M.buffer_New.pl (Try.f15.body.getD .skip) (argE [a0, a1, a2]) w (bodyQ P Try.f15.results.toList K) := by kernel_rfl
theorem M.buffer_New.ok : okFn M.buffer_New.L M.buffer_New.pl Try.f15 (Try.f15.body.getD .skip) 3 = true := by kernel_rfl
theorem M.buffer_New.calls (a0 a1 a2 : Value) {w : World} {K : KV} (h : M.buffer_New a0 a1 a2 w K) : callT P F.buffer_New [a0, a1, a2] w K :=
  callT_of_den (by kernel_rfl) Try.func15 (by kernel_rfl) M.buffer_New.ok (M.buffer_New.eq a0 a1 a2 w K ▸ h)
theorem M.buffer_New.fcall (args : List Value) (w : World) (K : KV) : fcallT P F.buffer_New args w K = callT P F.buffer_New args w K := fcallT_eq Try.func15 (by kernel_rfl) (by kernel_rfl) args w K

def M.winnowlaw16_alive.j0 (t12 : Value) (w : World) (K : KV) : Prop :=
  bldT P T.api_Span #[(0, (.int .u64 1)), (1, (.int .u64 1)), (5, (.string ⟨#[97]⟩)), (6, (.string ⟨#[98]⟩))] w fun t20 w =>
  alT P T.api_Span w fun t3 w =>
  stT P T.api_Span t3 t20 w fun _ w =>
  ldT P T.api_Span t3 w fun t22 w =>
  fcallT P F.pbuffer_Buffer_Put [t12, t22, (.int .u64 0)] w fun t23 w =>
  faT P T.api_Span t3 0 w fun t24 w =>
  stT P T.uint64 t24 (.int .u64 2) w fun _ w =>
  ldT P T.api_Span t3 w fun t26 w =>
  fcallT P F.pbuffer_Buffer_Put [t12, t26, (.int .u64 0)] w fun t27 w =>
  faT P T.api_Span t3 0 w fun t28 w =>
  stT P T.uint64 t28 (.int .u64 1) w fun _ w =>
  faT P T.api_Span t3 1 w fun t29 w =>
  stT P T.uint64 t29 (.int .u64 2) w fun _ w =>
  ldT P T.api_Span t3 w fun t31 w =>
  fcallT P F.pbuffer_Buffer_Put [t12, t31, (.int .u64 0)] w fun t32 w =>
  fcallT P F.pbuffer_Buffer_Get [t12, (.int .u64 1)] w fun t35 w =>
  exT P t35 0 w fun t36 w =>
  exT P t35 1 w fun t37 w =>
  exT P t35 2 w fun t38 w =>
  binT P .eql T.api_Kind (.tmp 39) (.const (.int .i64 0)) t23 (.int .i64 0) w fun t40 w =>
  guardT (isB t40 true) (fun K' => K' t27 w) w fun t42 w =>
  guardT (isB t40 true) (fun K' => binT P .eql T.api_Kind (.tmp 42) (.const (.int .i64 8)) t42 (.int .i64 8) w K') w fun t43 w =>
  pickT t40 t43 (.bool false) w fun t44 w =>
  guardT (isB t44 true) (fun K' => K' t32 w) w fun t46 w =>
  guardT (isB t44 true) (fun K' => binT P .eql T.api_Kind (.tmp 46) (.const (.int .i64 9)) t46 (.int .i64 9) w K') w fun t47 w =>
  pickT t44 t47 (.bool false) w fun t48 w =>
  guardT (isB t48 true) (fun K' => K' t36 w) w fun t50 w =>
  guardT (isB t48 true) (fun K' => biT P .len #[T.sl_api_Span] T.int [false] [t50] w K') w fun t51 w =>
  guardT (isB t48 true) (fun K' => binT P .eql T.int (.tmp 51) (.const (.int .i64 1)) t51 (.int .i64 1) w K') w fun t52 w =>
  pickT t48 t52 (.bool false) w fun t53 w =>
  guardT (isB t53 true) (fun K' => K' t37 w) w fun t55 w =>
  pickT t53 t55 (.bool false) w fun t56 w =>
  guardT (isB t56 true) (fun K' => K' t38 w) w fun t58 w =>
  pickT t56 t58 (.bool false) w fun t59 w =>
  guardT (isB t59 true) (fun K' => K' t12 w) w fun t61 w =>
  guardT (isB t59 true) (fun K' => fcallT P F.pbuffer_Buffer_Due [t61, (.int .u64 4)] w K') w fun t62 w =>
  guardT (isB t59 true) (fun K' => biT P .len #[T.sl_uint64] T.int [false] [t62] w K') w fun t63 w =>
  guardT (isB t59 true) (fun K' => binT P .eql T.int (.tmp 63) (.const (.int .i64 0)) t63 (.int .i64 0) w K') w fun t64 w =>
  pickT t59 t64 (.bool false) w fun t65 w =>
  guardT (isB t65 true) (fun K' => K' t12 w) w fun t67 w =>
  guardT (isB t65 true) (fun K' => fcallT P F.pbuffer_Buffer_Due [t67, (.int .u64 5)] w K') w fun t68 w =>
  guardT (isB t65 true) (fun K' => biT P .len #[T.sl_uint64] T.int [false] [t68] w K') w fun t69 w =>
  guardT (isB t65 true) (fun K' => binT P .eql T.int (.tmp 69) (.const (.int .i64 1)) t69 (.int .i64 1) w K') w fun t70 w =>
  pickT t65 t70 (.bool false) w fun t71 w =>
  K t71 w
/-- winnow/winnowlaw16.alive -/
def M.winnowlaw16_alive (w : World) (K : KV) : Prop :=
  fcallT P F.buffer_New [(.int .i64 1), (.int .i64 1), (.int .u64 5)] w fun t11 w =>
  exT P t11 0 w fun t12 w =>
  exT P t11 1 w fun t13 w =>
  joinT (fun K0 =>
  binT P .neq T.api_Kind (.tmp 14) (.const (.int .i64 0)) t13 (.int .i64 0) w fun t15 w =>
  guardT (isB t15 false) (fun K' => K' t12 w) w fun t17 w =>
  guardT (isB t15 false) (fun K' => binT P .eql T.p_buffer_Buffer (.tmp 17) (.const (.pointer none)) t17 (.pointer none) w K') w fun t18 w =>
  pickT t15 (.bool true) t18 w fun t19 w =>
  condT t19 (
  K (.bool false) w) (
  K0 [(.bool false)] w)) fun x0 w =>
  M.winnowlaw16_alive.j0 t12 w K
def M.winnowlaw16_alive.L : List Nat := [0, 1, 2, 4, 5, 6, 7, 8, 9]
def M.winnowlaw16_alive.pl : Nat → Plan := fun id => ⟨.nil, [], false⟩
theorem M.winnowlaw16_alive.eq (w : World) (K : KV) : M.winnowlaw16_alive  w K = den P M.winnowlaw16_alive.L M.winnowlaw16_alive.pl (Try.f16.body.getD .skip) (argE []) w (bodyQ P Try.f16.results.toList K) := by kernel_rfl
theorem M.winnowlaw16_alive.ok : okFn M.winnowlaw16_alive.L M.winnowlaw16_alive.pl Try.f16 (Try.f16.body.getD .skip) 0 = true := by kernel_rfl
theorem M.winnowlaw16_alive.calls {w : World} {K : KV} (h : M.winnowlaw16_alive  w K) : callT P F.winnowlaw16_alive [] w K :=
  callT_of_den (by kernel_rfl) Try.func16 (by kernel_rfl) M.winnowlaw16_alive.ok (M.winnowlaw16_alive.eq  w K ▸ h)
theorem M.winnowlaw16_alive.fcall (args : List Value) (w : World) (K : KV) : fcallT P F.winnowlaw16_alive args w K = callT P F.winnowlaw16_alive args w K := fcallT_eq Try.func16 (by kernel_rfl) (by kernel_rfl) args w K

end Go.Proofs.Ytgcpljghnlohbaa
