/-
  Printed by wip/Shallow.lean: functions of the program, read shallow; each is what its code does. No condition.
-/
import Derived.Test.YtgcpljghnlohbaaN
set_option maxRecDepth 1000000
namespace Go.Proofs.Ytgcpljghnlohbaa
open Go.Eng

/-- winnow/view.Right -/
def M.view_Right (a0 : Value) (w : World) (K : KV) : Prop :=
  joinT (fun K0 =>
  biT P .len #[T.sl_api_Member] T.int [false] [a0] w fun t4 w =>
  binT P .eql T.int (.tmp 4) (.const (.int .i64 0)) t4 (.int .i64 0) w fun t5 w =>
  condT t5 (
  K (.int .i64 0) w) (
  K0 [(.int .i64 0)] w)) fun x0 w =>
  bldT P T.api_Packet #[(0, (.int .i64 3)), (7, a0)] w fun t7 w =>
  fcallT P F.message_Right [t7] w fun t8 w =>
  K t8 w
def M.view_Right.L : List Nat := [0, 2]
def M.view_Right.pl : Nat → Plan := fun id => ⟨.nil, [], false⟩
theorem M.view_Right.eq (a0 : Value) (w : World) (K : KV) : M.view_Right a0 w K = den P M.view_Right.L M.view_Right.pl (Try.f86.body.getD .skip) (argE [a0]) w (bodyQ P Try.f86.results.toList K) := by kernel_rfl
theorem M.view_Right.ok : okFn M.view_Right.L M.view_Right.pl Try.f86 (Try.f86.body.getD .skip) 1 = true := by kernel_rfl
theorem M.view_Right.calls (a0 : Value) {w : World} {K : KV} (h : M.view_Right a0 w K) : callT P F.view_Right [a0] w K :=
  callT_of_den (by kernel_rfl) Try.func86 (by kernel_rfl) M.view_Right.ok (M.view_Right.eq a0 w K ▸ h)
theorem M.view_Right.fcall (args : List Value) (w : World) (K : KV) : fcallT P F.view_Right args w K = callT P F.view_Right args w K := fcallT_eq Try.func86 (by kernel_rfl) (by kernel_rfl) args w K

def M.slices_Concat_api_Member_api_Member.j2 (a0 : Value) (x1 : List Value) (K1 : KL) (w : World) (K : KV) : Prop :=
  joinT (fun K3 =>
  iaT P T.sl_sl_api_Member a0 (gv x1 2) w fun t13 w =>
  ldT P T.sl_api_Member t13 w fun t14 w =>
  biT P .len #[T.sl_api_Member] T.int [false] [t14] w fun t17 w =>
  binT P .add T.int (.tmp 15) (.tmp 17) (gv x1 1) t17 w fun t18 w =>
  binT P .lss T.int (.tmp 19) (.const (.int .i64 0)) t18 (.int .i64 0) w fun t20 w =>
  condT t20 (
  mkiT P T.string (.string ⟨#[108, 101, 110, 32, 111, 117, 116, 32, 111, 102, 32, 114, 97, 110, 103, 101]⟩) w fun t21 w =>
  panicT w fun _ w =>
  K3 [t14, t18] w) (
  K3 [t14, t18] w)) fun x3 w =>
  binT P .add T.int (.tmp 11) (.const (.int .i64 1)) (gv x1 2) (.int .i64 1) w fun t22 w =>
  K1 [(gv x3 0), (gv x3 1), t22] w
def M.slices_Concat_api_Member_api_Member.j6 (a0 : Value) (x5 : List Value) (K5 : KL) (w : World) (K : KV) : Prop :=
  joinT (fun K7 =>
  iaT P T.sl_sl_api_Member a0 (gv x5 2) w fun t29 w =>
  ldT P T.sl_api_Member t29 w fun t30 w =>
  biT P .append #[T.sl_api_Member, T.sl_api_Member] T.sl_api_Member [false, false] [(gv x5 1), t30] w fun t33 w =>
  K7 [t30, t33] w) fun x7 w =>
  binT P .add T.int (.tmp 27) (.const (.int .i64 1)) (gv x5 2) (.int .i64 1) w fun t34 w =>
  K5 [(gv x7 0), (gv x7 1), t34] w
def M.slices_Concat_api_Member_api_Member.j0 (x0 : List Value) (a0 : Value) (w : World) (K : KV) : Prop :=
  fcallT P F.slices_Grow_api_Member_api_Member [(.slice none 0 0), (gv x0 4)] w fun t24 w =>
  joinT (fun K4 =>
  biT P .len #[T.sl_sl_api_Member] T.int [false] [a0] w fun t26 w =>
  loopT [undef, t24, (.int .i64 0)] w fun K5 x5 w =>
  binT P .lss T.int (.tmp 27) (.tmp 26) (gv x5 2) t26 w fun t28 w =>
  joinT (fun K6 =>
  condT t28 (
  K6 [] w) (
  K4 [a0, t26, (gv x5 2), (gv x5 0), (gv x5 1)] w)) fun x6 w =>
  M.slices_Concat_api_Member_api_Member.j6 a0 x5 K5 w K) fun x4 w =>
  K (gv x4 4) w
/-- slices.Concat[[]winnow/api.Member,winnow/api.Member] -/
def M.slices_Concat_api_Member_api_Member (a0 : Value) (w : World) (K : KV) : Prop :=
  joinT (fun K0 =>
  biT P .len #[T.sl_sl_api_Member] T.int [false] [a0] w fun t10 w =>
  loopT [undef, (.int .i64 0), (.int .i64 0)] w fun K1 x1 w =>
  binT P .lss T.int (.tmp 11) (.tmp 10) (gv x1 2) t10 w fun t12 w =>
  joinT (fun K2 =>
  condT t12 (
  K2 [] w) (
  K0 [a0, t10, (gv x1 2), (gv x1 0), (gv x1 1)] w)) fun x2 w =>
  M.slices_Concat_api_Member_api_Member.j2 a0 x1 K1 w K) fun x0 w =>
  M.slices_Concat_api_Member_api_Member.j0 x0 a0 w K
def M.slices_Concat_api_Member_api_Member.L : List Nat := [0, 2, 3, 5, 6, 8, 11, 10, 9, 27, 26, 25]
def M.slices_Concat_api_Member_api_Member.pl : Nat → Plan := fun id => ⟨.nil, [], false⟩
theorem M.slices_Concat_api_Member_api_Member.eq (a0 : Value) (w : World) (K : KV) : M.slices_Concat_api_Member_api_Member a0 w K = den P M.slices_Concat_api_Member_api_Member.L M.slices_Concat_api_Member_api_Member.pl (Try.f87.body.getD .skip) (argE [a0]) w (bodyQ P Try.f87.results.toList K) := by kernel_rfl
theorem M.slices_Concat_api_Member_api_Member.ok : okFn M.slices_Concat_api_Member_api_Member.L M.slices_Concat_api_Member_api_Member.pl Try.f87 (Try.f87.body.getD .skip) 1 = true := by kernel_rfl
theorem M.slices_Concat_api_Member_api_Member.calls (a0 : Value) {w : World} {K : KV} (h : M.slices_Concat_api_Member_api_Member a0 w K) : callT P F.slices_Concat_api_Member_api_Member [a0] w K :=
  callT_of_den (by kernel_rfl) Try.func87 (by kernel_rfl) M.slices_Concat_api_Member_api_Member.ok (M.slices_Concat_api_Member_api_Member.eq a0 w K ▸ h)
theorem M.slices_Concat_api_Member_api_Member.fcall (args : List Value) (w : World) (K : KV) : fcallT P F.slices_Concat_api_Member_api_Member args w K = callT P F.slices_Concat_api_Member_api_Member args w K := fcallT_eq Try.func87 (by kernel_rfl) (by kernel_rfl) args w K

/-- maps.Keys[map[uint64]winnow/api.Member,uint64,winnow/api.Member] -/
def M.maps_Keys_map_uint64_api_Member_uint64_api_Member (a0 : Value) (w : World) (K : KV) : Prop :=
  boxT P T.map_uint64_api_Member a0 w fun t1 w =>
  mkfT P (.func F.maps_Keys_map_uint64_api_Member_uint64_api_Member_1) [] [t1] w fun t3 w =>
  K t3 w
def M.maps_Keys_map_uint64_api_Member_uint64_api_Member.L : List Nat := [0, 2]
def M.maps_Keys_map_uint64_api_Member_uint64_api_Member.pl : Nat → Plan := fun id => ⟨.nil, [], false⟩
theorem M.maps_Keys_map_uint64_api_Member_uint64_api_Member.eq (a0 : Value) (w : World) (K : KV) : M.maps_Keys_map_uint64_api_Member_uint64_api_Member a0 w K = den P M.maps_Keys_map_uint64_api_Member_uint64_api_Member.L M.maps_Keys_map_uint64_api_Member_uint64_api_Member.pl (Try.f88.body.getD .skip) (argE [a0]) w (bodyQ P Try.f88.results.toList K) := by kernel_rfl
theorem M.maps_Keys_map_uint64_api_Member_uint64_api_Member.ok : okFn M.maps_Keys_map_uint64_api_Member_uint64_api_Member.L M.maps_Keys_map_uint64_api_Member_uint64_api_Member.pl Try.f88 (Try.f88.body.getD .skip) 1 = true := by kernel_rfl
theorem M.maps_Keys_map_uint64_api_Member_uint64_api_Member.calls (a0 : Value) {w : World} {K : KV} (h : M.maps_Keys_map_uint64_api_Member_uint64_api_Member a0 w K) : callT P F.maps_Keys_map_uint64_api_Member_uint64_api_Member [a0] w K :=
  callT_of_den (by kernel_rfl) Try.func88 (by kernel_rfl) M.maps_Keys_map_uint64_api_Member_uint64_api_Member.ok (M.maps_Keys_map_uint64_api_Member_uint64_api_Member.eq a0 w K ▸ h)
theorem M.maps_Keys_map_uint64_api_Member_uint64_api_Member.fcall (args : List Value) (w : World) (K : KV) : fcallT P F.maps_Keys_map_uint64_api_Member_uint64_api_Member args w K = callT P F.maps_Keys_map_uint64_api_Member_uint64_api_Member args w K := fcallT_eq Try.func88 (by kernel_rfl) (by kernel_rfl) args w K

/-- winnow/winnowref09.Newer -/
def M.winnowref09_Newer (a0 a1 : Value) (w : World) (K : KV) : Prop :=
  boxT P T.api_Member a0 w fun t2 w =>
  boxT P T.api_Member a1 w fun t3 w =>
  faT P T.api_Member t2 1 w fun t5 w =>
  ldT P T.uint64 t5 w fun t6 w =>
  faT P T.api_Member t3 1 w fun t7 w =>
  ldT P T.uint64 t7 w fun t8 w =>
  binT P .gtr T.uint64 (.tmp 6) (.tmp 8) t6 t8 w fun t9 w =>
  guardT (isB t9 false) (fun K' => faT P T.api_Member t2 1 w K') w fun t11 w =>
  guardT (isB t9 false) (fun K' => ldT P T.uint64 t11 w K') w fun t12 w =>
  guardT (isB t9 false) (fun K' => faT P T.api_Member t3 1 w K') w fun t13 w =>
  guardT (isB t9 false) (fun K' => ldT P T.uint64 t13 w K') w fun t14 w =>
  guardT (isB t9 false) (fun K' => binT P .eql T.uint64 (.tmp 12) (.tmp 14) t12 t14 w K') w fun t15 w =>
  guardT (isB t9 false) (fun K' => K' t15 w) w fun t16 w =>
  guardT (isB t16 true) (fun K' => faT P T.api_Member t2 2 w K') w fun t17 w =>
  guardT (isB t16 true) (fun K' => ldT P T.int t17 w K') w fun t18 w =>
  guardT (isB t16 true) (fun K' => faT P T.api_Member t3 2 w K') w fun t19 w =>
  guardT (isB t16 true) (fun K' => ldT P T.int t19 w K') w fun t20 w =>
  guardT (isB t16 true) (fun K' => binT P .gtr T.int (.tmp 18) (.tmp 20) t18 t20 w K') w fun t21 w =>
  guardT (isB t9 false) (fun K' => pickT t16 t21 (.bool false) w K') w fun t22 w =>
  pickT t9 (.bool true) t22 w fun t23 w =>
  K t23 w
def M.winnowref09_Newer.L : List Nat := [0, 1, 4]
def M.winnowref09_Newer.pl : Nat → Plan := fun id => ⟨.nil, [], false⟩
theorem M.winnowref09_Newer.eq (a0 a1 : Value) (w : World) (K : KV) : M.winnowref09_Newer a0 a1 w K = den P M.winnowref09_Newer.L M.winnowref09_Newer.pl (Try.f89.body.getD .skip) (argE [a0, a1]) w (bodyQ P Try.f89.results.toList K) := by kernel_rfl
theorem M.winnowref09_Newer.ok : okFn M.winnowref09_Newer.L M.winnowref09_Newer.pl Try.f89 (Try.f89.body.getD .skip) 2 = true := by kernel_rfl
theorem M.winnowref09_Newer.calls (a0 a1 : Value) {w : World} {K : KV} (h : M.winnowref09_Newer a0 a1 w K) : callT P F.winnowref09_Newer [a0, a1] w K :=
  callT_of_den (by kernel_rfl) Try.func89 (by kernel_rfl) M.winnowref09_Newer.ok (M.winnowref09_Newer.eq a0 a1 w K ▸ h)
theorem M.winnowref09_Newer.fcall (args : List Value) (w : World) (K : KV) : fcallT P F.winnowref09_Newer args w K = callT P F.winnowref09_Newer args w K := fcallT_eq Try.func89 (by kernel_rfl) (by kernel_rfl) args w K

def M.winnowref05_Members.j2 (a0 : Value) (x1 : List Value) (K1 : KL) (w : World) (K : KV) : Prop :=
  joinT (fun K3 =>
  iaT P T.sl_api_Member a0 (gv x1 1) w fun t13 w =>
  ldT P T.api_Member t13 w fun t14 w =>
  alT P T.api_Member w fun t4 w =>
  stT P T.api_Member t4 t14 w fun _ w =>
  drawT w fun w =>
  quietT (fun K' => faT P T.api_Member t4 0 w K') w fun t15 =>
  quietT (fun K' => ldT P T.uint64 t15 w K') w fun t16 =>
  quietT (fun K' => binT P .eql T.uint64 (.tmp 16) (.const (.int .u64 0)) t16 (.int .u64 0) w K') w fun t17 =>
  w = w ∧ quietT (fun K' => guardT (isB t17 false) (fun K' => faT P T.api_Member t4 1 w K') w K') w fun t19 =>
  quietT (fun K' => guardT (isB t17 false) (fun K' => ldT P T.uint64 t19 w K') w K') w fun t20 =>
  quietT (fun K' => guardT (isB t17 false) (fun K' => binT P .eql T.uint64 (.tmp 20) (.const (.int .u64 0)) t20 (.int .u64 0) w K') w K') w fun t21 =>
  quietT (fun K' => pickT t17 (.bool true) t21 w K') w fun t22 =>
  w = w ∧ quietT (fun K' => guardT (isB t22 false) (fun K' => faT P T.api_Member t4 2 w K') w K') w fun t24 =>
  quietT (fun K' => guardT (isB t22 false) (fun K' => ldT P T.int t24 w K') w K') w fun t25 =>
  quietT (fun K' => guardT (isB t22 false) (fun K' => binT P .lss T.int (.tmp 25) (.const (.int .i64 0)) t25 (.int .i64 0) w K') w K') w fun t26 =>
  quietT (fun K' => pickT t22 (.bool true) t26 w K') w fun t27 =>
  w = w ∧ quietT (fun K' => guardT (isB t27 false) (fun K' => faT P T.api_Member t4 2 w K') w K') w fun t29 =>
  quietT (fun K' => guardT (isB t27 false) (fun K' => ldT P T.int t29 w K') w K') w fun t30 =>
  quietT (fun K' => guardT (isB t27 false) (fun K' => binT P .gtr T.int (.tmp 30) (.const (.int .i64 2)) t30 (.int .i64 2) w K') w K') w fun t31 =>
  quietT (fun K' => pickT t27 (.bool true) t31 w K') w fun t32 =>
  w = w ∧ quietT (fun K' => guardT (isB t32 false) (fun K' => K' (gv x1 1) w) w K') w fun t34 =>
  quietT (fun K' => guardT (isB t32 false) (fun K' => binT P .gtr T.int (.tmp 34) (.const (.int .i64 0)) t34 (.int .i64 0) w K') w K') w fun t35 =>
  quietT (fun K' => guardT (isB t32 false) (fun K' => K' t35 w) w K') w fun t36 =>
  quietT (fun K' => guardT (isB t36 true) (fun K' => K' a0 w) w K') w fun t37 =>
  quietT (fun K' => guardT (isB t36 true) (fun K' => K' (gv x1 1) w) w K') w fun t38 =>
  quietT (fun K' => guardT (isB t36 true) (fun K' => binT P .sub T.int (.tmp 38) (.const (.int .i64 1)) t38 (.int .i64 1) w K') w K') w fun t39 =>
  quietT (fun K' => guardT (isB t36 true) (fun K' => iaT P T.sl_api_Member t37 t39 w K') w K') w fun t40 =>
  quietT (fun K' => guardT (isB t36 true) (fun K' => faT P T.api_Member t40 0 w K') w K') w fun t41 =>
  quietT (fun K' => guardT (isB t36 true) (fun K' => ldT P T.uint64 t41 w K') w K') w fun t42 =>
  quietT (fun K' => guardT (isB t36 true) (fun K' => faT P T.api_Member t4 0 w K') w K') w fun t43 =>
  quietT (fun K' => guardT (isB t36 true) (fun K' => ldT P T.uint64 t43 w K') w K') w fun t44 =>
  quietT (fun K' => guardT (isB t36 true) (fun K' => binT P .geq T.uint64 (.tmp 42) (.tmp 44) t42 t44 w K') w K') w fun t45 =>
  quietT (fun K' => guardT (isB t32 false) (fun K' => pickT t36 t45 (.bool false) w K') w K') w fun t46 =>
  quietT (fun K' => pickT t32 (.bool true) t46 w K') w fun t47 =>
  condT t47 (
  K (.bool false) w) (
  K3 [(gv x1 0)] w)) fun x3 w =>
  binT P .add T.int (.tmp 9) (.const (.int .i64 1)) (gv x1 1) (.int .i64 1) w fun t10 w =>
  K1 [(gv x3 0), t10] w
def M.winnowref05_Members.j0 (a0 : Value) (w : World) (K : KV) : Prop :=
  biT P .len #[T.sl_api_Member] T.int [false] [a0] w fun t49 w =>
  binT P .geq T.int (.tmp 49) (.const (.int .i64 1)) t49 (.int .i64 1) w fun t50 w =>
  guardT (isB t50 true) (fun K' => K' a0 w) w fun t52 w =>
  guardT (isB t50 true) (fun K' => biT P .len #[T.sl_api_Member] T.int [false] [t52] w K') w fun t53 w =>
  guardT (isB t50 true) (fun K' => binT P .leq T.int (.tmp 53) (.const (.int .i64 16)) t53 (.int .i64 16) w K') w fun t54 w =>
  pickT t50 t54 (.bool false) w fun t55 w =>
  K t55 w
/-- winnow/winnowref05.Members -/
def M.winnowref05_Members (a0 : Value) (w : World) (K : KV) : Prop :=
  joinT (fun K0 =>
  loopT [(.bool false), (.int .i64 0)] w fun K1 x1 w =>
  joinT (fun K2 =>
  biT P .len #[T.sl_api_Member] T.int [false] [a0] w fun t7 w =>
  binT P .lss T.int (.tmp 5) (.tmp 7) (gv x1 1) t7 w fun t8 w =>
  condT t8 (
  K2 [] w) (
  K0 [(gv x1 1), (gv x1 0)] w)) fun x2 w =>
  M.winnowref05_Members.j2 a0 x1 K1 w K) fun x0 w =>
  M.winnowref05_Members.j0 a0 w K
def M.winnowref05_Members.L : List Nat := [0, 2, 3]
def M.winnowref05_Members.pl : Nat → Plan := fun id => cond (Nat.beq id 5) ⟨(.go 0 (.go 1 (.go 2 (.go 3 (.go 4 (.go 5 (.go 6 (.go 7 (.go 8 (.go 9 (.go 10 (.go 11 (.go 12 (.go 13 (.go 14 (.go 15 (.go 16 (.go 17 (.go 18 (.go 19 (.go 20 (.go 21 (.go 22 (.go 23 (.go 24 (.go 25 (.go 26 (.go 27 (.go 28 (.go 29 (.go 30 (.go 31 (.go 32 .nil))))))))))))))))))))))))))))))))), [], false⟩ (⟨.nil, [], false⟩)
theorem M.winnowref05_Members.eq (a0 : Value) (w : World) (K : KV) : M.winnowref05_Members a0 w K = den P M.winnowref05_Members.L M.winnowref05_Members.pl (Try.f90.body.getD .skip) (argE [a0]) w (bodyQ P Try.f90.results.toList K) := by kernel_rfl
theorem M.winnowref05_Members.ok : okFn M.winnowref05_Members.L M.winnowref05_Members.pl Try.f90 (Try.f90.body.getD .skip) 1 = true := by kernel_rfl
theorem M.winnowref05_Members.calls (a0 : Value) {w : World} {K : KV} (h : M.winnowref05_Members a0 w K) : callT P F.winnowref05_Members [a0] w K :=
  callT_of_den (by kernel_rfl) Try.func90 (by kernel_rfl) M.winnowref05_Members.ok (M.winnowref05_Members.eq a0 w K ▸ h)
theorem M.winnowref05_Members.fcall (args : List Value) (w : World) (K : KV) : fcallT P F.winnowref05_Members args w K = callT P F.winnowref05_Members args w K := fcallT_eq Try.func90 (by kernel_rfl) (by kernel_rfl) args w K

def M.slices_Equal_api_Member_api_Member.j3 (a0 : Value) (x2 : List Value) (a1 : Value) (K2 : KL) (w : World) (K : KV) : Prop :=
  joinT (fun K4 =>
  drawT w fun w =>
  w = w ∧ w = w ∧ quietT (fun K' => iaT P T.sl_api_Member a0 (gv x2 2) w K') w fun t18 =>
  quietT (fun K' => ldT P T.api_Member t18 w K') w fun t19 =>
  w = w ∧ w = w ∧ quietT (fun K' => iaT P T.sl_api_Member a1 (gv x2 2) w K') w fun t22 =>
  quietT (fun K' => ldT P T.api_Member t22 w K') w fun t23 =>
  quietT (fun K' => binT P .neq T.api_Member (.tmp 19) (.tmp 23) t19 t23 w K') w fun t24 =>
  condT t24 (
  K (.bool false) w) (
  K4 [(gv x2 2), (gv x2 1)] w)) fun x4 w =>
  binT P .add T.int (.tmp 13) (.const (.int .i64 1)) (gv x2 2) (.int .i64 1) w fun t25 w =>
  K2 [(gv x4 0), (gv x4 1), t25] w
def M.slices_Equal_api_Member_api_Member.j0 (a0 : Value) (x0 : List Value) (a1 : Value) (w : World) (K : KV) : Prop :=
  joinT (fun K1 =>
  biT P .len #[T.sl_api_Member] T.int [false] [a0] w fun t12 w =>
  loopT [undef, (gv x0 0), (.int .i64 0)] w fun K2 x2 w =>
  binT P .lss T.int (.tmp 13) (.tmp 12) (gv x2 2) t12 w fun t14 w =>
  joinT (fun K3 =>
  condT t14 (
  K3 [] w) (
  K1 [t12, (gv x2 2), (gv x2 0), (gv x2 1)] w)) fun x3 w =>
  M.slices_Equal_api_Member_api_Member.j3 a0 x2 a1 K2 w K) fun x1 w =>
  K (.bool true) w
/-- slices.Equal[[]winnow/api.Member,winnow/api.Member] -/
def M.slices_Equal_api_Member_api_Member (a0 a1 : Value) (w : World) (K : KV) : Prop :=
  joinT (fun K0 =>
  biT P .len #[T.sl_api_Member] T.int [false] [a0] w fun t7 w =>
  biT P .len #[T.sl_api_Member] T.int [false] [a1] w fun t9 w =>
  binT P .neq T.int (.tmp 7) (.tmp 9) t7 t9 w fun t10 w =>
  condT t10 (
  K (.bool false) w) (
  K0 [(.bool false)] w)) fun x0 w =>
  M.slices_Equal_api_Member_api_Member.j0 a0 x0 a1 w K
def M.slices_Equal_api_Member_api_Member.L : List Nat := [0, 1, 4, 5, 13, 12]
def M.slices_Equal_api_Member_api_Member.pl : Nat → Plan := fun id => cond (Nat.beq id 6) ⟨(.go 0 (.go 1 (.go 2 (.go 3 (.go 4 (.go 5 (.go 6 (.go 7 (.go 8 .nil))))))))), [], false⟩ (⟨.nil, [], false⟩)
theorem M.slices_Equal_api_Member_api_Member.eq (a0 a1 : Value) (w : World) (K : KV) : M.slices_Equal_api_Member_api_Member a0 a1 w K = den P M.slices_Equal_api_Member_api_Member.L M.slices_Equal_api_Member_api_Member.pl (Try.f91.body.getD .skip) (argE [a0, a1]) w (bodyQ P Try.f91.results.toList K) := by kernel_rfl
theorem M.slices_Equal_api_Member_api_Member.ok : okFn M.slices_Equal_api_Member_api_Member.L M.slices_Equal_api_Member_api_Member.pl Try.f91 (Try.f91.body.getD .skip) 2 = true := by kernel_rfl
theorem M.slices_Equal_api_Member_api_Member.calls (a0 a1 : Value) {w : World} {K : KV} (h : M.slices_Equal_api_Member_api_Member a0 a1 w K) : callT P F.slices_Equal_api_Member_api_Member [a0, a1] w K :=
  callT_of_den (by kernel_rfl) Try.func91 (by kernel_rfl) M.slices_Equal_api_Member_api_Member.ok (M.slices_Equal_api_Member_api_Member.eq a0 a1 w K ▸ h)
theorem M.slices_Equal_api_Member_api_Member.fcall (args : List Value) (w : World) (K : KV) : fcallT P F.slices_Equal_api_Member_api_Member args w K = callT P F.slices_Equal_api_Member_api_Member args w K := fcallT_eq Try.func91 (by kernel_rfl) (by kernel_rfl) args w K

def M.winnowref09_Find.j2 (a0 : Value) (x1 : List Value) (a1 : Value) (t4 : Value) (K1 : KL) (w : World) (K : KV) : Prop :=
  joinT (fun K3 =>
  iaT P T.sl_api_Member a0 (gv x1 1) w fun t15 w =>
  faT P T.api_Member t15 0 w fun t16 w =>
  ldT P T.uint64 t16 w fun t17 w =>
  binT P .eql T.uint64 (.tmp 17) (.tmp 18) t17 a1 w fun t19 w =>
  condT t19 (
  iaT P T.sl_api_Member a0 (gv x1 1) w fun t22 w =>
  ldT P T.api_Member t22 w fun t23 w =>
  stT P T.api_Member t4 t23 w fun _ w =>
  quietT (fun K' => resT P T.api_Member t4 w K') w fun r0 =>
  K (.tuple #[r0, (.bool true)]) w) (
  K3 [(gv x1 0)] w)) fun x3 w =>
  binT P .add T.int (.tmp 11) (.const (.int .i64 1)) (gv x1 1) (.int .i64 1) w fun t12 w =>
  K1 [(gv x3 0), t12] w
/-- winnow/winnowref09.Find -/
def M.winnowref09_Find (a0 a1 : Value) (w : World) (K : KV) : Prop :=
  alT P T.api_Member w fun t4 w =>
  joinT (fun K0 =>
  loopT [(.bool false), (.int .i64 0)] w fun K1 x1 w =>
  joinT (fun K2 =>
  biT P .len #[T.sl_api_Member] T.int [false] [a0] w fun t9 w =>
  binT P .lss T.int (.tmp 7) (.tmp 9) (gv x1 1) t9 w fun t10 w =>
  condT t10 (
  K2 [] w) (
  K0 [(gv x1 1), (gv x1 0)] w)) fun x2 w =>
  M.winnowref09_Find.j2 a0 x1 a1 t4 K1 w K) fun x0 w =>
  bldT P T.api_Member #[] w fun t24 w =>
  stT P T.api_Member t4 t24 w fun _ w =>
  quietT (fun K' => resT P T.api_Member t4 w K') w fun r0 =>
  K (.tuple #[r0, (.bool false)]) w
def M.winnowref09_Find.L : List Nat := [0, 1, 4, 5, 6]
def M.winnowref09_Find.pl : Nat → Plan := fun id => ⟨.nil, [], false⟩
theorem M.winnowref09_Find.eq (a0 a1 : Value) (w : World) (K : KV) : M.winnowref09_Find a0 a1 w K = den P M.winnowref09_Find.L M.winnowref09_Find.pl (Try.f92.body.getD .skip) (argE [a0, a1]) w (bodyQ P Try.f92.results.toList K) := by kernel_rfl
theorem M.winnowref09_Find.ok : okFn M.winnowref09_Find.L M.winnowref09_Find.pl Try.f92 (Try.f92.body.getD .skip) 2 = true := by kernel_rfl
theorem M.winnowref09_Find.calls (a0 a1 : Value) {w : World} {K : KV} (h : M.winnowref09_Find a0 a1 w K) : callT P F.winnowref09_Find [a0, a1] w K :=
  callT_of_den (by kernel_rfl) Try.func92 (by kernel_rfl) M.winnowref09_Find.ok (M.winnowref09_Find.eq a0 a1 w K ▸ h)
theorem M.winnowref09_Find.fcall (args : List Value) (w : World) (K : KV) : fcallT P F.winnowref09_Find args w K = callT P F.winnowref09_Find args w K := fcallT_eq Try.func92 (by kernel_rfl) (by kernel_rfl) args w K

def M.span_Name.j4 (x4 : List Value) (t17 : Value) (a0 : Value) (t16 : Value) (K2 : KL) (t14 : Value) (x2 : List Value) (w : World) (K : KV) : Prop :=
  condT (gv x4 0) (
  K (.int .i64 5) w) (
  binT P .eql T.int32 (.tmp 28) (.const (.int .i32 65533)) t17 (.int .i32 65533) w fun t29 w =>
  guardT (isB t29 true) (fun K' => K' a0 w) w fun t31 w =>
  guardT (isB t29 true) (fun K' => K' t16 w) w fun t32 w =>
  guardT (isB t29 true) (fun K' => slT P T.string t31 (some t32) none none w K') w fun t33 w =>
  guardT (isB t29 true) (fun K' => fcallT P F.strings_HasPrefix [t33, (.string ⟨#[239, 191, 189]⟩)] w K') w fun t34 w =>
  guardT (isB t29 true) (fun K' => unT P .not t34 w K') w fun t35 w =>
  pickT t29 t35 (.bool false) w fun t36 w =>
  condT t36 (
  K (.int .i64 5) w) (
  K2 [t14, t16, t17, (gv x4 0), (gv x2 4), t36] w))
def M.span_Name.j3 (t14 : Value) (a0 : Value) (K2 : KL) (x2 : List Value) (w : World) (K : KV) : Prop :=
  exT P t14 1 w fun t16 w =>
  exT P t14 2 w fun t17 w =>
  joinT (fun K4 =>
  binT P .lss T.int32 (.tmp 19) (.const (.int .i32 32)) t17 (.int .i32 32) w fun t20 w =>
  condT t20 (
  K4 [t20] w) (
  binT P .leq T.int32 (.const (.int .i32 127)) (.tmp 21) (.int .i32 127) t17 w fun t22 w =>
  guardT (isB t22 true) (fun K' => K' t17 w) w fun t24 w =>
  guardT (isB t22 true) (fun K' => binT P .leq T.int32 (.tmp 24) (.const (.int .i32 159)) t24 (.int .i32 159) w K') w fun t25 w =>
  pickT t22 t25 (.bool false) w fun t26 w =>
  K4 [t26] w)) fun x4 w =>
  M.span_Name.j4 x4 t17 a0 t16 K2 t14 x2 w K
def M.span_Name.j0 (a0 : Value) (x0 : List Value) (w : World) (K : KV) : Prop :=
  joinT (fun K1 =>
  rgT P T.string a0 w fun t13 w =>
  loopT [undef, undef, undef, undef, (gv x0 0), undef] w fun K2 x2 w =>
  nxT P t13 true T._ w fun t14 w =>
  exT P t14 0 w fun t15 w =>
  joinT (fun K3 =>
  condT t15 (
  K3 [] w) (
  K1 [t13, t14, (gv x2 1), (gv x2 2), (gv x2 3), (gv x2 4), (gv x2 5)] w)) fun x3 w =>
  M.span_Name.j3 t14 a0 K2 x2 w K) fun x1 w =>
  K (.int .i64 0) w
/-- winnow/span.Name -/
def M.span_Name (a0 : Value) (w : World) (K : KV) : Prop :=
  joinT (fun K0 =>
  binT P .eql T.string (.tmp 5) (.const (.string ⟨#[]⟩)) a0 (.string ⟨#[]⟩) w fun t6 w =>
  guardT (isB t6 false) (fun K' => K' a0 w) w fun t8 w =>
  guardT (isB t6 false) (fun K' => biT P .len #[T.string] T.int [false] [t8] w K') w fun t9 w =>
  guardT (isB t6 false) (fun K' => binT P .gtr T.int (.tmp 9) (.const (.int .i64 32)) t9 (.int .i64 32) w K') w fun t10 w =>
  pickT t6 (.bool true) t10 w fun t11 w =>
  condT t11 (
  K (.int .i64 5) w) (
  K0 [(.int .i64 0)] w)) fun x0 w =>
  M.span_Name.j0 a0 x0 w K
def M.span_Name.L : List Nat := [0, 2, 3, 4, 18, 27, 13, 14]
def M.span_Name.pl : Nat → Plan := fun id => ⟨.nil, [], false⟩
theorem M.span_Name.eq (a0 : Value) (w : World) (K : KV) : M.span_Name a0 w K = den P M.span_Name.L M.span_Name.pl (Try.f93.body.getD .skip) (argE [a0]) w (bodyQ P Try.f93.results.toList K) := by kernel_rfl
theorem M.span_Name.ok : okFn M.span_Name.L M.span_Name.pl Try.f93 (Try.f93.body.getD .skip) 1 = true := by kernel_rfl
theorem M.span_Name.calls (a0 : Value) {w : World} {K : KV} (h : M.span_Name a0 w K) : callT P F.span_Name [a0] w K :=
  callT_of_den (by kernel_rfl) Try.func93 (by kernel_rfl) M.span_Name.ok (M.span_Name.eq a0 w K ▸ h)
theorem M.span_Name.fcall (args : List Value) (w : World) (K : KV) : fcallT P F.span_Name args w K = callT P F.span_Name args w K := fcallT_eq Try.func93 (by kernel_rfl) (by kernel_rfl) args w K

/-- container/heap.Fix -/
def M.heap_Fix (a0 a1 : Value) (w : World) (K : KV) : Prop :=
  invokeT P a0 "Len" [] w fun t7 w =>
  fcallT P F.heap_down [a0, a1, t7] w fun t8 w =>
  unT P .not t8 w fun t9 w =>
  condT t9 (
  fcallT P F.heap_up [a0, a1] w fun t12 w =>
  K (.tuple #[]) w) (
  K (.tuple #[]) w)
def M.heap_Fix.L : List Nat := [0, 1]
def M.heap_Fix.pl : Nat → Plan := fun id => ⟨.nil, [], false⟩
theorem M.heap_Fix.eq (a0 a1 : Value) (w : World) (K : KV) : M.heap_Fix a0 a1 w K = den P M.heap_Fix.L M.heap_Fix.pl (Try.f94.body.getD .skip) (argE [a0, a1]) w (bodyQ P Try.f94.results.toList K) := by kernel_rfl
theorem M.heap_Fix.ok : okFn M.heap_Fix.L M.heap_Fix.pl Try.f94 (Try.f94.body.getD .skip) 2 = true := by kernel_rfl
theorem M.heap_Fix.calls (a0 a1 : Value) {w : World} {K : KV} (h : M.heap_Fix a0 a1 w K) : callT P F.heap_Fix [a0, a1] w K :=
  callT_of_den (by kernel_rfl) Try.func94 (by kernel_rfl) M.heap_Fix.ok (M.heap_Fix.eq a0 a1 w K ▸ h)
theorem M.heap_Fix.fcall (args : List Value) (w : World) (K : KV) : fcallT P F.heap_Fix args w K = callT P F.heap_Fix args w K := fcallT_eq Try.func94 (by kernel_rfl) (by kernel_rfl) args w K

/-- container/heap.Push -/
def M.heap_Push (a0 a1 : Value) (w : World) (K : KV) : Prop :=
  invokeT P a0 "Push" [a1] w fun t6 w =>
  invokeT P a0 "Len" [] w fun t9 w =>
  binT P .sub T.int (.tmp 9) (.const (.int .i64 1)) t9 (.int .i64 1) w fun t10 w =>
  fcallT P F.heap_up [a0, t10] w fun t11 w =>
  K (.tuple #[]) w
def M.heap_Push.L : List Nat := [0, 1]
def M.heap_Push.pl : Nat → Plan := fun id => ⟨.nil, [], false⟩
theorem M.heap_Push.eq (a0 a1 : Value) (w : World) (K : KV) : M.heap_Push a0 a1 w K = den P M.heap_Push.L M.heap_Push.pl (Try.f95.body.getD .skip) (argE [a0, a1]) w (bodyQ P Try.f95.results.toList K) := by kernel_rfl
theorem M.heap_Push.ok : okFn M.heap_Push.L M.heap_Push.pl Try.f95 (Try.f95.body.getD .skip) 2 = true := by kernel_rfl
theorem M.heap_Push.calls (a0 a1 : Value) {w : World} {K : KV} (h : M.heap_Push a0 a1 w K) : callT P F.heap_Push [a0, a1] w K :=
  callT_of_den (by kernel_rfl) Try.func95 (by kernel_rfl) M.heap_Push.ok (M.heap_Push.eq a0 a1 w K ▸ h)
theorem M.heap_Push.fcall (args : List Value) (w : World) (K : KV) : fcallT P F.heap_Push args w K = callT P F.heap_Push args w K := fcallT_eq Try.func95 (by kernel_rfl) (by kernel_rfl) args w K

def M.slices_IndexFunc_api_Span_api_Span.j2 (a0 : Value) (x1 : List Value) (a1 : Value) (K1 : KL) (w : World) (K : KV) : Prop :=
  joinT (fun K3 =>
  iaT P T.sl_api_Span a0 (gv x1 2) w fun t14 w =>
  ldT P T.api_Span t14 w fun t15 w =>
  callVT P a1 [t15] w fun t16 w =>
  condT t16 (
  K (gv x1 2) w) (
  K3 [(gv x1 2), (gv x1 1)] w)) fun x3 w =>
  binT P .add T.int (.tmp 8) (.const (.int .i64 1)) (gv x1 2) (.int .i64 1) w fun t18 w =>
  K1 [(gv x3 0), (gv x3 1), t18] w
/-- slices.IndexFunc[[]winnow/api.Span,winnow/api.Span] -/
def M.slices_IndexFunc_api_Span_api_Span (a0 a1 : Value) (w : World) (K : KV) : Prop :=
  joinT (fun K0 =>
  biT P .len #[T.sl_api_Span] T.int [false] [a0] w fun t7 w =>
  loopT [undef, (.int .i64 0), (.int .i64 0)] w fun K1 x1 w =>
  binT P .lss T.int (.tmp 8) (.tmp 7) (gv x1 2) t7 w fun t9 w =>
  joinT (fun K2 =>
  condT t9 (
  K2 [] w) (
  K0 [t7, (gv x1 2), (gv x1 0), (gv x1 1)] w)) fun x2 w =>
  M.slices_IndexFunc_api_Span_api_Span.j2 a0 x1 a1 K1 w K) fun x0 w =>
  K (.int .i64 (-1)) w
def M.slices_IndexFunc_api_Span_api_Span.L : List Nat := [0, 1, 4, 5, 8, 7]
def M.slices_IndexFunc_api_Span_api_Span.pl : Nat → Plan := fun id => ⟨.nil, [], false⟩
theorem M.slices_IndexFunc_api_Span_api_Span.eq (a0 a1 : Value) (w : World) (K : KV) : M.slices_IndexFunc_api_Span_api_Span a0 a1 w K = den P M.slices_IndexFunc_api_Span_api_Span.L M.slices_IndexFunc_api_Span_api_Span.pl (Try.f96.body.getD .skip) (argE [a0, a1]) w (bodyQ P Try.f96.results.toList K) := by kernel_rfl
theorem M.slices_IndexFunc_api_Span_api_Span.ok : okFn M.slices_IndexFunc_api_Span_api_Span.L M.slices_IndexFunc_api_Span_api_Span.pl Try.f96 (Try.f96.body.getD .skip) 2 = true := by kernel_rfl
theorem M.slices_IndexFunc_api_Span_api_Span.calls (a0 a1 : Value) {w : World} {K : KV} (h : M.slices_IndexFunc_api_Span_api_Span a0 a1 w K) : callT P F.slices_IndexFunc_api_Span_api_Span [a0, a1] w K :=
  callT_of_den (by kernel_rfl) Try.func96 (by kernel_rfl) M.slices_IndexFunc_api_Span_api_Span.ok (M.slices_IndexFunc_api_Span_api_Span.eq a0 a1 w K ▸ h)
theorem M.slices_IndexFunc_api_Span_api_Span.fcall (args : List Value) (w : World) (K : KV) : fcallT P F.slices_IndexFunc_api_Span_api_Span args w K = callT P F.slices_IndexFunc_api_Span_api_Span args w K := fcallT_eq Try.func96 (by kernel_rfl) (by kernel_rfl) args w K

def M.ptimers_Heap_Next.j0 (a0 : Value) (w : World) (K : KV) : Prop :=
  drawT w fun w =>
  w = w ∧ quietT (fun K' => nilT a0 w K') w fun t9 =>
  quietT (fun K' => faT P T.timers_Heap t9 0 w K') w fun t10 =>
  quietT (fun K' => ldT P T.timers_line t10 w K') w fun t11 =>
  quietT (fun K' => iaT P T.timers_line t11 (.int .i64 0) w K') w fun t12 =>
  quietT (fun K' => ldT P T.p_timers_item t12 w K') w fun t13 =>
  quietT (fun K' => nilT t13 w K') w fun t14 =>
  quietT (fun K' => faT P T.timers_item t14 0 w K') w fun t15 =>
  quietT (fun K' => ldT P T.uint64 t15 w K') w fun t16 =>
  w = w ∧ quietT (fun K' => nilT a0 w K') w fun t18 =>
  quietT (fun K' => faT P T.timers_Heap t18 0 w K') w fun t19 =>
  quietT (fun K' => ldT P T.timers_line t19 w K') w fun t20 =>
  quietT (fun K' => iaT P T.timers_line t20 (.int .i64 0) w K') w fun t21 =>
  quietT (fun K' => ldT P T.p_timers_item t21 w K') w fun t22 =>
  quietT (fun K' => nilT t22 w K') w fun t23 =>
  quietT (fun K' => faT P T.timers_item t23 1 w K') w fun t24 =>
  quietT (fun K' => ldT P T.uint64 t24 w K') w fun t25 =>
  stabT (fun K' => ldT P T.uint64 t24 w K') w t25 ∧ stabT (fun K' => faT P T.timers_item t23 1 w K') w t24 ∧ stabT (fun K' => nilT t22 w K') w t23 ∧ stabT (fun K' => ldT P T.p_timers_item t21 w K') w t22 ∧ stabT (fun K' => iaT P T.timers_line t20 (.int .i64 0) w K') w t21 ∧ stabT (fun K' => ldT P T.timers_line t19 w K') w t20 ∧ stabT (fun K' => faT P T.timers_Heap t18 0 w K') w t19 ∧ stabT (fun K' => nilT a0 w K') w t18 ∧ stabT (fun K' => K' a0 w) w a0 ∧ K (.tuple #[t16, t25, (.bool true)]) w
/-- (*winnow/timers.Heap).Next -/
def M.ptimers_Heap_Next (a0 : Value) (w : World) (K : KV) : Prop :=
  joinT (fun K0 =>
  fcallT P F.ptimers_Heap_Len [a0] w fun t6 w =>
  binT P .eql T.int (.tmp 6) (.const (.int .i64 0)) t6 (.int .i64 0) w fun t7 w =>
  condT t7 (
  K (.tuple #[(.int .u64 0), (.int .u64 0), (.bool false)]) w) (
  K0 [(.int .u64 0), (.int .u64 0), (.bool false)] w)) fun x0 w =>
  M.ptimers_Heap_Next.j0 a0 w K
def M.ptimers_Heap_Next.L : List Nat := [0, 2, 3, 4]
def M.ptimers_Heap_Next.pl : Nat → Plan := fun id => cond (Nat.beq id 3) ⟨(.go 0 (.go 1 (.go 2 (.go 3 (.go 4 (.go 5 (.go 6 (.go 7 (.go 8 (.go 9 (.go 10 (.go 11 (.go 12 (.go 13 (.go 14 (.go 15 (.go 16 (.go 17 (.eff 18 (.eff 19 (.eff 20 .nil .stop) .stop) .stop))))))))))))))))))), [18, 19, 20], false⟩ (⟨.nil, [], false⟩)
theorem M.ptimers_Heap_Next.eq (a0 : Value) (w : World) (K : KV) : M.ptimers_Heap_Next a0 w K = den P M.ptimers_Heap_Next.L M.ptimers_Heap_Next.pl (Try.f97.body.getD .skip) (argE [a0]) w (bodyQ P Try.f97.results.toList K) := by kernel_rfl
theorem M.ptimers_Heap_Next.ok : okFn M.ptimers_Heap_Next.L M.ptimers_Heap_Next.pl Try.f97 (Try.f97.body.getD .skip) 1 = true := by kernel_rfl
theorem M.ptimers_Heap_Next.calls (a0 : Value) {w : World} {K : KV} (h : M.ptimers_Heap_Next a0 w K) : callT P F.ptimers_Heap_Next [a0] w K :=
  callT_of_den (by kernel_rfl) Try.func97 (by kernel_rfl) M.ptimers_Heap_Next.ok (M.ptimers_Heap_Next.eq a0 w K ▸ h)
theorem M.ptimers_Heap_Next.fcall (args : List Value) (w : World) (K : KV) : fcallT P F.ptimers_Heap_Next args w K = callT P F.ptimers_Heap_Next args w K := fcallT_eq Try.func97 (by kernel_rfl) (by kernel_rfl) args w K

def M.winnowref03_Runes.j3 (t13 : Value) (x1 : List Value) (t14 : Value) (K1 : KL) (x3 : List Value) (w : World) (K : KV) : Prop :=
  bsT P T.sl_int32 1 #[(0, t13)] w fun t19 w =>
  biT P .append #[T.sl_int32, T.sl_int32] T.sl_int32 [false, false] [(gv x1 4), t19] w fun t20 w =>
  slT P T.string (gv x1 5) (some t14) none none w fun t23 w =>
  K1 [t13, t14, (gv x3 0), (gv x3 1), t20, t23] w
def M.winnowref03_Runes.j2 (x1 : List Value) (K1 : KL) (w : World) (K : KV) : Prop :=
  fcallT P F.winnowref03_Rune [(gv x1 5)] w fun t12 w =>
  exT P t12 0 w fun t13 w =>
  exT P t12 1 w fun t14 w =>
  joinT (fun K3 =>
  binT P .eql T.int (.tmp 15) (.const (.int .i64 0)) t14 (.int .i64 0) w fun t16 w =>
  condT t16 (
  K (.tuple #[(.slice none 0 0), (.bool false)]) w) (
  K3 [(gv x1 2), (gv x1 3)] w)) fun x3 w =>
  M.winnowref03_Runes.j3 t13 x1 t14 K1 x3 w K
def M.winnowref03_Runes.j1 (x1 : List Value) (K0 : KL) (K1 : KL) (w : World) (K : KV) : Prop :=
  joinT (fun K2 =>
  biT P .len #[T.string] T.int [false] [(gv x1 5)] w fun t8 w =>
  binT P .gtr T.int (.tmp 8) (.const (.int .i64 0)) t8 (.int .i64 0) w fun t9 w =>
  condT t9 (
  K2 [] w) (
  K0 [(gv x1 0), (gv x1 1), (gv x1 2), (gv x1 3), (gv x1 4), (gv x1 5)] w)) fun x2 w =>
  M.winnowref03_Runes.j2 x1 K1 w K
/-- winnow/winnowref03.Runes -/
def M.winnowref03_Runes (a0 : Value) (w : World) (K : KV) : Prop :=
  joinT (fun K0 =>
  loopT [undef, undef, (.slice none 0 0), (.bool false), (.slice none 0 0), a0] w fun K1 x1 w =>
  M.winnowref03_Runes.j1 x1 K0 K1 w K) fun x0 w =>
  K (.tuple #[(gv x0 4), (.bool true)]) w
def M.winnowref03_Runes.L : List Nat := [0, 2, 3, 4, 5, 6]
def M.winnowref03_Runes.pl : Nat → Plan := fun id => ⟨.nil, [], false⟩
theorem M.winnowref03_Runes.eq (a0 : Value) (w : World) (K : KV) : M.winnowref03_Runes a0 w K = den P M.winnowref03_Runes.L M.winnowref03_Runes.pl (Try.f98.body.getD .skip) (argE [a0]) w (bodyQ P Try.f98.results.toList K) := by kernel_rfl
theorem M.winnowref03_Runes.ok : okFn M.winnowref03_Runes.L M.winnowref03_Runes.pl Try.f98 (Try.f98.body.getD .skip) 1 = true := by kernel_rfl
theorem M.winnowref03_Runes.calls (a0 : Value) {w : World} {K : KV} (h : M.winnowref03_Runes a0 w K) : callT P F.winnowref03_Runes [a0] w K :=
  callT_of_den (by kernel_rfl) Try.func98 (by kernel_rfl) M.winnowref03_Runes.ok (M.winnowref03_Runes.eq a0 w K ▸ h)
theorem M.winnowref03_Runes.fcall (args : List Value) (w : World) (K : KV) : fcallT P F.winnowref03_Runes args w K = callT P F.winnowref03_Runes args w K := fcallT_eq Try.func98 (by kernel_rfl) (by kernel_rfl) args w K

/-- container/heap.Remove -/
def M.heap_Remove (a0 a1 : Value) (w : World) (K : KV) : Prop :=
  invokeT P a0 "Len" [] w fun t7 w =>
  binT P .sub T.int (.tmp 7) (.const (.int .i64 1)) t7 (.int .i64 1) w fun t8 w =>
  joinT (fun K0 =>
  binT P .neq T.int (.tmp 9) (.tmp 10) t8 a1 w fun t11 w =>
  condT t11 (
  invokeT P a0 "Swap" [a1, t8] w fun t15 w =>
  fcallT P F.heap_down [a0, a1, t8] w fun t19 w =>
  unT P .not t19 w fun t20 w =>
  condT t20 (
  fcallT P F.heap_up [a0, a1] w fun t23 w =>
  K0 [] w) (
  K0 [] w)) (
  K0 [] w)) fun x0 w =>
  invokeT P a0 "Pop" [] w fun t25 w =>
  K t25 w
def M.heap_Remove.L : List Nat := [0, 1, 4, 5]
def M.heap_Remove.pl : Nat → Plan := fun id => ⟨.nil, [], false⟩
theorem M.heap_Remove.eq (a0 a1 : Value) (w : World) (K : KV) : M.heap_Remove a0 a1 w K = den P M.heap_Remove.L M.heap_Remove.pl (Try.f99.body.getD .skip) (argE [a0, a1]) w (bodyQ P Try.f99.results.toList K) := by kernel_rfl
theorem M.heap_Remove.ok : okFn M.heap_Remove.L M.heap_Remove.pl Try.f99 (Try.f99.body.getD .skip) 2 = true := by kernel_rfl
theorem M.heap_Remove.calls (a0 a1 : Value) {w : World} {K : KV} (h : M.heap_Remove a0 a1 w K) : callT P F.heap_Remove [a0, a1] w K :=
  callT_of_den (by kernel_rfl) Try.func99 (by kernel_rfl) M.heap_Remove.ok (M.heap_Remove.eq a0 a1 w K ▸ h)
theorem M.heap_Remove.fcall (args : List Value) (w : World) (K : KV) : fcallT P F.heap_Remove args w K = callT P F.heap_Remove args w K := fcallT_eq Try.func99 (by kernel_rfl) (by kernel_rfl) args w K

def M.slices_Grow_byte_byte.j0 (a0 : Value) (a1 : Value) (w : World) (K : KV) : Prop :=
  joinT (fun K1 =>
  biT P .cap #[T.sl_uint8] T.int [false] [a0] w fun t10 w =>
  biT P .len #[T.sl_uint8] T.int [false] [a0] w fun t12 w =>
  binT P .sub T.int (.tmp 10) (.tmp 12) t10 t12 w fun t13 w =>
  binT P .sub T.int (.tmp 8) (.tmp 13) a1 t13 w fun t14 w =>
  binT P .gtr T.int (.tmp 15) (.const (.int .i64 0)) t14 (.int .i64 0) w fun t16 w =>
  condT t16 (
  biT P .cap #[T.sl_uint8] T.int [false] [a0] w fun t19 w =>
  slT P T.sl_uint8 a0 none (some t19) none w fun t20 w =>
  biT P .append #[T.sl_uint8, T.int] T.sl_uint8 [false, false] [t20, t14] w fun t22 w =>
  biT P .len #[T.sl_uint8] T.int [false] [a0] w fun t24 w =>
  slT P T.sl_uint8 t22 none (some t24) none w fun t25 w =>
  K1 [t14, t25] w) (
  K1 [t14, a0] w)) fun x1 w =>
  K (gv x1 1) w
/-- slices.Grow[[]byte,byte] -/
def M.slices_Grow_byte_byte (a0 a1 : Value) (w : World) (K : KV) : Prop :=
  joinT (fun K0 =>
  binT P .lss T.int (.tmp 5) (.const (.int .i64 0)) a1 (.int .i64 0) w fun t6 w =>
  condT t6 (
  mkiT P T.string (.string ⟨#[99, 97, 110, 110, 111, 116, 32, 98, 101, 32, 110, 101, 103, 97, 116, 105, 118, 101]⟩) w fun t7 w =>
  panicT w fun _ w =>
  K0 [] w) (
  K0 [] w)) fun x0 w =>
  M.slices_Grow_byte_byte.j0 a0 a1 w K
def M.slices_Grow_byte_byte.L : List Nat := [0, 1, 4]
def M.slices_Grow_byte_byte.pl : Nat → Plan := fun id => ⟨.nil, [], false⟩
theorem M.slices_Grow_byte_byte.eq (a0 a1 : Value) (w : World) (K : KV) : M.slices_Grow_byte_byte a0 a1 w K = den P M.slices_Grow_byte_byte.L M.slices_Grow_byte_byte.pl (Try.f100.body.getD .skip) (argE [a0, a1]) w (bodyQ P Try.f100.results.toList K) := by kernel_rfl
theorem M.slices_Grow_byte_byte.ok : okFn M.slices_Grow_byte_byte.L M.slices_Grow_byte_byte.pl Try.f100 (Try.f100.body.getD .skip) 2 = true := by kernel_rfl
theorem M.slices_Grow_byte_byte.calls (a0 a1 : Value) {w : World} {K : KV} (h : M.slices_Grow_byte_byte a0 a1 w K) : callT P F.slices_Grow_byte_byte [a0, a1] w K :=
  callT_of_den (by kernel_rfl) Try.func100 (by kernel_rfl) M.slices_Grow_byte_byte.ok (M.slices_Grow_byte_byte.eq a0 a1 w K ▸ h)
theorem M.slices_Grow_byte_byte.fcall (args : List Value) (w : World) (K : KV) : fcallT P F.slices_Grow_byte_byte args w K = callT P F.slices_Grow_byte_byte args w K := fcallT_eq Try.func100 (by kernel_rfl) (by kernel_rfl) args w K

/-- slices.Collect[int] -/
def M.slices_Collect_int (a0 : Value) (w : World) (K : KV) : Prop :=
  fcallT P F.slices_AppendSeq_int_int [(.slice none 0 0), a0] w fun t4 w =>
  K t4 w
def M.slices_Collect_int.L : List Nat := [0, 2]
def M.slices_Collect_int.pl : Nat → Plan := fun id => ⟨.nil, [], false⟩
theorem M.slices_Collect_int.eq (a0 : Value) (w : World) (K : KV) : M.slices_Collect_int a0 w K = den P M.slices_Collect_int.L M.slices_Collect_int.pl (Try.f101.body.getD .skip) (argE [a0]) w (bodyQ P Try.f101.results.toList K) := by kernel_rfl
theorem M.slices_Collect_int.ok : okFn M.slices_Collect_int.L M.slices_Collect_int.pl Try.f101 (Try.f101.body.getD .skip) 1 = true := by kernel_rfl
theorem M.slices_Collect_int.calls (a0 : Value) {w : World} {K : KV} (h : M.slices_Collect_int a0 w K) : callT P F.slices_Collect_int [a0] w K :=
  callT_of_den (by kernel_rfl) Try.func101 (by kernel_rfl) M.slices_Collect_int.ok (M.slices_Collect_int.eq a0 w K ▸ h)
theorem M.slices_Collect_int.fcall (args : List Value) (w : World) (K : KV) : fcallT P F.slices_Collect_int args w K = callT P F.slices_Collect_int args w K := fcallT_eq Try.func101 (by kernel_rfl) (by kernel_rfl) args w K

/-- slices.Sort[[]int,int] -/
def M.slices_Sort_int_int (a0 : Value) (w : World) (K : KV) : Prop :=
  biT P .len #[T.sl_int] T.int [false] [a0] w fun t4 w =>
  cvT P T.int T.uint t4 w fun t8 w =>
  fcallT P F.math_bits_Len [t8] w fun t9 w =>
  fcallT P F.slices_pdqsortOrdered_int [a0, (.int .i64 0), t4, t9] w fun t10 w =>
  K (.tuple #[]) w
def M.slices_Sort_int_int.L : List Nat := [0, 2]
def M.slices_Sort_int_int.pl : Nat → Plan := fun id => ⟨.nil, [], false⟩
theorem M.slices_Sort_int_int.eq (a0 : Value) (w : World) (K : KV) : M.slices_Sort_int_int a0 w K = den P M.slices_Sort_int_int.L M.slices_Sort_int_int.pl (Try.f102.body.getD .skip) (argE [a0]) w (bodyQ P Try.f102.results.toList K) := by kernel_rfl
theorem M.slices_Sort_int_int.ok : okFn M.slices_Sort_int_int.L M.slices_Sort_int_int.pl Try.f102 (Try.f102.body.getD .skip) 1 = true := by kernel_rfl
theorem M.slices_Sort_int_int.calls (a0 : Value) {w : World} {K : KV} (h : M.slices_Sort_int_int a0 w K) : callT P F.slices_Sort_int_int [a0] w K :=
  callT_of_den (by kernel_rfl) Try.func102 (by kernel_rfl) M.slices_Sort_int_int.ok (M.slices_Sort_int_int.eq a0 w K ▸ h)
theorem M.slices_Sort_int_int.fcall (args : List Value) (w : World) (K : KV) : fcallT P F.slices_Sort_int_int args w K = callT P F.slices_Sort_int_int args w K := fcallT_eq Try.func102 (by kernel_rfl) (by kernel_rfl) args w K

def M.maps_Keys_map_int_disk_file_int_disk_file_1.j0 (t5 : Value) (a0 : Value) (K0 : KL) (w : World) (K : KV) : Prop :=
  nxT P t5 false T._ w fun t6 w =>
  exT P t6 0 w fun t7 w =>
  joinT (fun K1 =>
  condT t7 (
  K1 [] w) (
  K (.tuple #[]) w)) fun x1 w =>
  enT P t5 w fun t8 w =>
  exT P t8 0 w fun t9 w =>
  callVT P a0 [t9] w fun t12 w =>
  unT P .not t12 w fun t13 w =>
  condT t13 (
  K (.tuple #[]) w) (
  K0 [t9] w)
/-- maps.Keys[map[int]*winnow/disk.file,int,*winnow/disk.file]$1 -/
def M.maps_Keys_map_int_disk_file_int_disk_file_1 (a0 a1 : Value) (w : World) (K : KV) : Prop :=
  ldT P T.map_int_p_disk_file a1 w fun t4 w =>
  rgT P T.map_int_p_disk_file t4 w fun t5 w =>
  loopT [undef] w fun K0 x0 w =>
  M.maps_Keys_map_int_disk_file_int_disk_file_1.j0 t5 a0 K0 w K
def M.maps_Keys_map_int_disk_file_int_disk_file_1.L : List Nat := [0, 1, 3, 5]
def M.maps_Keys_map_int_disk_file_int_disk_file_1.pl : Nat → Plan := fun id => ⟨.nil, [], false⟩
theorem M.maps_Keys_map_int_disk_file_int_disk_file_1.eq (a0 a1 : Value) (w : World) (K : KV) : M.maps_Keys_map_int_disk_file_int_disk_file_1 a0 a1 w K = den P M.maps_Keys_map_int_disk_file_int_disk_file_1.L M.maps_Keys_map_int_disk_file_int_disk_file_1.pl (Try.f103.body.getD .skip) (argE [a0, a1]) w (bodyQ P Try.f103.results.toList K) := by kernel_rfl
theorem M.maps_Keys_map_int_disk_file_int_disk_file_1.ok : okFn M.maps_Keys_map_int_disk_file_int_disk_file_1.L M.maps_Keys_map_int_disk_file_int_disk_file_1.pl Try.f103 (Try.f103.body.getD .skip) 2 = true := by kernel_rfl
theorem M.maps_Keys_map_int_disk_file_int_disk_file_1.calls (a0 a1 : Value) {w : World} {K : KV} (h : M.maps_Keys_map_int_disk_file_int_disk_file_1 a0 a1 w K) : callT P F.maps_Keys_map_int_disk_file_int_disk_file_1 [a0, a1] w K :=
  callT_of_den (by kernel_rfl) Try.func103 (by kernel_rfl) M.maps_Keys_map_int_disk_file_int_disk_file_1.ok (M.maps_Keys_map_int_disk_file_int_disk_file_1.eq a0 a1 w K ▸ h)
theorem M.maps_Keys_map_int_disk_file_int_disk_file_1.fcall (args : List Value) (w : World) (K : KV) : fcallT P F.maps_Keys_map_int_disk_file_int_disk_file_1 args w K = callT P F.maps_Keys_map_int_disk_file_int_disk_file_1 args w K := fcallT_eq Try.func103 (by kernel_rfl) (by kernel_rfl) args w K

def M.pwinnowref06_Disk_asked.j0 (a1 : Value) (a0 : Value) (x0 : List Value) (w : World) (K : KV) : Prop :=
  joinT (fun K1 =>
  binT P .lss T.int (.tmp 9) (.const (.int .i64 0)) a1 (.int .i64 0) w fun t10 w =>
  guardT (isB t10 false) (fun K' => K' a1 w) w fun t12 w =>
  guardT (isB t10 false) (fun K' => binT P .geq T.int (.tmp 12) (.const (.int .i64 64)) t12 (.int .i64 64) w K') w fun t13 w =>
  pickT t10 (.bool true) t13 w fun t14 w =>
  guardT (isB t14 false) (fun K' => K' a0 w) w fun t16 w =>
  guardT (isB t14 false) (fun K' => nilT t16 w K') w fun t17 w =>
  guardT (isB t14 false) (fun K' => faT P T.winnowref06_Disk t17 1 w K') w fun t18 w =>
  guardT (isB t14 false) (fun K' => ldT P T.sl_winnowref06_File t18 w K') w fun t19 w =>
  guardT (isB t14 false) (fun K' => K' a1 w) w fun t20 w =>
  guardT (isB t14 false) (fun K' => iaT P T.sl_winnowref06_File t19 t20 w K') w fun t21 w =>
  guardT (isB t14 false) (fun K' => faT P T.winnowref06_File t21 0 w K') w fun t22 w =>
  guardT (isB t14 false) (fun K' => ldT P T.bool t22 w K') w fun t23 w =>
  guardT (isB t14 false) (fun K' => unT P .not t23 w K') w fun t24 w =>
  pickT t14 (.bool true) t24 w fun t25 w =>
  condT t25 (
  K (.int .i64 11) w) (
  K1 [(gv x0 0)] w)) fun x1 w =>
  K (.int .i64 0) w
/-- (*winnow/winnowref06.Disk).asked -/
def M.pwinnowref06_Disk_asked (a0 a1 : Value) (w : World) (K : KV) : Prop :=
  joinT (fun K0 =>
  nilT a0 w fun t6 w =>
  faT P T.winnowref06_Disk t6 3 w fun t7 w =>
  ldT P T.bool t7 w fun t8 w =>
  condT t8 (
  K (.int .i64 10) w) (
  K0 [(.int .i64 0)] w)) fun x0 w =>
  M.pwinnowref06_Disk_asked.j0 a1 a0 x0 w K
def M.pwinnowref06_Disk_asked.L : List Nat := [0, 1, 4]
def M.pwinnowref06_Disk_asked.pl : Nat → Plan := fun id => ⟨.nil, [], false⟩
theorem M.pwinnowref06_Disk_asked.eq (a0 a1 : Value) (w : World) (K : KV) : M.pwinnowref06_Disk_asked a0 a1 w K = den P M.pwinnowref06_Disk_asked.L M.pwinnowref06_Disk_asked.pl (Try.f104.body.getD .skip) (argE [a0, a1]) w (bodyQ P Try.f104.results.toList K) := by kernel_rfl
theorem M.pwinnowref06_Disk_asked.ok : okFn M.pwinnowref06_Disk_asked.L M.pwinnowref06_Disk_asked.pl Try.f104 (Try.f104.body.getD .skip) 2 = true := by kernel_rfl
theorem M.pwinnowref06_Disk_asked.calls (a0 a1 : Value) {w : World} {K : KV} (h : M.pwinnowref06_Disk_asked a0 a1 w K) : callT P F.pwinnowref06_Disk_asked [a0, a1] w K :=
  callT_of_den (by kernel_rfl) Try.func104 (by kernel_rfl) M.pwinnowref06_Disk_asked.ok (M.pwinnowref06_Disk_asked.eq a0 a1 w K ▸ h)
theorem M.pwinnowref06_Disk_asked.fcall (args : List Value) (w : World) (K : KV) : fcallT P F.pwinnowref06_Disk_asked args w K = callT P F.pwinnowref06_Disk_asked args w K := fcallT_eq Try.func104 (by kernel_rfl) (by kernel_rfl) args w K

/-- slices.Collect[uint64] -/
def M.slices_Collect_uint64 (a0 : Value) (w : World) (K : KV) : Prop :=
  fcallT P F.slices_AppendSeq_uint64_uint64 [(.slice none 0 0), a0] w fun t4 w =>
  K t4 w
def M.slices_Collect_uint64.L : List Nat := [0, 2]
def M.slices_Collect_uint64.pl : Nat → Plan := fun id => ⟨.nil, [], false⟩
theorem M.slices_Collect_uint64.eq (a0 : Value) (w : World) (K : KV) : M.slices_Collect_uint64 a0 w K = den P M.slices_Collect_uint64.L M.slices_Collect_uint64.pl (Try.f105.body.getD .skip) (argE [a0]) w (bodyQ P Try.f105.results.toList K) := by kernel_rfl
theorem M.slices_Collect_uint64.ok : okFn M.slices_Collect_uint64.L M.slices_Collect_uint64.pl Try.f105 (Try.f105.body.getD .skip) 1 = true := by kernel_rfl
theorem M.slices_Collect_uint64.calls (a0 : Value) {w : World} {K : KV} (h : M.slices_Collect_uint64 a0 w K) : callT P F.slices_Collect_uint64 [a0] w K :=
  callT_of_den (by kernel_rfl) Try.func105 (by kernel_rfl) M.slices_Collect_uint64.ok (M.slices_Collect_uint64.eq a0 w K ▸ h)
theorem M.slices_Collect_uint64.fcall (args : List Value) (w : World) (K : KV) : fcallT P F.slices_Collect_uint64 args w K = callT P F.slices_Collect_uint64 args w K := fcallT_eq Try.func105 (by kernel_rfl) (by kernel_rfl) args w K

/-- slices.Sort[[]uint64,uint64] -/
def M.slices_Sort_uint64_uint64 (a0 : Value) (w : World) (K : KV) : Prop :=
  biT P .len #[T.sl_uint64] T.int [false] [a0] w fun t4 w =>
  cvT P T.int T.uint t4 w fun t8 w =>
  fcallT P F.math_bits_Len [t8] w fun t9 w =>
  fcallT P F.slices_pdqsortOrdered_uint64 [a0, (.int .i64 0), t4, t9] w fun t10 w =>
  K (.tuple #[]) w
def M.slices_Sort_uint64_uint64.L : List Nat := [0, 2]
def M.slices_Sort_uint64_uint64.pl : Nat → Plan := fun id => ⟨.nil, [], false⟩
theorem M.slices_Sort_uint64_uint64.eq (a0 : Value) (w : World) (K : KV) : M.slices_Sort_uint64_uint64 a0 w K = den P M.slices_Sort_uint64_uint64.L M.slices_Sort_uint64_uint64.pl (Try.f106.body.getD .skip) (argE [a0]) w (bodyQ P Try.f106.results.toList K) := by kernel_rfl
theorem M.slices_Sort_uint64_uint64.ok : okFn M.slices_Sort_uint64_uint64.L M.slices_Sort_uint64_uint64.pl Try.f106 (Try.f106.body.getD .skip) 1 = true := by kernel_rfl
theorem M.slices_Sort_uint64_uint64.calls (a0 : Value) {w : World} {K : KV} (h : M.slices_Sort_uint64_uint64 a0 w K) : callT P F.slices_Sort_uint64_uint64 [a0] w K :=
  callT_of_den (by kernel_rfl) Try.func106 (by kernel_rfl) M.slices_Sort_uint64_uint64.ok (M.slices_Sort_uint64_uint64.eq a0 w K ▸ h)
theorem M.slices_Sort_uint64_uint64.fcall (args : List Value) (w : World) (K : KV) : fcallT P F.slices_Sort_uint64_uint64 args w K = callT P F.slices_Sort_uint64_uint64 args w K := fcallT_eq Try.func106 (by kernel_rfl) (by kernel_rfl) args w K

def M.maps_Keys_map_uint64_buffer_entry_uint64_buffer_entry_1.j0 (t5 : Value) (a0 : Value) (K0 : KL) (w : World) (K : KV) : Prop :=
  nxT P t5 false T._ w fun t6 w =>
  exT P t6 0 w fun t7 w =>
  joinT (fun K1 =>
  condT t7 (
  K1 [] w) (
  K (.tuple #[]) w)) fun x1 w =>
  enT P t5 w fun t8 w =>
  exT P t8 0 w fun t9 w =>
  callVT P a0 [t9] w fun t12 w =>
  unT P .not t12 w fun t13 w =>
  condT t13 (
  K (.tuple #[]) w) (
  K0 [t9] w)
/-- maps.Keys[map[uint64]*winnow/buffer.entry,uint64,*winnow/buffer.entry]$1 -/
def M.maps_Keys_map_uint64_buffer_entry_uint64_buffer_entry_1 (a0 a1 : Value) (w : World) (K : KV) : Prop :=
  ldT P T.map_uint64_p_buffer_entry a1 w fun t4 w =>
  rgT P T.map_uint64_p_buffer_entry t4 w fun t5 w =>
  loopT [undef] w fun K0 x0 w =>
  M.maps_Keys_map_uint64_buffer_entry_uint64_buffer_entry_1.j0 t5 a0 K0 w K
def M.maps_Keys_map_uint64_buffer_entry_uint64_buffer_entry_1.L : List Nat := [0, 1, 3, 5]
def M.maps_Keys_map_uint64_buffer_entry_uint64_buffer_entry_1.pl : Nat → Plan := fun id => ⟨.nil, [], false⟩
theorem M.maps_Keys_map_uint64_buffer_entry_uint64_buffer_entry_1.eq (a0 a1 : Value) (w : World) (K : KV) : M.maps_Keys_map_uint64_buffer_entry_uint64_buffer_entry_1 a0 a1 w K = den P M.maps_Keys_map_uint64_buffer_entry_uint64_buffer_entry_1.L M.maps_Keys_map_uint64_buffer_entry_uint64_buffer_entry_1.pl (Try.f107.body.getD .skip) (argE [a0, a1]) w (bodyQ P Try.f107.results.toList K) := by kernel_rfl
theorem M.maps_Keys_map_uint64_buffer_entry_uint64_buffer_entry_1.ok : okFn M.maps_Keys_map_uint64_buffer_entry_uint64_buffer_entry_1.L M.maps_Keys_map_uint64_buffer_entry_uint64_buffer_entry_1.pl Try.f107 (Try.f107.body.getD .skip) 2 = true := by kernel_rfl
theorem M.maps_Keys_map_uint64_buffer_entry_uint64_buffer_entry_1.calls (a0 a1 : Value) {w : World} {K : KV} (h : M.maps_Keys_map_uint64_buffer_entry_uint64_buffer_entry_1 a0 a1 w K) : callT P F.maps_Keys_map_uint64_buffer_entry_uint64_buffer_entry_1 [a0, a1] w K :=
  callT_of_den (by kernel_rfl) Try.func107 (by kernel_rfl) M.maps_Keys_map_uint64_buffer_entry_uint64_buffer_entry_1.ok (M.maps_Keys_map_uint64_buffer_entry_uint64_buffer_entry_1.eq a0 a1 w K ▸ h)
theorem M.maps_Keys_map_uint64_buffer_entry_uint64_buffer_entry_1.fcall (args : List Value) (w : World) (K : KV) : fcallT P F.maps_Keys_map_uint64_buffer_entry_uint64_buffer_entry_1 args w K = callT P F.maps_Keys_map_uint64_buffer_entry_uint64_buffer_entry_1 args w K := fcallT_eq Try.func107 (by kernel_rfl) (by kernel_rfl) args w K

def M.cmp_Or_int.j2 (a0 : Value) (x1 : List Value) (K1 : KL) (w : World) (K : KV) : Prop :=
  joinT (fun K3 =>
  iaT P T.sl_int a0 (gv x1 2) w fun t10 w =>
  ldT P T.int t10 w fun t11 w =>
  binT P .neq T.int (.tmp 12) (.tmp 13) t11 (.int .i64 0) w fun t14 w =>
  condT t14 (
  K t11 w) (
  K3 [t11, (gv x1 1)] w)) fun x3 w =>
  binT P .add T.int (.tmp 8) (.const (.int .i64 1)) (gv x1 2) (.int .i64 1) w fun t16 w =>
  K1 [(gv x3 0), (gv x3 1), t16] w
/-- cmp.Or[int] -/
def M.cmp_Or_int (a0 : Value) (w : World) (K : KV) : Prop :=
  joinT (fun K0 =>
  biT P .len #[T.sl_int] T.int [false] [a0] w fun t7 w =>
  loopT [undef, (.int .i64 0), (.int .i64 0)] w fun K1 x1 w =>
  binT P .lss T.int (.tmp 8) (.tmp 7) (gv x1 2) t7 w fun t9 w =>
  joinT (fun K2 =>
  condT t9 (
  K2 [] w) (
  K0 [a0, t7, (gv x1 2), (gv x1 0), (gv x1 1)] w)) fun x2 w =>
  M.cmp_Or_int.j2 a0 x1 K1 w K) fun x0 w =>
  K (.int .i64 0) w
def M.cmp_Or_int.L : List Nat := [0, 2, 3, 5, 8, 7, 6]
def M.cmp_Or_int.pl : Nat → Plan := fun id => ⟨.nil, [], false⟩
theorem M.cmp_Or_int.eq (a0 : Value) (w : World) (K : KV) : M.cmp_Or_int a0 w K = den P M.cmp_Or_int.L M.cmp_Or_int.pl (Try.f108.body.getD .skip) (argE [a0]) w (bodyQ P Try.f108.results.toList K) := by kernel_rfl
theorem M.cmp_Or_int.ok : okFn M.cmp_Or_int.L M.cmp_Or_int.pl Try.f108 (Try.f108.body.getD .skip) 1 = true := by kernel_rfl
theorem M.cmp_Or_int.calls (a0 : Value) {w : World} {K : KV} (h : M.cmp_Or_int a0 w K) : callT P F.cmp_Or_int [a0] w K :=
  callT_of_den (by kernel_rfl) Try.func108 (by kernel_rfl) M.cmp_Or_int.ok (M.cmp_Or_int.eq a0 w K ▸ h)
theorem M.cmp_Or_int.fcall (args : List Value) (w : World) (K : KV) : fcallT P F.cmp_Or_int args w K = callT P F.cmp_Or_int args w K := fcallT_eq Try.func108 (by kernel_rfl) (by kernel_rfl) args w K

def M.cmp_Compare_uint64.j2 (a0 : Value) (a1 : Value) (x2 : List Value) (w : World) (K : KV) : Prop :=
  joinT (fun K3 =>
  binT P .lss T.uint64 (.tmp 14) (.tmp 15) a0 a1 w fun t16 w =>
  condT t16 (
  K (.int .i64 (-1)) w) (
  K3 [(gv x2 0)] w)) fun x3 w =>
  joinT (fun K4 =>
  binT P .gtr T.uint64 (.tmp 17) (.tmp 18) a0 a1 w fun t19 w =>
  condT t19 (
  K (.int .i64 1) w) (
  K4 [(gv x3 0)] w)) fun x4 w =>
  K (.int .i64 0) w
/-- cmp.Compare[uint64] -/
def M.cmp_Compare_uint64 (a0 a1 : Value) (w : World) (K : KV) : Prop :=
  fcallT P F.cmp_isNaN_uint64 [a0] w fun t8 w =>
  fcallT P F.cmp_isNaN_uint64 [a1] w fun t10 w =>
  joinT (fun K0 =>
  condT t8 (
  joinT (fun K1 =>
  condT t10 (
  K (.int .i64 0) w) (
  K1 [(.int .i64 0)] w)) fun x1 w =>
  K (.int .i64 (-1)) w) (
  K0 [(.int .i64 0)] w)) fun x0 w =>
  joinT (fun K2 =>
  condT t10 (
  K (.int .i64 1) w) (
  K2 [(gv x0 0)] w)) fun x2 w =>
  M.cmp_Compare_uint64.j2 a0 a1 x2 w K
def M.cmp_Compare_uint64.L : List Nat := [0, 1, 4, 5, 6]
def M.cmp_Compare_uint64.pl : Nat → Plan := fun id => ⟨.nil, [], false⟩
theorem M.cmp_Compare_uint64.eq (a0 a1 : Value) (w : World) (K : KV) : M.cmp_Compare_uint64 a0 a1 w K = den P M.cmp_Compare_uint64.L M.cmp_Compare_uint64.pl (Try.f109.body.getD .skip) (argE [a0, a1]) w (bodyQ P Try.f109.results.toList K) := by kernel_rfl
theorem M.cmp_Compare_uint64.ok : okFn M.cmp_Compare_uint64.L M.cmp_Compare_uint64.pl Try.f109 (Try.f109.body.getD .skip) 2 = true := by kernel_rfl
theorem M.cmp_Compare_uint64.calls (a0 a1 : Value) {w : World} {K : KV} (h : M.cmp_Compare_uint64 a0 a1 w K) : callT P F.cmp_Compare_uint64 [a0, a1] w K :=
  callT_of_den (by kernel_rfl) Try.func109 (by kernel_rfl) M.cmp_Compare_uint64.ok (M.cmp_Compare_uint64.eq a0 a1 w K ▸ h)
theorem M.cmp_Compare_uint64.fcall (args : List Value) (w : World) (K : KV) : fcallT P F.cmp_Compare_uint64 args w K = callT P F.cmp_Compare_uint64 args w K := fcallT_eq Try.func109 (by kernel_rfl) (by kernel_rfl) args w K

def M.cmp_Compare_int.j2 (a0 : Value) (a1 : Value) (x2 : List Value) (w : World) (K : KV) : Prop :=
  joinT (fun K3 =>
  binT P .lss T.int (.tmp 14) (.tmp 15) a0 a1 w fun t16 w =>
  condT t16 (
  K (.int .i64 (-1)) w) (
  K3 [(gv x2 0)] w)) fun x3 w =>
  joinT (fun K4 =>
  binT P .gtr T.int (.tmp 17) (.tmp 18) a0 a1 w fun t19 w =>
  condT t19 (
  K (.int .i64 1) w) (
  K4 [(gv x3 0)] w)) fun x4 w =>
  K (.int .i64 0) w
/-- cmp.Compare[int] -/
def M.cmp_Compare_int (a0 a1 : Value) (w : World) (K : KV) : Prop :=
  fcallT P F.cmp_isNaN_int [a0] w fun t8 w =>
  fcallT P F.cmp_isNaN_int [a1] w fun t10 w =>
  joinT (fun K0 =>
  condT t8 (
  joinT (fun K1 =>
  condT t10 (
  K (.int .i64 0) w) (
  K1 [(.int .i64 0)] w)) fun x1 w =>
  K (.int .i64 (-1)) w) (
  K0 [(.int .i64 0)] w)) fun x0 w =>
  joinT (fun K2 =>
  condT t10 (
  K (.int .i64 1) w) (
  K2 [(gv x0 0)] w)) fun x2 w =>
  M.cmp_Compare_int.j2 a0 a1 x2 w K
def M.cmp_Compare_int.L : List Nat := [0, 1, 4, 5, 6]
def M.cmp_Compare_int.pl : Nat → Plan := fun id => ⟨.nil, [], false⟩
theorem M.cmp_Compare_int.eq (a0 a1 : Value) (w : World) (K : KV) : M.cmp_Compare_int a0 a1 w K = den P M.cmp_Compare_int.L M.cmp_Compare_int.pl (Try.f110.body.getD .skip) (argE [a0, a1]) w (bodyQ P Try.f110.results.toList K) := by kernel_rfl
theorem M.cmp_Compare_int.ok : okFn M.cmp_Compare_int.L M.cmp_Compare_int.pl Try.f110 (Try.f110.body.getD .skip) 2 = true := by kernel_rfl
theorem M.cmp_Compare_int.calls (a0 a1 : Value) {w : World} {K : KV} (h : M.cmp_Compare_int a0 a1 w K) : callT P F.cmp_Compare_int [a0, a1] w K :=
  callT_of_den (by kernel_rfl) Try.func110 (by kernel_rfl) M.cmp_Compare_int.ok (M.cmp_Compare_int.eq a0 a1 w K ▸ h)
theorem M.cmp_Compare_int.fcall (args : List Value) (w : World) (K : KV) : fcallT P F.cmp_Compare_int args w K = callT P F.cmp_Compare_int args w K := fcallT_eq Try.func110 (by kernel_rfl) (by kernel_rfl) args w K

/-- winnow/message.Right -/
def M.message_Right (a0 : Value) (w : World) (K : KV) : Prop :=
  boxT P T.api_Packet a0 w fun t1 w =>
  ldT P T.api_Packet t1 w fun t4 w =>
  fcallT P F.message_thing [t4] w fun t5 w =>
  joinT (fun K0 =>
  drawT w fun w =>
  w = w ∧ quietT (fun K' => binT P .eql T.any (.tmp 6) (.const .nilIface) t5 .nilIface w K') w fun t7 =>
  w = w ∧ quietT (fun K' => guardT (isB t7 false) (fun K' => K' t5 w) w K') w fun t9 =>
  guardT (isB t7 false) (fun K' => fcallT P F.message_right [t9] w K') w fun t10 w =>
  quietT (fun K' => guardT (isB t7 false) (fun K' => unT P .not t10 w K') w K') w fun t11 =>
  quietT (fun K' => pickT t7 (.bool true) t11 w K') w fun t12 =>
  w = w ∧ quietT (fun K' => guardT (isB t12 false) (fun K' => ldT P T.api_Packet t1 w K') w K') w fun t14 =>
  quietT (fun K' => guardT (isB t12 false) (fun K' => K' t5 w) w K') w fun t15 =>
  guardT (isB t12 false) (fun K' => fcallT P F.message_packet [t15] w K') w fun t16 w =>
  stabT (fun K' => guardT (isB t12 false) (fun K' => ldT P T.api_Packet t1 w K') w K') w t14 ∧ guardT (isB t12 false) (fun K' => fcallT P F.message_alike [t14, t16] w K') w fun t17 w =>
  quietT (fun K' => guardT (isB t12 false) (fun K' => unT P .not t17 w K') w K') w fun t18 =>
  quietT (fun K' => pickT t12 (.bool true) t18 w K') w fun t19 =>
  condT t19 (
  K (.int .i64 6) w) (
  K0 [(.int .i64 0)] w)) fun x0 w =>
  K (.int .i64 0) w
def M.message_Right.L : List Nat := [0, 2, 3]
def M.message_Right.pl : Nat → Plan := fun id => cond (Nat.beq id 2) ⟨(.go 0 (.go 1 (.go 2 (.go 3 (.eff 4 (.go 5 (.go 6 (.go 7 (.go 8 (.go 9 (.eff 10 (.eff 11 (.go 12 (.go 13 .nil)) .stop) .stop)))))) .stop))))), [4, 10, 11], false⟩ (⟨.nil, [], false⟩)
theorem M.message_Right.eq (a0 : Value) (w : World) (K : KV) : M.message_Right a0 w K = den P M.message_Right.L M.message_Right.pl (Try.f111.body.getD .skip) (argE [a0]) w (bodyQ P Try.f111.results.toList K) := by kernel_rfl
theorem M.message_Right.ok : okFn M.message_Right.L M.message_Right.pl Try.f111 (Try.f111.body.getD .skip) 1 = true := by kernel_rfl
theorem M.message_Right.calls (a0 : Value) {w : World} {K : KV} (h : M.message_Right a0 w K) : callT P F.message_Right [a0] w K :=
  callT_of_den (by kernel_rfl) Try.func111 (by kernel_rfl) M.message_Right.ok (M.message_Right.eq a0 w K ▸ h)
theorem M.message_Right.fcall (args : List Value) (w : World) (K : KV) : fcallT P F.message_Right args w K = callT P F.message_Right args w K := fcallT_eq Try.func111 (by kernel_rfl) (by kernel_rfl) args w K

end Go.Proofs.Ytgcpljghnlohbaa
