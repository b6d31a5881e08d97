/-
  Printed by wip/Shallow.lean: functions of the program, read shallow; each is what its code does. No condition.
-/
import Derived.Test.YtgcpljghnlohbaaN
set_option maxRecDepth 1000000
namespace Go.Proofs.Ytgcpljghnlohbaa
open Go.Eng

/-- slices.medianAdjacentOrdered[int] -/
def M.slices_medianAdjacentOrdered_int (a0 a1 a2 : Value) (w : World) (K : KV) : Prop :=
  binT P .sub T.int (.tmp 8) (.const (.int .i64 1)) a1 (.int .i64 1) w fun t9 w =>
  binT P .add T.int (.tmp 11) (.const (.int .i64 1)) a1 (.int .i64 1) w fun t12 w =>
  fcallT P F.slices_medianOrdered_int [a0, t9, a1, t12, a2] w fun t14 w =>
  K t14 w
def M.slices_medianAdjacentOrdered_int.L : List Nat := [0, 1, 2, 6]
def M.slices_medianAdjacentOrdered_int.pl : Nat → Plan := fun id => ⟨.nil, [], false⟩
theorem M.slices_medianAdjacentOrdered_int.eq (a0 a1 a2 : Value) (w : World) (K : KV) : M.slices_medianAdjacentOrdered_int a0 a1 a2 w K = den P M.slices_medianAdjacentOrdered_int.L M.slices_medianAdjacentOrdered_int.pl (Try.f166.body.getD .skip) (argE [a0, a1, a2]) w (bodyQ P Try.f166.results.toList K) := by kernel_rfl
theorem M.slices_medianAdjacentOrdered_int.ok : okFn M.slices_medianAdjacentOrdered_int.L M.slices_medianAdjacentOrdered_int.pl Try.f166 (Try.f166.body.getD .skip) 3 = true := by kernel_rfl
theorem M.slices_medianAdjacentOrdered_int.calls (a0 a1 a2 : Value) {w : World} {K : KV} (h : M.slices_medianAdjacentOrdered_int a0 a1 a2 w K) : callT P F.slices_medianAdjacentOrdered_int [a0, a1, a2] w K :=
  callT_of_den (by kernel_rfl) Try.func166 (by kernel_rfl) M.slices_medianAdjacentOrdered_int.ok (M.slices_medianAdjacentOrdered_int.eq a0 a1 a2 w K ▸ h)
theorem M.slices_medianAdjacentOrdered_int.fcall (args : List Value) (w : World) (K : KV) : fcallT P F.slices_medianAdjacentOrdered_int args w K = callT P F.slices_medianAdjacentOrdered_int args w K := fcallT_eq Try.func166 (by kernel_rfl) (by kernel_rfl) args w K

/-- slices.medianOrdered[int] -/
def M.slices_medianOrdered_int (a0 a1 a2 a3 a4 : Value) (w : World) (K : KV) : Prop :=
  fcallT P F.slices_order2Ordered_int [a0, a1, a2, a4] w fun t16 w =>
  exT P t16 0 w fun t17 w =>
  exT P t16 1 w fun t18 w =>
  fcallT P F.slices_order2Ordered_int [a0, t18, a3, a4] w fun t24 w =>
  exT P t24 0 w fun t25 w =>
  exT P t24 1 w fun t26 w =>
  fcallT P F.slices_order2Ordered_int [a0, t17, t25, a4] w fun t32 w =>
  exT P t32 0 w fun t33 w =>
  exT P t32 1 w fun t34 w =>
  K t34 w
def M.slices_medianOrdered_int.L : List Nat := [0, 1, 2, 3, 4, 10]
def M.slices_medianOrdered_int.pl : Nat → Plan := fun id => ⟨.nil, [], false⟩
theorem M.slices_medianOrdered_int.eq (a0 a1 a2 a3 a4 : Value) (w : World) (K : KV) : M.slices_medianOrdered_int a0 a1 a2 a3 a4 w K = den P M.slices_medianOrdered_int.L M.slices_medianOrdered_int.pl (Try.f167.body.getD .skip) (argE [a0, a1, a2, a3, a4]) w (bodyQ P Try.f167.results.toList K) := by kernel_rfl
theorem M.slices_medianOrdered_int.ok : okFn M.slices_medianOrdered_int.L M.slices_medianOrdered_int.pl Try.f167 (Try.f167.body.getD .skip) 5 = true := by kernel_rfl
theorem M.slices_medianOrdered_int.calls (a0 a1 a2 a3 a4 : Value) {w : World} {K : KV} (h : M.slices_medianOrdered_int a0 a1 a2 a3 a4 w K) : callT P F.slices_medianOrdered_int [a0, a1, a2, a3, a4] w K :=
  callT_of_den (by kernel_rfl) Try.func167 (by kernel_rfl) M.slices_medianOrdered_int.ok (M.slices_medianOrdered_int.eq a0 a1 a2 a3 a4 w K ▸ h)
theorem M.slices_medianOrdered_int.fcall (args : List Value) (w : World) (K : KV) : fcallT P F.slices_medianOrdered_int args w K = callT P F.slices_medianOrdered_int args w K := fcallT_eq Try.func167 (by kernel_rfl) (by kernel_rfl) args w K

def M.slices_siftDownOrdered_uint64.j3 (a3 : Value) (x0 : List Value) (x2 : List Value) (a0 : Value) (K0 : KL) (w : World) (K : KV) : Prop :=
  drawT w fun w =>
  w = w ∧ w = w ∧ w = w ∧ quietT (fun K' => binT P .add T.int (.tmp 54) (.tmp 55) a3 (gv x0 1) w K') w fun t56 =>
  w = w ∧ w = w ∧ w = w ∧ quietT (fun K' => binT P .add T.int (.tmp 58) (.tmp 59) a3 (gv x2 0) w K') w fun t60 =>
  w = w ∧ w = w ∧ w = w ∧ quietT (fun K' => binT P .add T.int (.tmp 62) (.tmp 63) a3 (gv x2 0) w K') w fun t64 =>
  quietT (fun K' => iaT P T.sl_uint64 a0 t64 w K') w fun t65 =>
  quietT (fun K' => ldT P T.uint64 t65 w K') w fun t66 =>
  w = w ∧ w = w ∧ w = w ∧ quietT (fun K' => binT P .add T.int (.tmp 68) (.tmp 69) a3 (gv x0 1) w K') w fun t70 =>
  quietT (fun K' => iaT P T.sl_uint64 a0 t70 w K') w fun t71 =>
  quietT (fun K' => ldT P T.uint64 t71 w K') w fun t72 =>
  quietT (fun K' => iaT P T.sl_uint64 a0 t56 w K') w fun t73 =>
  stT P T.uint64 t73 t66 w fun _ w =>
  stabT (fun K' => binT P .add T.int (.tmp 58) (.tmp 59) a3 (gv x2 0) w K') w t60 ∧ stabT (fun K' => K' (gv x2 0) w) w (gv x2 0) ∧ stabT (fun K' => K' a3 w) w a3 ∧ stabT (fun K' => K' a0 w) w a0 ∧ quietT (fun K' => iaT P T.sl_uint64 a0 t60 w K') w fun t74 =>
  stT P T.uint64 t74 t72 w fun _ w =>
  K0 [(gv x2 0), (gv x2 0)] w
def M.slices_siftDownOrdered_uint64.j2 (a3 : Value) (x0 : List Value) (a0 : Value) (x2 : List Value) (K0 : KL) (w : World) (K : KV) : Prop :=
  joinT (fun K3 =>
  drawT w fun w =>
  w = w ∧ w = w ∧ w = w ∧ quietT (fun K' => binT P .add T.int (.tmp 40) (.tmp 41) a3 (gv x0 1) w K') w fun t42 =>
  quietT (fun K' => iaT P T.sl_uint64 a0 t42 w K') w fun t43 =>
  quietT (fun K' => ldT P T.uint64 t43 w K') w fun t44 =>
  w = w ∧ w = w ∧ w = w ∧ quietT (fun K' => binT P .add T.int (.tmp 46) (.tmp 47) a3 (gv x2 0) w K') w fun t48 =>
  quietT (fun K' => iaT P T.sl_uint64 a0 t48 w K') w fun t49 =>
  quietT (fun K' => ldT P T.uint64 t49 w K') w fun t50 =>
  fcallT P F.cmp_Less_uint64 [t44, t50] w fun t51 w =>
  quietT (fun K' => unT P .not t51 w K') w fun t52 =>
  condT t52 (
  K (.tuple #[]) w) (
  K3 [] w)) fun x3 w =>
  M.slices_siftDownOrdered_uint64.j3 a3 x0 x2 a0 K0 w K
def M.slices_siftDownOrdered_uint64.j1 (t13 : Value) (a2 : Value) (a0 : Value) (a3 : Value) (x0 : List Value) (K0 : KL) (w : World) (K : KV) : Prop :=
  joinT (fun K2 =>
  drawT w fun w =>
  w = w ∧ quietT (fun K' => binT P .add T.int (.tmp 17) (.const (.int .i64 1)) t13 (.int .i64 1) w K') w fun t18 =>
  w = w ∧ quietT (fun K' => binT P .lss T.int (.tmp 18) (.tmp 19) t18 a2 w K') w fun t20 =>
  w = w ∧ quietT (fun K' => guardT (isB t20 true) (fun K' => K' a0 w) w K') w fun t22 =>
  quietT (fun K' => guardT (isB t20 true) (fun K' => K' a3 w) w K') w fun t23 =>
  quietT (fun K' => guardT (isB t20 true) (fun K' => K' t13 w) w K') w fun t24 =>
  quietT (fun K' => guardT (isB t20 true) (fun K' => binT P .add T.int (.tmp 23) (.tmp 24) t23 t24 w K') w K') w fun t25 =>
  quietT (fun K' => guardT (isB t20 true) (fun K' => iaT P T.sl_uint64 t22 t25 w K') w K') w fun t26 =>
  quietT (fun K' => guardT (isB t20 true) (fun K' => ldT P T.uint64 t26 w K') w K') w fun t27 =>
  quietT (fun K' => guardT (isB t20 true) (fun K' => K' a0 w) w K') w fun t28 =>
  quietT (fun K' => guardT (isB t20 true) (fun K' => K' a3 w) w K') w fun t29 =>
  quietT (fun K' => guardT (isB t20 true) (fun K' => K' t13 w) w K') w fun t30 =>
  quietT (fun K' => guardT (isB t20 true) (fun K' => binT P .add T.int (.tmp 29) (.tmp 30) t29 t30 w K') w K') w fun t31 =>
  quietT (fun K' => guardT (isB t20 true) (fun K' => binT P .add T.int (.tmp 31) (.const (.int .i64 1)) t31 (.int .i64 1) w K') w K') w fun t32 =>
  quietT (fun K' => guardT (isB t20 true) (fun K' => iaT P T.sl_uint64 t28 t32 w K') w K') w fun t33 =>
  quietT (fun K' => guardT (isB t20 true) (fun K' => ldT P T.uint64 t33 w K') w K') w fun t34 =>
  guardT (isB t20 true) (fun K' => fcallT P F.cmp_Less_uint64 [t27, t34] w K') w fun t35 w =>
  quietT (fun K' => pickT t20 t35 (.bool false) w K') w fun t36 =>
  condT t36 (
  binT P .add T.int (.tmp 37) (.const (.int .i64 1)) t13 (.int .i64 1) w fun t38 w =>
  K2 [t38] w) (
  K2 [t13] w)) fun x2 w =>
  M.slices_siftDownOrdered_uint64.j2 a3 x0 a0 x2 K0 w K
def M.slices_siftDownOrdered_uint64.j0 (x0 : List Value) (a2 : Value) (a0 : Value) (a3 : Value) (K0 : KL) (w : World) (K : KV) : Prop :=
  binT P .mul T.int (.const (.int .i64 2)) (.tmp 11) (.int .i64 2) (gv x0 1) w fun t12 w =>
  binT P .add T.int (.tmp 12) (.const (.int .i64 1)) t12 (.int .i64 1) w fun t13 w =>
  joinT (fun K1 =>
  binT P .geq T.int (.tmp 14) (.tmp 15) t13 a2 w fun t16 w =>
  condT t16 (
  K (.tuple #[]) w) (
  K1 [] w)) fun x1 w =>
  M.slices_siftDownOrdered_uint64.j1 t13 a2 a0 a3 x0 K0 w K
/-- slices.siftDownOrdered[uint64] -/
def M.slices_siftDownOrdered_uint64 (a0 a1 a2 a3 : Value) (w : World) (K : KV) : Prop :=
  loopT [undef, a1] w fun K0 x0 w =>
  M.slices_siftDownOrdered_uint64.j0 x0 a2 a0 a3 K0 w K
def M.slices_siftDownOrdered_uint64.L : List Nat := [0, 1, 2, 3, 8, 9]
def M.slices_siftDownOrdered_uint64.pl : Nat → Plan := fun id => cond (Nat.beq id 3) ⟨(.go 0 (.go 1 (.go 2 (.go 3 (.go 4 (.go 5 (.go 6 (.go 7 (.go 8 (.go 9 (.go 10 (.go 11 (.go 12 (.go 13 (.go 14 (.go 15 (.go 16 (.go 17 (.eff 18 (.go 19 .nil) .stop))))))))))))))))))), [18], false⟩ (cond (Nat.beq id 5) ⟨(.go 0 (.go 1 (.go 2 (.go 3 (.go 4 (.go 5 (.go 6 (.go 7 (.go 8 (.go 9 (.go 10 (.go 11 (.eff 12 (.go 13 .nil) .stop))))))))))))), [12], false⟩ (cond (Nat.beq id 6) ⟨(.go 0 (.go 1 (.go 2 (.go 3 (.go 4 (.go 5 (.go 6 (.go 7 (.go 8 (.go 9 (.go 10 (.go 11 (.go 12 (.go 13 (.go 14 (.go 15 (.go 16 (.go 17 (.go 18 (.go 19 (.go 20 (.eff 21 (.go 22 (.eff 23 .nil .stop)) .stop)))))))))))))))))))))), [21, 23], false⟩ (⟨.nil, [], false⟩)))
theorem M.slices_siftDownOrdered_uint64.eq (a0 a1 a2 a3 : Value) (w : World) (K : KV) : M.slices_siftDownOrdered_uint64 a0 a1 a2 a3 w K = den P M.slices_siftDownOrdered_uint64.L M.slices_siftDownOrdered_uint64.pl (Try.f168.body.getD .skip) (argE [a0, a1, a2, a3]) w (bodyQ P Try.f168.results.toList K) := by kernel_rfl
theorem M.slices_siftDownOrdered_uint64.ok : okFn M.slices_siftDownOrdered_uint64.L M.slices_siftDownOrdered_uint64.pl Try.f168 (Try.f168.body.getD .skip) 4 = true := by kernel_rfl
theorem M.slices_siftDownOrdered_uint64.calls (a0 a1 a2 a3 : Value) {w : World} {K : KV} (h : M.slices_siftDownOrdered_uint64 a0 a1 a2 a3 w K) : callT P F.slices_siftDownOrdered_uint64 [a0, a1, a2, a3] w K :=
  callT_of_den (by kernel_rfl) Try.func168 (by kernel_rfl) M.slices_siftDownOrdered_uint64.ok (M.slices_siftDownOrdered_uint64.eq a0 a1 a2 a3 w K ▸ h)
theorem M.slices_siftDownOrdered_uint64.fcall (args : List Value) (w : World) (K : KV) : fcallT P F.slices_siftDownOrdered_uint64 args w K = callT P F.slices_siftDownOrdered_uint64 args w K := fcallT_eq Try.func168 (by kernel_rfl) (by kernel_rfl) args w K

/-- slices.medianAdjacentOrdered[uint64] -/
def M.slices_medianAdjacentOrdered_uint64 (a0 a1 a2 : Value) (w : World) (K : KV) : Prop :=
  binT P .sub T.int (.tmp 8) (.const (.int .i64 1)) a1 (.int .i64 1) w fun t9 w =>
  binT P .add T.int (.tmp 11) (.const (.int .i64 1)) a1 (.int .i64 1) w fun t12 w =>
  fcallT P F.slices_medianOrdered_uint64 [a0, t9, a1, t12, a2] w fun t14 w =>
  K t14 w
def M.slices_medianAdjacentOrdered_uint64.L : List Nat := [0, 1, 2, 6]
def M.slices_medianAdjacentOrdered_uint64.pl : Nat → Plan := fun id => ⟨.nil, [], false⟩
theorem M.slices_medianAdjacentOrdered_uint64.eq (a0 a1 a2 : Value) (w : World) (K : KV) : M.slices_medianAdjacentOrdered_uint64 a0 a1 a2 w K = den P M.slices_medianAdjacentOrdered_uint64.L M.slices_medianAdjacentOrdered_uint64.pl (Try.f169.body.getD .skip) (argE [a0, a1, a2]) w (bodyQ P Try.f169.results.toList K) := by kernel_rfl
theorem M.slices_medianAdjacentOrdered_uint64.ok : okFn M.slices_medianAdjacentOrdered_uint64.L M.slices_medianAdjacentOrdered_uint64.pl Try.f169 (Try.f169.body.getD .skip) 3 = true := by kernel_rfl
theorem M.slices_medianAdjacentOrdered_uint64.calls (a0 a1 a2 : Value) {w : World} {K : KV} (h : M.slices_medianAdjacentOrdered_uint64 a0 a1 a2 w K) : callT P F.slices_medianAdjacentOrdered_uint64 [a0, a1, a2] w K :=
  callT_of_den (by kernel_rfl) Try.func169 (by kernel_rfl) M.slices_medianAdjacentOrdered_uint64.ok (M.slices_medianAdjacentOrdered_uint64.eq a0 a1 a2 w K ▸ h)
theorem M.slices_medianAdjacentOrdered_uint64.fcall (args : List Value) (w : World) (K : KV) : fcallT P F.slices_medianAdjacentOrdered_uint64 args w K = callT P F.slices_medianAdjacentOrdered_uint64 args w K := fcallT_eq Try.func169 (by kernel_rfl) (by kernel_rfl) args w K

/-- slices.medianOrdered[uint64] -/
def M.slices_medianOrdered_uint64 (a0 a1 a2 a3 a4 : Value) (w : World) (K : KV) : Prop :=
  fcallT P F.slices_order2Ordered_uint64 [a0, a1, a2, a4] w fun t16 w =>
  exT P t16 0 w fun t17 w =>
  exT P t16 1 w fun t18 w =>
  fcallT P F.slices_order2Ordered_uint64 [a0, t18, a3, a4] w fun t24 w =>
  exT P t24 0 w fun t25 w =>
  exT P t24 1 w fun t26 w =>
  fcallT P F.slices_order2Ordered_uint64 [a0, t17, t25, a4] w fun t32 w =>
  exT P t32 0 w fun t33 w =>
  exT P t32 1 w fun t34 w =>
  K t34 w
def M.slices_medianOrdered_uint64.L : List Nat := [0, 1, 2, 3, 4, 10]
def M.slices_medianOrdered_uint64.pl : Nat → Plan := fun id => ⟨.nil, [], false⟩
theorem M.slices_medianOrdered_uint64.eq (a0 a1 a2 a3 a4 : Value) (w : World) (K : KV) : M.slices_medianOrdered_uint64 a0 a1 a2 a3 a4 w K = den P M.slices_medianOrdered_uint64.L M.slices_medianOrdered_uint64.pl (Try.f170.body.getD .skip) (argE [a0, a1, a2, a3, a4]) w (bodyQ P Try.f170.results.toList K) := by kernel_rfl
theorem M.slices_medianOrdered_uint64.ok : okFn M.slices_medianOrdered_uint64.L M.slices_medianOrdered_uint64.pl Try.f170 (Try.f170.body.getD .skip) 5 = true := by kernel_rfl
theorem M.slices_medianOrdered_uint64.calls (a0 a1 a2 a3 a4 : Value) {w : World} {K : KV} (h : M.slices_medianOrdered_uint64 a0 a1 a2 a3 a4 w K) : callT P F.slices_medianOrdered_uint64 [a0, a1, a2, a3, a4] w K :=
  callT_of_den (by kernel_rfl) Try.func170 (by kernel_rfl) M.slices_medianOrdered_uint64.ok (M.slices_medianOrdered_uint64.eq a0 a1 a2 a3 a4 w K ▸ h)
theorem M.slices_medianOrdered_uint64.fcall (args : List Value) (w : World) (K : KV) : fcallT P F.slices_medianOrdered_uint64 args w K = callT P F.slices_medianOrdered_uint64 args w K := fcallT_eq Try.func170 (by kernel_rfl) (by kernel_rfl) args w K

def M.slices_IndexFunc_api_Member_api_Member.j2 (a0 : Value) (x1 : List Value) (a1 : Value) (K1 : KL) (w : World) (K : KV) : Prop :=
  joinT (fun K3 =>
  iaT P T.sl_api_Member a0 (gv x1 2) w fun t14 w =>
  ldT P T.api_Member t14 w fun t15 w =>
  callVT P a1 [t15] w fun t16 w =>
  condT t16 (
  K (gv x1 2) w) (
  K3 [(gv x1 2), (gv x1 1)] w)) fun x3 w =>
  binT P .add T.int (.tmp 8) (.const (.int .i64 1)) (gv x1 2) (.int .i64 1) w fun t18 w =>
  K1 [(gv x3 0), (gv x3 1), t18] w
/-- slices.IndexFunc[[]winnow/api.Member,winnow/api.Member] -/
def M.slices_IndexFunc_api_Member_api_Member (a0 a1 : Value) (w : World) (K : KV) : Prop :=
  joinT (fun K0 =>
  biT P .len #[T.sl_api_Member] T.int [false] [a0] w fun t7 w =>
  loopT [undef, (.int .i64 0), (.int .i64 0)] w fun K1 x1 w =>
  binT P .lss T.int (.tmp 8) (.tmp 7) (gv x1 2) t7 w fun t9 w =>
  joinT (fun K2 =>
  condT t9 (
  K2 [] w) (
  K0 [t7, (gv x1 2), (gv x1 0), (gv x1 1)] w)) fun x2 w =>
  M.slices_IndexFunc_api_Member_api_Member.j2 a0 x1 a1 K1 w K) fun x0 w =>
  K (.int .i64 (-1)) w
def M.slices_IndexFunc_api_Member_api_Member.L : List Nat := [0, 1, 4, 5, 8, 7]
def M.slices_IndexFunc_api_Member_api_Member.pl : Nat → Plan := fun id => ⟨.nil, [], false⟩
theorem M.slices_IndexFunc_api_Member_api_Member.eq (a0 a1 : Value) (w : World) (K : KV) : M.slices_IndexFunc_api_Member_api_Member a0 a1 w K = den P M.slices_IndexFunc_api_Member_api_Member.L M.slices_IndexFunc_api_Member_api_Member.pl (Try.f171.body.getD .skip) (argE [a0, a1]) w (bodyQ P Try.f171.results.toList K) := by kernel_rfl
theorem M.slices_IndexFunc_api_Member_api_Member.ok : okFn M.slices_IndexFunc_api_Member_api_Member.L M.slices_IndexFunc_api_Member_api_Member.pl Try.f171 (Try.f171.body.getD .skip) 2 = true := by kernel_rfl
theorem M.slices_IndexFunc_api_Member_api_Member.calls (a0 a1 : Value) {w : World} {K : KV} (h : M.slices_IndexFunc_api_Member_api_Member a0 a1 w K) : callT P F.slices_IndexFunc_api_Member_api_Member [a0, a1] w K :=
  callT_of_den (by kernel_rfl) Try.func171 (by kernel_rfl) M.slices_IndexFunc_api_Member_api_Member.ok (M.slices_IndexFunc_api_Member_api_Member.eq a0 a1 w K ▸ h)
theorem M.slices_IndexFunc_api_Member_api_Member.fcall (args : List Value) (w : World) (K : KV) : fcallT P F.slices_IndexFunc_api_Member_api_Member args w K = callT P F.slices_IndexFunc_api_Member_api_Member args w K := fcallT_eq Try.func171 (by kernel_rfl) (by kernel_rfl) args w K

/-- slices.order2Ordered[int] -/
def M.slices_order2Ordered_int (a0 a1 a2 a3 : Value) (w : World) (K : KV) : Prop :=
  joinT (fun K0 =>
  drawT w fun w =>
  w = w ∧ w = w ∧ quietT (fun K' => iaT P T.sl_int a0 a2 w K') w fun t12 =>
  quietT (fun K' => ldT P T.int t12 w K') w fun t13 =>
  w = w ∧ w = w ∧ quietT (fun K' => iaT P T.sl_int a0 a1 w K') w fun t16 =>
  quietT (fun K' => ldT P T.int t16 w K') w fun t17 =>
  fcallT P F.cmp_Less_int [t13, t17] w fun t18 w =>
  condT t18 (
  nilT a3 w fun t20 w =>
  ldT P T.int t20 w fun t21 w =>
  binT P .add T.int (.tmp 21) (.const (.int .i64 1)) t21 (.int .i64 1) w fun t22 w =>
  nilT a3 w fun t23 w =>
  stT P T.int t23 t22 w fun _ w =>
  K (.tuple #[a2, a1]) w) (
  K0 [(.int .i64 0), (.int .i64 0)] w)) fun x0 w =>
  K (.tuple #[a1, a2]) w
def M.slices_order2Ordered_int.L : List Nat := [0, 1, 2, 3, 8, 9]
def M.slices_order2Ordered_int.pl : Nat → Plan := fun id => cond (Nat.beq id 1) ⟨(.go 0 (.go 1 (.go 2 (.go 3 (.go 4 (.go 5 (.go 6 (.go 7 (.eff 8 .nil .stop))))))))), [8], false⟩ (⟨.nil, [], false⟩)
theorem M.slices_order2Ordered_int.eq (a0 a1 a2 a3 : Value) (w : World) (K : KV) : M.slices_order2Ordered_int a0 a1 a2 a3 w K = den P M.slices_order2Ordered_int.L M.slices_order2Ordered_int.pl (Try.f172.body.getD .skip) (argE [a0, a1, a2, a3]) w (bodyQ P Try.f172.results.toList K) := by kernel_rfl
theorem M.slices_order2Ordered_int.ok : okFn M.slices_order2Ordered_int.L M.slices_order2Ordered_int.pl Try.f172 (Try.f172.body.getD .skip) 4 = true := by kernel_rfl
theorem M.slices_order2Ordered_int.calls (a0 a1 a2 a3 : Value) {w : World} {K : KV} (h : M.slices_order2Ordered_int a0 a1 a2 a3 w K) : callT P F.slices_order2Ordered_int [a0, a1, a2, a3] w K :=
  callT_of_den (by kernel_rfl) Try.func172 (by kernel_rfl) M.slices_order2Ordered_int.ok (M.slices_order2Ordered_int.eq a0 a1 a2 a3 w K ▸ h)
theorem M.slices_order2Ordered_int.fcall (args : List Value) (w : World) (K : KV) : fcallT P F.slices_order2Ordered_int args w K = callT P F.slices_order2Ordered_int args w K := fcallT_eq Try.func172 (by kernel_rfl) (by kernel_rfl) args w K

/-- slices.order2Ordered[uint64] -/
def M.slices_order2Ordered_uint64 (a0 a1 a2 a3 : Value) (w : World) (K : KV) : Prop :=
  joinT (fun K0 =>
  drawT w fun w =>
  w = w ∧ w = w ∧ quietT (fun K' => iaT P T.sl_uint64 a0 a2 w K') w fun t12 =>
  quietT (fun K' => ldT P T.uint64 t12 w K') w fun t13 =>
  w = w ∧ w = w ∧ quietT (fun K' => iaT P T.sl_uint64 a0 a1 w K') w fun t16 =>
  quietT (fun K' => ldT P T.uint64 t16 w K') w fun t17 =>
  fcallT P F.cmp_Less_uint64 [t13, t17] w fun t18 w =>
  condT t18 (
  nilT a3 w fun t20 w =>
  ldT P T.int t20 w fun t21 w =>
  binT P .add T.int (.tmp 21) (.const (.int .i64 1)) t21 (.int .i64 1) w fun t22 w =>
  nilT a3 w fun t23 w =>
  stT P T.int t23 t22 w fun _ w =>
  K (.tuple #[a2, a1]) w) (
  K0 [(.int .i64 0), (.int .i64 0)] w)) fun x0 w =>
  K (.tuple #[a1, a2]) w
def M.slices_order2Ordered_uint64.L : List Nat := [0, 1, 2, 3, 8, 9]
def M.slices_order2Ordered_uint64.pl : Nat → Plan := fun id => cond (Nat.beq id 1) ⟨(.go 0 (.go 1 (.go 2 (.go 3 (.go 4 (.go 5 (.go 6 (.go 7 (.eff 8 .nil .stop))))))))), [8], false⟩ (⟨.nil, [], false⟩)
theorem M.slices_order2Ordered_uint64.eq (a0 a1 a2 a3 : Value) (w : World) (K : KV) : M.slices_order2Ordered_uint64 a0 a1 a2 a3 w K = den P M.slices_order2Ordered_uint64.L M.slices_order2Ordered_uint64.pl (Try.f173.body.getD .skip) (argE [a0, a1, a2, a3]) w (bodyQ P Try.f173.results.toList K) := by kernel_rfl
theorem M.slices_order2Ordered_uint64.ok : okFn M.slices_order2Ordered_uint64.L M.slices_order2Ordered_uint64.pl Try.f173 (Try.f173.body.getD .skip) 4 = true := by kernel_rfl
theorem M.slices_order2Ordered_uint64.calls (a0 a1 a2 a3 : Value) {w : World} {K : KV} (h : M.slices_order2Ordered_uint64 a0 a1 a2 a3 w K) : callT P F.slices_order2Ordered_uint64 [a0, a1, a2, a3] w K :=
  callT_of_den (by kernel_rfl) Try.func173 (by kernel_rfl) M.slices_order2Ordered_uint64.ok (M.slices_order2Ordered_uint64.eq a0 a1 a2 a3 w K ▸ h)
theorem M.slices_order2Ordered_uint64.fcall (args : List Value) (w : World) (K : KV) : fcallT P F.slices_order2Ordered_uint64 args w K = callT P F.slices_order2Ordered_uint64 args w K := fcallT_eq Try.func173 (by kernel_rfl) (by kernel_rfl) args w K

/-- (winnow/timers.line).Len -/
def M.timers_line_Len (a0 : Value) (w : World) (K : KV) : Prop :=
  biT P .len #[T.timers_line] T.int [false] [a0] w fun t4 w =>
  K t4 w
def M.timers_line_Len.L : List Nat := [0, 2]
def M.timers_line_Len.pl : Nat → Plan := fun id => ⟨.nil, [], false⟩
theorem M.timers_line_Len.eq (a0 : Value) (w : World) (K : KV) : M.timers_line_Len a0 w K = den P M.timers_line_Len.L M.timers_line_Len.pl (Try.f191.body.getD .skip) (argE [a0]) w (bodyQ P Try.f191.results.toList K) := by kernel_rfl
theorem M.timers_line_Len.ok : okFn M.timers_line_Len.L M.timers_line_Len.pl Try.f191 (Try.f191.body.getD .skip) 1 = true := by kernel_rfl
theorem M.timers_line_Len.calls (a0 : Value) {w : World} {K : KV} (h : M.timers_line_Len a0 w K) : callT P F.timers_line_Len [a0] w K :=
  callT_of_den (by kernel_rfl) Try.func191 (by kernel_rfl) M.timers_line_Len.ok (M.timers_line_Len.eq a0 w K ▸ h)
theorem M.timers_line_Len.fcall (args : List Value) (w : World) (K : KV) : fcallT P F.timers_line_Len args w K = callT P F.timers_line_Len args w K := fcallT_eq Try.func191 (by kernel_rfl) (by kernel_rfl) args w K

/-- (winnow/timers.line).Less -/
def M.timers_line_Less (a0 a1 a2 : Value) (w : World) (K : KV) : Prop :=
  drawT w fun w =>
  w = w ∧ w = w ∧ quietT (fun K' => iaT P T.timers_line a0 a1 w K') w fun t9 =>
  quietT (fun K' => ldT P T.p_timers_item t9 w K') w fun t10 =>
  quietT (fun K' => nilT t10 w K') w fun t11 =>
  quietT (fun K' => faT P T.timers_item t11 1 w K') w fun t12 =>
  quietT (fun K' => ldT P T.uint64 t12 w K') w fun t13 =>
  w = w ∧ w = w ∧ quietT (fun K' => iaT P T.timers_line a0 a2 w K') w fun t16 =>
  quietT (fun K' => ldT P T.p_timers_item t16 w K') w fun t17 =>
  quietT (fun K' => nilT t17 w K') w fun t18 =>
  quietT (fun K' => faT P T.timers_item t18 1 w K') w fun t19 =>
  quietT (fun K' => ldT P T.uint64 t19 w K') w fun t20 =>
  quietT (fun K' => binT P .lss T.uint64 (.tmp 13) (.tmp 20) t13 t20 w K') w fun t21 =>
  w = w ∧ quietT (fun K' => guardT (isB t21 false) (fun K' => K' a0 w) w K') w fun t23 =>
  quietT (fun K' => guardT (isB t21 false) (fun K' => K' a1 w) w K') w fun t24 =>
  quietT (fun K' => guardT (isB t21 false) (fun K' => iaT P T.timers_line t23 t24 w K') w K') w fun t25 =>
  quietT (fun K' => guardT (isB t21 false) (fun K' => ldT P T.p_timers_item t25 w K') w K') w fun t26 =>
  quietT (fun K' => guardT (isB t21 false) (fun K' => nilT t26 w K') w K') w fun t27 =>
  quietT (fun K' => guardT (isB t21 false) (fun K' => faT P T.timers_item t27 1 w K') w K') w fun t28 =>
  quietT (fun K' => guardT (isB t21 false) (fun K' => ldT P T.uint64 t28 w K') w K') w fun t29 =>
  quietT (fun K' => guardT (isB t21 false) (fun K' => K' a0 w) w K') w fun t30 =>
  quietT (fun K' => guardT (isB t21 false) (fun K' => K' a2 w) w K') w fun t31 =>
  quietT (fun K' => guardT (isB t21 false) (fun K' => iaT P T.timers_line t30 t31 w K') w K') w fun t32 =>
  quietT (fun K' => guardT (isB t21 false) (fun K' => ldT P T.p_timers_item t32 w K') w K') w fun t33 =>
  quietT (fun K' => guardT (isB t21 false) (fun K' => nilT t33 w K') w K') w fun t34 =>
  quietT (fun K' => guardT (isB t21 false) (fun K' => faT P T.timers_item t34 1 w K') w K') w fun t35 =>
  quietT (fun K' => guardT (isB t21 false) (fun K' => ldT P T.uint64 t35 w K') w K') w fun t36 =>
  quietT (fun K' => guardT (isB t21 false) (fun K' => binT P .eql T.uint64 (.tmp 29) (.tmp 36) t29 t36 w K') w K') w fun t37 =>
  quietT (fun K' => guardT (isB t21 false) (fun K' => K' t37 w) w K') w fun t38 =>
  quietT (fun K' => guardT (isB t38 true) (fun K' => K' a0 w) w K') w fun t39 =>
  quietT (fun K' => guardT (isB t38 true) (fun K' => K' a1 w) w K') w fun t40 =>
  quietT (fun K' => guardT (isB t38 true) (fun K' => iaT P T.timers_line t39 t40 w K') w K') w fun t41 =>
  quietT (fun K' => guardT (isB t38 true) (fun K' => ldT P T.p_timers_item t41 w K') w K') w fun t42 =>
  quietT (fun K' => guardT (isB t38 true) (fun K' => nilT t42 w K') w K') w fun t43 =>
  quietT (fun K' => guardT (isB t38 true) (fun K' => faT P T.timers_item t43 0 w K') w K') w fun t44 =>
  quietT (fun K' => guardT (isB t38 true) (fun K' => ldT P T.uint64 t44 w K') w K') w fun t45 =>
  quietT (fun K' => guardT (isB t38 true) (fun K' => K' a0 w) w K') w fun t46 =>
  quietT (fun K' => guardT (isB t38 true) (fun K' => K' a2 w) w K') w fun t47 =>
  quietT (fun K' => guardT (isB t38 true) (fun K' => iaT P T.timers_line t46 t47 w K') w K') w fun t48 =>
  quietT (fun K' => guardT (isB t38 true) (fun K' => ldT P T.p_timers_item t48 w K') w K') w fun t49 =>
  quietT (fun K' => guardT (isB t38 true) (fun K' => nilT t49 w K') w K') w fun t50 =>
  quietT (fun K' => guardT (isB t38 true) (fun K' => faT P T.timers_item t50 0 w K') w K') w fun t51 =>
  quietT (fun K' => guardT (isB t38 true) (fun K' => ldT P T.uint64 t51 w K') w K') w fun t52 =>
  quietT (fun K' => guardT (isB t38 true) (fun K' => binT P .lss T.uint64 (.tmp 45) (.tmp 52) t45 t52 w K') w K') w fun t53 =>
  quietT (fun K' => guardT (isB t21 false) (fun K' => pickT t38 t53 (.bool false) w K') w K') w fun t54 =>
  quietT (fun K' => pickT t21 (.bool true) t54 w K') w fun t55 =>
  K t55 w
def M.timers_line_Less.L : List Nat := [0, 1, 2, 6]
def M.timers_line_Less.pl : Nat → Plan := fun id => cond (Nat.beq id 1) ⟨(.go 0 (.go 1 (.go 2 (.go 3 (.go 4 (.go 5 (.go 6 (.go 7 (.go 8 (.go 9 (.go 10 (.go 11 (.go 12 (.go 13 (.go 14 (.go 15 (.go 16 (.go 17 (.go 18 (.go 19 (.go 20 (.go 21 (.go 22 (.go 23 (.go 24 (.go 25 (.go 26 (.go 27 (.go 28 (.go 29 (.go 30 (.go 31 (.go 32 (.go 33 (.go 34 (.go 35 (.go 36 (.go 37 (.go 38 (.go 39 (.go 40 (.go 41 (.go 42 (.go 43 (.go 44 (.go 45 (.go 46 (.go 47 (.go 48 (.eff 49 .nil .stop)))))))))))))))))))))))))))))))))))))))))))))))))), [49], false⟩ (⟨.nil, [], false⟩)
theorem M.timers_line_Less.eq (a0 a1 a2 : Value) (w : World) (K : KV) : M.timers_line_Less a0 a1 a2 w K = den P M.timers_line_Less.L M.timers_line_Less.pl (Try.f192.body.getD .skip) (argE [a0, a1, a2]) w (bodyQ P Try.f192.results.toList K) := by kernel_rfl
theorem M.timers_line_Less.ok : okFn M.timers_line_Less.L M.timers_line_Less.pl Try.f192 (Try.f192.body.getD .skip) 3 = true := by kernel_rfl
theorem M.timers_line_Less.calls (a0 a1 a2 : Value) {w : World} {K : KV} (h : M.timers_line_Less a0 a1 a2 w K) : callT P F.timers_line_Less [a0, a1, a2] w K :=
  callT_of_den (by kernel_rfl) Try.func192 (by kernel_rfl) M.timers_line_Less.ok (M.timers_line_Less.eq a0 a1 a2 w K ▸ h)
theorem M.timers_line_Less.fcall (args : List Value) (w : World) (K : KV) : fcallT P F.timers_line_Less args w K = callT P F.timers_line_Less args w K := fcallT_eq Try.func192 (by kernel_rfl) (by kernel_rfl) args w K

/-- (winnow/timers.line).Swap -/
def M.timers_line_Swap (a0 a1 a2 : Value) (w : World) (K : KV) : Prop :=
  drawT w fun w =>
  w = w ∧ w = w ∧ w = w ∧ w = w ∧ w = w ∧ w = w ∧ quietT (fun K' => iaT P T.timers_line a0 a2 w K') w fun t12 =>
  quietT (fun K' => ldT P T.p_timers_item t12 w K') w fun t13 =>
  w = w ∧ w = w ∧ quietT (fun K' => iaT P T.timers_line a0 a1 w K') w fun t16 =>
  quietT (fun K' => ldT P T.p_timers_item t16 w K') w fun t17 =>
  quietT (fun K' => iaT P T.timers_line a0 a1 w K') w fun t18 =>
  stT P T.p_timers_item t18 t13 w fun _ w =>
  stabT (fun K' => K' a2 w) w a2 ∧ stabT (fun K' => K' a0 w) w a0 ∧ quietT (fun K' => iaT P T.timers_line a0 a2 w K') w fun t19 =>
  stT P T.p_timers_item t19 t17 w fun _ w =>
  drawT w fun w =>
  w = w ∧ w = w ∧ quietT (fun K' => iaT P T.timers_line a0 a1 w K') w fun t22 =>
  quietT (fun K' => ldT P T.p_timers_item t22 w K') w fun t23 =>
  w = w ∧ w = w ∧ quietT (fun K' => iaT P T.timers_line a0 a2 w K') w fun t26 =>
  quietT (fun K' => ldT P T.p_timers_item t26 w K') w fun t27 =>
  w = w ∧ w = w ∧ quietT (fun K' => nilT t23 w K') w fun t30 =>
  quietT (fun K' => faT P T.timers_item t30 2 w K') w fun t31 =>
  stT P T.int t31 a1 w fun _ w =>
  stabT (fun K' => K' a2 w) w a2 ∧ quietT (fun K' => nilT t27 w K') w fun t32 =>
  quietT (fun K' => faT P T.timers_item t32 2 w K') w fun t33 =>
  stT P T.int t33 a2 w fun _ w =>
  K (.tuple #[]) w
def M.timers_line_Swap.L : List Nat := [0, 1, 2]
def M.timers_line_Swap.pl : Nat → Plan := fun id => cond (Nat.beq id 0) ⟨(.go 0 (.go 1 (.go 2 (.go 3 (.go 4 (.go 5 (.go 6 (.go 7 (.go 8 (.go 9 (.go 10 (.go 11 (.go 12 (.eff 13 (.go 14 (.eff 15 .nil .stop)) .stop)))))))))))))), [13, 15], false⟩ (cond (Nat.beq id 1) ⟨(.go 0 (.go 1 (.go 2 (.go 3 (.go 4 (.go 5 (.go 6 (.go 7 (.go 8 (.go 9 (.go 10 (.go 11 (.eff 12 (.go 13 (.go 14 (.eff 15 .nil .stop))) .stop))))))))))))), [12, 15], false⟩ (⟨.nil, [], false⟩))
theorem M.timers_line_Swap.eq (a0 a1 a2 : Value) (w : World) (K : KV) : M.timers_line_Swap a0 a1 a2 w K = den P M.timers_line_Swap.L M.timers_line_Swap.pl (Try.f193.body.getD .skip) (argE [a0, a1, a2]) w (bodyQ P Try.f193.results.toList K) := by kernel_rfl
theorem M.timers_line_Swap.ok : okFn M.timers_line_Swap.L M.timers_line_Swap.pl Try.f193 (Try.f193.body.getD .skip) 3 = true := by kernel_rfl
theorem M.timers_line_Swap.calls (a0 a1 a2 : Value) {w : World} {K : KV} (h : M.timers_line_Swap a0 a1 a2 w K) : callT P F.timers_line_Swap [a0, a1, a2] w K :=
  callT_of_den (by kernel_rfl) Try.func193 (by kernel_rfl) M.timers_line_Swap.ok (M.timers_line_Swap.eq a0 a1 a2 w K ▸ h)
theorem M.timers_line_Swap.fcall (args : List Value) (w : World) (K : KV) : fcallT P F.timers_line_Swap args w K = callT P F.timers_line_Swap args w K := fcallT_eq Try.func193 (by kernel_rfl) (by kernel_rfl) args w K

/-- (*winnow/timers.line).Pop -/
def M.ptimers_line_Pop (a0 : Value) (w : World) (K : KV) : Prop :=
  nilT a0 w fun t6 w =>
  ldT P T.timers_line t6 w fun t7 w =>
  biT P .len #[T.timers_line] T.int [false] [t7] w fun t8 w =>
  binT P .sub T.int (.tmp 8) (.const (.int .i64 1)) t8 (.int .i64 1) w fun t9 w =>
  nilT a0 w fun t11 w =>
  ldT P T.timers_line t11 w fun t12 w =>
  iaT P T.timers_line t12 t9 w fun t14 w =>
  ldT P T.p_timers_item t14 w fun t15 w =>
  nilT a0 w fun t18 w =>
  ldT P T.timers_line t18 w fun t19 w =>
  slT P T.timers_line t19 none (some t9) none w fun t21 w =>
  nilT a0 w fun t22 w =>
  stT P T.timers_line t22 t21 w fun _ w =>
  mkiT P T.p_timers_item t15 w fun t24 w =>
  K t24 w
def M.ptimers_line_Pop.L : List Nat := [0, 2, 3, 4]
def M.ptimers_line_Pop.pl : Nat → Plan := fun id => ⟨.nil, [], false⟩
theorem M.ptimers_line_Pop.eq (a0 : Value) (w : World) (K : KV) : M.ptimers_line_Pop a0 w K = den P M.ptimers_line_Pop.L M.ptimers_line_Pop.pl (Try.f194.body.getD .skip) (argE [a0]) w (bodyQ P Try.f194.results.toList K) := by kernel_rfl
theorem M.ptimers_line_Pop.ok : okFn M.ptimers_line_Pop.L M.ptimers_line_Pop.pl Try.f194 (Try.f194.body.getD .skip) 1 = true := by kernel_rfl
theorem M.ptimers_line_Pop.calls (a0 : Value) {w : World} {K : KV} (h : M.ptimers_line_Pop a0 w K) : callT P F.ptimers_line_Pop [a0] w K :=
  callT_of_den (by kernel_rfl) Try.func194 (by kernel_rfl) M.ptimers_line_Pop.ok (M.ptimers_line_Pop.eq a0 w K ▸ h)
theorem M.ptimers_line_Pop.fcall (args : List Value) (w : World) (K : KV) : fcallT P F.ptimers_line_Pop args w K = callT P F.ptimers_line_Pop args w K := fcallT_eq Try.func194 (by kernel_rfl) (by kernel_rfl) args w K

/-- (*winnow/timers.line).Push -/
def M.ptimers_line_Push (a0 a1 : Value) (w : World) (K : KV) : Prop :=
  taT P a1 T.any T.p_timers_item false w fun t6 w =>
  nilT a0 w fun t9 w =>
  ldT P T.timers_line t9 w fun t10 w =>
  biT P .len #[T.timers_line] T.int [false] [t10] w fun t11 w =>
  nilT t6 w fun t12 w =>
  faT P T.timers_item t12 2 w fun t13 w =>
  stT P T.int t13 t11 w fun _ w =>
  nilT a0 w fun t16 w =>
  ldT P T.timers_line t16 w fun t17 w =>
  bsT P T.timers_line 1 #[(0, t6)] w fun t19 w =>
  biT P .append #[T.timers_line, T.timers_line] T.timers_line [false, false] [t17, t19] w fun t20 w =>
  nilT a0 w fun t21 w =>
  stT P T.timers_line t21 t20 w fun _ w =>
  K (.tuple #[]) w
def M.ptimers_line_Push.L : List Nat := [0, 1, 4]
def M.ptimers_line_Push.pl : Nat → Plan := fun id => ⟨.nil, [], false⟩
theorem M.ptimers_line_Push.eq (a0 a1 : Value) (w : World) (K : KV) : M.ptimers_line_Push a0 a1 w K = den P M.ptimers_line_Push.L M.ptimers_line_Push.pl (Try.f195.body.getD .skip) (argE [a0, a1]) w (bodyQ P Try.f195.results.toList K) := by kernel_rfl
theorem M.ptimers_line_Push.ok : okFn M.ptimers_line_Push.L M.ptimers_line_Push.pl Try.f195 (Try.f195.body.getD .skip) 2 = true := by kernel_rfl
theorem M.ptimers_line_Push.calls (a0 a1 : Value) {w : World} {K : KV} (h : M.ptimers_line_Push a0 a1 w K) : callT P F.ptimers_line_Push [a0, a1] w K :=
  callT_of_den (by kernel_rfl) Try.func195 (by kernel_rfl) M.ptimers_line_Push.ok (M.ptimers_line_Push.eq a0 a1 w K ▸ h)
theorem M.ptimers_line_Push.fcall (args : List Value) (w : World) (K : KV) : fcallT P F.ptimers_line_Push args w K = callT P F.ptimers_line_Push args w K := fcallT_eq Try.func195 (by kernel_rfl) (by kernel_rfl) args w K

end Go.Proofs.Ytgcpljghnlohbaa
