/-
  Printed by wip/Shallow.lean: functions of the program, read shallow; each is what its code does. No condition.
-/
import Derived.Test.YtgcpljghnlohbaaN
set_option maxRecDepth 1000000
namespace Go.Proofs.Ytgcpljghnlohbaa
open Go.Eng

/-- (*slices.xorshift).Next -/
def M.pslices_xorshift_Next (a0 : Value) (w : World) (K : KV) : Prop :=
  drawT w fun w =>
  w = w ∧ quietT (fun K' => nilT a0 w K') w fun t4 =>
  quietT (fun K' => ldT P T.slices_xorshift t4 w K') w fun t5 =>
  w = w ∧ quietT (fun K' => nilT a0 w K') w fun t7 =>
  quietT (fun K' => ldT P T.slices_xorshift t7 w K') w fun t8 =>
  quietT (fun K' => binT P .shl T.slices_xorshift (.tmp 8) (.const (.int .u64 13)) t8 (.int .u64 13) w K') w fun t9 =>
  quietT (fun K' => binT P .xor T.slices_xorshift (.tmp 5) (.tmp 9) t5 t9 w K') w fun t10 =>
  quietT (fun K' => nilT a0 w K') w fun t11 =>
  stT P T.slices_xorshift t11 t10 w fun _ w =>
  drawT w fun w =>
  w = w ∧ quietT (fun K' => nilT a0 w K') w fun t13 =>
  quietT (fun K' => ldT P T.slices_xorshift t13 w K') w fun t14 =>
  w = w ∧ quietT (fun K' => nilT a0 w K') w fun t16 =>
  quietT (fun K' => ldT P T.slices_xorshift t16 w K') w fun t17 =>
  quietT (fun K' => binT P .shr T.slices_xorshift (.tmp 17) (.const (.int .u64 7)) t17 (.int .u64 7) w K') w fun t18 =>
  quietT (fun K' => binT P .xor T.slices_xorshift (.tmp 14) (.tmp 18) t14 t18 w K') w fun t19 =>
  quietT (fun K' => nilT a0 w K') w fun t20 =>
  stT P T.slices_xorshift t20 t19 w fun _ w =>
  drawT w fun w =>
  w = w ∧ quietT (fun K' => nilT a0 w K') w fun t22 =>
  quietT (fun K' => ldT P T.slices_xorshift t22 w K') w fun t23 =>
  w = w ∧ quietT (fun K' => nilT a0 w K') w fun t25 =>
  quietT (fun K' => ldT P T.slices_xorshift t25 w K') w fun t26 =>
  quietT (fun K' => binT P .shl T.slices_xorshift (.tmp 26) (.const (.int .u64 17)) t26 (.int .u64 17) w K') w fun t27 =>
  quietT (fun K' => binT P .xor T.slices_xorshift (.tmp 23) (.tmp 27) t23 t27 w K') w fun t28 =>
  quietT (fun K' => nilT a0 w K') w fun t29 =>
  stT P T.slices_xorshift t29 t28 w fun _ w =>
  nilT a0 w fun t31 w =>
  ldT P T.slices_xorshift t31 w fun t32 w =>
  K t32 w
def M.pslices_xorshift_Next.L : List Nat := [0, 2]
def M.pslices_xorshift_Next.pl : Nat → Plan := fun id => cond (Nat.beq id 1) ⟨(.go 0 (.go 1 (.go 2 (.go 3 (.go 4 (.go 5 (.go 6 (.go 7 (.go 8 (.eff 9 .nil .stop)))))))))), [9], false⟩ (cond (Nat.beq id 2) ⟨(.go 0 (.go 1 (.go 2 (.go 3 (.go 4 (.go 5 (.go 6 (.go 7 (.go 8 (.eff 9 .nil .stop)))))))))), [9], false⟩ (cond (Nat.beq id 3) ⟨(.go 0 (.go 1 (.go 2 (.go 3 (.go 4 (.go 5 (.go 6 (.go 7 (.go 8 (.eff 9 .nil .stop)))))))))), [9], false⟩ (⟨.nil, [], false⟩)))
theorem M.pslices_xorshift_Next.eq (a0 : Value) (w : World) (K : KV) : M.pslices_xorshift_Next a0 w K = den P M.pslices_xorshift_Next.L M.pslices_xorshift_Next.pl (Try.f165.body.getD .skip) (argE [a0]) w (bodyQ P Try.f165.results.toList K) := by kernel_rfl
theorem M.pslices_xorshift_Next.ok : okFn M.pslices_xorshift_Next.L M.pslices_xorshift_Next.pl Try.f165 (Try.f165.body.getD .skip) 1 = true := by kernel_rfl
theorem M.pslices_xorshift_Next.calls (a0 : Value) {w : World} {K : KV} (h : M.pslices_xorshift_Next a0 w K) : callT P F.pslices_xorshift_Next [a0] w K :=
  callT_of_den (by kernel_rfl) Try.func165 (by kernel_rfl) M.pslices_xorshift_Next.ok (M.pslices_xorshift_Next.eq a0 w K ▸ h)
theorem M.pslices_xorshift_Next.fcall (args : List Value) (w : World) (K : KV) : fcallT P F.pslices_xorshift_Next args w K = callT P F.pslices_xorshift_Next args w K := fcallT_eq Try.func165 (by kernel_rfl) (by kernel_rfl) args w K
theorem M.pslices_xorshift_Next.rcall (a c args : List Value) (w : World) (K : KV) : callRT P (.func (.func F.pslices_xorshift_Next) a.toArray c.toArray) args w K = callT P F.pslices_xorshift_Next (a ++ args ++ c) w K := callR_fn Try.func165 (by kernel_rfl) (by kernel_rfl) a c args w K

/-- slices.medianAdjacentOrdered[int] -/
def M.slices_medianAdjacentOrdered_int (a0 a1 a2 : Value) (w : World) (K : KV) : Prop :=
  binT P .sub T.int (.tmp 8) (.const (.int .i64 1)) a1 (.int .i64 1) w fun t9 w =>
  binT P .add T.int (.tmp 11) (.const (.int .i64 1)) a1 (.int .i64 1) w fun t12 w =>
  fcallT P F.slices_medianOrdered_int [a0, t9, a1, t12, a2] w fun t14 w =>
  K t14 w
def M.slices_medianAdjacentOrdered_int.L : List Nat := [0, 1, 2, 6]
def M.slices_medianAdjacentOrdered_int.pl : Nat → Plan := fun id => ⟨.nil, [], false⟩
theorem M.slices_medianAdjacentOrdered_int.eq (a0 a1 a2 : Value) (w : World) (K : KV) : M.slices_medianAdjacentOrdered_int a0 a1 a2 w K = den P M.slices_medianAdjacentOrdered_int.L M.slices_medianAdjacentOrdered_int.pl (Try.f166.body.getD .skip) (argE [a0, a1, a2]) w (bodyQ P Try.f166.results.toList K) := by kernel_rfl
theorem M.slices_medianAdjacentOrdered_int.ok : okFn M.slices_medianAdjacentOrdered_int.L M.slices_medianAdjacentOrdered_int.pl Try.f166 (Try.f166.body.getD .skip) 3 = true := by kernel_rfl
theorem M.slices_medianAdjacentOrdered_int.calls (a0 a1 a2 : Value) {w : World} {K : KV} (h : M.slices_medianAdjacentOrdered_int a0 a1 a2 w K) : callT P F.slices_medianAdjacentOrdered_int [a0, a1, a2] w K :=
  callT_of_den (by kernel_rfl) Try.func166 (by kernel_rfl) M.slices_medianAdjacentOrdered_int.ok (M.slices_medianAdjacentOrdered_int.eq a0 a1 a2 w K ▸ h)
theorem M.slices_medianAdjacentOrdered_int.fcall (args : List Value) (w : World) (K : KV) : fcallT P F.slices_medianAdjacentOrdered_int args w K = callT P F.slices_medianAdjacentOrdered_int args w K := fcallT_eq Try.func166 (by kernel_rfl) (by kernel_rfl) args w K
theorem M.slices_medianAdjacentOrdered_int.rcall (a c args : List Value) (w : World) (K : KV) : callRT P (.func (.func F.slices_medianAdjacentOrdered_int) a.toArray c.toArray) args w K = callT P F.slices_medianAdjacentOrdered_int (a ++ args ++ c) w K := callR_fn Try.func166 (by kernel_rfl) (by kernel_rfl) a c args w K

/-- slices.medianOrdered[int] -/
def M.slices_medianOrdered_int (a0 a1 a2 a3 a4 : Value) (w : World) (K : KV) : Prop :=
  fcallT P F.slices_order2Ordered_int [a0, a1, a2, a4] w fun t16 w =>
  exT P t16 0 w fun t17 w =>
  exT P t16 1 w fun t18 w =>
  fcallT P F.slices_order2Ordered_int [a0, t18, a3, a4] w fun t24 w =>
  exT P t24 0 w fun t25 w =>
  exT P t24 1 w fun t26 w =>
  fcallT P F.slices_order2Ordered_int [a0, t17, t25, a4] w fun t32 w =>
  exT P t32 0 w fun t33 w =>
  exT P t32 1 w fun t34 w =>
  K t34 w
def M.slices_medianOrdered_int.L : List Nat := [0, 1, 2, 3, 4, 10]
def M.slices_medianOrdered_int.pl : Nat → Plan := fun id => ⟨.nil, [], false⟩
theorem M.slices_medianOrdered_int.eq (a0 a1 a2 a3 a4 : Value) (w : World) (K : KV) : M.slices_medianOrdered_int a0 a1 a2 a3 a4 w K = den P M.slices_medianOrdered_int.L M.slices_medianOrdered_int.pl (Try.f167.body.getD .skip) (argE [a0, a1, a2, a3, a4]) w (bodyQ P Try.f167.results.toList K) := by kernel_rfl
theorem M.slices_medianOrdered_int.ok : okFn M.slices_medianOrdered_int.L M.slices_medianOrdered_int.pl Try.f167 (Try.f167.body.getD .skip) 5 = true := by kernel_rfl
theorem M.slices_medianOrdered_int.calls (a0 a1 a2 a3 a4 : Value) {w : World} {K : KV} (h : M.slices_medianOrdered_int a0 a1 a2 a3 a4 w K) : callT P F.slices_medianOrdered_int [a0, a1, a2, a3, a4] w K :=
  callT_of_den (by kernel_rfl) Try.func167 (by kernel_rfl) M.slices_medianOrdered_int.ok (M.slices_medianOrdered_int.eq a0 a1 a2 a3 a4 w K ▸ h)
theorem M.slices_medianOrdered_int.fcall (args : List Value) (w : World) (K : KV) : fcallT P F.slices_medianOrdered_int args w K = callT P F.slices_medianOrdered_int args w K := fcallT_eq Try.func167 (by kernel_rfl) (by kernel_rfl) args w K
theorem M.slices_medianOrdered_int.rcall (a c args : List Value) (w : World) (K : KV) : callRT P (.func (.func F.slices_medianOrdered_int) a.toArray c.toArray) args w K = callT P F.slices_medianOrdered_int (a ++ args ++ c) w K := callR_fn Try.func167 (by kernel_rfl) (by kernel_rfl) a c args w K

/-- slices.order2Ordered[int] -/
def M.slices_order2Ordered_int (a0 a1 a2 a3 : Value) (w : World) (K : KV) : Prop :=
  joinT (fun K0 =>
  drawT w fun w =>
  w = w ∧ w = w ∧ quietT (fun K' => iaT P T.sl_int a0 a2 w K') w fun t12 =>
  quietT (fun K' => ldT P T.int t12 w K') w fun t13 =>
  w = w ∧ w = w ∧ quietT (fun K' => iaT P T.sl_int a0 a1 w K') w fun t16 =>
  quietT (fun K' => ldT P T.int t16 w K') w fun t17 =>
  fcallT P F.cmp_Less_int [t13, t17] w fun t18 w =>
  condT t18 (
  nilT a3 w fun t20 w =>
  ldT P T.int t20 w fun t21 w =>
  binT P .add T.int (.tmp 21) (.const (.int .i64 1)) t21 (.int .i64 1) w fun t22 w =>
  nilT a3 w fun t23 w =>
  stT P T.int t23 t22 w fun _ w =>
  K (.tuple #[a2, a1]) w) (
  K0 [(.int .i64 0), (.int .i64 0)] w)) fun x0 w =>
  K (.tuple #[a1, a2]) w
def M.slices_order2Ordered_int.L : List Nat := [0, 1, 2, 3, 8, 9]
def M.slices_order2Ordered_int.pl : Nat → Plan := fun id => cond (Nat.beq id 1) ⟨(.go 0 (.go 1 (.go 2 (.go 3 (.go 4 (.go 5 (.go 6 (.go 7 (.eff 8 .nil .stop))))))))), [8], false⟩ (⟨.nil, [], false⟩)
theorem M.slices_order2Ordered_int.eq (a0 a1 a2 a3 : Value) (w : World) (K : KV) : M.slices_order2Ordered_int a0 a1 a2 a3 w K = den P M.slices_order2Ordered_int.L M.slices_order2Ordered_int.pl (Try.f172.body.getD .skip) (argE [a0, a1, a2, a3]) w (bodyQ P Try.f172.results.toList K) := by kernel_rfl
theorem M.slices_order2Ordered_int.ok : okFn M.slices_order2Ordered_int.L M.slices_order2Ordered_int.pl Try.f172 (Try.f172.body.getD .skip) 4 = true := by kernel_rfl
theorem M.slices_order2Ordered_int.calls (a0 a1 a2 a3 : Value) {w : World} {K : KV} (h : M.slices_order2Ordered_int a0 a1 a2 a3 w K) : callT P F.slices_order2Ordered_int [a0, a1, a2, a3] w K :=
  callT_of_den (by kernel_rfl) Try.func172 (by kernel_rfl) M.slices_order2Ordered_int.ok (M.slices_order2Ordered_int.eq a0 a1 a2 a3 w K ▸ h)
theorem M.slices_order2Ordered_int.fcall (args : List Value) (w : World) (K : KV) : fcallT P F.slices_order2Ordered_int args w K = callT P F.slices_order2Ordered_int args w K := fcallT_eq Try.func172 (by kernel_rfl) (by kernel_rfl) args w K
theorem M.slices_order2Ordered_int.rcall (a c args : List Value) (w : World) (K : KV) : callRT P (.func (.func F.slices_order2Ordered_int) a.toArray c.toArray) args w K = callT P F.slices_order2Ordered_int (a ++ args ++ c) w K := callR_fn Try.func172 (by kernel_rfl) (by kernel_rfl) a c args w K

end Go.Proofs.Ytgcpljghnlohbaa
