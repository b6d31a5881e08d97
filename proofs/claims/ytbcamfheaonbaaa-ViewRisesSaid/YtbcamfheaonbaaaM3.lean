/-
  Printed by wip/Shallow.lean: functions of the program, read shallow; each is what its code does. No condition.
-/
import Derived.Test.YtbcamfheaonbaaaN
set_option maxRecDepth 1000000
namespace Go.Proofs.Ytbcamfheaonbaaa
open Go.Eng

/-- slices.nextPowerOfTwo -/
def M.slices_nextPowerOfTwo (a0 : Value) (w : World) (K : KV) : Prop :=
  cvT P T.int T.uint a0 w fun t4 w =>
  fcallT P F.math_bits_Len [t4] w fun t5 w =>
  binT P .shl T.uint (.const (.int .u64 1)) (.tmp 5) (.int .u64 1) t5 w fun t6 w =>
  K t6 w
def M.slices_nextPowerOfTwo.L : List Nat := [0, 2]
def M.slices_nextPowerOfTwo.pl : Nat → Plan := fun id => ⟨.nil, [], false⟩
theorem M.slices_nextPowerOfTwo.eq (a0 : Value) (w : World) (K : KV) : M.slices_nextPowerOfTwo a0 w K = den P M.slices_nextPowerOfTwo.L M.slices_nextPowerOfTwo.pl (Try.f80.body.getD .skip) (argE [a0]) w (bodyQ P Try.f80.results.toList K) := by kernel_rfl
theorem M.slices_nextPowerOfTwo.ok : okFn M.slices_nextPowerOfTwo.L M.slices_nextPowerOfTwo.pl Try.f80 (Try.f80.body.getD .skip) 1 = true := by kernel_rfl
theorem M.slices_nextPowerOfTwo.calls (a0 : Value) {w : World} {K : KV} (h : M.slices_nextPowerOfTwo a0 w K) : callT P F.slices_nextPowerOfTwo [a0] w K :=
  callT_of_den (by kernel_rfl) Try.func80 (by kernel_rfl) M.slices_nextPowerOfTwo.ok (M.slices_nextPowerOfTwo.eq a0 w K ▸ h)
theorem M.slices_nextPowerOfTwo.fcall (args : List Value) (w : World) (K : KV) : fcallT P F.slices_nextPowerOfTwo args w K = callT P F.slices_nextPowerOfTwo args w K := fcallT_eq Try.func80 (by kernel_rfl) (by kernel_rfl) args w K
theorem M.slices_nextPowerOfTwo.rcall (a c args : List Value) (w : World) (K : KV) : callRT P (.func (.func F.slices_nextPowerOfTwo) a.toArray c.toArray) args w K = callT P F.slices_nextPowerOfTwo (a ++ args ++ c) w K := callR_fn Try.func80 (by kernel_rfl) (by kernel_rfl) a c args w K

/-- (*slices.xorshift).Next -/
def M.pslices_xorshift_Next (a0 : Value) (w : World) (K : KV) : Prop :=
  drawT w fun w =>
  w = w ∧ quietT (fun K' => nilT a0 w K') w fun t4 =>
  quietT (fun K' => ldT P T.slices_xorshift t4 w K') w fun t5 =>
  w = w ∧ quietT (fun K' => nilT a0 w K') w fun t7 =>
  quietT (fun K' => ldT P T.slices_xorshift t7 w K') w fun t8 =>
  quietT (fun K' => binT P .shl T.slices_xorshift (.tmp 8) (.const (.int .u64 13)) t8 (.int .u64 13) w K') w fun t9 =>
  quietT (fun K' => binT P .xor T.slices_xorshift (.tmp 5) (.tmp 9) t5 t9 w K') w fun t10 =>
  quietT (fun K' => nilT a0 w K') w fun t11 =>
  stT P T.slices_xorshift t11 t10 w fun _ w =>
  drawT w fun w =>
  w = w ∧ quietT (fun K' => nilT a0 w K') w fun t13 =>
  quietT (fun K' => ldT P T.slices_xorshift t13 w K') w fun t14 =>
  w = w ∧ quietT (fun K' => nilT a0 w K') w fun t16 =>
  quietT (fun K' => ldT P T.slices_xorshift t16 w K') w fun t17 =>
  quietT (fun K' => binT P .shr T.slices_xorshift (.tmp 17) (.const (.int .u64 7)) t17 (.int .u64 7) w K') w fun t18 =>
  quietT (fun K' => binT P .xor T.slices_xorshift (.tmp 14) (.tmp 18) t14 t18 w K') w fun t19 =>
  quietT (fun K' => nilT a0 w K') w fun t20 =>
  stT P T.slices_xorshift t20 t19 w fun _ w =>
  drawT w fun w =>
  w = w ∧ quietT (fun K' => nilT a0 w K') w fun t22 =>
  quietT (fun K' => ldT P T.slices_xorshift t22 w K') w fun t23 =>
  w = w ∧ quietT (fun K' => nilT a0 w K') w fun t25 =>
  quietT (fun K' => ldT P T.slices_xorshift t25 w K') w fun t26 =>
  quietT (fun K' => binT P .shl T.slices_xorshift (.tmp 26) (.const (.int .u64 17)) t26 (.int .u64 17) w K') w fun t27 =>
  quietT (fun K' => binT P .xor T.slices_xorshift (.tmp 23) (.tmp 27) t23 t27 w K') w fun t28 =>
  quietT (fun K' => nilT a0 w K') w fun t29 =>
  stT P T.slices_xorshift t29 t28 w fun _ w =>
  nilT a0 w fun t31 w =>
  ldT P T.slices_xorshift t31 w fun t32 w =>
  K t32 w
def M.pslices_xorshift_Next.L : List Nat := [0, 2]
def M.pslices_xorshift_Next.pl : Nat → Plan := fun id => cond (Nat.beq id 1) ⟨(.go 0 (.go 1 (.go 2 (.go 3 (.go 4 (.go 5 (.go 6 (.go 7 (.go 8 (.eff 9 .nil .stop)))))))))), [9], false⟩ (cond (Nat.beq id 2) ⟨(.go 0 (.go 1 (.go 2 (.go 3 (.go 4 (.go 5 (.go 6 (.go 7 (.go 8 (.eff 9 .nil .stop)))))))))), [9], false⟩ (cond (Nat.beq id 3) ⟨(.go 0 (.go 1 (.go 2 (.go 3 (.go 4 (.go 5 (.go 6 (.go 7 (.go 8 (.eff 9 .nil .stop)))))))))), [9], false⟩ (⟨.nil, [], false⟩)))
theorem M.pslices_xorshift_Next.eq (a0 : Value) (w : World) (K : KV) : M.pslices_xorshift_Next a0 w K = den P M.pslices_xorshift_Next.L M.pslices_xorshift_Next.pl (Try.f81.body.getD .skip) (argE [a0]) w (bodyQ P Try.f81.results.toList K) := by kernel_rfl
theorem M.pslices_xorshift_Next.ok : okFn M.pslices_xorshift_Next.L M.pslices_xorshift_Next.pl Try.f81 (Try.f81.body.getD .skip) 1 = true := by kernel_rfl
theorem M.pslices_xorshift_Next.calls (a0 : Value) {w : World} {K : KV} (h : M.pslices_xorshift_Next a0 w K) : callT P F.pslices_xorshift_Next [a0] w K :=
  callT_of_den (by kernel_rfl) Try.func81 (by kernel_rfl) M.pslices_xorshift_Next.ok (M.pslices_xorshift_Next.eq a0 w K ▸ h)
theorem M.pslices_xorshift_Next.fcall (args : List Value) (w : World) (K : KV) : fcallT P F.pslices_xorshift_Next args w K = callT P F.pslices_xorshift_Next args w K := fcallT_eq Try.func81 (by kernel_rfl) (by kernel_rfl) args w K
theorem M.pslices_xorshift_Next.rcall (a c args : List Value) (w : World) (K : KV) : callRT P (.func (.func F.pslices_xorshift_Next) a.toArray c.toArray) args w K = callT P F.pslices_xorshift_Next (a ++ args ++ c) w K := callR_fn Try.func81 (by kernel_rfl) (by kernel_rfl) a c args w K

/-- slices.medianAdjacentOrdered[uint64] -/
def M.slices_medianAdjacentOrdered_uint64 (a0 a1 a2 : Value) (w : World) (K : KV) : Prop :=
  binT P .sub T.int (.tmp 8) (.const (.int .i64 1)) a1 (.int .i64 1) w fun t9 w =>
  binT P .add T.int (.tmp 11) (.const (.int .i64 1)) a1 (.int .i64 1) w fun t12 w =>
  fcallT P F.slices_medianOrdered_uint64 [a0, t9, a1, t12, a2] w fun t14 w =>
  K t14 w
def M.slices_medianAdjacentOrdered_uint64.L : List Nat := [0, 1, 2, 6]
def M.slices_medianAdjacentOrdered_uint64.pl : Nat → Plan := fun id => ⟨.nil, [], false⟩
theorem M.slices_medianAdjacentOrdered_uint64.eq (a0 a1 a2 : Value) (w : World) (K : KV) : M.slices_medianAdjacentOrdered_uint64 a0 a1 a2 w K = den P M.slices_medianAdjacentOrdered_uint64.L M.slices_medianAdjacentOrdered_uint64.pl (Try.f82.body.getD .skip) (argE [a0, a1, a2]) w (bodyQ P Try.f82.results.toList K) := by kernel_rfl
theorem M.slices_medianAdjacentOrdered_uint64.ok : okFn M.slices_medianAdjacentOrdered_uint64.L M.slices_medianAdjacentOrdered_uint64.pl Try.f82 (Try.f82.body.getD .skip) 3 = true := by kernel_rfl
theorem M.slices_medianAdjacentOrdered_uint64.calls (a0 a1 a2 : Value) {w : World} {K : KV} (h : M.slices_medianAdjacentOrdered_uint64 a0 a1 a2 w K) : callT P F.slices_medianAdjacentOrdered_uint64 [a0, a1, a2] w K :=
  callT_of_den (by kernel_rfl) Try.func82 (by kernel_rfl) M.slices_medianAdjacentOrdered_uint64.ok (M.slices_medianAdjacentOrdered_uint64.eq a0 a1 a2 w K ▸ h)
theorem M.slices_medianAdjacentOrdered_uint64.fcall (args : List Value) (w : World) (K : KV) : fcallT P F.slices_medianAdjacentOrdered_uint64 args w K = callT P F.slices_medianAdjacentOrdered_uint64 args w K := fcallT_eq Try.func82 (by kernel_rfl) (by kernel_rfl) args w K
theorem M.slices_medianAdjacentOrdered_uint64.rcall (a c args : List Value) (w : World) (K : KV) : callRT P (.func (.func F.slices_medianAdjacentOrdered_uint64) a.toArray c.toArray) args w K = callT P F.slices_medianAdjacentOrdered_uint64 (a ++ args ++ c) w K := callR_fn Try.func82 (by kernel_rfl) (by kernel_rfl) a c args w K

/-- slices.medianOrdered[uint64] -/
def M.slices_medianOrdered_uint64 (a0 a1 a2 a3 a4 : Value) (w : World) (K : KV) : Prop :=
  fcallT P F.slices_order2Ordered_uint64 [a0, a1, a2, a4] w fun t16 w =>
  exT P t16 0 w fun t17 w =>
  exT P t16 1 w fun t18 w =>
  fcallT P F.slices_order2Ordered_uint64 [a0, t18, a3, a4] w fun t24 w =>
  exT P t24 0 w fun t25 w =>
  exT P t24 1 w fun t26 w =>
  fcallT P F.slices_order2Ordered_uint64 [a0, t17, t25, a4] w fun t32 w =>
  exT P t32 0 w fun t33 w =>
  exT P t32 1 w fun t34 w =>
  K t34 w
def M.slices_medianOrdered_uint64.L : List Nat := [0, 1, 2, 3, 4, 10]
def M.slices_medianOrdered_uint64.pl : Nat → Plan := fun id => ⟨.nil, [], false⟩
theorem M.slices_medianOrdered_uint64.eq (a0 a1 a2 a3 a4 : Value) (w : World) (K : KV) : M.slices_medianOrdered_uint64 a0 a1 a2 a3 a4 w K = den P M.slices_medianOrdered_uint64.L M.slices_medianOrdered_uint64.pl (Try.f83.body.getD .skip) (argE [a0, a1, a2, a3, a4]) w (bodyQ P Try.f83.results.toList K) := by kernel_rfl
theorem M.slices_medianOrdered_uint64.ok : okFn M.slices_medianOrdered_uint64.L M.slices_medianOrdered_uint64.pl Try.f83 (Try.f83.body.getD .skip) 5 = true := by kernel_rfl
theorem M.slices_medianOrdered_uint64.calls (a0 a1 a2 a3 a4 : Value) {w : World} {K : KV} (h : M.slices_medianOrdered_uint64 a0 a1 a2 a3 a4 w K) : callT P F.slices_medianOrdered_uint64 [a0, a1, a2, a3, a4] w K :=
  callT_of_den (by kernel_rfl) Try.func83 (by kernel_rfl) M.slices_medianOrdered_uint64.ok (M.slices_medianOrdered_uint64.eq a0 a1 a2 a3 a4 w K ▸ h)
theorem M.slices_medianOrdered_uint64.fcall (args : List Value) (w : World) (K : KV) : fcallT P F.slices_medianOrdered_uint64 args w K = callT P F.slices_medianOrdered_uint64 args w K := fcallT_eq Try.func83 (by kernel_rfl) (by kernel_rfl) args w K
theorem M.slices_medianOrdered_uint64.rcall (a c args : List Value) (w : World) (K : KV) : callRT P (.func (.func F.slices_medianOrdered_uint64) a.toArray c.toArray) args w K = callT P F.slices_medianOrdered_uint64 (a ++ args ++ c) w K := callR_fn Try.func83 (by kernel_rfl) (by kernel_rfl) a c args w K

/-- strings.HasPrefix -/
def M.strings_HasPrefix (a0 a1 : Value) (w : World) (K : KV) : Prop :=
  fcallT P F.internal_stringslite_HasPrefix [a0, a1] w fun t7 w =>
  K t7 w
def M.strings_HasPrefix.L : List Nat := [0, 1, 4]
def M.strings_HasPrefix.pl : Nat → Plan := fun id => ⟨.nil, [], false⟩
theorem M.strings_HasPrefix.eq (a0 a1 : Value) (w : World) (K : KV) : M.strings_HasPrefix a0 a1 w K = den P M.strings_HasPrefix.L M.strings_HasPrefix.pl (Try.f84.body.getD .skip) (argE [a0, a1]) w (bodyQ P Try.f84.results.toList K) := by kernel_rfl
theorem M.strings_HasPrefix.ok : okFn M.strings_HasPrefix.L M.strings_HasPrefix.pl Try.f84 (Try.f84.body.getD .skip) 2 = true := by kernel_rfl
theorem M.strings_HasPrefix.calls (a0 a1 : Value) {w : World} {K : KV} (h : M.strings_HasPrefix a0 a1 w K) : callT P F.strings_HasPrefix [a0, a1] w K :=
  callT_of_den (by kernel_rfl) Try.func84 (by kernel_rfl) M.strings_HasPrefix.ok (M.strings_HasPrefix.eq a0 a1 w K ▸ h)
theorem M.strings_HasPrefix.fcall (args : List Value) (w : World) (K : KV) : fcallT P F.strings_HasPrefix args w K = callT P F.strings_HasPrefix args w K := fcallT_eq Try.func84 (by kernel_rfl) (by kernel_rfl) args w K
theorem M.strings_HasPrefix.rcall (a c args : List Value) (w : World) (K : KV) : callRT P (.func (.func F.strings_HasPrefix) a.toArray c.toArray) args w K = callT P F.strings_HasPrefix (a ++ args ++ c) w K := callR_fn Try.func84 (by kernel_rfl) (by kernel_rfl) a c args w K

/-- slices.order2Ordered[uint64] -/
def M.slices_order2Ordered_uint64 (a0 a1 a2 a3 : Value) (w : World) (K : KV) : Prop :=
  joinT (fun K0 =>
  drawT w fun w =>
  w = w ∧ w = w ∧ quietT (fun K' => iaT P T.sl_uint64 a0 a2 w K') w fun t12 =>
  quietT (fun K' => ldT P T.uint64 t12 w K') w fun t13 =>
  w = w ∧ w = w ∧ quietT (fun K' => iaT P T.sl_uint64 a0 a1 w K') w fun t16 =>
  quietT (fun K' => ldT P T.uint64 t16 w K') w fun t17 =>
  fcallT P F.cmp_Less_uint64 [t13, t17] w fun t18 w =>
  condT t18 (
  nilT a3 w fun t20 w =>
  ldT P T.int t20 w fun t21 w =>
  binT P .add T.int (.tmp 21) (.const (.int .i64 1)) t21 (.int .i64 1) w fun t22 w =>
  nilT a3 w fun t23 w =>
  stT P T.int t23 t22 w fun _ w =>
  K (.tuple #[a2, a1]) w) (
  K0 [(.int .i64 0), (.int .i64 0)] w)) fun x0 w =>
  K (.tuple #[a1, a2]) w
def M.slices_order2Ordered_uint64.L : List Nat := [0, 1, 2, 3, 8, 9]
def M.slices_order2Ordered_uint64.pl : Nat → Plan := fun id => cond (Nat.beq id 1) ⟨(.go 0 (.go 1 (.go 2 (.go 3 (.go 4 (.go 5 (.go 6 (.go 7 (.eff 8 .nil .stop))))))))), [8], false⟩ (⟨.nil, [], false⟩)
theorem M.slices_order2Ordered_uint64.eq (a0 a1 a2 a3 : Value) (w : World) (K : KV) : M.slices_order2Ordered_uint64 a0 a1 a2 a3 w K = den P M.slices_order2Ordered_uint64.L M.slices_order2Ordered_uint64.pl (Try.f85.body.getD .skip) (argE [a0, a1, a2, a3]) w (bodyQ P Try.f85.results.toList K) := by kernel_rfl
theorem M.slices_order2Ordered_uint64.ok : okFn M.slices_order2Ordered_uint64.L M.slices_order2Ordered_uint64.pl Try.f85 (Try.f85.body.getD .skip) 4 = true := by kernel_rfl
theorem M.slices_order2Ordered_uint64.calls (a0 a1 a2 a3 : Value) {w : World} {K : KV} (h : M.slices_order2Ordered_uint64 a0 a1 a2 a3 w K) : callT P F.slices_order2Ordered_uint64 [a0, a1, a2, a3] w K :=
  callT_of_den (by kernel_rfl) Try.func85 (by kernel_rfl) M.slices_order2Ordered_uint64.ok (M.slices_order2Ordered_uint64.eq a0 a1 a2 a3 w K ▸ h)
theorem M.slices_order2Ordered_uint64.fcall (args : List Value) (w : World) (K : KV) : fcallT P F.slices_order2Ordered_uint64 args w K = callT P F.slices_order2Ordered_uint64 args w K := fcallT_eq Try.func85 (by kernel_rfl) (by kernel_rfl) args w K
theorem M.slices_order2Ordered_uint64.rcall (a c args : List Value) (w : World) (K : KV) : callRT P (.func (.func F.slices_order2Ordered_uint64) a.toArray c.toArray) args w K = callT P F.slices_order2Ordered_uint64 (a ++ args ++ c) w K := callR_fn Try.func85 (by kernel_rfl) (by kernel_rfl) a c args w K

/-- internal/stringslite.HasPrefix -/
def M.internal_stringslite_HasPrefix (a0 a1 : Value) (w : World) (K : KV) : Prop :=
  biT P .len #[T.string] T.int [false] [a0] w fun t6 w =>
  biT P .len #[T.string] T.int [false] [a1] w fun t8 w =>
  binT P .geq T.int (.tmp 6) (.tmp 8) t6 t8 w fun t9 w =>
  guardT (isB t9 true) (fun K' => K' a0 w) w fun t11 w =>
  guardT (isB t9 true) (fun K' => K' a1 w) w fun t12 w =>
  guardT (isB t9 true) (fun K' => biT P .len #[T.string] T.int [false] [t12] w K') w fun t13 w =>
  guardT (isB t9 true) (fun K' => slT P T.string t11 none (some t13) none w K') w fun t14 w =>
  guardT (isB t9 true) (fun K' => K' a1 w) w fun t15 w =>
  guardT (isB t9 true) (fun K' => binT P .eql T.string (.tmp 14) (.tmp 15) t14 t15 w K') w fun t16 w =>
  pickT t9 t16 (.bool false) w fun t17 w =>
  K t17 w
def M.internal_stringslite_HasPrefix.L : List Nat := [0, 1, 4]
def M.internal_stringslite_HasPrefix.pl : Nat → Plan := fun id => ⟨.nil, [], false⟩
theorem M.internal_stringslite_HasPrefix.eq (a0 a1 : Value) (w : World) (K : KV) : M.internal_stringslite_HasPrefix a0 a1 w K = den P M.internal_stringslite_HasPrefix.L M.internal_stringslite_HasPrefix.pl (Try.f86.body.getD .skip) (argE [a0, a1]) w (bodyQ P Try.f86.results.toList K) := by kernel_rfl
theorem M.internal_stringslite_HasPrefix.ok : okFn M.internal_stringslite_HasPrefix.L M.internal_stringslite_HasPrefix.pl Try.f86 (Try.f86.body.getD .skip) 2 = true := by kernel_rfl
theorem M.internal_stringslite_HasPrefix.calls (a0 a1 : Value) {w : World} {K : KV} (h : M.internal_stringslite_HasPrefix a0 a1 w K) : callT P F.internal_stringslite_HasPrefix [a0, a1] w K :=
  callT_of_den (by kernel_rfl) Try.func86 (by kernel_rfl) M.internal_stringslite_HasPrefix.ok (M.internal_stringslite_HasPrefix.eq a0 a1 w K ▸ h)
theorem M.internal_stringslite_HasPrefix.fcall (args : List Value) (w : World) (K : KV) : fcallT P F.internal_stringslite_HasPrefix args w K = callT P F.internal_stringslite_HasPrefix args w K := fcallT_eq Try.func86 (by kernel_rfl) (by kernel_rfl) args w K
theorem M.internal_stringslite_HasPrefix.rcall (a c args : List Value) (w : World) (K : KV) : callRT P (.func (.func F.internal_stringslite_HasPrefix) a.toArray c.toArray) args w K = callT P F.internal_stringslite_HasPrefix (a ++ args ++ c) w K := callR_fn Try.func86 (by kernel_rfl) (by kernel_rfl) a c args w K

end Go.Proofs.Ytbcamfheaonbaaa
