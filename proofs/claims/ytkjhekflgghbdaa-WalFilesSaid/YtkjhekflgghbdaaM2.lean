/-
  Printed by wip/Shallow.lean: functions of the program, read shallow; each is what its code does. No condition.
-/
import Derived.Test.YtkjhekflgghbdaaN
set_option maxRecDepth 1000000
namespace Go.Proofs.Ytkjhekflgghbdaa
open Go.Eng

/-- (*slices.xorshift).Next -/
def M.pslices_xorshift_Next (a0 : Value) (w : World) (K : KV) : Prop :=
  drawT w fun w =>
  w = w ∧ quietT (fun K' => nilT a0 w K') w fun t4 =>
  quietT (fun K' => ldT P T.slices_xorshift t4 w K') w fun t5 =>
  w = w ∧ quietT (fun K' => nilT a0 w K') w fun t7 =>
  quietT (fun K' => ldT P T.slices_xorshift t7 w K') w fun t8 =>
  quietT (fun K' => binT P .shl T.slices_xorshift (.tmp 8) (.const (.int .u64 13)) t8 (.int .u64 13) w K') w fun t9 =>
  quietT (fun K' => binT P .xor T.slices_xorshift (.tmp 5) (.tmp 9) t5 t9 w K') w fun t10 =>
  quietT (fun K' => nilT a0 w K') w fun t11 =>
  stT P T.slices_xorshift t11 t10 w fun _ w =>
  drawT w fun w =>
  w = w ∧ quietT (fun K' => nilT a0 w K') w fun t13 =>
  quietT (fun K' => ldT P T.slices_xorshift t13 w K') w fun t14 =>
  w = w ∧ quietT (fun K' => nilT a0 w K') w fun t16 =>
  quietT (fun K' => ldT P T.slices_xorshift t16 w K') w fun t17 =>
  quietT (fun K' => binT P .shr T.slices_xorshift (.tmp 17) (.const (.int .u64 7)) t17 (.int .u64 7) w K') w fun t18 =>
  quietT (fun K' => binT P .xor T.slices_xorshift (.tmp 14) (.tmp 18) t14 t18 w K') w fun t19 =>
  quietT (fun K' => nilT a0 w K') w fun t20 =>
  stT P T.slices_xorshift t20 t19 w fun _ w =>
  drawT w fun w =>
  w = w ∧ quietT (fun K' => nilT a0 w K') w fun t22 =>
  quietT (fun K' => ldT P T.slices_xorshift t22 w K') w fun t23 =>
  w = w ∧ quietT (fun K' => nilT a0 w K') w fun t25 =>
  quietT (fun K' => ldT P T.slices_xorshift t25 w K') w fun t26 =>
  quietT (fun K' => binT P .shl T.slices_xorshift (.tmp 26) (.const (.int .u64 17)) t26 (.int .u64 17) w K') w fun t27 =>
  quietT (fun K' => binT P .xor T.slices_xorshift (.tmp 23) (.tmp 27) t23 t27 w K') w fun t28 =>
  quietT (fun K' => nilT a0 w K') w fun t29 =>
  stT P T.slices_xorshift t29 t28 w fun _ w =>
  nilT a0 w fun t31 w =>
  ldT P T.slices_xorshift t31 w fun t32 w =>
  K t32 w
def M.pslices_xorshift_Next.L : List Nat := [0, 2]
def M.pslices_xorshift_Next.pl : Nat → Plan := fun id => cond (Nat.beq id 1) ⟨(.go 0 (.go 1 (.go 2 (.go 3 (.go 4 (.go 5 (.go 6 (.go 7 (.go 8 (.eff 9 .nil .stop)))))))))), [9], false, [0, 1, 3, 0, 8, 24, 56, 127, 255, 511]⟩ (cond (Nat.beq id 2) ⟨(.go 0 (.go 1 (.go 2 (.go 3 (.go 4 (.go 5 (.go 6 (.go 7 (.go 8 (.eff 9 .nil .stop)))))))))), [9], false, [0, 1, 3, 0, 8, 24, 56, 127, 255, 511]⟩ (cond (Nat.beq id 3) ⟨(.go 0 (.go 1 (.go 2 (.go 3 (.go 4 (.go 5 (.go 6 (.go 7 (.go 8 (.eff 9 .nil .stop)))))))))), [9], false, [0, 1, 3, 0, 8, 24, 56, 127, 255, 511]⟩ (⟨.nil, [], false, []⟩)))
theorem M.pslices_xorshift_Next.eq (a0 : Value) (w : World) (K : KV) : M.pslices_xorshift_Next a0 w K = den P M.pslices_xorshift_Next.L M.pslices_xorshift_Next.pl (Try.f180.body.getD .skip) (argE [a0]) w (bodyQ P Try.f180.results.toList K) := by kernel_rfl
theorem M.pslices_xorshift_Next.ok : okFn M.pslices_xorshift_Next.L M.pslices_xorshift_Next.pl Try.f180 (Try.f180.body.getD .skip) 1 = true := by kernel_rfl
theorem M.pslices_xorshift_Next.calls (a0 : Value) {w : World} {K : KV} (h : M.pslices_xorshift_Next a0 w K) : callT P F.pslices_xorshift_Next [a0] w K :=
  callT_of_den (by kernel_rfl) Try.func180 (by kernel_rfl) M.pslices_xorshift_Next.ok (M.pslices_xorshift_Next.eq a0 w K ▸ h)
theorem M.pslices_xorshift_Next.fcall (args : List Value) (w : World) (K : KV) : fcallT P F.pslices_xorshift_Next args w K = callT P F.pslices_xorshift_Next args w K := fcallT_eq Try.func180 (by kernel_rfl) (by kernel_rfl) args w K
theorem M.pslices_xorshift_Next.rcall (a c args : List Value) (w : World) (K : KV) : callRT P (.func (.func F.pslices_xorshift_Next) a.toArray c.toArray) args w K = callT P F.pslices_xorshift_Next (a ++ args ++ c) w K := callR_fn Try.func180 (by kernel_rfl) (by kernel_rfl) a c args w K

def M.slices_insertionSortOrdered_int.j4 (x3 : List Value) (a0 : Value) (K3 : KL) (w : World) (K : KV) : Prop :=
  joinT (fun K5 =>
  drawT w fun w =>
  w = w ∧ w = w ∧ w = w ∧ w = w ∧ quietT (fun K' => binT P .sub T.int (.tmp 36) (.const (.int .i64 1)) (gv x3 0) (.int .i64 1) w K') w fun t37 =>
  w = w ∧ w = w ∧ quietT (fun K' => binT P .sub T.int (.tmp 39) (.const (.int .i64 1)) (gv x3 0) (.int .i64 1) w K') w fun t40 =>
  quietT (fun K' => iaT P T.sl_int a0 t40 w K') w fun t41 =>
  quietT (fun K' => ldT P T.int t41 w K') w fun t42 =>
  w = w ∧ w = w ∧ quietT (fun K' => iaT P T.sl_int a0 (gv x3 0) w K') w fun t45 =>
  quietT (fun K' => ldT P T.int t45 w K') w fun t46 =>
  quietT (fun K' => iaT P T.sl_int a0 (gv x3 0) w K') w fun t47 =>
  stT P T.int t47 t42 w fun _ w =>
  stabT (fun K' => binT P .sub T.int (.tmp 36) (.const (.int .i64 1)) (gv x3 0) (.int .i64 1) w K') w t37 ∧ stabT (fun K' => K' (gv x3 0) w) w (gv x3 0) ∧ stabT (fun K' => K' a0 w) w a0 ∧ quietT (fun K' => iaT P T.sl_int a0 t37 w K') w fun t48 =>
  stT P T.int t48 t46 w fun _ w =>
  K5 [] w) fun x5 w =>
  binT P .sub T.int (.tmp 31) (.const (.int .i64 1)) (gv x3 0) (.int .i64 1) w fun t32 w =>
  K3 [t32] w
def M.slices_insertionSortOrdered_int.j3 (x3 : List Value) (a1 : Value) (a0 : Value) (K2 : KL) (K3 : KL) (w : World) (K : KV) : Prop :=
  joinT (fun K4 =>
  drawT w fun w =>
  w = w ∧ w = w ∧ quietT (fun K' => binT P .gtr T.int (.tmp 16) (.tmp 17) (gv x3 0) a1 w K') w fun t18 =>
  w = w ∧ quietT (fun K' => guardT (isB t18 true) (fun K' => K' a0 w) w K') w fun t20 =>
  quietT (fun K' => guardT (isB t18 true) (fun K' => K' (gv x3 0) w) w K') w fun t21 =>
  quietT (fun K' => guardT (isB t18 true) (fun K' => iaT P T.sl_int t20 t21 w K') w K') w fun t22 =>
  quietT (fun K' => guardT (isB t18 true) (fun K' => ldT P T.int t22 w K') w K') w fun t23 =>
  quietT (fun K' => guardT (isB t18 true) (fun K' => K' a0 w) w K') w fun t24 =>
  quietT (fun K' => guardT (isB t18 true) (fun K' => K' (gv x3 0) w) w K') w fun t25 =>
  quietT (fun K' => guardT (isB t18 true) (fun K' => binT P .sub T.int (.tmp 25) (.const (.int .i64 1)) t25 (.int .i64 1) w K') w K') w fun t26 =>
  quietT (fun K' => guardT (isB t18 true) (fun K' => iaT P T.sl_int t24 t26 w K') w K') w fun t27 =>
  quietT (fun K' => guardT (isB t18 true) (fun K' => ldT P T.int t27 w K') w K') w fun t28 =>
  guardT (isB t18 true) (fun K' => fcallT P F.cmp_Less_int [t23, t28] w K') w fun t29 w =>
  quietT (fun K' => pickT t18 t29 (.bool false) w K') w fun t30 =>
  condT t30 (
  K4 [] w) (
  K2 [(gv x3 0)] w)) fun x4 w =>
  M.slices_insertionSortOrdered_int.j4 x3 a0 K3 w K
def M.slices_insertionSortOrdered_int.j0 (x0 : List Value) (a2 : Value) (a1 : Value) (a0 : Value) (K0 : KL) (w : World) (K : KV) : Prop :=
  joinT (fun K1 =>
  binT P .lss T.int (.tmp 10) (.tmp 11) (gv x0 1) a2 w fun t12 w =>
  condT t12 (
  K1 [] w) (
  K (.tuple #[]) w)) fun x1 w =>
  joinT (fun K2 =>
  loopT [(gv x0 1)] w fun K3 x3 w =>
  M.slices_insertionSortOrdered_int.j3 x3 a1 a0 K2 K3 w K) fun x2 w =>
  binT P .add T.int (.tmp 13) (.const (.int .i64 1)) (gv x0 1) (.int .i64 1) w fun t14 w =>
  K0 [(gv x2 0), t14] w
/-- slices.insertionSortOrdered[int] -/
def M.slices_insertionSortOrdered_int (a0 a1 a2 : Value) (w : World) (K : KV) : Prop :=
  binT P .add T.int (.tmp 8) (.const (.int .i64 1)) a1 (.int .i64 1) w fun t9 w =>
  loopT [undef, t9] w fun K0 x0 w =>
  M.slices_insertionSortOrdered_int.j0 x0 a2 a1 a0 K0 w K
def M.slices_insertionSortOrdered_int.L : List Nat := [0, 1, 2, 6, 7]
def M.slices_insertionSortOrdered_int.pl : Nat → Plan := fun id => cond (Nat.beq id 4) ⟨(.go 0 (.go 1 (.go 2 (.go 3 (.go 4 (.go 5 (.go 6 (.go 7 (.go 8 (.go 9 (.go 10 (.go 11 (.go 12 (.eff 13 (.go 14 .nil) .stop)))))))))))))), [13], false, [0, 0, 3, 7, 15, 15, 63, 127, 15, 15, 527, 1807, 3855, 8191, 16383]⟩ (cond (Nat.beq id 6) ⟨(.go 0 (.go 1 (.go 2 (.go 3 (.go 4 (.go 5 (.go 6 (.go 7 (.go 8 (.go 9 (.go 10 (.go 11 (.go 12 (.go 13 (.go 14 (.eff 15 (.go 16 (.eff 17 .nil .stop)) .stop)))))))))))))))), [15, 17], false, [0, 0, 0, 0, 8, 0, 0, 64, 224, 480, 0, 0, 3072, 7168, 16355, 32739, 65535, 131071]⟩ (⟨.nil, [], false, []⟩))
theorem M.slices_insertionSortOrdered_int.eq (a0 a1 a2 : Value) (w : World) (K : KV) : M.slices_insertionSortOrdered_int a0 a1 a2 w K = den P M.slices_insertionSortOrdered_int.L M.slices_insertionSortOrdered_int.pl (Try.f183.body.getD .skip) (argE [a0, a1, a2]) w (bodyQ P Try.f183.results.toList K) := by kernel_rfl
theorem M.slices_insertionSortOrdered_int.ok : okFn M.slices_insertionSortOrdered_int.L M.slices_insertionSortOrdered_int.pl Try.f183 (Try.f183.body.getD .skip) 3 = true := by kernel_rfl
theorem M.slices_insertionSortOrdered_int.calls (a0 a1 a2 : Value) {w : World} {K : KV} (h : M.slices_insertionSortOrdered_int a0 a1 a2 w K) : callT P F.slices_insertionSortOrdered_int [a0, a1, a2] w K :=
  callT_of_den (by kernel_rfl) Try.func183 (by kernel_rfl) M.slices_insertionSortOrdered_int.ok (M.slices_insertionSortOrdered_int.eq a0 a1 a2 w K ▸ h)
theorem M.slices_insertionSortOrdered_int.fcall (args : List Value) (w : World) (K : KV) : fcallT P F.slices_insertionSortOrdered_int args w K = callT P F.slices_insertionSortOrdered_int args w K := fcallT_eq Try.func183 (by kernel_rfl) (by kernel_rfl) args w K
theorem M.slices_insertionSortOrdered_int.rcall (a c args : List Value) (w : World) (K : KV) : callRT P (.func (.func F.slices_insertionSortOrdered_int) a.toArray c.toArray) args w K = callT P F.slices_insertionSortOrdered_int (a ++ args ++ c) w K := callR_fn Try.func183 (by kernel_rfl) (by kernel_rfl) a c args w K

def M.slices_heapSortOrdered_int.j1 (x1 : List Value) (K0 : KL) (a0 : Value) (t14 : Value) (a1 : Value) (K1 : KL) (w : World) (K : KV) : Prop :=
  joinT (fun K2 =>
  binT P .geq T.int (.tmp 18) (.const (.int .i64 0)) (gv x1 0) (.int .i64 0) w fun t19 w =>
  condT t19 (
  K2 [] w) (
  K0 [(gv x1 0)] w)) fun x2 w =>
  joinT (fun K3 =>
  fcallT P F.slices_siftDownOrdered_int [a0, (gv x1 0), t14, a1] w fun t26 w =>
  K3 [] w) fun x3 w =>
  binT P .sub T.int (.tmp 20) (.const (.int .i64 1)) (gv x1 0) (.int .i64 1) w fun t21 w =>
  K1 [t21] w
def M.slices_heapSortOrdered_int.j5 (a1 : Value) (x4 : List Value) (a0 : Value) (K4 : KL) (w : World) (K : KV) : Prop :=
  joinT (fun K6 =>
  drawT w fun w =>
  w = w ∧ w = w ∧ w = w ∧ w = w ∧ w = w ∧ quietT (fun K' => binT P .add T.int (.tmp 36) (.tmp 37) a1 (gv x4 0) w K') w fun t38 =>
  w = w ∧ w = w ∧ w = w ∧ quietT (fun K' => binT P .add T.int (.tmp 40) (.tmp 41) a1 (gv x4 0) w K') w fun t42 =>
  quietT (fun K' => iaT P T.sl_int a0 t42 w K') w fun t43 =>
  quietT (fun K' => ldT P T.int t43 w K') w fun t44 =>
  w = w ∧ w = w ∧ quietT (fun K' => iaT P T.sl_int a0 a1 w K') w fun t47 =>
  quietT (fun K' => ldT P T.int t47 w K') w fun t48 =>
  quietT (fun K' => iaT P T.sl_int a0 a1 w K') w fun t49 =>
  stT P T.int t49 t44 w fun _ w =>
  stabT (fun K' => binT P .add T.int (.tmp 36) (.tmp 37) a1 (gv x4 0) w K') w t38 ∧ stabT (fun K' => K' (gv x4 0) w) w (gv x4 0) ∧ stabT (fun K' => K' a1 w) w a1 ∧ stabT (fun K' => K' a0 w) w a0 ∧ quietT (fun K' => iaT P T.sl_int a0 t38 w K') w fun t50 =>
  stT P T.int t50 t48 w fun _ w =>
  fcallT P F.slices_siftDownOrdered_int [a0, (.int .i64 0), (gv x4 0), a1] w fun t55 w =>
  K6 [] w) fun x6 w =>
  binT P .sub T.int (.tmp 31) (.const (.int .i64 1)) (gv x4 0) (.int .i64 1) w fun t32 w =>
  K4 [t32] w
def M.slices_heapSortOrdered_int.j0 (t14 : Value) (a1 : Value) (a0 : Value) (w : World) (K : KV) : Prop :=
  binT P .sub T.int (.tmp 27) (.const (.int .i64 1)) t14 (.int .i64 1) w fun t28 w =>
  loopT [t28] w fun K4 x4 w =>
  joinT (fun K5 =>
  binT P .geq T.int (.tmp 29) (.const (.int .i64 0)) (gv x4 0) (.int .i64 0) w fun t30 w =>
  condT t30 (
  K5 [] w) (
  K (.tuple #[]) w)) fun x5 w =>
  M.slices_heapSortOrdered_int.j5 a1 x4 a0 K4 w K
/-- slices.heapSortOrdered[int] -/
def M.slices_heapSortOrdered_int (a0 a1 a2 : Value) (w : World) (K : KV) : Prop :=
  binT P .sub T.int (.tmp 12) (.tmp 13) a2 a1 w fun t14 w =>
  joinT (fun K0 =>
  binT P .sub T.int (.tmp 15) (.const (.int .i64 1)) t14 (.int .i64 1) w fun t16 w =>
  binT P .quo T.int (.tmp 16) (.const (.int .i64 2)) t16 (.int .i64 2) w fun t17 w =>
  loopT [t17] w fun K1 x1 w =>
  M.slices_heapSortOrdered_int.j1 x1 K0 a0 t14 a1 K1 w K) fun x0 w =>
  M.slices_heapSortOrdered_int.j0 t14 a1 a0 w K
def M.slices_heapSortOrdered_int.L : List Nat := [0, 1, 2, 6, 7, 8, 9, 10]
def M.slices_heapSortOrdered_int.pl : Nat → Plan := fun id => cond (Nat.beq id 10) ⟨(.go 0 (.go 1 (.go 2 (.go 3 (.go 4 (.go 5 (.go 6 (.go 7 (.go 8 (.go 9 (.go 10 (.go 11 (.go 12 (.go 13 (.go 14 (.go 15 (.go 16 (.eff 17 (.go 18 (.eff 19 .nil .stop)) .stop)))))))))))))))))), [17, 19], false, [0, 0, 0, 0, 0, 24, 0, 0, 0, 384, 960, 1984, 0, 0, 12288, 28672, 65475, 131011, 262143, 524287]⟩ (⟨.nil, [], false, []⟩)
theorem M.slices_heapSortOrdered_int.eq (a0 a1 a2 : Value) (w : World) (K : KV) : M.slices_heapSortOrdered_int a0 a1 a2 w K = den P M.slices_heapSortOrdered_int.L M.slices_heapSortOrdered_int.pl (Try.f184.body.getD .skip) (argE [a0, a1, a2]) w (bodyQ P Try.f184.results.toList K) := by kernel_rfl
theorem M.slices_heapSortOrdered_int.ok : okFn M.slices_heapSortOrdered_int.L M.slices_heapSortOrdered_int.pl Try.f184 (Try.f184.body.getD .skip) 3 = true := by kernel_rfl
theorem M.slices_heapSortOrdered_int.calls (a0 a1 a2 : Value) {w : World} {K : KV} (h : M.slices_heapSortOrdered_int a0 a1 a2 w K) : callT P F.slices_heapSortOrdered_int [a0, a1, a2] w K :=
  callT_of_den (by kernel_rfl) Try.func184 (by kernel_rfl) M.slices_heapSortOrdered_int.ok (M.slices_heapSortOrdered_int.eq a0 a1 a2 w K ▸ h)
theorem M.slices_heapSortOrdered_int.fcall (args : List Value) (w : World) (K : KV) : fcallT P F.slices_heapSortOrdered_int args w K = callT P F.slices_heapSortOrdered_int args w K := fcallT_eq Try.func184 (by kernel_rfl) (by kernel_rfl) args w K
theorem M.slices_heapSortOrdered_int.rcall (a c args : List Value) (w : World) (K : KV) : callRT P (.func (.func F.slices_heapSortOrdered_int) a.toArray c.toArray) args w K = callT P F.slices_heapSortOrdered_int (a ++ args ++ c) w K := callR_fn Try.func184 (by kernel_rfl) (by kernel_rfl) a c args w K

def M.slices_breakPatternsOrdered_int.j3 (a1 : Value) (x3 : List Value) (a0 : Value) (x0 : List Value) (K2 : KL) (w : World) (K : KV) : Prop :=
  drawT w fun w =>
  w = w ∧ w = w ∧ w = w ∧ w = w ∧ w = w ∧ quietT (fun K' => binT P .add T.int (.tmp 50) (.tmp 51) a1 (gv x3 0) w K') w fun t52 =>
  w = w ∧ w = w ∧ w = w ∧ quietT (fun K' => binT P .add T.int (.tmp 54) (.tmp 55) a1 (gv x3 0) w K') w fun t56 =>
  quietT (fun K' => iaT P T.sl_int a0 t56 w K') w fun t57 =>
  quietT (fun K' => ldT P T.int t57 w K') w fun t58 =>
  w = w ∧ w = w ∧ quietT (fun K' => iaT P T.sl_int a0 (gv x0 1) w K') w fun t61 =>
  quietT (fun K' => ldT P T.int t61 w K') w fun t62 =>
  quietT (fun K' => iaT P T.sl_int a0 (gv x0 1) w K') w fun t63 =>
  stT P T.int t63 t58 w fun _ w =>
  stabT (fun K' => binT P .add T.int (.tmp 50) (.tmp 51) a1 (gv x3 0) w K') w t52 ∧ stabT (fun K' => K' (gv x3 0) w) w (gv x3 0) ∧ stabT (fun K' => K' a1 w) w a1 ∧ stabT (fun K' => K' a0 w) w a0 ∧ quietT (fun K' => iaT P T.sl_int a0 t52 w K') w fun t64 =>
  stT P T.int t64 t62 w fun _ w =>
  K2 [(gv x3 0)] w
def M.slices_breakPatternsOrdered_int.j1 (t7 : Value) (t19 : Value) (t13 : Value) (a1 : Value) (a0 : Value) (x0 : List Value) (K0 : KL) (w : World) (K : KV) : Prop :=
  joinT (fun K2 =>
  fcallT P F.pslices_xorshift_Next [t7] w fun t36 w =>
  binT P .sub T.uint (.tmp 37) (.const (.int .u64 1)) t19 (.int .u64 1) w fun t38 w =>
  binT P .and T.uint (.tmp 36) (.tmp 38) t36 t38 w fun t39 w =>
  cvT P T.uint T.int t39 w fun t40 w =>
  joinT (fun K3 =>
  binT P .geq T.int (.tmp 41) (.tmp 42) t40 t13 w fun t43 w =>
  condT t43 (
  binT P .sub T.int (.tmp 44) (.tmp 45) t40 t13 w fun t46 w =>
  K3 [t46] w) (
  K3 [t40] w)) fun x3 w =>
  M.slices_breakPatternsOrdered_int.j3 a1 x3 a0 x0 K2 w K) fun x2 w =>
  binT P .add T.int (.tmp 34) (.const (.int .i64 1)) (gv x0 1) (.int .i64 1) w fun t35 w =>
  K0 [(gv x2 0), t35] w
def M.slices_breakPatternsOrdered_int.j0 (t13 : Value) (a1 : Value) (x0 : List Value) (t7 : Value) (t19 : Value) (a0 : Value) (K0 : KL) (w : World) (K : KV) : Prop :=
  joinT (fun K1 =>
  binT P .quo T.int (.tmp 28) (.const (.int .i64 4)) t13 (.int .i64 4) w fun t29 w =>
  binT P .mul T.int (.tmp 29) (.const (.int .i64 2)) t29 (.int .i64 2) w fun t30 w =>
  binT P .add T.int (.tmp 27) (.tmp 30) a1 t30 w fun t31 w =>
  binT P .add T.int (.tmp 31) (.const (.int .i64 1)) t31 (.int .i64 1) w fun t32 w =>
  binT P .leq T.int (.tmp 26) (.tmp 32) (gv x0 1) t32 w fun t33 w =>
  condT t33 (
  K1 [] w) (
  K (.tuple #[]) w)) fun x1 w =>
  M.slices_breakPatternsOrdered_int.j1 t7 t19 t13 a1 a0 x0 K0 w K
/-- slices.breakPatternsOrdered[int] -/
def M.slices_breakPatternsOrdered_int (a0 a1 a2 : Value) (w : World) (K : KV) : Prop :=
  binT P .sub T.int (.tmp 11) (.tmp 12) a2 a1 w fun t13 w =>
  binT P .geq T.int (.tmp 14) (.const (.int .i64 8)) t13 (.int .i64 8) w fun t15 w =>
  condT t15 (
  cvT P T.int T.slices_xorshift t13 w fun t17 w =>
  alT P T.slices_xorshift w fun t7 w =>
  stT P T.slices_xorshift t7 t17 w fun _ w =>
  fcallT P F.slices_nextPowerOfTwo [t13] w fun t19 w =>
  binT P .quo T.int (.tmp 21) (.const (.int .i64 4)) t13 (.int .i64 4) w fun t22 w =>
  binT P .mul T.int (.tmp 22) (.const (.int .i64 2)) t22 (.int .i64 2) w fun t23 w =>
  binT P .add T.int (.tmp 20) (.tmp 23) a1 t23 w fun t24 w =>
  binT P .sub T.int (.tmp 24) (.const (.int .i64 1)) t24 (.int .i64 1) w fun t25 w =>
  loopT [undef, t25] w fun K0 x0 w =>
  M.slices_breakPatternsOrdered_int.j0 t13 a1 x0 t7 t19 a0 K0 w K) (
  K (.tuple #[]) w)
def M.slices_breakPatternsOrdered_int.L : List Nat := [0, 1, 2, 6, 8, 9, 10, 7]
def M.slices_breakPatternsOrdered_int.pl : Nat → Plan := fun id => cond (Nat.beq id 10) ⟨(.go 0 (.go 1 (.go 2 (.go 3 (.go 4 (.go 5 (.go 6 (.go 7 (.go 8 (.go 9 (.go 10 (.go 11 (.go 12 (.go 13 (.go 14 (.go 15 (.go 16 (.eff 17 (.go 18 (.eff 19 .nil .stop)) .stop)))))))))))))))))), [17, 19], false, [0, 0, 0, 0, 0, 24, 0, 0, 0, 384, 960, 1984, 0, 0, 12288, 28672, 65475, 131011, 262143, 524287]⟩ (⟨.nil, [], false, []⟩)
theorem M.slices_breakPatternsOrdered_int.eq (a0 a1 a2 : Value) (w : World) (K : KV) : M.slices_breakPatternsOrdered_int a0 a1 a2 w K = den P M.slices_breakPatternsOrdered_int.L M.slices_breakPatternsOrdered_int.pl (Try.f185.body.getD .skip) (argE [a0, a1, a2]) w (bodyQ P Try.f185.results.toList K) := by kernel_rfl
theorem M.slices_breakPatternsOrdered_int.ok : okFn M.slices_breakPatternsOrdered_int.L M.slices_breakPatternsOrdered_int.pl Try.f185 (Try.f185.body.getD .skip) 3 = true := by kernel_rfl
theorem M.slices_breakPatternsOrdered_int.calls (a0 a1 a2 : Value) {w : World} {K : KV} (h : M.slices_breakPatternsOrdered_int a0 a1 a2 w K) : callT P F.slices_breakPatternsOrdered_int [a0, a1, a2] w K :=
  callT_of_den (by kernel_rfl) Try.func185 (by kernel_rfl) M.slices_breakPatternsOrdered_int.ok (M.slices_breakPatternsOrdered_int.eq a0 a1 a2 w K ▸ h)
theorem M.slices_breakPatternsOrdered_int.fcall (args : List Value) (w : World) (K : KV) : fcallT P F.slices_breakPatternsOrdered_int args w K = callT P F.slices_breakPatternsOrdered_int args w K := fcallT_eq Try.func185 (by kernel_rfl) (by kernel_rfl) args w K
theorem M.slices_breakPatternsOrdered_int.rcall (a c args : List Value) (w : World) (K : KV) : callRT P (.func (.func F.slices_breakPatternsOrdered_int) a.toArray c.toArray) args w K = callT P F.slices_breakPatternsOrdered_int (a ++ args ++ c) w K := callR_fn Try.func185 (by kernel_rfl) (by kernel_rfl) a c args w K

def M.slices_choosePivotOrdered_int.j0 (t9 : Value) (x0 : List Value) (w : World) (K : KV) : Prop :=
  ldT P T.int t9 w fun t49 w =>
  binT P .eql T.int (.tmp 49) (.const (.int .i64 0)) t49 (.int .i64 0) w fun t52 w =>
  condT t52 (
  K (.tuple #[(gv x0 1), (.int .i64 1)]) w) (
  binT P .eql T.int (.tmp 49) (.const (.int .i64 12)) t49 (.int .i64 12) w fun t55 w =>
  condT t55 (
  K (.tuple #[(gv x0 1), (.int .i64 2)]) w) (
  K (.tuple #[(gv x0 1), (.int .i64 0)]) w))
/-- slices.choosePivotOrdered[int] -/
def M.slices_choosePivotOrdered_int (a0 a1 a2 : Value) (w : World) (K : KV) : Prop :=
  binT P .sub T.int (.tmp 13) (.tmp 14) a2 a1 w fun t15 w =>
  alT P T.int w fun t9 w =>
  binT P .quo T.int (.tmp 17) (.const (.int .i64 4)) t15 (.int .i64 4) w fun t18 w =>
  binT P .mul T.int (.tmp 18) (.const (.int .i64 1)) t18 (.int .i64 1) w fun t19 w =>
  binT P .add T.int (.tmp 16) (.tmp 19) a1 t19 w fun t20 w =>
  binT P .quo T.int (.tmp 22) (.const (.int .i64 4)) t15 (.int .i64 4) w fun t23 w =>
  binT P .mul T.int (.tmp 23) (.const (.int .i64 2)) t23 (.int .i64 2) w fun t24 w =>
  binT P .add T.int (.tmp 21) (.tmp 24) a1 t24 w fun t25 w =>
  binT P .quo T.int (.tmp 27) (.const (.int .i64 4)) t15 (.int .i64 4) w fun t28 w =>
  binT P .mul T.int (.tmp 28) (.const (.int .i64 3)) t28 (.int .i64 3) w fun t29 w =>
  binT P .add T.int (.tmp 26) (.tmp 29) a1 t29 w fun t30 w =>
  joinT (fun K0 =>
  binT P .geq T.int (.tmp 31) (.const (.int .i64 8)) t15 (.int .i64 8) w fun t32 w =>
  condT t32 (
  joinT (fun K1 =>
  binT P .geq T.int (.tmp 33) (.const (.int .i64 50)) t15 (.int .i64 50) w fun t34 w =>
  condT t34 (
  fcallT P F.slices_medianAdjacentOrdered_int [a0, t20, t9] w fun t37 w =>
  fcallT P F.slices_medianAdjacentOrdered_int [a0, t25, t9] w fun t40 w =>
  fcallT P F.slices_medianAdjacentOrdered_int [a0, t30, t9] w fun t43 w =>
  K1 [t37, t40, t43] w) (
  K1 [t20, t25, t30] w)) fun x1 w =>
  fcallT P F.slices_medianOrdered_int [a0, (gv x1 0), (gv x1 1), (gv x1 2), t9] w fun t48 w =>
  K0 [(gv x1 0), t48, (gv x1 2)] w) (
  K0 [t20, t25, t30] w)) fun x0 w =>
  M.slices_choosePivotOrdered_int.j0 t9 x0 w K
def M.slices_choosePivotOrdered_int.L : List Nat := [0, 1, 2, 6, 7, 8, 10, 11, 12, 51, 54, 9]
def M.slices_choosePivotOrdered_int.pl : Nat → Plan := fun id => ⟨.nil, [], false, []⟩
theorem M.slices_choosePivotOrdered_int.eq (a0 a1 a2 : Value) (w : World) (K : KV) : M.slices_choosePivotOrdered_int a0 a1 a2 w K = den P M.slices_choosePivotOrdered_int.L M.slices_choosePivotOrdered_int.pl (Try.f186.body.getD .skip) (argE [a0, a1, a2]) w (bodyQ P Try.f186.results.toList K) := by kernel_rfl
theorem M.slices_choosePivotOrdered_int.ok : okFn M.slices_choosePivotOrdered_int.L M.slices_choosePivotOrdered_int.pl Try.f186 (Try.f186.body.getD .skip) 3 = true := by kernel_rfl
theorem M.slices_choosePivotOrdered_int.calls (a0 a1 a2 : Value) {w : World} {K : KV} (h : M.slices_choosePivotOrdered_int a0 a1 a2 w K) : callT P F.slices_choosePivotOrdered_int [a0, a1, a2] w K :=
  callT_of_den (by kernel_rfl) Try.func186 (by kernel_rfl) M.slices_choosePivotOrdered_int.ok (M.slices_choosePivotOrdered_int.eq a0 a1 a2 w K ▸ h)
theorem M.slices_choosePivotOrdered_int.fcall (args : List Value) (w : World) (K : KV) : fcallT P F.slices_choosePivotOrdered_int args w K = callT P F.slices_choosePivotOrdered_int args w K := fcallT_eq Try.func186 (by kernel_rfl) (by kernel_rfl) args w K
theorem M.slices_choosePivotOrdered_int.rcall (a c args : List Value) (w : World) (K : KV) : callRT P (.func (.func F.slices_choosePivotOrdered_int) a.toArray c.toArray) args w K = callT P F.slices_choosePivotOrdered_int (a ++ args ++ c) w K := callR_fn Try.func186 (by kernel_rfl) (by kernel_rfl) a c args w K

def M.slices_reverseRangeOrdered_int.j1 (a0 : Value) (x0 : List Value) (K0 : KL) (w : World) (K : KV) : Prop :=
  drawT w fun w =>
  w = w ∧ w = w ∧ w = w ∧ w = w ∧ w = w ∧ w = w ∧ quietT (fun K' => iaT P T.sl_int a0 (gv x0 1) w K') w fun t20 =>
  quietT (fun K' => ldT P T.int t20 w K') w fun t21 =>
  w = w ∧ w = w ∧ quietT (fun K' => iaT P T.sl_int a0 (gv x0 0) w K') w fun t24 =>
  quietT (fun K' => ldT P T.int t24 w K') w fun t25 =>
  quietT (fun K' => iaT P T.sl_int a0 (gv x0 0) w K') w fun t26 =>
  stT P T.int t26 t21 w fun _ w =>
  stabT (fun K' => K' (gv x0 1) w) w (gv x0 1) ∧ stabT (fun K' => K' a0 w) w a0 ∧ quietT (fun K' => iaT P T.sl_int a0 (gv x0 1) w K') w fun t27 =>
  stT P T.int t27 t25 w fun _ w =>
  binT P .add T.int (.tmp 28) (.const (.int .i64 1)) (gv x0 0) (.int .i64 1) w fun t29 w =>
  binT P .sub T.int (.tmp 30) (.const (.int .i64 1)) (gv x0 1) (.int .i64 1) w fun t31 w =>
  K0 [t29, t31] w
/-- slices.reverseRangeOrdered[int] -/
def M.slices_reverseRangeOrdered_int (a0 a1 a2 : Value) (w : World) (K : KV) : Prop :=
  binT P .sub T.int (.tmp 9) (.const (.int .i64 1)) a2 (.int .i64 1) w fun t10 w =>
  loopT [a1, t10] w fun K0 x0 w =>
  joinT (fun K1 =>
  binT P .lss T.int (.tmp 11) (.tmp 12) (gv x0 0) (gv x0 1) w fun t13 w =>
  condT t13 (
  K1 [] w) (
  K (.tuple #[]) w)) fun x1 w =>
  M.slices_reverseRangeOrdered_int.j1 a0 x0 K0 w K
def M.slices_reverseRangeOrdered_int.L : List Nat := [0, 1, 2, 6, 7]
def M.slices_reverseRangeOrdered_int.pl : Nat → Plan := fun id => cond (Nat.beq id 3) ⟨(.go 0 (.go 1 (.go 2 (.go 3 (.go 4 (.go 5 (.go 6 (.go 7 (.go 8 (.go 9 (.go 10 (.go 11 (.go 12 (.eff 13 (.go 14 (.eff 15 .nil .stop)) .stop)))))))))))))), [13, 15], false, [0, 0, 0, 0, 0, 0, 48, 112, 0, 0, 768, 1792, 4083, 8179, 16383, 32767]⟩ (⟨.nil, [], false, []⟩)
theorem M.slices_reverseRangeOrdered_int.eq (a0 a1 a2 : Value) (w : World) (K : KV) : M.slices_reverseRangeOrdered_int a0 a1 a2 w K = den P M.slices_reverseRangeOrdered_int.L M.slices_reverseRangeOrdered_int.pl (Try.f187.body.getD .skip) (argE [a0, a1, a2]) w (bodyQ P Try.f187.results.toList K) := by kernel_rfl
theorem M.slices_reverseRangeOrdered_int.ok : okFn M.slices_reverseRangeOrdered_int.L M.slices_reverseRangeOrdered_int.pl Try.f187 (Try.f187.body.getD .skip) 3 = true := by kernel_rfl
theorem M.slices_reverseRangeOrdered_int.calls (a0 a1 a2 : Value) {w : World} {K : KV} (h : M.slices_reverseRangeOrdered_int a0 a1 a2 w K) : callT P F.slices_reverseRangeOrdered_int [a0, a1, a2] w K :=
  callT_of_den (by kernel_rfl) Try.func187 (by kernel_rfl) M.slices_reverseRangeOrdered_int.ok (M.slices_reverseRangeOrdered_int.eq a0 a1 a2 w K ▸ h)
theorem M.slices_reverseRangeOrdered_int.fcall (args : List Value) (w : World) (K : KV) : fcallT P F.slices_reverseRangeOrdered_int args w K = callT P F.slices_reverseRangeOrdered_int args w K := fcallT_eq Try.func187 (by kernel_rfl) (by kernel_rfl) args w K
theorem M.slices_reverseRangeOrdered_int.rcall (a c args : List Value) (w : World) (K : KV) : callRT P (.func (.func F.slices_reverseRangeOrdered_int) a.toArray c.toArray) args w K = callT P F.slices_reverseRangeOrdered_int (a ++ args ++ c) w K := callR_fn Try.func187 (by kernel_rfl) (by kernel_rfl) a c args w K

def M.slices_partialInsertionSortOrdered_int.j5 (x5 : List Value) (a2 : Value) (a0 : Value) (K4 : KL) (K5 : KL) (w : World) (K : KV) : Prop :=
  joinT (fun K6 =>
  drawT w fun w =>
  w = w ∧ w = w ∧ quietT (fun K' => binT P .lss T.int (.tmp 17) (.tmp 18) (gv x5 0) a2 w K') w fun t19 =>
  w = w ∧ quietT (fun K' => guardT (isB t19 true) (fun K' => K' a0 w) w K') w fun t21 =>
  quietT (fun K' => guardT (isB t19 true) (fun K' => K' (gv x5 0) w) w K') w fun t22 =>
  quietT (fun K' => guardT (isB t19 true) (fun K' => iaT P T.sl_int t21 t22 w K') w K') w fun t23 =>
  quietT (fun K' => guardT (isB t19 true) (fun K' => ldT P T.int t23 w K') w K') w fun t24 =>
  quietT (fun K' => guardT (isB t19 true) (fun K' => K' a0 w) w K') w fun t25 =>
  quietT (fun K' => guardT (isB t19 true) (fun K' => K' (gv x5 0) w) w K') w fun t26 =>
  quietT (fun K' => guardT (isB t19 true) (fun K' => binT P .sub T.int (.tmp 26) (.const (.int .i64 1)) t26 (.int .i64 1) w K') w K') w fun t27 =>
  quietT (fun K' => guardT (isB t19 true) (fun K' => iaT P T.sl_int t25 t27 w K') w K') w fun t28 =>
  quietT (fun K' => guardT (isB t19 true) (fun K' => ldT P T.int t28 w K') w K') w fun t29 =>
  guardT (isB t19 true) (fun K' => fcallT P F.cmp_Less_int [t24, t29] w K') w fun t30 w =>
  quietT (fun K' => guardT (isB t19 true) (fun K' => unT P .not t30 w K') w K') w fun t31 =>
  quietT (fun K' => pickT t19 t31 (.bool false) w K') w fun t32 =>
  condT t32 (
  K6 [] w) (
  K4 [(gv x5 0)] w)) fun x6 w =>
  binT P .add T.int (.tmp 33) (.const (.int .i64 1)) (gv x5 0) (.int .i64 1) w fun t34 w =>
  K5 [t34] w
def M.slices_partialInsertionSortOrdered_int.j13 (x10 : List Value) (a0 : Value) (K12 : KL) (w : World) (K : KV) : Prop :=
  drawT w fun w =>
  w = w ∧ w = w ∧ w = w ∧ w = w ∧ quietT (fun K' => binT P .sub T.int (.tmp 82) (.const (.int .i64 1)) (gv x10 0) (.int .i64 1) w K') w fun t83 =>
  w = w ∧ w = w ∧ quietT (fun K' => binT P .sub T.int (.tmp 85) (.const (.int .i64 1)) (gv x10 0) (.int .i64 1) w K') w fun t86 =>
  quietT (fun K' => iaT P T.sl_int a0 t86 w K') w fun t87 =>
  quietT (fun K' => ldT P T.int t87 w K') w fun t88 =>
  w = w ∧ w = w ∧ quietT (fun K' => iaT P T.sl_int a0 (gv x10 0) w K') w fun t91 =>
  quietT (fun K' => ldT P T.int t91 w K') w fun t92 =>
  quietT (fun K' => iaT P T.sl_int a0 (gv x10 0) w K') w fun t93 =>
  stT P T.int t93 t88 w fun _ w =>
  stabT (fun K' => binT P .sub T.int (.tmp 82) (.const (.int .i64 1)) (gv x10 0) (.int .i64 1) w K') w t83 ∧ stabT (fun K' => K' (gv x10 0) w) w (gv x10 0) ∧ stabT (fun K' => K' a0 w) w a0 ∧ quietT (fun K' => iaT P T.sl_int a0 t83 w K') w fun t94 =>
  stT P T.int t94 t92 w fun _ w =>
  K12 [] w
def M.slices_partialInsertionSortOrdered_int.j11 (a0 : Value) (x10 : List Value) (K9 : KL) (K10 : KL) (w : World) (K : KV) : Prop :=
  joinT (fun K12 =>
  joinT (fun K13 =>
  drawT w fun w =>
  w = w ∧ w = w ∧ quietT (fun K' => iaT P T.sl_int a0 (gv x10 0) w K') w fun t70 =>
  quietT (fun K' => ldT P T.int t70 w K') w fun t71 =>
  w = w ∧ w = w ∧ quietT (fun K' => binT P .sub T.int (.tmp 73) (.const (.int .i64 1)) (gv x10 0) (.int .i64 1) w K') w fun t74 =>
  quietT (fun K' => iaT P T.sl_int a0 t74 w K') w fun t75 =>
  quietT (fun K' => ldT P T.int t75 w K') w fun t76 =>
  fcallT P F.cmp_Less_int [t71, t76] w fun t77 w =>
  quietT (fun K' => unT P .not t77 w K') w fun t78 =>
  condT t78 (
  K9 [(gv x10 0)] w) (
  K13 [] w)) fun x13 w =>
  M.slices_partialInsertionSortOrdered_int.j13 x10 a0 K12 w K) fun x12 w =>
  binT P .sub T.int (.tmp 66) (.const (.int .i64 1)) (gv x10 0) (.int .i64 1) w fun t67 w =>
  K10 [t67] w
def M.slices_partialInsertionSortOrdered_int.j17 (x14 : List Value) (a0 : Value) (K16 : KL) (w : World) (K : KV) : Prop :=
  drawT w fun w =>
  w = w ∧ w = w ∧ w = w ∧ w = w ∧ quietT (fun K' => binT P .sub T.int (.tmp 120) (.const (.int .i64 1)) (gv x14 0) (.int .i64 1) w K') w fun t121 =>
  w = w ∧ w = w ∧ quietT (fun K' => binT P .sub T.int (.tmp 123) (.const (.int .i64 1)) (gv x14 0) (.int .i64 1) w K') w fun t124 =>
  quietT (fun K' => iaT P T.sl_int a0 t124 w K') w fun t125 =>
  quietT (fun K' => ldT P T.int t125 w K') w fun t126 =>
  w = w ∧ w = w ∧ quietT (fun K' => iaT P T.sl_int a0 (gv x14 0) w K') w fun t129 =>
  quietT (fun K' => ldT P T.int t129 w K') w fun t130 =>
  quietT (fun K' => iaT P T.sl_int a0 (gv x14 0) w K') w fun t131 =>
  stT P T.int t131 t126 w fun _ w =>
  stabT (fun K' => binT P .sub T.int (.tmp 120) (.const (.int .i64 1)) (gv x14 0) (.int .i64 1) w K') w t121 ∧ stabT (fun K' => K' (gv x14 0) w) w (gv x14 0) ∧ stabT (fun K' => K' a0 w) w a0 ∧ quietT (fun K' => iaT P T.sl_int a0 t121 w K') w fun t132 =>
  stT P T.int t132 t130 w fun _ w =>
  K16 [] w
def M.slices_partialInsertionSortOrdered_int.j15 (a0 : Value) (x14 : List Value) (K3 : KL) (x4 : List Value) (x8 : List Value) (x9 : List Value) (K14 : KL) (w : World) (K : KV) : Prop :=
  joinT (fun K16 =>
  joinT (fun K17 =>
  drawT w fun w =>
  w = w ∧ w = w ∧ quietT (fun K' => iaT P T.sl_int a0 (gv x14 0) w K') w fun t108 =>
  quietT (fun K' => ldT P T.int t108 w K') w fun t109 =>
  w = w ∧ w = w ∧ quietT (fun K' => binT P .sub T.int (.tmp 111) (.const (.int .i64 1)) (gv x14 0) (.int .i64 1) w K') w fun t112 =>
  quietT (fun K' => iaT P T.sl_int a0 t112 w K') w fun t113 =>
  quietT (fun K' => ldT P T.int t113 w K') w fun t114 =>
  fcallT P F.cmp_Less_int [t109, t114] w fun t115 w =>
  quietT (fun K' => unT P .not t115 w K') w fun t116 =>
  condT t116 (
  K3 [(gv x4 0), (gv x8 0), (gv x9 0), (gv x14 0)] w) (
  K17 [] w)) fun x17 w =>
  M.slices_partialInsertionSortOrdered_int.j17 x14 a0 K16 w K) fun x16 w =>
  binT P .add T.int (.tmp 104) (.const (.int .i64 1)) (gv x14 0) (.int .i64 1) w fun t105 w =>
  K14 [t105] w
def M.slices_partialInsertionSortOrdered_int.j14 (x14 : List Value) (a2 : Value) (K3 : KL) (x4 : List Value) (x8 : List Value) (x9 : List Value) (a0 : Value) (K14 : KL) (w : World) (K : KV) : Prop :=
  joinT (fun K15 =>
  binT P .lss T.int (.tmp 101) (.tmp 102) (gv x14 0) a2 w fun t103 w =>
  condT t103 (
  K15 [] w) (
  K3 [(gv x4 0), (gv x8 0), (gv x9 0), (gv x14 0)] w)) fun x15 w =>
  M.slices_partialInsertionSortOrdered_int.j15 a0 x14 K3 x4 x8 x9 K14 w K
def M.slices_partialInsertionSortOrdered_int.j9 (a2 : Value) (x4 : List Value) (K3 : KL) (x8 : List Value) (x9 : List Value) (a0 : Value) (x1 : List Value) (w : World) (K : KV) : Prop :=
  binT P .sub T.int (.tmp 95) (.tmp 96) a2 (gv x4 0) w fun t97 w =>
  binT P .geq T.int (.tmp 97) (.const (.int .i64 2)) t97 (.int .i64 2) w fun t98 w =>
  condT t98 (
  binT P .add T.int (.tmp 99) (.const (.int .i64 1)) (gv x4 0) (.int .i64 1) w fun t100 w =>
  loopT [t100] w fun K14 x14 w =>
  M.slices_partialInsertionSortOrdered_int.j14 x14 a2 K3 x4 x8 x9 a0 K14 w K) (
  K3 [(gv x4 0), (gv x8 0), (gv x9 0), (gv x1 3)] w)
def M.slices_partialInsertionSortOrdered_int.j8 (x4 : List Value) (a0 : Value) (a1 : Value) (x1 : List Value) (a2 : Value) (K3 : KL) (x8 : List Value) (w : World) (K : KV) : Prop :=
  drawT w fun w =>
  w = w ∧ w = w ∧ w = w ∧ w = w ∧ quietT (fun K' => binT P .sub T.int (.tmp 45) (.const (.int .i64 1)) (gv x4 0) (.int .i64 1) w K') w fun t46 =>
  w = w ∧ w = w ∧ quietT (fun K' => binT P .sub T.int (.tmp 48) (.const (.int .i64 1)) (gv x4 0) (.int .i64 1) w K') w fun t49 =>
  quietT (fun K' => iaT P T.sl_int a0 t49 w K') w fun t50 =>
  quietT (fun K' => ldT P T.int t50 w K') w fun t51 =>
  w = w ∧ w = w ∧ quietT (fun K' => iaT P T.sl_int a0 (gv x4 0) w K') w fun t54 =>
  quietT (fun K' => ldT P T.int t54 w K') w fun t55 =>
  quietT (fun K' => iaT P T.sl_int a0 (gv x4 0) w K') w fun t56 =>
  stT P T.int t56 t51 w fun _ w =>
  stabT (fun K' => binT P .sub T.int (.tmp 45) (.const (.int .i64 1)) (gv x4 0) (.int .i64 1) w K') w t46 ∧ stabT (fun K' => K' (gv x4 0) w) w (gv x4 0) ∧ stabT (fun K' => K' a0 w) w a0 ∧ quietT (fun K' => iaT P T.sl_int a0 t46 w K') w fun t57 =>
  stT P T.int t57 t55 w fun _ w =>
  joinT (fun K9 =>
  binT P .sub T.int (.tmp 58) (.tmp 59) (gv x4 0) a1 w fun t60 w =>
  binT P .geq T.int (.tmp 60) (.const (.int .i64 2)) t60 (.int .i64 2) w fun t61 w =>
  condT t61 (
  binT P .sub T.int (.tmp 62) (.const (.int .i64 1)) (gv x4 0) (.int .i64 1) w fun t63 w =>
  loopT [t63] w fun K10 x10 w =>
  joinT (fun K11 =>
  binT P .geq T.int (.tmp 64) (.const (.int .i64 1)) (gv x10 0) (.int .i64 1) w fun t65 w =>
  condT t65 (
  K11 [] w) (
  K9 [(gv x10 0)] w)) fun x11 w =>
  M.slices_partialInsertionSortOrdered_int.j11 a0 x10 K9 K10 w K) (
  K9 [(gv x1 2)] w)) fun x9 w =>
  M.slices_partialInsertionSortOrdered_int.j9 a2 x4 K3 x8 x9 a0 x1 w K
def M.slices_partialInsertionSortOrdered_int.j7 (a2 : Value) (a1 : Value) (x7 : List Value) (x4 : List Value) (a0 : Value) (x1 : List Value) (K3 : KL) (w : World) (K : KV) : Prop :=
  joinT (fun K8 =>
  binT P .sub T.int (.tmp 38) (.tmp 39) a2 a1 w fun t40 w =>
  binT P .lss T.int (.tmp 40) (.const (.int .i64 50)) t40 (.int .i64 50) w fun t41 w =>
  condT t41 (
  K (.bool false) w) (
  K8 [(gv x7 0)] w)) fun x8 w =>
  M.slices_partialInsertionSortOrdered_int.j8 x4 a0 a1 x1 a2 K3 x8 w K
def M.slices_partialInsertionSortOrdered_int.j2 (x1 : List Value) (a2 : Value) (a0 : Value) (a1 : Value) (K1 : KL) (w : World) (K : KV) : Prop :=
  joinT (fun K3 =>
  joinT (fun K4 =>
  loopT [(gv x1 0)] w fun K5 x5 w =>
  M.slices_partialInsertionSortOrdered_int.j5 x5 a2 a0 K4 K5 w K) fun x4 w =>
  joinT (fun K7 =>
  binT P .eql T.int (.tmp 35) (.tmp 36) (gv x4 0) a2 w fun t37 w =>
  condT t37 (
  K (.bool true) w) (
  K7 [(gv x1 1)] w)) fun x7 w =>
  M.slices_partialInsertionSortOrdered_int.j7 a2 a1 x7 x4 a0 x1 K3 w K) fun x3 w =>
  binT P .add T.int (.tmp 15) (.const (.int .i64 1)) (gv x1 4) (.int .i64 1) w fun t16 w =>
  K1 [(gv x3 0), (gv x3 1), (gv x3 2), (gv x3 3), t16] w
def M.slices_partialInsertionSortOrdered_int.j1 (x1 : List Value) (K0 : KL) (a2 : Value) (a0 : Value) (a1 : Value) (K1 : KL) (w : World) (K : KV) : Prop :=
  joinT (fun K2 =>
  binT P .lss T.int (.tmp 13) (.const (.int .i64 5)) (gv x1 4) (.int .i64 5) w fun t14 w =>
  condT t14 (
  K2 [] w) (
  K0 [(gv x1 4), (gv x1 0), (gv x1 1), (gv x1 2), (gv x1 3)] w)) fun x2 w =>
  M.slices_partialInsertionSortOrdered_int.j2 x1 a2 a0 a1 K1 w K
/-- slices.partialInsertionSortOrdered[int] -/
def M.slices_partialInsertionSortOrdered_int (a0 a1 a2 : Value) (w : World) (K : KV) : Prop :=
  binT P .add T.int (.tmp 11) (.const (.int .i64 1)) a1 (.int .i64 1) w fun t12 w =>
  joinT (fun K0 =>
  loopT [t12, (.bool false), undef, undef, (.int .i64 0)] w fun K1 x1 w =>
  M.slices_partialInsertionSortOrdered_int.j1 x1 K0 a2 a0 a1 K1 w K) fun x0 w =>
  K (.bool false) w
def M.slices_partialInsertionSortOrdered_int.L : List Nat := [0, 1, 2, 6, 7, 8, 9, 10]
def M.slices_partialInsertionSortOrdered_int.pl : Nat → Plan := fun id => cond (Nat.beq id 5) ⟨(.go 0 (.go 1 (.go 2 (.go 3 (.go 4 (.go 5 (.go 6 (.go 7 (.go 8 (.go 9 (.go 10 (.go 11 (.go 12 (.eff 13 (.go 14 (.go 15 .nil)) .stop)))))))))))))), [13], false, [0, 0, 3, 7, 15, 15, 63, 127, 15, 15, 527, 1807, 3855, 8191, 16383, 32767]⟩ (cond (Nat.beq id 11) ⟨(.go 0 (.go 1 (.go 2 (.go 3 (.go 4 (.go 5 (.go 6 (.go 7 (.go 8 (.go 9 (.go 10 (.go 11 (.go 12 (.go 13 (.go 14 (.eff 15 (.go 16 (.eff 17 .nil .stop)) .stop)))))))))))))))), [15, 17], false, [0, 0, 0, 0, 8, 0, 0, 64, 224, 480, 0, 0, 3072, 7168, 16355, 32739, 65535, 131071]⟩ (cond (Nat.beq id 16) ⟨(.go 0 (.go 1 (.go 2 (.go 3 (.go 4 (.go 5 (.go 6 (.go 7 (.go 8 (.eff 9 (.go 10 .nil) .stop)))))))))), [9], false, [0, 0, 3, 7, 0, 0, 32, 112, 240, 511, 1023]⟩ (cond (Nat.beq id 17) ⟨(.go 0 (.go 1 (.go 2 (.go 3 (.go 4 (.go 5 (.go 6 (.go 7 (.go 8 (.go 9 (.go 10 (.go 11 (.go 12 (.go 13 (.go 14 (.eff 15 (.go 16 (.eff 17 .nil .stop)) .stop)))))))))))))))), [15, 17], false, [0, 0, 0, 0, 8, 0, 0, 64, 224, 480, 0, 0, 3072, 7168, 16355, 32739, 65535, 131071]⟩ (cond (Nat.beq id 22) ⟨(.go 0 (.go 1 (.go 2 (.go 3 (.go 4 (.go 5 (.go 6 (.go 7 (.go 8 (.eff 9 (.go 10 .nil) .stop)))))))))), [9], false, [0, 0, 3, 7, 0, 0, 32, 112, 240, 511, 1023]⟩ (cond (Nat.beq id 23) ⟨(.go 0 (.go 1 (.go 2 (.go 3 (.go 4 (.go 5 (.go 6 (.go 7 (.go 8 (.go 9 (.go 10 (.go 11 (.go 12 (.go 13 (.go 14 (.eff 15 (.go 16 (.eff 17 .nil .stop)) .stop)))))))))))))))), [15, 17], false, [0, 0, 0, 0, 8, 0, 0, 64, 224, 480, 0, 0, 3072, 7168, 16355, 32739, 65535, 131071]⟩ (⟨.nil, [], false, []⟩))))))
theorem M.slices_partialInsertionSortOrdered_int.eq (a0 a1 a2 : Value) (w : World) (K : KV) : M.slices_partialInsertionSortOrdered_int a0 a1 a2 w K = den P M.slices_partialInsertionSortOrdered_int.L M.slices_partialInsertionSortOrdered_int.pl (Try.f188.body.getD .skip) (argE [a0, a1, a2]) w (bodyQ P Try.f188.results.toList K) := by kernel_rfl
theorem M.slices_partialInsertionSortOrdered_int.ok : okFn M.slices_partialInsertionSortOrdered_int.L M.slices_partialInsertionSortOrdered_int.pl Try.f188 (Try.f188.body.getD .skip) 3 = true := by kernel_rfl
theorem M.slices_partialInsertionSortOrdered_int.calls (a0 a1 a2 : Value) {w : World} {K : KV} (h : M.slices_partialInsertionSortOrdered_int a0 a1 a2 w K) : callT P F.slices_partialInsertionSortOrdered_int [a0, a1, a2] w K :=
  callT_of_den (by kernel_rfl) Try.func188 (by kernel_rfl) M.slices_partialInsertionSortOrdered_int.ok (M.slices_partialInsertionSortOrdered_int.eq a0 a1 a2 w K ▸ h)
theorem M.slices_partialInsertionSortOrdered_int.fcall (args : List Value) (w : World) (K : KV) : fcallT P F.slices_partialInsertionSortOrdered_int args w K = callT P F.slices_partialInsertionSortOrdered_int args w K := fcallT_eq Try.func188 (by kernel_rfl) (by kernel_rfl) args w K
theorem M.slices_partialInsertionSortOrdered_int.rcall (a c args : List Value) (w : World) (K : KV) : callRT P (.func (.func F.slices_partialInsertionSortOrdered_int) a.toArray c.toArray) args w K = callT P F.slices_partialInsertionSortOrdered_int (a ++ args ++ c) w K := callR_fn Try.func188 (by kernel_rfl) (by kernel_rfl) a c args w K

/-- cmp.Less[int] -/
def M.cmp_Less_int (a0 a1 : Value) (w : World) (K : KV) : Prop :=
  fcallT P F.cmp_isNaN_int [a0] w fun t6 w =>
  guardT (isB t6 true) (fun K' => K' a1 w) w fun t8 w =>
  guardT (isB t6 true) (fun K' => fcallT P F.cmp_isNaN_int [t8] w K') w fun t9 w =>
  guardT (isB t6 true) (fun K' => unT P .not t9 w K') w fun t10 w =>
  pickT t6 t10 (.bool false) w fun t11 w =>
  guardT (isB t11 false) (fun K' => K' a0 w) w fun t13 w =>
  guardT (isB t11 false) (fun K' => K' a1 w) w fun t14 w =>
  guardT (isB t11 false) (fun K' => binT P .lss T.int (.tmp 13) (.tmp 14) t13 t14 w K') w fun t15 w =>
  pickT t11 (.bool true) t15 w fun t16 w =>
  K t16 w
def M.cmp_Less_int.L : List Nat := [0, 1, 4]
def M.cmp_Less_int.pl : Nat → Plan := fun id => ⟨.nil, [], false, []⟩
theorem M.cmp_Less_int.eq (a0 a1 : Value) (w : World) (K : KV) : M.cmp_Less_int a0 a1 w K = den P M.cmp_Less_int.L M.cmp_Less_int.pl (Try.f189.body.getD .skip) (argE [a0, a1]) w (bodyQ P Try.f189.results.toList K) := by kernel_rfl
theorem M.cmp_Less_int.ok : okFn M.cmp_Less_int.L M.cmp_Less_int.pl Try.f189 (Try.f189.body.getD .skip) 2 = true := by kernel_rfl
theorem M.cmp_Less_int.calls (a0 a1 : Value) {w : World} {K : KV} (h : M.cmp_Less_int a0 a1 w K) : callT P F.cmp_Less_int [a0, a1] w K :=
  callT_of_den (by kernel_rfl) Try.func189 (by kernel_rfl) M.cmp_Less_int.ok (M.cmp_Less_int.eq a0 a1 w K ▸ h)
theorem M.cmp_Less_int.fcall (args : List Value) (w : World) (K : KV) : fcallT P F.cmp_Less_int args w K = callT P F.cmp_Less_int args w K := fcallT_eq Try.func189 (by kernel_rfl) (by kernel_rfl) args w K
theorem M.cmp_Less_int.rcall (a c args : List Value) (w : World) (K : KV) : callRT P (.func (.func F.cmp_Less_int) a.toArray c.toArray) args w K = callT P F.cmp_Less_int (a ++ args ++ c) w K := callR_fn Try.func189 (by kernel_rfl) (by kernel_rfl) a c args w K

def M.slices_partitionEqualOrdered_int.j3 (x3 : List Value) (x1 : List Value) (a0 : Value) (a1 : Value) (K2 : KL) (K3 : KL) (w : World) (K : KV) : Prop :=
  joinT (fun K4 =>
  drawT w fun w =>
  w = w ∧ w = w ∧ quietT (fun K' => binT P .leq T.int (.tmp 29) (.tmp 30) (gv x3 0) (gv x1 1) w K') w fun t31 =>
  w = w ∧ quietT (fun K' => guardT (isB t31 true) (fun K' => K' a0 w) w K') w fun t33 =>
  quietT (fun K' => guardT (isB t31 true) (fun K' => K' a1 w) w K') w fun t34 =>
  quietT (fun K' => guardT (isB t31 true) (fun K' => iaT P T.sl_int t33 t34 w K') w K') w fun t35 =>
  quietT (fun K' => guardT (isB t31 true) (fun K' => ldT P T.int t35 w K') w K') w fun t36 =>
  quietT (fun K' => guardT (isB t31 true) (fun K' => K' a0 w) w K') w fun t37 =>
  quietT (fun K' => guardT (isB t31 true) (fun K' => K' (gv x3 0) w) w K') w fun t38 =>
  quietT (fun K' => guardT (isB t31 true) (fun K' => iaT P T.sl_int t37 t38 w K') w K') w fun t39 =>
  quietT (fun K' => guardT (isB t31 true) (fun K' => ldT P T.int t39 w K') w K') w fun t40 =>
  guardT (isB t31 true) (fun K' => fcallT P F.cmp_Less_int [t36, t40] w K') w fun t41 w =>
  quietT (fun K' => guardT (isB t31 true) (fun K' => unT P .not t41 w K') w K') w fun t42 =>
  quietT (fun K' => pickT t31 t42 (.bool false) w K') w fun t43 =>
  condT t43 (
  K4 [] w) (
  K2 [(gv x3 0)] w)) fun x4 w =>
  binT P .add T.int (.tmp 44) (.const (.int .i64 1)) (gv x3 0) (.int .i64 1) w fun t45 w =>
  K3 [t45] w
def M.slices_partitionEqualOrdered_int.j6 (x2 : List Value) (x6 : List Value) (a0 : Value) (a1 : Value) (K5 : KL) (K6 : KL) (w : World) (K : KV) : Prop :=
  joinT (fun K7 =>
  drawT w fun w =>
  w = w ∧ w = w ∧ quietT (fun K' => binT P .leq T.int (.tmp 46) (.tmp 47) (gv x2 0) (gv x6 0) w K') w fun t48 =>
  w = w ∧ quietT (fun K' => guardT (isB t48 true) (fun K' => K' a0 w) w K') w fun t50 =>
  quietT (fun K' => guardT (isB t48 true) (fun K' => K' a1 w) w K') w fun t51 =>
  quietT (fun K' => guardT (isB t48 true) (fun K' => iaT P T.sl_int t50 t51 w K') w K') w fun t52 =>
  quietT (fun K' => guardT (isB t48 true) (fun K' => ldT P T.int t52 w K') w K') w fun t53 =>
  quietT (fun K' => guardT (isB t48 true) (fun K' => K' a0 w) w K') w fun t54 =>
  quietT (fun K' => guardT (isB t48 true) (fun K' => K' (gv x6 0) w) w K') w fun t55 =>
  quietT (fun K' => guardT (isB t48 true) (fun K' => iaT P T.sl_int t54 t55 w K') w K') w fun t56 =>
  quietT (fun K' => guardT (isB t48 true) (fun K' => ldT P T.int t56 w K') w K') w fun t57 =>
  guardT (isB t48 true) (fun K' => fcallT P F.cmp_Less_int [t53, t57] w K') w fun t58 w =>
  quietT (fun K' => pickT t48 t58 (.bool false) w K') w fun t59 =>
  condT t59 (
  K7 [] w) (
  K5 [(gv x6 0)] w)) fun x7 w =>
  binT P .sub T.int (.tmp 60) (.const (.int .i64 1)) (gv x6 0) (.int .i64 1) w fun t61 w =>
  K6 [t61] w
def M.slices_partitionEqualOrdered_int.j8 (a0 : Value) (x5 : List Value) (x2 : List Value) (K1 : KL) (w : World) (K : KV) : Prop :=
  drawT w fun w =>
  w = w ∧ w = w ∧ w = w ∧ w = w ∧ w = w ∧ w = w ∧ quietT (fun K' => iaT P T.sl_int a0 (gv x5 0) w K') w fun t71 =>
  quietT (fun K' => ldT P T.int t71 w K') w fun t72 =>
  w = w ∧ w = w ∧ quietT (fun K' => iaT P T.sl_int a0 (gv x2 0) w K') w fun t75 =>
  quietT (fun K' => ldT P T.int t75 w K') w fun t76 =>
  quietT (fun K' => iaT P T.sl_int a0 (gv x2 0) w K') w fun t77 =>
  stT P T.int t77 t72 w fun _ w =>
  stabT (fun K' => K' (gv x5 0) w) w (gv x5 0) ∧ stabT (fun K' => K' a0 w) w a0 ∧ quietT (fun K' => iaT P T.sl_int a0 (gv x5 0) w K') w fun t78 =>
  stT P T.int t78 t76 w fun _ w =>
  binT P .add T.int (.tmp 79) (.const (.int .i64 1)) (gv x2 0) (.int .i64 1) w fun t80 w =>
  binT P .sub T.int (.tmp 81) (.const (.int .i64 1)) (gv x5 0) (.int .i64 1) w fun t82 w =>
  K1 [t80, t82] w
def M.slices_partitionEqualOrdered_int.j2 (x1 : List Value) (x2 : List Value) (a0 : Value) (a1 : Value) (K0 : KL) (K1 : KL) (w : World) (K : KV) : Prop :=
  joinT (fun K5 =>
  loopT [(gv x1 1)] w fun K6 x6 w =>
  M.slices_partitionEqualOrdered_int.j6 x2 x6 a0 a1 K5 K6 w K) fun x5 w =>
  joinT (fun K8 =>
  binT P .gtr T.int (.tmp 62) (.tmp 63) (gv x2 0) (gv x5 0) w fun t64 w =>
  condT t64 (
  K0 [(gv x2 0), (gv x5 0)] w) (
  K8 [] w)) fun x8 w =>
  M.slices_partitionEqualOrdered_int.j8 a0 x5 x2 K1 w K
/-- slices.partitionEqualOrdered[int] -/
def M.slices_partitionEqualOrdered_int (a0 a1 a2 a3 : Value) (w : World) (K : KV) : Prop :=
  drawT w fun w =>
  w = w ∧ w = w ∧ w = w ∧ w = w ∧ w = w ∧ w = w ∧ quietT (fun K' => iaT P T.sl_int a0 a3 w K') w fun t17 =>
  quietT (fun K' => ldT P T.int t17 w K') w fun t18 =>
  w = w ∧ w = w ∧ quietT (fun K' => iaT P T.sl_int a0 a1 w K') w fun t21 =>
  quietT (fun K' => ldT P T.int t21 w K') w fun t22 =>
  quietT (fun K' => iaT P T.sl_int a0 a1 w K') w fun t23 =>
  stT P T.int t23 t18 w fun _ w =>
  stabT (fun K' => K' a3 w) w a3 ∧ stabT (fun K' => K' a0 w) w a0 ∧ quietT (fun K' => iaT P T.sl_int a0 a3 w K') w fun t24 =>
  stT P T.int t24 t22 w fun _ w =>
  binT P .add T.int (.tmp 25) (.const (.int .i64 1)) a1 (.int .i64 1) w fun t26 w =>
  binT P .sub T.int (.tmp 27) (.const (.int .i64 1)) a2 (.int .i64 1) w fun t28 w =>
  joinT (fun K0 =>
  loopT [t26, t28] w fun K1 x1 w =>
  joinT (fun K2 =>
  loopT [(gv x1 0)] w fun K3 x3 w =>
  M.slices_partitionEqualOrdered_int.j3 x3 x1 a0 a1 K2 K3 w K) fun x2 w =>
  M.slices_partitionEqualOrdered_int.j2 x1 x2 a0 a1 K0 K1 w K) fun x0 w =>
  K (gv x0 0) w
def M.slices_partitionEqualOrdered_int.L : List Nat := [0, 1, 2, 3, 8, 9, 10]
def M.slices_partitionEqualOrdered_int.pl : Nat → Plan := fun id => cond (Nat.beq id 1) ⟨(.go 0 (.go 1 (.go 2 (.go 3 (.go 4 (.go 5 (.go 6 (.go 7 (.go 8 (.go 9 (.go 10 (.go 11 (.go 12 (.eff 13 (.go 14 (.eff 15 .nil .stop)) .stop)))))))))))))), [13, 15], false, [0, 0, 0, 0, 0, 0, 48, 112, 0, 0, 768, 1792, 4083, 8179, 16383, 32767]⟩ (cond (Nat.beq id 3) ⟨(.go 0 (.go 1 (.go 2 (.go 3 (.go 4 (.go 5 (.go 6 (.go 7 (.go 8 (.go 9 (.go 10 (.go 11 (.eff 12 (.go 13 (.go 14 .nil)) .stop))))))))))))), [12], false, [0, 0, 3, 7, 15, 15, 63, 127, 15, 15, 783, 1807, 4095, 8191, 16383]⟩ (cond (Nat.beq id 5) ⟨(.go 0 (.go 1 (.go 2 (.go 3 (.go 4 (.go 5 (.go 6 (.go 7 (.go 8 (.go 9 (.go 10 (.go 11 (.eff 12 (.go 13 .nil) .stop))))))))))))), [12], false, [0, 0, 3, 7, 15, 15, 63, 127, 15, 15, 783, 1807, 4095, 8191]⟩ (cond (Nat.beq id 8) ⟨(.go 0 (.go 1 (.go 2 (.go 3 (.go 4 (.go 5 (.go 6 (.go 7 (.go 8 (.go 9 (.go 10 (.go 11 (.go 12 (.eff 13 (.go 14 (.eff 15 .nil .stop)) .stop)))))))))))))), [13, 15], false, [0, 0, 0, 0, 0, 0, 48, 112, 0, 0, 768, 1792, 4083, 8179, 16383, 32767]⟩ (⟨.nil, [], false, []⟩))))
theorem M.slices_partitionEqualOrdered_int.eq (a0 a1 a2 a3 : Value) (w : World) (K : KV) : M.slices_partitionEqualOrdered_int a0 a1 a2 a3 w K = den P M.slices_partitionEqualOrdered_int.L M.slices_partitionEqualOrdered_int.pl (Try.f190.body.getD .skip) (argE [a0, a1, a2, a3]) w (bodyQ P Try.f190.results.toList K) := by kernel_rfl
theorem M.slices_partitionEqualOrdered_int.ok : okFn M.slices_partitionEqualOrdered_int.L M.slices_partitionEqualOrdered_int.pl Try.f190 (Try.f190.body.getD .skip) 4 = true := by kernel_rfl
theorem M.slices_partitionEqualOrdered_int.calls (a0 a1 a2 a3 : Value) {w : World} {K : KV} (h : M.slices_partitionEqualOrdered_int a0 a1 a2 a3 w K) : callT P F.slices_partitionEqualOrdered_int [a0, a1, a2, a3] w K :=
  callT_of_den (by kernel_rfl) Try.func190 (by kernel_rfl) M.slices_partitionEqualOrdered_int.ok (M.slices_partitionEqualOrdered_int.eq a0 a1 a2 a3 w K ▸ h)
theorem M.slices_partitionEqualOrdered_int.fcall (args : List Value) (w : World) (K : KV) : fcallT P F.slices_partitionEqualOrdered_int args w K = callT P F.slices_partitionEqualOrdered_int args w K := fcallT_eq Try.func190 (by kernel_rfl) (by kernel_rfl) args w K
theorem M.slices_partitionEqualOrdered_int.rcall (a c args : List Value) (w : World) (K : KV) : callRT P (.func (.func F.slices_partitionEqualOrdered_int) a.toArray c.toArray) args w K = callT P F.slices_partitionEqualOrdered_int (a ++ args ++ c) w K := callR_fn Try.func190 (by kernel_rfl) (by kernel_rfl) a c args w K

def M.slices_partitionOrdered_int.j1 (x1 : List Value) (t29 : Value) (a0 : Value) (a1 : Value) (K0 : KL) (K1 : KL) (w : World) (K : KV) : Prop :=
  joinT (fun K2 =>
  drawT w fun w =>
  w = w ∧ w = w ∧ quietT (fun K' => binT P .leq T.int (.tmp 30) (.tmp 31) (gv x1 0) t29 w K') w fun t32 =>
  w = w ∧ quietT (fun K' => guardT (isB t32 true) (fun K' => K' a0 w) w K') w fun t34 =>
  quietT (fun K' => guardT (isB t32 true) (fun K' => K' (gv x1 0) w) w K') w fun t35 =>
  quietT (fun K' => guardT (isB t32 true) (fun K' => iaT P T.sl_int t34 t35 w K') w K') w fun t36 =>
  quietT (fun K' => guardT (isB t32 true) (fun K' => ldT P T.int t36 w K') w K') w fun t37 =>
  quietT (fun K' => guardT (isB t32 true) (fun K' => K' a0 w) w K') w fun t38 =>
  quietT (fun K' => guardT (isB t32 true) (fun K' => K' a1 w) w K') w fun t39 =>
  quietT (fun K' => guardT (isB t32 true) (fun K' => iaT P T.sl_int t38 t39 w K') w K') w fun t40 =>
  quietT (fun K' => guardT (isB t32 true) (fun K' => ldT P T.int t40 w K') w K') w fun t41 =>
  guardT (isB t32 true) (fun K' => fcallT P F.cmp_Less_int [t37, t41] w K') w fun t42 w =>
  quietT (fun K' => pickT t32 t42 (.bool false) w K') w fun t43 =>
  condT t43 (
  K2 [] w) (
  K0 [(gv x1 0)] w)) fun x2 w =>
  binT P .add T.int (.tmp 44) (.const (.int .i64 1)) (gv x1 0) (.int .i64 1) w fun t45 w =>
  K1 [t45] w
def M.slices_partitionOrdered_int.j4 (x0 : List Value) (x4 : List Value) (a0 : Value) (a1 : Value) (K3 : KL) (K4 : KL) (w : World) (K : KV) : Prop :=
  joinT (fun K5 =>
  drawT w fun w =>
  w = w ∧ w = w ∧ quietT (fun K' => binT P .leq T.int (.tmp 46) (.tmp 47) (gv x0 0) (gv x4 0) w K') w fun t48 =>
  w = w ∧ quietT (fun K' => guardT (isB t48 true) (fun K' => K' a0 w) w K') w fun t50 =>
  quietT (fun K' => guardT (isB t48 true) (fun K' => K' (gv x4 0) w) w K') w fun t51 =>
  quietT (fun K' => guardT (isB t48 true) (fun K' => iaT P T.sl_int t50 t51 w K') w K') w fun t52 =>
  quietT (fun K' => guardT (isB t48 true) (fun K' => ldT P T.int t52 w K') w K') w fun t53 =>
  quietT (fun K' => guardT (isB t48 true) (fun K' => K' a0 w) w K') w fun t54 =>
  quietT (fun K' => guardT (isB t48 true) (fun K' => K' a1 w) w K') w fun t55 =>
  quietT (fun K' => guardT (isB t48 true) (fun K' => iaT P T.sl_int t54 t55 w K') w K') w fun t56 =>
  quietT (fun K' => guardT (isB t48 true) (fun K' => ldT P T.int t56 w K') w K') w fun t57 =>
  guardT (isB t48 true) (fun K' => fcallT P F.cmp_Less_int [t53, t57] w K') w fun t58 w =>
  quietT (fun K' => guardT (isB t48 true) (fun K' => unT P .not t58 w K') w K') w fun t59 =>
  quietT (fun K' => pickT t48 t59 (.bool false) w K') w fun t60 =>
  condT t60 (
  K5 [] w) (
  K3 [(gv x4 0)] w)) fun x5 w =>
  binT P .sub T.int (.tmp 61) (.const (.int .i64 1)) (gv x4 0) (.int .i64 1) w fun t62 w =>
  K4 [t62] w
def M.slices_partitionOrdered_int.j10 (x10 : List Value) (x8 : List Value) (a0 : Value) (a1 : Value) (K9 : KL) (K10 : KL) (w : World) (K : KV) : Prop :=
  joinT (fun K11 =>
  drawT w fun w =>
  w = w ∧ w = w ∧ quietT (fun K' => binT P .leq T.int (.tmp 99) (.tmp 100) (gv x10 0) (gv x8 1) w K') w fun t101 =>
  w = w ∧ quietT (fun K' => guardT (isB t101 true) (fun K' => K' a0 w) w K') w fun t103 =>
  quietT (fun K' => guardT (isB t101 true) (fun K' => K' (gv x10 0) w) w K') w fun t104 =>
  quietT (fun K' => guardT (isB t101 true) (fun K' => iaT P T.sl_int t103 t104 w K') w K') w fun t105 =>
  quietT (fun K' => guardT (isB t101 true) (fun K' => ldT P T.int t105 w K') w K') w fun t106 =>
  quietT (fun K' => guardT (isB t101 true) (fun K' => K' a0 w) w K') w fun t107 =>
  quietT (fun K' => guardT (isB t101 true) (fun K' => K' a1 w) w K') w fun t108 =>
  quietT (fun K' => guardT (isB t101 true) (fun K' => iaT P T.sl_int t107 t108 w K') w K') w fun t109 =>
  quietT (fun K' => guardT (isB t101 true) (fun K' => ldT P T.int t109 w K') w K') w fun t110 =>
  guardT (isB t101 true) (fun K' => fcallT P F.cmp_Less_int [t106, t110] w K') w fun t111 w =>
  quietT (fun K' => pickT t101 t111 (.bool false) w K') w fun t112 =>
  condT t112 (
  K11 [] w) (
  K9 [(gv x10 0)] w)) fun x11 w =>
  binT P .add T.int (.tmp 113) (.const (.int .i64 1)) (gv x10 0) (.int .i64 1) w fun t114 w =>
  K10 [t114] w
def M.slices_partitionOrdered_int.j13 (x9 : List Value) (x13 : List Value) (a0 : Value) (a1 : Value) (K12 : KL) (K13 : KL) (w : World) (K : KV) : Prop :=
  joinT (fun K14 =>
  drawT w fun w =>
  w = w ∧ w = w ∧ quietT (fun K' => binT P .leq T.int (.tmp 115) (.tmp 116) (gv x9 0) (gv x13 0) w K') w fun t117 =>
  w = w ∧ quietT (fun K' => guardT (isB t117 true) (fun K' => K' a0 w) w K') w fun t119 =>
  quietT (fun K' => guardT (isB t117 true) (fun K' => K' (gv x13 0) w) w K') w fun t120 =>
  quietT (fun K' => guardT (isB t117 true) (fun K' => iaT P T.sl_int t119 t120 w K') w K') w fun t121 =>
  quietT (fun K' => guardT (isB t117 true) (fun K' => ldT P T.int t121 w K') w K') w fun t122 =>
  quietT (fun K' => guardT (isB t117 true) (fun K' => K' a0 w) w K') w fun t123 =>
  quietT (fun K' => guardT (isB t117 true) (fun K' => K' a1 w) w K') w fun t124 =>
  quietT (fun K' => guardT (isB t117 true) (fun K' => iaT P T.sl_int t123 t124 w K') w K') w fun t125 =>
  quietT (fun K' => guardT (isB t117 true) (fun K' => ldT P T.int t125 w K') w K') w fun t126 =>
  guardT (isB t117 true) (fun K' => fcallT P F.cmp_Less_int [t122, t126] w K') w fun t127 w =>
  quietT (fun K' => guardT (isB t117 true) (fun K' => unT P .not t127 w K') w K') w fun t128 =>
  quietT (fun K' => pickT t117 t128 (.bool false) w K') w fun t129 =>
  condT t129 (
  K14 [] w) (
  K12 [(gv x13 0)] w)) fun x14 w =>
  binT P .sub T.int (.tmp 130) (.const (.int .i64 1)) (gv x13 0) (.int .i64 1) w fun t131 w =>
  K13 [t131] w
def M.slices_partitionOrdered_int.j15 (a0 : Value) (x12 : List Value) (x9 : List Value) (K8 : KL) (w : World) (K : KV) : Prop :=
  drawT w fun w =>
  w = w ∧ w = w ∧ w = w ∧ w = w ∧ w = w ∧ w = w ∧ quietT (fun K' => iaT P T.sl_int a0 (gv x12 0) w K') w fun t141 =>
  quietT (fun K' => ldT P T.int t141 w K') w fun t142 =>
  w = w ∧ w = w ∧ quietT (fun K' => iaT P T.sl_int a0 (gv x9 0) w K') w fun t145 =>
  quietT (fun K' => ldT P T.int t145 w K') w fun t146 =>
  quietT (fun K' => iaT P T.sl_int a0 (gv x9 0) w K') w fun t147 =>
  stT P T.int t147 t142 w fun _ w =>
  stabT (fun K' => K' (gv x12 0) w) w (gv x12 0) ∧ stabT (fun K' => K' a0 w) w a0 ∧ quietT (fun K' => iaT P T.sl_int a0 (gv x12 0) w K') w fun t148 =>
  stT P T.int t148 t146 w fun _ w =>
  binT P .add T.int (.tmp 149) (.const (.int .i64 1)) (gv x9 0) (.int .i64 1) w fun t150 w =>
  binT P .sub T.int (.tmp 151) (.const (.int .i64 1)) (gv x12 0) (.int .i64 1) w fun t152 w =>
  K8 [t150, t152] w
def M.slices_partitionOrdered_int.j9 (x8 : List Value) (x9 : List Value) (a0 : Value) (a1 : Value) (K7 : KL) (K8 : KL) (w : World) (K : KV) : Prop :=
  joinT (fun K12 =>
  loopT [(gv x8 1)] w fun K13 x13 w =>
  M.slices_partitionOrdered_int.j13 x9 x13 a0 a1 K12 K13 w K) fun x12 w =>
  joinT (fun K15 =>
  binT P .gtr T.int (.tmp 132) (.tmp 133) (gv x9 0) (gv x12 0) w fun t134 w =>
  condT t134 (
  K7 [(gv x9 0), (gv x12 0)] w) (
  K15 [] w)) fun x15 w =>
  M.slices_partitionOrdered_int.j15 a0 x12 x9 K8 w K
def M.slices_partitionOrdered_int.j7 (a0 : Value) (a1 : Value) (x7 : List Value) (w : World) (K : KV) : Prop :=
  drawT w fun w =>
  w = w ∧ w = w ∧ w = w ∧ w = w ∧ w = w ∧ w = w ∧ quietT (fun K' => iaT P T.sl_int a0 a1 w K') w fun t159 =>
  quietT (fun K' => ldT P T.int t159 w K') w fun t160 =>
  w = w ∧ w = w ∧ quietT (fun K' => iaT P T.sl_int a0 (gv x7 1) w K') w fun t163 =>
  quietT (fun K' => ldT P T.int t163 w K') w fun t164 =>
  quietT (fun K' => iaT P T.sl_int a0 (gv x7 1) w K') w fun t165 =>
  stT P T.int t165 t160 w fun _ w =>
  stabT (fun K' => K' a1 w) w a1 ∧ stabT (fun K' => K' a0 w) w a0 ∧ quietT (fun K' => iaT P T.sl_int a0 a1 w K') w fun t166 =>
  stT P T.int t166 t164 w fun _ w =>
  K (.tuple #[(gv x7 1), (.bool false)]) w
def M.slices_partitionOrdered_int.j6 (a0 : Value) (x3 : List Value) (x0 : List Value) (a1 : Value) (w : World) (K : KV) : Prop :=
  drawT w fun w =>
  w = w ∧ w = w ∧ w = w ∧ w = w ∧ w = w ∧ w = w ∧ quietT (fun K' => iaT P T.sl_int a0 (gv x3 0) w K') w fun t87 =>
  quietT (fun K' => ldT P T.int t87 w K') w fun t88 =>
  w = w ∧ w = w ∧ quietT (fun K' => iaT P T.sl_int a0 (gv x0 0) w K') w fun t91 =>
  quietT (fun K' => ldT P T.int t91 w K') w fun t92 =>
  quietT (fun K' => iaT P T.sl_int a0 (gv x0 0) w K') w fun t93 =>
  stT P T.int t93 t88 w fun _ w =>
  stabT (fun K' => K' (gv x3 0) w) w (gv x3 0) ∧ stabT (fun K' => K' a0 w) w a0 ∧ quietT (fun K' => iaT P T.sl_int a0 (gv x3 0) w K') w fun t94 =>
  stT P T.int t94 t92 w fun _ w =>
  binT P .add T.int (.tmp 95) (.const (.int .i64 1)) (gv x0 0) (.int .i64 1) w fun t96 w =>
  binT P .sub T.int (.tmp 97) (.const (.int .i64 1)) (gv x3 0) (.int .i64 1) w fun t98 w =>
  joinT (fun K7 =>
  loopT [t96, t98] w fun K8 x8 w =>
  joinT (fun K9 =>
  loopT [(gv x8 0)] w fun K10 x10 w =>
  M.slices_partitionOrdered_int.j10 x10 x8 a0 a1 K9 K10 w K) fun x9 w =>
  M.slices_partitionOrdered_int.j9 x8 x9 a0 a1 K7 K8 w K) fun x7 w =>
  M.slices_partitionOrdered_int.j7 a0 a1 x7 w K
def M.slices_partitionOrdered_int.j3 (x0 : List Value) (x3 : List Value) (a0 : Value) (a1 : Value) (w : World) (K : KV) : Prop :=
  joinT (fun K6 =>
  binT P .gtr T.int (.tmp 63) (.tmp 64) (gv x0 0) (gv x3 0) w fun t65 w =>
  condT t65 (
  drawT w fun w =>
  w = w ∧ w = w ∧ w = w ∧ w = w ∧ w = w ∧ w = w ∧ quietT (fun K' => iaT P T.sl_int a0 a1 w K') w fun t72 =>
  quietT (fun K' => ldT P T.int t72 w K') w fun t73 =>
  w = w ∧ w = w ∧ quietT (fun K' => iaT P T.sl_int a0 (gv x3 0) w K') w fun t76 =>
  quietT (fun K' => ldT P T.int t76 w K') w fun t77 =>
  quietT (fun K' => iaT P T.sl_int a0 (gv x3 0) w K') w fun t78 =>
  stT P T.int t78 t73 w fun _ w =>
  stabT (fun K' => K' a1 w) w a1 ∧ stabT (fun K' => K' a0 w) w a0 ∧ quietT (fun K' => iaT P T.sl_int a0 a1 w K') w fun t79 =>
  stT P T.int t79 t77 w fun _ w =>
  K (.tuple #[(gv x3 0), (.bool true)]) w) (
  K6 [(.int .i64 0), (.bool false)] w)) fun x6 w =>
  M.slices_partitionOrdered_int.j6 a0 x3 x0 a1 w K
/-- slices.partitionOrdered[int] -/
def M.slices_partitionOrdered_int (a0 a1 a2 a3 : Value) (w : World) (K : KV) : Prop :=
  drawT w fun w =>
  w = w ∧ w = w ∧ w = w ∧ w = w ∧ w = w ∧ w = w ∧ quietT (fun K' => iaT P T.sl_int a0 a3 w K') w fun t18 =>
  quietT (fun K' => ldT P T.int t18 w K') w fun t19 =>
  w = w ∧ w = w ∧ quietT (fun K' => iaT P T.sl_int a0 a1 w K') w fun t22 =>
  quietT (fun K' => ldT P T.int t22 w K') w fun t23 =>
  quietT (fun K' => iaT P T.sl_int a0 a1 w K') w fun t24 =>
  stT P T.int t24 t19 w fun _ w =>
  stabT (fun K' => K' a3 w) w a3 ∧ stabT (fun K' => K' a0 w) w a0 ∧ quietT (fun K' => iaT P T.sl_int a0 a3 w K') w fun t25 =>
  stT P T.int t25 t23 w fun _ w =>
  binT P .add T.int (.tmp 26) (.const (.int .i64 1)) a1 (.int .i64 1) w fun t27 w =>
  binT P .sub T.int (.tmp 28) (.const (.int .i64 1)) a2 (.int .i64 1) w fun t29 w =>
  joinT (fun K0 =>
  loopT [t27] w fun K1 x1 w =>
  M.slices_partitionOrdered_int.j1 x1 t29 a0 a1 K0 K1 w K) fun x0 w =>
  joinT (fun K3 =>
  loopT [t29] w fun K4 x4 w =>
  M.slices_partitionOrdered_int.j4 x0 x4 a0 a1 K3 K4 w K) fun x3 w =>
  M.slices_partitionOrdered_int.j3 x0 x3 a0 a1 w K
def M.slices_partitionOrdered_int.L : List Nat := [0, 1, 2, 3, 8, 9, 10, 11]
def M.slices_partitionOrdered_int.pl : Nat → Plan := fun id => cond (Nat.beq id 1) ⟨(.go 0 (.go 1 (.go 2 (.go 3 (.go 4 (.go 5 (.go 6 (.go 7 (.go 8 (.go 9 (.go 10 (.go 11 (.go 12 (.eff 13 (.go 14 (.eff 15 .nil .stop)) .stop)))))))))))))), [13, 15], false, [0, 0, 0, 0, 0, 0, 48, 112, 0, 0, 768, 1792, 4083, 8179, 16383, 32767]⟩ (cond (Nat.beq id 3) ⟨(.go 0 (.go 1 (.go 2 (.go 3 (.go 4 (.go 5 (.go 6 (.go 7 (.go 8 (.go 9 (.go 10 (.go 11 (.eff 12 (.go 13 .nil) .stop))))))))))))), [12], false, [0, 0, 3, 7, 15, 15, 63, 127, 15, 15, 783, 1807, 4095, 8191]⟩ (cond (Nat.beq id 5) ⟨(.go 0 (.go 1 (.go 2 (.go 3 (.go 4 (.go 5 (.go 6 (.go 7 (.go 8 (.go 9 (.go 10 (.go 11 (.eff 12 (.go 13 (.go 14 .nil)) .stop))))))))))))), [12], false, [0, 0, 3, 7, 15, 15, 63, 127, 15, 15, 783, 1807, 4095, 8191, 16383]⟩ (cond (Nat.beq id 8) ⟨(.go 0 (.go 1 (.go 2 (.go 3 (.go 4 (.go 5 (.go 6 (.go 7 (.go 8 (.go 9 (.go 10 (.go 11 (.go 12 (.eff 13 (.go 14 (.eff 15 .nil .stop)) .stop)))))))))))))), [13, 15], false, [0, 0, 0, 0, 0, 0, 48, 112, 0, 0, 768, 1792, 4083, 8179, 16383, 32767]⟩ (cond (Nat.beq id 10) ⟨(.go 0 (.go 1 (.go 2 (.go 3 (.go 4 (.go 5 (.go 6 (.go 7 (.go 8 (.go 9 (.go 10 (.go 11 (.go 12 (.eff 13 (.go 14 (.eff 15 .nil .stop)) .stop)))))))))))))), [13, 15], false, [0, 0, 0, 0, 0, 0, 48, 112, 0, 0, 768, 1792, 4083, 8179, 16383, 32767]⟩ (cond (Nat.beq id 13) ⟨(.go 0 (.go 1 (.go 2 (.go 3 (.go 4 (.go 5 (.go 6 (.go 7 (.go 8 (.go 9 (.go 10 (.go 11 (.eff 12 (.go 13 .nil) .stop))))))))))))), [12], false, [0, 0, 3, 7, 15, 15, 63, 127, 15, 15, 783, 1807, 4095, 8191]⟩ (cond (Nat.beq id 15) ⟨(.go 0 (.go 1 (.go 2 (.go 3 (.go 4 (.go 5 (.go 6 (.go 7 (.go 8 (.go 9 (.go 10 (.go 11 (.eff 12 (.go 13 (.go 14 .nil)) .stop))))))))))))), [12], false, [0, 0, 3, 7, 15, 15, 63, 127, 15, 15, 783, 1807, 4095, 8191, 16383]⟩ (cond (Nat.beq id 18) ⟨(.go 0 (.go 1 (.go 2 (.go 3 (.go 4 (.go 5 (.go 6 (.go 7 (.go 8 (.go 9 (.go 10 (.go 11 (.go 12 (.eff 13 (.go 14 (.eff 15 .nil .stop)) .stop)))))))))))))), [13, 15], false, [0, 0, 0, 0, 0, 0, 48, 112, 0, 0, 768, 1792, 4083, 8179, 16383, 32767]⟩ (cond (Nat.beq id 21) ⟨(.go 0 (.go 1 (.go 2 (.go 3 (.go 4 (.go 5 (.go 6 (.go 7 (.go 8 (.go 9 (.go 10 (.go 11 (.go 12 (.eff 13 (.go 14 (.eff 15 .nil .stop)) .stop)))))))))))))), [13, 15], false, [0, 0, 0, 0, 0, 0, 48, 112, 0, 0, 768, 1792, 4083, 8179, 16383, 32767]⟩ (⟨.nil, [], false, []⟩)))))))))
theorem M.slices_partitionOrdered_int.eq (a0 a1 a2 a3 : Value) (w : World) (K : KV) : M.slices_partitionOrdered_int a0 a1 a2 a3 w K = den P M.slices_partitionOrdered_int.L M.slices_partitionOrdered_int.pl (Try.f191.body.getD .skip) (argE [a0, a1, a2, a3]) w (bodyQ P Try.f191.results.toList K) := by kernel_rfl
theorem M.slices_partitionOrdered_int.ok : okFn M.slices_partitionOrdered_int.L M.slices_partitionOrdered_int.pl Try.f191 (Try.f191.body.getD .skip) 4 = true := by kernel_rfl
theorem M.slices_partitionOrdered_int.calls (a0 a1 a2 a3 : Value) {w : World} {K : KV} (h : M.slices_partitionOrdered_int a0 a1 a2 a3 w K) : callT P F.slices_partitionOrdered_int [a0, a1, a2, a3] w K :=
  callT_of_den (by kernel_rfl) Try.func191 (by kernel_rfl) M.slices_partitionOrdered_int.ok (M.slices_partitionOrdered_int.eq a0 a1 a2 a3 w K ▸ h)
theorem M.slices_partitionOrdered_int.fcall (args : List Value) (w : World) (K : KV) : fcallT P F.slices_partitionOrdered_int args w K = callT P F.slices_partitionOrdered_int args w K := fcallT_eq Try.func191 (by kernel_rfl) (by kernel_rfl) args w K
theorem M.slices_partitionOrdered_int.rcall (a c args : List Value) (w : World) (K : KV) : callRT P (.func (.func F.slices_partitionOrdered_int) a.toArray c.toArray) args w K = callT P F.slices_partitionOrdered_int (a ++ args ++ c) w K := callR_fn Try.func191 (by kernel_rfl) (by kernel_rfl) a c args w K

def M.slices_siftDownOrdered_int.j3 (a3 : Value) (x0 : List Value) (x2 : List Value) (a0 : Value) (K0 : KL) (w : World) (K : KV) : Prop :=
  drawT w fun w =>
  w = w ∧ w = w ∧ w = w ∧ quietT (fun K' => binT P .add T.int (.tmp 54) (.tmp 55) a3 (gv x0 1) w K') w fun t56 =>
  w = w ∧ w = w ∧ w = w ∧ quietT (fun K' => binT P .add T.int (.tmp 58) (.tmp 59) a3 (gv x2 0) w K') w fun t60 =>
  w = w ∧ w = w ∧ w = w ∧ quietT (fun K' => binT P .add T.int (.tmp 62) (.tmp 63) a3 (gv x2 0) w K') w fun t64 =>
  quietT (fun K' => iaT P T.sl_int a0 t64 w K') w fun t65 =>
  quietT (fun K' => ldT P T.int t65 w K') w fun t66 =>
  w = w ∧ w = w ∧ w = w ∧ quietT (fun K' => binT P .add T.int (.tmp 68) (.tmp 69) a3 (gv x0 1) w K') w fun t70 =>
  quietT (fun K' => iaT P T.sl_int a0 t70 w K') w fun t71 =>
  quietT (fun K' => ldT P T.int t71 w K') w fun t72 =>
  quietT (fun K' => iaT P T.sl_int a0 t56 w K') w fun t73 =>
  stT P T.int t73 t66 w fun _ w =>
  stabT (fun K' => binT P .add T.int (.tmp 58) (.tmp 59) a3 (gv x2 0) w K') w t60 ∧ stabT (fun K' => K' (gv x2 0) w) w (gv x2 0) ∧ stabT (fun K' => K' a3 w) w a3 ∧ stabT (fun K' => K' a0 w) w a0 ∧ quietT (fun K' => iaT P T.sl_int a0 t60 w K') w fun t74 =>
  stT P T.int t74 t72 w fun _ w =>
  K0 [(gv x2 0), (gv x2 0)] w
def M.slices_siftDownOrdered_int.j2 (a3 : Value) (x0 : List Value) (a0 : Value) (x2 : List Value) (K0 : KL) (w : World) (K : KV) : Prop :=
  joinT (fun K3 =>
  drawT w fun w =>
  w = w ∧ w = w ∧ w = w ∧ quietT (fun K' => binT P .add T.int (.tmp 40) (.tmp 41) a3 (gv x0 1) w K') w fun t42 =>
  quietT (fun K' => iaT P T.sl_int a0 t42 w K') w fun t43 =>
  quietT (fun K' => ldT P T.int t43 w K') w fun t44 =>
  w = w ∧ w = w ∧ w = w ∧ quietT (fun K' => binT P .add T.int (.tmp 46) (.tmp 47) a3 (gv x2 0) w K') w fun t48 =>
  quietT (fun K' => iaT P T.sl_int a0 t48 w K') w fun t49 =>
  quietT (fun K' => ldT P T.int t49 w K') w fun t50 =>
  fcallT P F.cmp_Less_int [t44, t50] w fun t51 w =>
  quietT (fun K' => unT P .not t51 w K') w fun t52 =>
  condT t52 (
  K (.tuple #[]) w) (
  K3 [] w)) fun x3 w =>
  M.slices_siftDownOrdered_int.j3 a3 x0 x2 a0 K0 w K
def M.slices_siftDownOrdered_int.j1 (t13 : Value) (a2 : Value) (a0 : Value) (a3 : Value) (x0 : List Value) (K0 : KL) (w : World) (K : KV) : Prop :=
  joinT (fun K2 =>
  drawT w fun w =>
  w = w ∧ quietT (fun K' => binT P .add T.int (.tmp 17) (.const (.int .i64 1)) t13 (.int .i64 1) w K') w fun t18 =>
  w = w ∧ quietT (fun K' => binT P .lss T.int (.tmp 18) (.tmp 19) t18 a2 w K') w fun t20 =>
  w = w ∧ quietT (fun K' => guardT (isB t20 true) (fun K' => K' a0 w) w K') w fun t22 =>
  quietT (fun K' => guardT (isB t20 true) (fun K' => K' a3 w) w K') w fun t23 =>
  quietT (fun K' => guardT (isB t20 true) (fun K' => K' t13 w) w K') w fun t24 =>
  quietT (fun K' => guardT (isB t20 true) (fun K' => binT P .add T.int (.tmp 23) (.tmp 24) t23 t24 w K') w K') w fun t25 =>
  quietT (fun K' => guardT (isB t20 true) (fun K' => iaT P T.sl_int t22 t25 w K') w K') w fun t26 =>
  quietT (fun K' => guardT (isB t20 true) (fun K' => ldT P T.int t26 w K') w K') w fun t27 =>
  quietT (fun K' => guardT (isB t20 true) (fun K' => K' a0 w) w K') w fun t28 =>
  quietT (fun K' => guardT (isB t20 true) (fun K' => K' a3 w) w K') w fun t29 =>
  quietT (fun K' => guardT (isB t20 true) (fun K' => K' t13 w) w K') w fun t30 =>
  quietT (fun K' => guardT (isB t20 true) (fun K' => binT P .add T.int (.tmp 29) (.tmp 30) t29 t30 w K') w K') w fun t31 =>
  quietT (fun K' => guardT (isB t20 true) (fun K' => binT P .add T.int (.tmp 31) (.const (.int .i64 1)) t31 (.int .i64 1) w K') w K') w fun t32 =>
  quietT (fun K' => guardT (isB t20 true) (fun K' => iaT P T.sl_int t28 t32 w K') w K') w fun t33 =>
  quietT (fun K' => guardT (isB t20 true) (fun K' => ldT P T.int t33 w K') w K') w fun t34 =>
  guardT (isB t20 true) (fun K' => fcallT P F.cmp_Less_int [t27, t34] w K') w fun t35 w =>
  quietT (fun K' => pickT t20 t35 (.bool false) w K') w fun t36 =>
  condT t36 (
  binT P .add T.int (.tmp 37) (.const (.int .i64 1)) t13 (.int .i64 1) w fun t38 w =>
  K2 [t38] w) (
  K2 [t13] w)) fun x2 w =>
  M.slices_siftDownOrdered_int.j2 a3 x0 a0 x2 K0 w K
def M.slices_siftDownOrdered_int.j0 (x0 : List Value) (a2 : Value) (a0 : Value) (a3 : Value) (K0 : KL) (w : World) (K : KV) : Prop :=
  binT P .mul T.int (.const (.int .i64 2)) (.tmp 11) (.int .i64 2) (gv x0 1) w fun t12 w =>
  binT P .add T.int (.tmp 12) (.const (.int .i64 1)) t12 (.int .i64 1) w fun t13 w =>
  joinT (fun K1 =>
  binT P .geq T.int (.tmp 14) (.tmp 15) t13 a2 w fun t16 w =>
  condT t16 (
  K (.tuple #[]) w) (
  K1 [] w)) fun x1 w =>
  M.slices_siftDownOrdered_int.j1 t13 a2 a0 a3 x0 K0 w K
/-- slices.siftDownOrdered[int] -/
def M.slices_siftDownOrdered_int (a0 a1 a2 a3 : Value) (w : World) (K : KV) : Prop :=
  loopT [undef, a1] w fun K0 x0 w =>
  M.slices_siftDownOrdered_int.j0 x0 a2 a0 a3 K0 w K
def M.slices_siftDownOrdered_int.L : List Nat := [0, 1, 2, 3, 8, 9]
def M.slices_siftDownOrdered_int.pl : Nat → Plan := fun id => cond (Nat.beq id 3) ⟨(.go 0 (.go 1 (.go 2 (.go 3 (.go 4 (.go 5 (.go 6 (.go 7 (.go 8 (.go 9 (.go 10 (.go 11 (.go 12 (.go 13 (.go 14 (.go 15 (.go 16 (.go 17 (.eff 18 (.go 19 .nil) .stop))))))))))))))))))), [18], false, [0, 1, 0, 7, 15, 31, 31, 31, 223, 511, 1023, 31, 31, 31, 12319, 28703, 63519, 129055, 262143, 524287]⟩ (cond (Nat.beq id 5) ⟨(.go 0 (.go 1 (.go 2 (.go 3 (.go 4 (.go 5 (.go 6 (.go 7 (.go 8 (.go 9 (.go 10 (.go 11 (.eff 12 (.go 13 .nil) .stop))))))))))))), [12], false, [0, 0, 0, 6, 15, 31, 0, 0, 0, 384, 960, 1984, 4095, 8191]⟩ (cond (Nat.beq id 6) ⟨(.go 0 (.go 1 (.go 2 (.go 3 (.go 4 (.go 5 (.go 6 (.go 7 (.go 8 (.go 9 (.go 10 (.go 11 (.go 12 (.go 13 (.go 14 (.go 15 (.go 16 (.go 17 (.go 18 (.go 19 (.go 20 (.eff 21 (.go 22 (.eff 23 .nil .stop)) .stop)))))))))))))))))))))), [21, 23], false, [0, 0, 0, 6, 0, 0, 0, 96, 0, 0, 0, 1536, 3840, 7936, 0, 0, 0, 98304, 245760, 507904, 1048335, 2096911, 4194303, 8388607]⟩ (⟨.nil, [], false, []⟩)))
theorem M.slices_siftDownOrdered_int.eq (a0 a1 a2 a3 : Value) (w : World) (K : KV) : M.slices_siftDownOrdered_int a0 a1 a2 a3 w K = den P M.slices_siftDownOrdered_int.L M.slices_siftDownOrdered_int.pl (Try.f193.body.getD .skip) (argE [a0, a1, a2, a3]) w (bodyQ P Try.f193.results.toList K) := by kernel_rfl
theorem M.slices_siftDownOrdered_int.ok : okFn M.slices_siftDownOrdered_int.L M.slices_siftDownOrdered_int.pl Try.f193 (Try.f193.body.getD .skip) 4 = true := by kernel_rfl
theorem M.slices_siftDownOrdered_int.calls (a0 a1 a2 a3 : Value) {w : World} {K : KV} (h : M.slices_siftDownOrdered_int a0 a1 a2 a3 w K) : callT P F.slices_siftDownOrdered_int [a0, a1, a2, a3] w K :=
  callT_of_den (by kernel_rfl) Try.func193 (by kernel_rfl) M.slices_siftDownOrdered_int.ok (M.slices_siftDownOrdered_int.eq a0 a1 a2 a3 w K ▸ h)
theorem M.slices_siftDownOrdered_int.fcall (args : List Value) (w : World) (K : KV) : fcallT P F.slices_siftDownOrdered_int args w K = callT P F.slices_siftDownOrdered_int args w K := fcallT_eq Try.func193 (by kernel_rfl) (by kernel_rfl) args w K
theorem M.slices_siftDownOrdered_int.rcall (a c args : List Value) (w : World) (K : KV) : callRT P (.func (.func F.slices_siftDownOrdered_int) a.toArray c.toArray) args w K = callT P F.slices_siftDownOrdered_int (a ++ args ++ c) w K := callR_fn Try.func193 (by kernel_rfl) (by kernel_rfl) a c args w K

/-- slices.medianAdjacentOrdered[int] -/
def M.slices_medianAdjacentOrdered_int (a0 a1 a2 : Value) (w : World) (K : KV) : Prop :=
  binT P .sub T.int (.tmp 8) (.const (.int .i64 1)) a1 (.int .i64 1) w fun t9 w =>
  binT P .add T.int (.tmp 11) (.const (.int .i64 1)) a1 (.int .i64 1) w fun t12 w =>
  fcallT P F.slices_medianOrdered_int [a0, t9, a1, t12, a2] w fun t14 w =>
  K t14 w
def M.slices_medianAdjacentOrdered_int.L : List Nat := [0, 1, 2, 6]
def M.slices_medianAdjacentOrdered_int.pl : Nat → Plan := fun id => ⟨.nil, [], false, []⟩
theorem M.slices_medianAdjacentOrdered_int.eq (a0 a1 a2 : Value) (w : World) (K : KV) : M.slices_medianAdjacentOrdered_int a0 a1 a2 w K = den P M.slices_medianAdjacentOrdered_int.L M.slices_medianAdjacentOrdered_int.pl (Try.f194.body.getD .skip) (argE [a0, a1, a2]) w (bodyQ P Try.f194.results.toList K) := by kernel_rfl
theorem M.slices_medianAdjacentOrdered_int.ok : okFn M.slices_medianAdjacentOrdered_int.L M.slices_medianAdjacentOrdered_int.pl Try.f194 (Try.f194.body.getD .skip) 3 = true := by kernel_rfl
theorem M.slices_medianAdjacentOrdered_int.calls (a0 a1 a2 : Value) {w : World} {K : KV} (h : M.slices_medianAdjacentOrdered_int a0 a1 a2 w K) : callT P F.slices_medianAdjacentOrdered_int [a0, a1, a2] w K :=
  callT_of_den (by kernel_rfl) Try.func194 (by kernel_rfl) M.slices_medianAdjacentOrdered_int.ok (M.slices_medianAdjacentOrdered_int.eq a0 a1 a2 w K ▸ h)
theorem M.slices_medianAdjacentOrdered_int.fcall (args : List Value) (w : World) (K : KV) : fcallT P F.slices_medianAdjacentOrdered_int args w K = callT P F.slices_medianAdjacentOrdered_int args w K := fcallT_eq Try.func194 (by kernel_rfl) (by kernel_rfl) args w K
theorem M.slices_medianAdjacentOrdered_int.rcall (a c args : List Value) (w : World) (K : KV) : callRT P (.func (.func F.slices_medianAdjacentOrdered_int) a.toArray c.toArray) args w K = callT P F.slices_medianAdjacentOrdered_int (a ++ args ++ c) w K := callR_fn Try.func194 (by kernel_rfl) (by kernel_rfl) a c args w K

/-- slices.medianOrdered[int] -/
def M.slices_medianOrdered_int (a0 a1 a2 a3 a4 : Value) (w : World) (K : KV) : Prop :=
  fcallT P F.slices_order2Ordered_int [a0, a1, a2, a4] w fun t16 w =>
  exT P t16 0 w fun t17 w =>
  exT P t16 1 w fun t18 w =>
  fcallT P F.slices_order2Ordered_int [a0, t18, a3, a4] w fun t24 w =>
  exT P t24 0 w fun t25 w =>
  exT P t24 1 w fun t26 w =>
  fcallT P F.slices_order2Ordered_int [a0, t17, t25, a4] w fun t32 w =>
  exT P t32 0 w fun t33 w =>
  exT P t32 1 w fun t34 w =>
  K t34 w
def M.slices_medianOrdered_int.L : List Nat := [0, 1, 2, 3, 4, 10]
def M.slices_medianOrdered_int.pl : Nat → Plan := fun id => ⟨.nil, [], false, []⟩
theorem M.slices_medianOrdered_int.eq (a0 a1 a2 a3 a4 : Value) (w : World) (K : KV) : M.slices_medianOrdered_int a0 a1 a2 a3 a4 w K = den P M.slices_medianOrdered_int.L M.slices_medianOrdered_int.pl (Try.f195.body.getD .skip) (argE [a0, a1, a2, a3, a4]) w (bodyQ P Try.f195.results.toList K) := by kernel_rfl
theorem M.slices_medianOrdered_int.ok : okFn M.slices_medianOrdered_int.L M.slices_medianOrdered_int.pl Try.f195 (Try.f195.body.getD .skip) 5 = true := by kernel_rfl
theorem M.slices_medianOrdered_int.calls (a0 a1 a2 a3 a4 : Value) {w : World} {K : KV} (h : M.slices_medianOrdered_int a0 a1 a2 a3 a4 w K) : callT P F.slices_medianOrdered_int [a0, a1, a2, a3, a4] w K :=
  callT_of_den (by kernel_rfl) Try.func195 (by kernel_rfl) M.slices_medianOrdered_int.ok (M.slices_medianOrdered_int.eq a0 a1 a2 a3 a4 w K ▸ h)
theorem M.slices_medianOrdered_int.fcall (args : List Value) (w : World) (K : KV) : fcallT P F.slices_medianOrdered_int args w K = callT P F.slices_medianOrdered_int args w K := fcallT_eq Try.func195 (by kernel_rfl) (by kernel_rfl) args w K
theorem M.slices_medianOrdered_int.rcall (a c args : List Value) (w : World) (K : KV) : callRT P (.func (.func F.slices_medianOrdered_int) a.toArray c.toArray) args w K = callT P F.slices_medianOrdered_int (a ++ args ++ c) w K := callR_fn Try.func195 (by kernel_rfl) (by kernel_rfl) a c args w K

/-- slices.order2Ordered[int] -/
def M.slices_order2Ordered_int (a0 a1 a2 a3 : Value) (w : World) (K : KV) : Prop :=
  joinT (fun K0 =>
  drawT w fun w =>
  w = w ∧ w = w ∧ quietT (fun K' => iaT P T.sl_int a0 a2 w K') w fun t12 =>
  quietT (fun K' => ldT P T.int t12 w K') w fun t13 =>
  w = w ∧ w = w ∧ quietT (fun K' => iaT P T.sl_int a0 a1 w K') w fun t16 =>
  quietT (fun K' => ldT P T.int t16 w K') w fun t17 =>
  fcallT P F.cmp_Less_int [t13, t17] w fun t18 w =>
  condT t18 (
  nilT a3 w fun t20 w =>
  ldT P T.int t20 w fun t21 w =>
  binT P .add T.int (.tmp 21) (.const (.int .i64 1)) t21 (.int .i64 1) w fun t22 w =>
  nilT a3 w fun t23 w =>
  stT P T.int t23 t22 w fun _ w =>
  K (.tuple #[a2, a1]) w) (
  K0 [(.int .i64 0), (.int .i64 0)] w)) fun x0 w =>
  K (.tuple #[a1, a2]) w
def M.slices_order2Ordered_int.L : List Nat := [0, 1, 2, 3, 8, 9]
def M.slices_order2Ordered_int.pl : Nat → Plan := fun id => cond (Nat.beq id 1) ⟨(.go 0 (.go 1 (.go 2 (.go 3 (.go 4 (.go 5 (.go 6 (.go 7 (.eff 8 .nil .stop))))))))), [8], false, [0, 0, 3, 7, 0, 0, 48, 112, 255]⟩ (⟨.nil, [], false, []⟩)
theorem M.slices_order2Ordered_int.eq (a0 a1 a2 a3 : Value) (w : World) (K : KV) : M.slices_order2Ordered_int a0 a1 a2 a3 w K = den P M.slices_order2Ordered_int.L M.slices_order2Ordered_int.pl (Try.f196.body.getD .skip) (argE [a0, a1, a2, a3]) w (bodyQ P Try.f196.results.toList K) := by kernel_rfl
theorem M.slices_order2Ordered_int.ok : okFn M.slices_order2Ordered_int.L M.slices_order2Ordered_int.pl Try.f196 (Try.f196.body.getD .skip) 4 = true := by kernel_rfl
theorem M.slices_order2Ordered_int.calls (a0 a1 a2 a3 : Value) {w : World} {K : KV} (h : M.slices_order2Ordered_int a0 a1 a2 a3 w K) : callT P F.slices_order2Ordered_int [a0, a1, a2, a3] w K :=
  callT_of_den (by kernel_rfl) Try.func196 (by kernel_rfl) M.slices_order2Ordered_int.ok (M.slices_order2Ordered_int.eq a0 a1 a2 a3 w K ▸ h)
theorem M.slices_order2Ordered_int.fcall (args : List Value) (w : World) (K : KV) : fcallT P F.slices_order2Ordered_int args w K = callT P F.slices_order2Ordered_int args w K := fcallT_eq Try.func196 (by kernel_rfl) (by kernel_rfl) args w K
theorem M.slices_order2Ordered_int.rcall (a c args : List Value) (w : World) (K : KV) : callRT P (.func (.func F.slices_order2Ordered_int) a.toArray c.toArray) args w K = callT P F.slices_order2Ordered_int (a ++ args ++ c) w K := callR_fn Try.func196 (by kernel_rfl) (by kernel_rfl) a c args w K

end Go.Proofs.Ytkjhekflgghbdaa
