/-
  Printed by wip/Shallow.lean: functions of the program, read shallow; each is what its code does. No condition.
-/
import Derived.Test.YtkjhekflgghbdaaN
set_option maxRecDepth 1000000
namespace Go.Proofs.Ytkjhekflgghbdaa
open Go.Eng

def M.frame_Cut.j0 (a0 : Value) (w : World) (K : KV) : Prop :=
  fcallT P F.num_U32 [a0] w fun t11 w =>
  cvT P T.uint32 T.int t11 w fun t13 w =>
  binT P .add T.int (.const (.int .i64 4)) (.tmp 13) (.int .i64 4) t13 w fun t14 w =>
  binT P .gtr T.uint32 (.tmp 26) (.const (.int .u32 8192)) t11 (.int .u32 8192) w fun t27 w =>
  condT t27 (
  K (.tuple #[(.slice none 0 0), (.slice none 0 0), (.int .i64 2)]) w) (
  biT P .len #[T.sl_uint8] T.int [false] [a0] w fun t30 w =>
  binT P .sub T.int (.tmp 30) (.const (.int .i64 4)) t30 (.int .i64 4) w fun t31 w =>
  binT P .lss T.int (.tmp 31) (.tmp 32) t31 t14 w fun t33 w =>
  condT t33 (
  K (.tuple #[(.slice none 0 0), (.slice none 0 0), (.int .i64 3)]) w) (
  drawT w fun w =>
  w = w ∧ w = w ∧ quietT (fun K' => slT P T.sl_uint8 a0 none (some t14) none w K') w fun t37 =>
  w = w ∧ w = w ∧ quietT (fun K' => slT P T.sl_uint8 a0 (some t14) none none w K') w fun t41 =>
  fcallT P F.crc_Sum [t37] w fun t38 w =>
  stabT (fun K' => slT P T.sl_uint8 a0 (some t14) none none w K') w t41 ∧ stabT (fun K' => K' t14 w) w t14 ∧ stabT (fun K' => K' a0 w) w a0 ∧ fcallT P F.num_U32 [t41] w fun t42 w =>
  quietT (fun K' => binT P .neq T.uint32 (.tmp 38) (.tmp 42) t38 t42 w K') w fun t43 =>
  condT t43 (
  K (.tuple #[(.slice none 0 0), (.slice none 0 0), (.int .i64 2)]) w) (
  drawT w fun w =>
  w = w ∧ w = w ∧ w = w ∧ quietT (fun K' => slT P T.sl_uint8 a0 (some (.int .i64 4)) (some t14) (some t14) w K') w fun t18 =>
  w = w ∧ w = w ∧ quietT (fun K' => binT P .add T.int (.tmp 21) (.const (.int .i64 4)) t14 (.int .i64 4) w K') w fun t22 =>
  quietT (fun K' => slT P T.sl_uint8 a0 (some t22) none none w K') w fun t23 =>
  fcallT P F.slices_Clone_byte_byte [t18] w fun t19 w =>
  stabT (fun K' => slT P T.sl_uint8 a0 (some t22) none none w K') w t23 ∧ stabT (fun K' => binT P .add T.int (.tmp 21) (.const (.int .i64 4)) t14 (.int .i64 4) w K') w t22 ∧ stabT (fun K' => K' t14 w) w t14 ∧ stabT (fun K' => K' a0 w) w a0 ∧ fcallT P F.slices_Clone_byte_byte [t23] w fun t24 w =>
  K (.tuple #[t19, t24, (.int .i64 0)]) w)))
/-- winnow/frame.Cut -/
def M.frame_Cut (a0 : Value) (w : World) (K : KV) : Prop :=
  joinT (fun K0 =>
  biT P .len #[T.sl_uint8] T.int [false] [a0] w fun t8 w =>
  binT P .lss T.int (.tmp 8) (.const (.int .i64 4)) t8 (.int .i64 4) w fun t9 w =>
  condT t9 (
  K (.tuple #[(.slice none 0 0), (.slice none 0 0), (.int .i64 3)]) w) (
  K0 [(.slice none 0 0), (.slice none 0 0), (.int .i64 0)] w)) fun x0 w =>
  M.frame_Cut.j0 a0 w K
def M.frame_Cut.L : List Nat := [0, 2, 3, 4, 5, 6, 25, 28, 34]
def M.frame_Cut.pl : Nat → Plan := fun id => cond (Nat.beq id 10) ⟨(.go 0 (.go 1 (.go 2 (.go 4 (.go 5 (.go 6 (.eff 3 (.eff 7 (.go 8 (.eff 9 .nil .stop)) .stop) .stop))))))), [3, 7, 9], false, [0, 0, 3, 7, 0, 0, 48, 127, 255, 511]⟩ (cond (Nat.beq id 5) ⟨(.go 0 (.go 1 (.go 2 (.go 3 (.go 5 (.go 6 (.go 7 (.go 8 (.eff 4 (.eff 9 (.eff 10 (.eff 11 (.eff 12 .nil .stop) .stop) .stop) .stop) .stop))))))))), [4, 9, 10, 11, 12], false, [0, 0, 0, 7, 15, 0, 0, 64, 224, 511, 1023, 2047, 4095]⟩ (⟨.nil, [], false, []⟩))
theorem M.frame_Cut.eq (a0 : Value) (w : World) (K : KV) : M.frame_Cut a0 w K = den P M.frame_Cut.L M.frame_Cut.pl (Try.f147.body.getD .skip) (argE [a0]) w (bodyQ P Try.f147.results.toList K) := by kernel_rfl
theorem M.frame_Cut.ok : okFn M.frame_Cut.L M.frame_Cut.pl Try.f147 (Try.f147.body.getD .skip) 1 = true := by kernel_rfl
theorem M.frame_Cut.calls (a0 : Value) {w : World} {K : KV} (h : M.frame_Cut a0 w K) : callT P F.frame_Cut [a0] w K :=
  callT_of_den (by kernel_rfl) Try.func147 (by kernel_rfl) M.frame_Cut.ok (M.frame_Cut.eq a0 w K ▸ h)
theorem M.frame_Cut.fcall (args : List Value) (w : World) (K : KV) : fcallT P F.frame_Cut args w K = callT P F.frame_Cut args w K := fcallT_eq Try.func147 (by kernel_rfl) (by kernel_rfl) args w K
theorem M.frame_Cut.rcall (a c args : List Value) (w : World) (K : KV) : callRT P (.func (.func F.frame_Cut) a.toArray c.toArray) args w K = callT P F.frame_Cut (a ++ args ++ c) w K := callR_fn Try.func147 (by kernel_rfl) (by kernel_rfl) a c args w K

def M.crc_More.j2 (a1 : Value) (x1 : List Value) (K1 : KL) (w : World) (K : KV) : Prop :=
  joinT (fun K3 =>
  iaT P T.sl_uint8 a1 (gv x1 2) w fun t14 w =>
  ldT P T.uint8 t14 w fun t15 w =>
  cvT P T.uint8 T.uint32 t15 w fun t18 w =>
  binT P .xor T.uint32 (.tmp 16) (.tmp 18) (gv x1 1) t18 w fun t19 w =>
  fcallT P F.crc_steps [t19, (.int .i64 8)] w fun t20 w =>
  K3 [t15, t20] w) fun x3 w =>
  binT P .add T.int (.tmp 12) (.const (.int .i64 1)) (gv x1 2) (.int .i64 1) w fun t21 w =>
  K1 [(gv x3 0), (gv x3 1), t21] w
/-- winnow/crc.More -/
def M.crc_More (a0 a1 : Value) (w : World) (K : KV) : Prop :=
  unT P .xor a0 w fun t9 w =>
  joinT (fun K0 =>
  biT P .len #[T.sl_uint8] T.int [false] [a1] w fun t11 w =>
  loopT [undef, t9, (.int .i64 0)] w fun K1 x1 w =>
  binT P .lss T.int (.tmp 12) (.tmp 11) (gv x1 2) t11 w fun t13 w =>
  joinT (fun K2 =>
  condT t13 (
  K2 [] w) (
  K0 [a1, t11, (gv x1 2), (gv x1 0), (gv x1 1)] w)) fun x2 w =>
  M.crc_More.j2 a1 x1 K1 w K) fun x0 w =>
  unT P .xor (gv x0 4) w fun t23 w =>
  K t23 w
def M.crc_More.L : List Nat := [0, 1, 4, 5, 7, 12, 11, 10]
def M.crc_More.pl : Nat → Plan := fun id => ⟨.nil, [], false, []⟩
theorem M.crc_More.eq (a0 a1 : Value) (w : World) (K : KV) : M.crc_More a0 a1 w K = den P M.crc_More.L M.crc_More.pl (Try.f148.body.getD .skip) (argE [a0, a1]) w (bodyQ P Try.f148.results.toList K) := by kernel_rfl
theorem M.crc_More.ok : okFn M.crc_More.L M.crc_More.pl Try.f148 (Try.f148.body.getD .skip) 2 = true := by kernel_rfl
theorem M.crc_More.calls (a0 a1 : Value) {w : World} {K : KV} (h : M.crc_More a0 a1 w K) : callT P F.crc_More [a0, a1] w K :=
  callT_of_den (by kernel_rfl) Try.func148 (by kernel_rfl) M.crc_More.ok (M.crc_More.eq a0 a1 w K ▸ h)
theorem M.crc_More.fcall (args : List Value) (w : World) (K : KV) : fcallT P F.crc_More args w K = callT P F.crc_More args w K := fcallT_eq Try.func148 (by kernel_rfl) (by kernel_rfl) args w K
theorem M.crc_More.rcall (a c args : List Value) (w : World) (K : KV) : callRT P (.func (.func F.crc_More) a.toArray c.toArray) args w K = callT P F.crc_More (a ++ args ++ c) w K := callR_fn Try.func148 (by kernel_rfl) (by kernel_rfl) a c args w K

def M.math_bits_Len64.j2 (x2 : List Value) (w : World) (K : KV) : Prop :=
  cvT P T.uint64 T.uint8 (gv x2 0) w fun t21 w =>
  ixT P T.string (.string ⟨#[0, 1, 2, 2, 3, 3, 3, 3, 4, 4, 4, 4, 4, 4, 4, 4, 5, 5, 5, 5, 5, 5, 5, 5, 5, 5, 5, 5, 5, 5, 5, 5, 6, 6, 6, 6, 6, 6, 6, 6, 6, 6, 6, 6, 6, 6, 6, 6, 6, 6, 6, 6, 6, 6, 6, 6, 6, 6, 6, 6, 6, 6, 6, 6, 7, 7, 7, 7, 7, 7, 7, 7, 7, 7, 7, 7, 7, 7, 7, 7, 7, 7, 7, 7, 7, 7, 7, 7, 7, 7, 7, 7, 7, 7, 7, 7, 7, 7, 7, 7, 7, 7, 7, 7, 7, 7, 7, 7, 7, 7, 7, 7, 7, 7, 7, 7, 7, 7, 7, 7, 7, 7, 7, 7, 7, 7, 7, 7, 8, 8, 8, 8, 8, 8, 8, 8, 8, 8, 8, 8, 8, 8, 8, 8, 8, 8, 8, 8, 8, 8, 8, 8, 8, 8, 8, 8, 8, 8, 8, 8, 8, 8, 8, 8, 8, 8, 8, 8, 8, 8, 8, 8, 8, 8, 8, 8, 8, 8, 8, 8, 8, 8, 8, 8, 8, 8, 8, 8, 8, 8, 8, 8, 8, 8, 8, 8, 8, 8, 8, 8, 8, 8, 8, 8, 8, 8, 8, 8, 8, 8, 8, 8, 8, 8, 8, 8, 8, 8, 8, 8, 8, 8, 8, 8, 8, 8, 8, 8, 8, 8, 8, 8, 8, 8, 8, 8, 8, 8, 8, 8, 8, 8, 8, 8, 8, 8, 8, 8, 8, 8, 8, 8, 8, 8, 8, 8]⟩) t21 w fun t22 w =>
  cvT P T.uint8 T.int t22 w fun t23 w =>
  binT P .add T.int (.tmp 19) (.tmp 23) (gv x2 1) t23 w fun t24 w =>
  K t24 w
def M.math_bits_Len64.j1 (x1 : List Value) (w : World) (K : KV) : Prop :=
  joinT (fun K2 =>
  binT P .geq T.uint64 (.tmp 13) (.const (.int .u64 256)) (gv x1 0) (.int .u64 256) w fun t14 w =>
  condT t14 (
  binT P .shr T.uint64 (.tmp 15) (.const (.int .u64 8)) (gv x1 0) (.int .u64 8) w fun t16 w =>
  binT P .add T.int (.tmp 17) (.const (.int .i64 8)) (gv x1 1) (.int .i64 8) w fun t18 w =>
  K2 [t16, t18] w) (
  K2 [(gv x1 0), (gv x1 1)] w)) fun x2 w =>
  M.math_bits_Len64.j2 x2 w K
def M.math_bits_Len64.j0 (x0 : List Value) (w : World) (K : KV) : Prop :=
  joinT (fun K1 =>
  binT P .geq T.uint64 (.tmp 7) (.const (.int .u64 65536)) (gv x0 0) (.int .u64 65536) w fun t8 w =>
  condT t8 (
  binT P .shr T.uint64 (.tmp 9) (.const (.int .u64 16)) (gv x0 0) (.int .u64 16) w fun t10 w =>
  binT P .add T.int (.tmp 11) (.const (.int .i64 16)) (gv x0 1) (.int .i64 16) w fun t12 w =>
  K1 [t10, t12] w) (
  K1 [(gv x0 0), (gv x0 1)] w)) fun x1 w =>
  M.math_bits_Len64.j1 x1 w K
/-- math/bits.Len64 -/
def M.math_bits_Len64 (a0 : Value) (w : World) (K : KV) : Prop :=
  joinT (fun K0 =>
  binT P .geq T.uint64 (.tmp 3) (.const (.int .u64 4294967296)) a0 (.int .u64 4294967296) w fun t4 w =>
  condT t4 (
  binT P .shr T.uint64 (.tmp 5) (.const (.int .u64 32)) a0 (.int .u64 32) w fun t6 w =>
  K0 [t6, (.int .i64 32)] w) (
  K0 [a0, (.int .i64 0)] w)) fun x0 w =>
  M.math_bits_Len64.j0 x0 w K
def M.math_bits_Len64.L : List Nat := [0, 2]
def M.math_bits_Len64.pl : Nat → Plan := fun id => ⟨.nil, [], false, []⟩
theorem M.math_bits_Len64.eq (a0 : Value) (w : World) (K : KV) : M.math_bits_Len64 a0 w K = den P M.math_bits_Len64.L M.math_bits_Len64.pl (Try.f173.body.getD .skip) (argE [a0]) w (bodyQ P Try.f173.results.toList K) := by kernel_rfl
theorem M.math_bits_Len64.ok : okFn M.math_bits_Len64.L M.math_bits_Len64.pl Try.f173 (Try.f173.body.getD .skip) 1 = true := by kernel_rfl
theorem M.math_bits_Len64.calls (a0 : Value) {w : World} {K : KV} (h : M.math_bits_Len64 a0 w K) : callT P F.math_bits_Len64 [a0] w K :=
  callT_of_den (by kernel_rfl) Try.func173 (by kernel_rfl) M.math_bits_Len64.ok (M.math_bits_Len64.eq a0 w K ▸ h)
theorem M.math_bits_Len64.fcall (args : List Value) (w : World) (K : KV) : fcallT P F.math_bits_Len64 args w K = callT P F.math_bits_Len64 args w K := fcallT_eq Try.func173 (by kernel_rfl) (by kernel_rfl) args w K
theorem M.math_bits_Len64.rcall (a c args : List Value) (w : World) (K : KV) : callRT P (.func (.func F.math_bits_Len64) a.toArray c.toArray) args w K = callT P F.math_bits_Len64 (a ++ args ++ c) w K := callR_fn Try.func173 (by kernel_rfl) (by kernel_rfl) a c args w K

def M.slices_pdqsortOrdered_int.j6 (a0 : Value) (x6 : List Value) (x0 : List Value) (x4 : List Value) (t21 : Value) (x3 : List Value) (K0 : KL) (w : World) (K : KV) : Prop :=
  fcallT P F.slices_partitionOrdered_int [a0, (gv x6 1), (gv x0 13), (gv x4 0)] w fun t99 w =>
  exT P t99 0 w fun t100 w =>
  exT P t99 1 w fun t101 w =>
  binT P .sub T.int (.tmp 103) (.tmp 104) t100 (gv x6 1) w fun t105 w =>
  binT P .sub T.int (.tmp 106) (.tmp 107) (gv x0 13) t100 w fun t108 w =>
  binT P .quo T.int (.tmp 109) (.const (.int .i64 8)) t21 (.int .i64 8) w fun t110 w =>
  binT P .lss T.int (.tmp 111) (.tmp 112) t105 t108 w fun t113 w =>
  condT t113 (
  binT P .geq T.int (.tmp 114) (.tmp 115) t105 t110 w fun t116 w =>
  fcallT P F.slices_pdqsortOrdered_int [a0, (gv x6 1), t100, (gv x3 0)] w fun t121 w =>
  binT P .add T.int (.tmp 122) (.const (.int .i64 1)) t100 (.int .i64 1) w fun t123 w =>
  K0 [t21, (gv x3 0), (gv x4 0), (gv x4 1), (gv x6 0), t123, t100, t101, t101, t105, t108, t110, t116, (gv x0 13)] w) (
  binT P .geq T.int (.tmp 124) (.tmp 125) t108 t110 w fun t126 w =>
  binT P .add T.int (.tmp 128) (.const (.int .i64 1)) t100 (.int .i64 1) w fun t129 w =>
  fcallT P F.slices_pdqsortOrdered_int [a0, t129, (gv x0 13), (gv x3 0)] w fun t132 w =>
  K0 [t21, (gv x3 0), (gv x4 0), (gv x4 1), (gv x6 0), (gv x6 1), t100, t101, t101, t105, t108, t110, t126, t100] w)
def M.slices_pdqsortOrdered_int.j5 (x0 : List Value) (a0 : Value) (x4 : List Value) (K0 : KL) (t21 : Value) (x3 : List Value) (w : World) (K : KV) : Prop :=
  joinT (fun K6 =>
  drawT w fun w =>
  w = w ∧ quietT (fun K' => binT P .gtr T.int (.tmp 73) (.const (.int .i64 0)) (gv x0 5) (.int .i64 0) w K') w fun t74 =>
  w = w ∧ quietT (fun K' => guardT (isB t74 true) (fun K' => K' a0 w) w K') w fun t76 =>
  quietT (fun K' => guardT (isB t74 true) (fun K' => K' (gv x0 5) w) w K') w fun t77 =>
  quietT (fun K' => guardT (isB t74 true) (fun K' => binT P .sub T.int (.tmp 77) (.const (.int .i64 1)) t77 (.int .i64 1) w K') w K') w fun t78 =>
  quietT (fun K' => guardT (isB t74 true) (fun K' => iaT P T.sl_int t76 t78 w K') w K') w fun t79 =>
  quietT (fun K' => guardT (isB t74 true) (fun K' => ldT P T.int t79 w K') w K') w fun t80 =>
  quietT (fun K' => guardT (isB t74 true) (fun K' => K' a0 w) w K') w fun t81 =>
  quietT (fun K' => guardT (isB t74 true) (fun K' => K' (gv x4 0) w) w K') w fun t82 =>
  quietT (fun K' => guardT (isB t74 true) (fun K' => iaT P T.sl_int t81 t82 w K') w K') w fun t83 =>
  quietT (fun K' => guardT (isB t74 true) (fun K' => ldT P T.int t83 w K') w K') w fun t84 =>
  guardT (isB t74 true) (fun K' => fcallT P F.cmp_Less_int [t80, t84] w K') w fun t85 w =>
  quietT (fun K' => guardT (isB t74 true) (fun K' => unT P .not t85 w K') w K') w fun t86 =>
  quietT (fun K' => pickT t74 t86 (.bool false) w K') w fun t87 =>
  condT t87 (
  fcallT P F.slices_partitionEqualOrdered_int [a0, (gv x0 5), (gv x0 13), (gv x4 0)] w fun t92 w =>
  K0 [t21, (gv x3 0), (gv x4 0), (gv x4 1), t92, t92, (gv x0 6), (gv x0 7), (gv x0 8), (gv x0 9), (gv x0 10), (gv x0 11), (gv x0 12), (gv x0 13)] w) (
  K6 [(gv x0 4), (gv x0 5)] w)) fun x6 w =>
  M.slices_pdqsortOrdered_int.j6 a0 x6 x0 x4 t21 x3 K0 w K
def M.slices_pdqsortOrdered_int.j4 (x0 : List Value) (x4 : List Value) (a0 : Value) (K0 : KL) (t21 : Value) (x3 : List Value) (w : World) (K : KV) : Prop :=
  joinT (fun K5 =>
  guardT (isB (gv x0 12) true) (fun K' => K' (gv x0 8) w) w fun t63 w =>
  pickT (gv x0 12) t63 (.bool false) w fun t64 w =>
  guardT (isB t64 true) (fun K' => K' (gv x4 1) w) w fun t66 w =>
  guardT (isB t64 true) (fun K' => binT P .eql T.slices_sortedHint (.tmp 66) (.const (.int .i64 1)) t66 (.int .i64 1) w K') w fun t67 w =>
  pickT t64 t67 (.bool false) w fun t68 w =>
  condT t68 (
  fcallT P F.slices_partialInsertionSortOrdered_int [a0, (gv x0 5), (gv x0 13)] w fun t72 w =>
  condT t72 (
  K (.tuple #[]) w) (
  K5 [] w)) (
  K5 [] w)) fun x5 w =>
  M.slices_pdqsortOrdered_int.j5 x0 a0 x4 K0 t21 x3 w K
def M.slices_pdqsortOrdered_int.j3 (a0 : Value) (x0 : List Value) (K0 : KL) (t21 : Value) (x3 : List Value) (w : World) (K : KV) : Prop :=
  fcallT P F.slices_choosePivotOrdered_int [a0, (gv x0 5), (gv x0 13)] w fun t46 w =>
  exT P t46 0 w fun t47 w =>
  exT P t46 1 w fun t48 w =>
  joinT (fun K4 =>
  binT P .eql T.slices_sortedHint (.tmp 49) (.const (.int .i64 2)) t48 (.int .i64 2) w fun t50 w =>
  condT t50 (
  fcallT P F.slices_reverseRangeOrdered_int [a0, (gv x0 5), (gv x0 13)] w fun t54 w =>
  binT P .sub T.int (.tmp 55) (.const (.int .i64 1)) (gv x0 13) (.int .i64 1) w fun t56 w =>
  binT P .sub T.int (.tmp 57) (.tmp 58) t47 (gv x0 5) w fun t59 w =>
  binT P .sub T.int (.tmp 56) (.tmp 59) t56 t59 w fun t60 w =>
  K4 [t60, (.int .i64 1)] w) (
  K4 [t47, t48] w)) fun x4 w =>
  M.slices_pdqsortOrdered_int.j4 x0 x4 a0 K0 t21 x3 w K
def M.slices_pdqsortOrdered_int.j2 (x0 : List Value) (a0 : Value) (K0 : KL) (t21 : Value) (w : World) (K : KV) : Prop :=
  joinT (fun K3 =>
  unT P .not (gv x0 12) w fun t35 w =>
  condT t35 (
  fcallT P F.slices_breakPatternsOrdered_int [a0, (gv x0 5), (gv x0 13)] w fun t39 w =>
  binT P .sub T.int (.tmp 40) (.const (.int .i64 1)) (gv x0 1) (.int .i64 1) w fun t41 w =>
  K3 [t41] w) (
  K3 [(gv x0 1)] w)) fun x3 w =>
  M.slices_pdqsortOrdered_int.j3 a0 x0 K0 t21 x3 w K
def M.slices_pdqsortOrdered_int.j1 (x0 : List Value) (a0 : Value) (K0 : KL) (t21 : Value) (w : World) (K : KV) : Prop :=
  joinT (fun K2 =>
  binT P .eql T.int (.tmp 28) (.const (.int .i64 0)) (gv x0 1) (.int .i64 0) w fun t29 w =>
  condT t29 (
  fcallT P F.slices_heapSortOrdered_int [a0, (gv x0 5), (gv x0 13)] w fun t33 w =>
  K (.tuple #[]) w) (
  K2 [] w)) fun x2 w =>
  M.slices_pdqsortOrdered_int.j2 x0 a0 K0 t21 w K
def M.slices_pdqsortOrdered_int.j0 (x0 : List Value) (a0 : Value) (K0 : KL) (w : World) (K : KV) : Prop :=
  binT P .sub T.int (.tmp 19) (.tmp 20) (gv x0 13) (gv x0 5) w fun t21 w =>
  joinT (fun K1 =>
  binT P .leq T.int (.tmp 22) (.const (.int .i64 12)) t21 (.int .i64 12) w fun t23 w =>
  condT t23 (
  fcallT P F.slices_insertionSortOrdered_int [a0, (gv x0 5), (gv x0 13)] w fun t27 w =>
  K (.tuple #[]) w) (
  K1 [] w)) fun x1 w =>
  M.slices_pdqsortOrdered_int.j1 x0 a0 K0 t21 w K
/-- slices.pdqsortOrdered[int] -/
def M.slices_pdqsortOrdered_int (a0 a1 a2 a3 : Value) (w : World) (K : KV) : Prop :=
  loopT [undef, a3, undef, undef, undef, a1, undef, undef, (.bool true), undef, undef, undef, (.bool true), a2] w fun K0 x0 w =>
  M.slices_pdqsortOrdered_int.j0 x0 a0 K0 w K
def M.slices_pdqsortOrdered_int.L : List Nat := [0, 1, 2, 3, 8, 9, 10, 11, 12, 13, 14, 15, 16, 17, 18]
def M.slices_pdqsortOrdered_int.pl : Nat → Plan := fun id => cond (Nat.beq id 17) ⟨(.go 0 (.go 1 (.go 2 (.go 3 (.go 4 (.go 5 (.go 6 (.go 7 (.go 8 (.go 9 (.go 10 (.go 11 (.eff 12 (.go 13 (.go 14 .nil)) .stop))))))))))))), [12], false, [0, 1, 3, 7, 7, 23, 63, 127, 7, 7, 775, 1799, 4095, 8191, 16383]⟩ (⟨.nil, [], false, []⟩)
theorem M.slices_pdqsortOrdered_int.eq (a0 a1 a2 a3 : Value) (w : World) (K : KV) : M.slices_pdqsortOrdered_int a0 a1 a2 a3 w K = den P M.slices_pdqsortOrdered_int.L M.slices_pdqsortOrdered_int.pl (Try.f175.body.getD .skip) (argE [a0, a1, a2, a3]) w (bodyQ P Try.f175.results.toList K) := by kernel_rfl
theorem M.slices_pdqsortOrdered_int.ok : okFn M.slices_pdqsortOrdered_int.L M.slices_pdqsortOrdered_int.pl Try.f175 (Try.f175.body.getD .skip) 4 = true := by kernel_rfl
theorem M.slices_pdqsortOrdered_int.calls (a0 a1 a2 a3 : Value) {w : World} {K : KV} (h : M.slices_pdqsortOrdered_int a0 a1 a2 a3 w K) : callT P F.slices_pdqsortOrdered_int [a0, a1, a2, a3] w K :=
  callT_of_den (by kernel_rfl) Try.func175 (by kernel_rfl) M.slices_pdqsortOrdered_int.ok (M.slices_pdqsortOrdered_int.eq a0 a1 a2 a3 w K ▸ h)
theorem M.slices_pdqsortOrdered_int.fcall (args : List Value) (w : World) (K : KV) : fcallT P F.slices_pdqsortOrdered_int args w K = callT P F.slices_pdqsortOrdered_int args w K := fcallT_eq Try.func175 (by kernel_rfl) (by kernel_rfl) args w K
theorem M.slices_pdqsortOrdered_int.rcall (a c args : List Value) (w : World) (K : KV) : callRT P (.func (.func F.slices_pdqsortOrdered_int) a.toArray c.toArray) args w K = callT P F.slices_pdqsortOrdered_int (a ++ args ++ c) w K := callR_fn Try.func175 (by kernel_rfl) (by kernel_rfl) a c args w K

def M.num_U32.j2 (t6 : Value) (x1 : List Value) (K1 : KL) (w : World) (K : KV) : Prop :=
  joinT (fun K3 =>
  iaT P T.sl_uint8 t6 (gv x1 3) w fun t11 w =>
  ldT P T.uint8 t11 w fun t12 w =>
  cvT P T.uint8 T.uint32 t12 w fun t15 w =>
  binT P .mul T.int (.const (.int .i64 8)) (.tmp 16) (.int .i64 8) (gv x1 3) w fun t17 w =>
  cvT P T.int T.uint t17 w fun t18 w =>
  binT P .shl T.uint32 (.tmp 15) (.tmp 18) t15 t18 w fun t19 w =>
  binT P .or T.uint32 (.tmp 13) (.tmp 19) (gv x1 2) t19 w fun t20 w =>
  K3 [(gv x1 3), t12, t20] w) fun x3 w =>
  binT P .add T.int (.tmp 8) (.const (.int .i64 1)) (gv x1 3) (.int .i64 1) w fun t21 w =>
  K1 [(gv x3 0), (gv x3 1), (gv x3 2), t21] w
/-- winnow/num.U32 -/
def M.num_U32 (a0 : Value) (w : World) (K : KV) : Prop :=
  joinT (fun K0 =>
  slT P T.sl_uint8 a0 none (some (.int .i64 4)) none w fun t6 w =>
  biT P .len #[T.sl_uint8] T.int [false] [t6] w fun t7 w =>
  loopT [undef, undef, (.int .u32 0), (.int .i64 0)] w fun K1 x1 w =>
  binT P .lss T.int (.tmp 8) (.tmp 7) (gv x1 3) t7 w fun t9 w =>
  joinT (fun K2 =>
  condT t9 (
  K2 [] w) (
  K0 [t6, t7, (gv x1 3), (gv x1 0), (gv x1 1), (gv x1 2)] w)) fun x2 w =>
  M.num_U32.j2 t6 x1 K1 w K) fun x0 w =>
  K (gv x0 5) w
def M.num_U32.L : List Nat := [0, 2, 3, 4, 8, 7, 6]
def M.num_U32.pl : Nat → Plan := fun id => ⟨.nil, [], false, []⟩
theorem M.num_U32.eq (a0 : Value) (w : World) (K : KV) : M.num_U32 a0 w K = den P M.num_U32.L M.num_U32.pl (Try.f176.body.getD .skip) (argE [a0]) w (bodyQ P Try.f176.results.toList K) := by kernel_rfl
theorem M.num_U32.ok : okFn M.num_U32.L M.num_U32.pl Try.f176 (Try.f176.body.getD .skip) 1 = true := by kernel_rfl
theorem M.num_U32.calls (a0 : Value) {w : World} {K : KV} (h : M.num_U32 a0 w K) : callT P F.num_U32 [a0] w K :=
  callT_of_den (by kernel_rfl) Try.func176 (by kernel_rfl) M.num_U32.ok (M.num_U32.eq a0 w K ▸ h)
theorem M.num_U32.fcall (args : List Value) (w : World) (K : KV) : fcallT P F.num_U32 args w K = callT P F.num_U32 args w K := fcallT_eq Try.func176 (by kernel_rfl) (by kernel_rfl) args w K
theorem M.num_U32.rcall (a c args : List Value) (w : World) (K : KV) : callRT P (.func (.func F.num_U32) a.toArray c.toArray) args w K = callT P F.num_U32 (a ++ args ++ c) w K := callR_fn Try.func176 (by kernel_rfl) (by kernel_rfl) a c args w K

def M.crc_steps.j2 (x1 : List Value) (K1 : KL) (w : World) (K : KV) : Prop :=
  joinT (fun K3 =>
  binT P .shr T.uint32 (.tmp 8) (.const (.int .u64 1)) (gv x1 0) (.int .u64 1) w fun t9 w =>
  binT P .and T.uint32 (.tmp 10) (.const (.int .u32 1)) (gv x1 0) (.int .u32 1) w fun t11 w =>
  unT P .neg t11 w fun t12 w =>
  binT P .and T.uint32 (.const (.int .u32 3988292384)) (.tmp 12) (.int .u32 3988292384) t12 w fun t13 w =>
  binT P .xor T.uint32 (.tmp 9) (.tmp 13) t9 t13 w fun t14 w =>
  K3 [t14] w) fun x3 w =>
  binT P .add T.int (.tmp 6) (.const (.int .i64 1)) (gv x1 1) (.int .i64 1) w fun t15 w =>
  K1 [(gv x3 0), t15] w
/-- winnow/crc.steps -/
def M.crc_steps (a0 a1 : Value) (w : World) (K : KV) : Prop :=
  joinT (fun K0 =>
  loopT [a0, (.int .i64 0)] w fun K1 x1 w =>
  binT P .lss T.int (.tmp 6) (.tmp 5) (gv x1 1) a1 w fun t7 w =>
  joinT (fun K2 =>
  condT t7 (
  K2 [] w) (
  K0 [a1, (gv x1 1), (gv x1 0)] w)) fun x2 w =>
  M.crc_steps.j2 x1 K1 w K) fun x0 w =>
  K (gv x0 2) w
def M.crc_steps.L : List Nat := [0, 1, 4, 6, 5]
def M.crc_steps.pl : Nat → Plan := fun id => ⟨.nil, [], false, []⟩
theorem M.crc_steps.eq (a0 a1 : Value) (w : World) (K : KV) : M.crc_steps a0 a1 w K = den P M.crc_steps.L M.crc_steps.pl (Try.f177.body.getD .skip) (argE [a0, a1]) w (bodyQ P Try.f177.results.toList K) := by kernel_rfl
theorem M.crc_steps.ok : okFn M.crc_steps.L M.crc_steps.pl Try.f177 (Try.f177.body.getD .skip) 2 = true := by kernel_rfl
theorem M.crc_steps.calls (a0 a1 : Value) {w : World} {K : KV} (h : M.crc_steps a0 a1 w K) : callT P F.crc_steps [a0, a1] w K :=
  callT_of_den (by kernel_rfl) Try.func177 (by kernel_rfl) M.crc_steps.ok (M.crc_steps.eq a0 a1 w K ▸ h)
theorem M.crc_steps.fcall (args : List Value) (w : World) (K : KV) : fcallT P F.crc_steps args w K = callT P F.crc_steps args w K := fcallT_eq Try.func177 (by kernel_rfl) (by kernel_rfl) args w K
theorem M.crc_steps.rcall (a c args : List Value) (w : World) (K : KV) : callRT P (.func (.func F.crc_steps) a.toArray c.toArray) args w K = callT P F.crc_steps (a ++ args ++ c) w K := callR_fn Try.func177 (by kernel_rfl) (by kernel_rfl) a c args w K

/-- slices.nextPowerOfTwo -/
def M.slices_nextPowerOfTwo (a0 : Value) (w : World) (K : KV) : Prop :=
  cvT P T.int T.uint a0 w fun t4 w =>
  fcallT P F.math_bits_Len [t4] w fun t5 w =>
  binT P .shl T.uint (.const (.int .u64 1)) (.tmp 5) (.int .u64 1) t5 w fun t6 w =>
  K t6 w
def M.slices_nextPowerOfTwo.L : List Nat := [0, 2]
def M.slices_nextPowerOfTwo.pl : Nat → Plan := fun id => ⟨.nil, [], false, []⟩
theorem M.slices_nextPowerOfTwo.eq (a0 : Value) (w : World) (K : KV) : M.slices_nextPowerOfTwo a0 w K = den P M.slices_nextPowerOfTwo.L M.slices_nextPowerOfTwo.pl (Try.f179.body.getD .skip) (argE [a0]) w (bodyQ P Try.f179.results.toList K) := by kernel_rfl
theorem M.slices_nextPowerOfTwo.ok : okFn M.slices_nextPowerOfTwo.L M.slices_nextPowerOfTwo.pl Try.f179 (Try.f179.body.getD .skip) 1 = true := by kernel_rfl
theorem M.slices_nextPowerOfTwo.calls (a0 : Value) {w : World} {K : KV} (h : M.slices_nextPowerOfTwo a0 w K) : callT P F.slices_nextPowerOfTwo [a0] w K :=
  callT_of_den (by kernel_rfl) Try.func179 (by kernel_rfl) M.slices_nextPowerOfTwo.ok (M.slices_nextPowerOfTwo.eq a0 w K ▸ h)
theorem M.slices_nextPowerOfTwo.fcall (args : List Value) (w : World) (K : KV) : fcallT P F.slices_nextPowerOfTwo args w K = callT P F.slices_nextPowerOfTwo args w K := fcallT_eq Try.func179 (by kernel_rfl) (by kernel_rfl) args w K
theorem M.slices_nextPowerOfTwo.rcall (a c args : List Value) (w : World) (K : KV) : callRT P (.func (.func F.slices_nextPowerOfTwo) a.toArray c.toArray) args w K = callT P F.slices_nextPowerOfTwo (a ++ args ++ c) w K := callR_fn Try.func179 (by kernel_rfl) (by kernel_rfl) a c args w K

/-- (*slices.xorshift).Next -/
def M.pslices_xorshift_Next (a0 : Value) (w : World) (K : KV) : Prop :=
  drawT w fun w =>
  w = w ∧ quietT (fun K' => nilT a0 w K') w fun t4 =>
  quietT (fun K' => ldT P T.slices_xorshift t4 w K') w fun t5 =>
  w = w ∧ quietT (fun K' => nilT a0 w K') w fun t7 =>
  quietT (fun K' => ldT P T.slices_xorshift t7 w K') w fun t8 =>
  quietT (fun K' => binT P .shl T.slices_xorshift (.tmp 8) (.const (.int .u64 13)) t8 (.int .u64 13) w K') w fun t9 =>
  quietT (fun K' => binT P .xor T.slices_xorshift (.tmp 5) (.tmp 9) t5 t9 w K') w fun t10 =>
  quietT (fun K' => nilT a0 w K') w fun t11 =>
  stT P T.slices_xorshift t11 t10 w fun _ w =>
  drawT w fun w =>
  w = w ∧ quietT (fun K' => nilT a0 w K') w fun t13 =>
  quietT (fun K' => ldT P T.slices_xorshift t13 w K') w fun t14 =>
  w = w ∧ quietT (fun K' => nilT a0 w K') w fun t16 =>
  quietT (fun K' => ldT P T.slices_xorshift t16 w K') w fun t17 =>
  quietT (fun K' => binT P .shr T.slices_xorshift (.tmp 17) (.const (.int .u64 7)) t17 (.int .u64 7) w K') w fun t18 =>
  quietT (fun K' => binT P .xor T.slices_xorshift (.tmp 14) (.tmp 18) t14 t18 w K') w fun t19 =>
  quietT (fun K' => nilT a0 w K') w fun t20 =>
  stT P T.slices_xorshift t20 t19 w fun _ w =>
  drawT w fun w =>
  w = w ∧ quietT (fun K' => nilT a0 w K') w fun t22 =>
  quietT (fun K' => ldT P T.slices_xorshift t22 w K') w fun t23 =>
  w = w ∧ quietT (fun K' => nilT a0 w K') w fun t25 =>
  quietT (fun K' => ldT P T.slices_xorshift t25 w K') w fun t26 =>
  quietT (fun K' => binT P .shl T.slices_xorshift (.tmp 26) (.const (.int .u64 17)) t26 (.int .u64 17) w K') w fun t27 =>
  quietT (fun K' => binT P .xor T.slices_xorshift (.tmp 23) (.tmp 27) t23 t27 w K') w fun t28 =>
  quietT (fun K' => nilT a0 w K') w fun t29 =>
  stT P T.slices_xorshift t29 t28 w fun _ w =>
  nilT a0 w fun t31 w =>
  ldT P T.slices_xorshift t31 w fun t32 w =>
  K t32 w
def M.pslices_xorshift_Next.L : List Nat := [0, 2]
def M.pslices_xorshift_Next.pl : Nat → Plan := fun id => cond (Nat.beq id 1) ⟨(.go 0 (.go 1 (.go 2 (.go 3 (.go 4 (.go 5 (.go 6 (.go 7 (.go 8 (.eff 9 .nil .stop)))))))))), [9], false, [0, 1, 3, 0, 8, 24, 56, 127, 255, 511]⟩ (cond (Nat.beq id 2) ⟨(.go 0 (.go 1 (.go 2 (.go 3 (.go 4 (.go 5 (.go 6 (.go 7 (.go 8 (.eff 9 .nil .stop)))))))))), [9], false, [0, 1, 3, 0, 8, 24, 56, 127, 255, 511]⟩ (cond (Nat.beq id 3) ⟨(.go 0 (.go 1 (.go 2 (.go 3 (.go 4 (.go 5 (.go 6 (.go 7 (.go 8 (.eff 9 .nil .stop)))))))))), [9], false, [0, 1, 3, 0, 8, 24, 56, 127, 255, 511]⟩ (⟨.nil, [], false, []⟩)))
theorem M.pslices_xorshift_Next.eq (a0 : Value) (w : World) (K : KV) : M.pslices_xorshift_Next a0 w K = den P M.pslices_xorshift_Next.L M.pslices_xorshift_Next.pl (Try.f180.body.getD .skip) (argE [a0]) w (bodyQ P Try.f180.results.toList K) := by kernel_rfl
theorem M.pslices_xorshift_Next.ok : okFn M.pslices_xorshift_Next.L M.pslices_xorshift_Next.pl Try.f180 (Try.f180.body.getD .skip) 1 = true := by kernel_rfl
theorem M.pslices_xorshift_Next.calls (a0 : Value) {w : World} {K : KV} (h : M.pslices_xorshift_Next a0 w K) : callT P F.pslices_xorshift_Next [a0] w K :=
  callT_of_den (by kernel_rfl) Try.func180 (by kernel_rfl) M.pslices_xorshift_Next.ok (M.pslices_xorshift_Next.eq a0 w K ▸ h)
theorem M.pslices_xorshift_Next.fcall (args : List Value) (w : World) (K : KV) : fcallT P F.pslices_xorshift_Next args w K = callT P F.pslices_xorshift_Next args w K := fcallT_eq Try.func180 (by kernel_rfl) (by kernel_rfl) args w K
theorem M.pslices_xorshift_Next.rcall (a c args : List Value) (w : World) (K : KV) : callRT P (.func (.func F.pslices_xorshift_Next) a.toArray c.toArray) args w K = callT P F.pslices_xorshift_Next (a ++ args ++ c) w K := callR_fn Try.func180 (by kernel_rfl) (by kernel_rfl) a c args w K

def M.slices_insertionSortOrdered_int.j4 (x3 : List Value) (a0 : Value) (K3 : KL) (w : World) (K : KV) : Prop :=
  joinT (fun K5 =>
  drawT w fun w =>
  w = w ∧ w = w ∧ w = w ∧ w = w ∧ quietT (fun K' => binT P .sub T.int (.tmp 36) (.const (.int .i64 1)) (gv x3 0) (.int .i64 1) w K') w fun t37 =>
  w = w ∧ w = w ∧ quietT (fun K' => binT P .sub T.int (.tmp 39) (.const (.int .i64 1)) (gv x3 0) (.int .i64 1) w K') w fun t40 =>
  quietT (fun K' => iaT P T.sl_int a0 t40 w K') w fun t41 =>
  quietT (fun K' => ldT P T.int t41 w K') w fun t42 =>
  w = w ∧ w = w ∧ quietT (fun K' => iaT P T.sl_int a0 (gv x3 0) w K') w fun t45 =>
  quietT (fun K' => ldT P T.int t45 w K') w fun t46 =>
  quietT (fun K' => iaT P T.sl_int a0 (gv x3 0) w K') w fun t47 =>
  stT P T.int t47 t42 w fun _ w =>
  stabT (fun K' => binT P .sub T.int (.tmp 36) (.const (.int .i64 1)) (gv x3 0) (.int .i64 1) w K') w t37 ∧ stabT (fun K' => K' (gv x3 0) w) w (gv x3 0) ∧ stabT (fun K' => K' a0 w) w a0 ∧ quietT (fun K' => iaT P T.sl_int a0 t37 w K') w fun t48 =>
  stT P T.int t48 t46 w fun _ w =>
  K5 [] w) fun x5 w =>
  binT P .sub T.int (.tmp 31) (.const (.int .i64 1)) (gv x3 0) (.int .i64 1) w fun t32 w =>
  K3 [t32] w
def M.slices_insertionSortOrdered_int.j3 (x3 : List Value) (a1 : Value) (a0 : Value) (K2 : KL) (K3 : KL) (w : World) (K : KV) : Prop :=
  joinT (fun K4 =>
  drawT w fun w =>
  w = w ∧ w = w ∧ quietT (fun K' => binT P .gtr T.int (.tmp 16) (.tmp 17) (gv x3 0) a1 w K') w fun t18 =>
  w = w ∧ quietT (fun K' => guardT (isB t18 true) (fun K' => K' a0 w) w K') w fun t20 =>
  quietT (fun K' => guardT (isB t18 true) (fun K' => K' (gv x3 0) w) w K') w fun t21 =>
  quietT (fun K' => guardT (isB t18 true) (fun K' => iaT P T.sl_int t20 t21 w K') w K') w fun t22 =>
  quietT (fun K' => guardT (isB t18 true) (fun K' => ldT P T.int t22 w K') w K') w fun t23 =>
  quietT (fun K' => guardT (isB t18 true) (fun K' => K' a0 w) w K') w fun t24 =>
  quietT (fun K' => guardT (isB t18 true) (fun K' => K' (gv x3 0) w) w K') w fun t25 =>
  quietT (fun K' => guardT (isB t18 true) (fun K' => binT P .sub T.int (.tmp 25) (.const (.int .i64 1)) t25 (.int .i64 1) w K') w K') w fun t26 =>
  quietT (fun K' => guardT (isB t18 true) (fun K' => iaT P T.sl_int t24 t26 w K') w K') w fun t27 =>
  quietT (fun K' => guardT (isB t18 true) (fun K' => ldT P T.int t27 w K') w K') w fun t28 =>
  guardT (isB t18 true) (fun K' => fcallT P F.cmp_Less_int [t23, t28] w K') w fun t29 w =>
  quietT (fun K' => pickT t18 t29 (.bool false) w K') w fun t30 =>
  condT t30 (
  K4 [] w) (
  K2 [(gv x3 0)] w)) fun x4 w =>
  M.slices_insertionSortOrdered_int.j4 x3 a0 K3 w K
def M.slices_insertionSortOrdered_int.j0 (x0 : List Value) (a2 : Value) (a1 : Value) (a0 : Value) (K0 : KL) (w : World) (K : KV) : Prop :=
  joinT (fun K1 =>
  binT P .lss T.int (.tmp 10) (.tmp 11) (gv x0 1) a2 w fun t12 w =>
  condT t12 (
  K1 [] w) (
  K (.tuple #[]) w)) fun x1 w =>
  joinT (fun K2 =>
  loopT [(gv x0 1)] w fun K3 x3 w =>
  M.slices_insertionSortOrdered_int.j3 x3 a1 a0 K2 K3 w K) fun x2 w =>
  binT P .add T.int (.tmp 13) (.const (.int .i64 1)) (gv x0 1) (.int .i64 1) w fun t14 w =>
  K0 [(gv x2 0), t14] w
/-- slices.insertionSortOrdered[int] -/
def M.slices_insertionSortOrdered_int (a0 a1 a2 : Value) (w : World) (K : KV) : Prop :=
  binT P .add T.int (.tmp 8) (.const (.int .i64 1)) a1 (.int .i64 1) w fun t9 w =>
  loopT [undef, t9] w fun K0 x0 w =>
  M.slices_insertionSortOrdered_int.j0 x0 a2 a1 a0 K0 w K
def M.slices_insertionSortOrdered_int.L : List Nat := [0, 1, 2, 6, 7]
def M.slices_insertionSortOrdered_int.pl : Nat → Plan := fun id => cond (Nat.beq id 4) ⟨(.go 0 (.go 1 (.go 2 (.go 3 (.go 4 (.go 5 (.go 6 (.go 7 (.go 8 (.go 9 (.go 10 (.go 11 (.go 12 (.eff 13 (.go 14 .nil) .stop)))))))))))))), [13], false, [0, 0, 3, 7, 15, 15, 63, 127, 15, 15, 527, 1807, 3855, 8191, 16383]⟩ (cond (Nat.beq id 6) ⟨(.go 0 (.go 1 (.go 2 (.go 3 (.go 4 (.go 5 (.go 6 (.go 7 (.go 8 (.go 9 (.go 10 (.go 11 (.go 12 (.go 13 (.go 14 (.eff 15 (.go 16 (.eff 17 .nil .stop)) .stop)))))))))))))))), [15, 17], false, [0, 0, 0, 0, 8, 0, 0, 64, 224, 480, 0, 0, 3072, 7168, 16355, 32739, 65535, 131071]⟩ (⟨.nil, [], false, []⟩))
theorem M.slices_insertionSortOrdered_int.eq (a0 a1 a2 : Value) (w : World) (K : KV) : M.slices_insertionSortOrdered_int a0 a1 a2 w K = den P M.slices_insertionSortOrdered_int.L M.slices_insertionSortOrdered_int.pl (Try.f183.body.getD .skip) (argE [a0, a1, a2]) w (bodyQ P Try.f183.results.toList K) := by kernel_rfl
theorem M.slices_insertionSortOrdered_int.ok : okFn M.slices_insertionSortOrdered_int.L M.slices_insertionSortOrdered_int.pl Try.f183 (Try.f183.body.getD .skip) 3 = true := by kernel_rfl
theorem M.slices_insertionSortOrdered_int.calls (a0 a1 a2 : Value) {w : World} {K : KV} (h : M.slices_insertionSortOrdered_int a0 a1 a2 w K) : callT P F.slices_insertionSortOrdered_int [a0, a1, a2] w K :=
  callT_of_den (by kernel_rfl) Try.func183 (by kernel_rfl) M.slices_insertionSortOrdered_int.ok (M.slices_insertionSortOrdered_int.eq a0 a1 a2 w K ▸ h)
theorem M.slices_insertionSortOrdered_int.fcall (args : List Value) (w : World) (K : KV) : fcallT P F.slices_insertionSortOrdered_int args w K = callT P F.slices_insertionSortOrdered_int args w K := fcallT_eq Try.func183 (by kernel_rfl) (by kernel_rfl) args w K
theorem M.slices_insertionSortOrdered_int.rcall (a c args : List Value) (w : World) (K : KV) : callRT P (.func (.func F.slices_insertionSortOrdered_int) a.toArray c.toArray) args w K = callT P F.slices_insertionSortOrdered_int (a ++ args ++ c) w K := callR_fn Try.func183 (by kernel_rfl) (by kernel_rfl) a c args w K

def M.slices_heapSortOrdered_int.j1 (x1 : List Value) (K0 : KL) (a0 : Value) (t14 : Value) (a1 : Value) (K1 : KL) (w : World) (K : KV) : Prop :=
  joinT (fun K2 =>
  binT P .geq T.int (.tmp 18) (.const (.int .i64 0)) (gv x1 0) (.int .i64 0) w fun t19 w =>
  condT t19 (
  K2 [] w) (
  K0 [(gv x1 0)] w)) fun x2 w =>
  joinT (fun K3 =>
  fcallT P F.slices_siftDownOrdered_int [a0, (gv x1 0), t14, a1] w fun t26 w =>
  K3 [] w) fun x3 w =>
  binT P .sub T.int (.tmp 20) (.const (.int .i64 1)) (gv x1 0) (.int .i64 1) w fun t21 w =>
  K1 [t21] w
def M.slices_heapSortOrdered_int.j5 (a1 : Value) (x4 : List Value) (a0 : Value) (K4 : KL) (w : World) (K : KV) : Prop :=
  joinT (fun K6 =>
  drawT w fun w =>
  w = w ∧ w = w ∧ w = w ∧ w = w ∧ w = w ∧ quietT (fun K' => binT P .add T.int (.tmp 36) (.tmp 37) a1 (gv x4 0) w K') w fun t38 =>
  w = w ∧ w = w ∧ w = w ∧ quietT (fun K' => binT P .add T.int (.tmp 40) (.tmp 41) a1 (gv x4 0) w K') w fun t42 =>
  quietT (fun K' => iaT P T.sl_int a0 t42 w K') w fun t43 =>
  quietT (fun K' => ldT P T.int t43 w K') w fun t44 =>
  w = w ∧ w = w ∧ quietT (fun K' => iaT P T.sl_int a0 a1 w K') w fun t47 =>
  quietT (fun K' => ldT P T.int t47 w K') w fun t48 =>
  quietT (fun K' => iaT P T.sl_int a0 a1 w K') w fun t49 =>
  stT P T.int t49 t44 w fun _ w =>
  stabT (fun K' => binT P .add T.int (.tmp 36) (.tmp 37) a1 (gv x4 0) w K') w t38 ∧ stabT (fun K' => K' (gv x4 0) w) w (gv x4 0) ∧ stabT (fun K' => K' a1 w) w a1 ∧ stabT (fun K' => K' a0 w) w a0 ∧ quietT (fun K' => iaT P T.sl_int a0 t38 w K') w fun t50 =>
  stT P T.int t50 t48 w fun _ w =>
  fcallT P F.slices_siftDownOrdered_int [a0, (.int .i64 0), (gv x4 0), a1] w fun t55 w =>
  K6 [] w) fun x6 w =>
  binT P .sub T.int (.tmp 31) (.const (.int .i64 1)) (gv x4 0) (.int .i64 1) w fun t32 w =>
  K4 [t32] w
def M.slices_heapSortOrdered_int.j0 (t14 : Value) (a1 : Value) (a0 : Value) (w : World) (K : KV) : Prop :=
  binT P .sub T.int (.tmp 27) (.const (.int .i64 1)) t14 (.int .i64 1) w fun t28 w =>
  loopT [t28] w fun K4 x4 w =>
  joinT (fun K5 =>
  binT P .geq T.int (.tmp 29) (.const (.int .i64 0)) (gv x4 0) (.int .i64 0) w fun t30 w =>
  condT t30 (
  K5 [] w) (
  K (.tuple #[]) w)) fun x5 w =>
  M.slices_heapSortOrdered_int.j5 a1 x4 a0 K4 w K
/-- slices.heapSortOrdered[int] -/
def M.slices_heapSortOrdered_int (a0 a1 a2 : Value) (w : World) (K : KV) : Prop :=
  binT P .sub T.int (.tmp 12) (.tmp 13) a2 a1 w fun t14 w =>
  joinT (fun K0 =>
  binT P .sub T.int (.tmp 15) (.const (.int .i64 1)) t14 (.int .i64 1) w fun t16 w =>
  binT P .quo T.int (.tmp 16) (.const (.int .i64 2)) t16 (.int .i64 2) w fun t17 w =>
  loopT [t17] w fun K1 x1 w =>
  M.slices_heapSortOrdered_int.j1 x1 K0 a0 t14 a1 K1 w K) fun x0 w =>
  M.slices_heapSortOrdered_int.j0 t14 a1 a0 w K
def M.slices_heapSortOrdered_int.L : List Nat := [0, 1, 2, 6, 7, 8, 9, 10]
def M.slices_heapSortOrdered_int.pl : Nat → Plan := fun id => cond (Nat.beq id 10) ⟨(.go 0 (.go 1 (.go 2 (.go 3 (.go 4 (.go 5 (.go 6 (.go 7 (.go 8 (.go 9 (.go 10 (.go 11 (.go 12 (.go 13 (.go 14 (.go 15 (.go 16 (.eff 17 (.go 18 (.eff 19 .nil .stop)) .stop)))))))))))))))))), [17, 19], false, [0, 0, 0, 0, 0, 24, 0, 0, 0, 384, 960, 1984, 0, 0, 12288, 28672, 65475, 131011, 262143, 524287]⟩ (⟨.nil, [], false, []⟩)
theorem M.slices_heapSortOrdered_int.eq (a0 a1 a2 : Value) (w : World) (K : KV) : M.slices_heapSortOrdered_int a0 a1 a2 w K = den P M.slices_heapSortOrdered_int.L M.slices_heapSortOrdered_int.pl (Try.f184.body.getD .skip) (argE [a0, a1, a2]) w (bodyQ P Try.f184.results.toList K) := by kernel_rfl
theorem M.slices_heapSortOrdered_int.ok : okFn M.slices_heapSortOrdered_int.L M.slices_heapSortOrdered_int.pl Try.f184 (Try.f184.body.getD .skip) 3 = true := by kernel_rfl
theorem M.slices_heapSortOrdered_int.calls (a0 a1 a2 : Value) {w : World} {K : KV} (h : M.slices_heapSortOrdered_int a0 a1 a2 w K) : callT P F.slices_heapSortOrdered_int [a0, a1, a2] w K :=
  callT_of_den (by kernel_rfl) Try.func184 (by kernel_rfl) M.slices_heapSortOrdered_int.ok (M.slices_heapSortOrdered_int.eq a0 a1 a2 w K ▸ h)
theorem M.slices_heapSortOrdered_int.fcall (args : List Value) (w : World) (K : KV) : fcallT P F.slices_heapSortOrdered_int args w K = callT P F.slices_heapSortOrdered_int args w K := fcallT_eq Try.func184 (by kernel_rfl) (by kernel_rfl) args w K
theorem M.slices_heapSortOrdered_int.rcall (a c args : List Value) (w : World) (K : KV) : callRT P (.func (.func F.slices_heapSortOrdered_int) a.toArray c.toArray) args w K = callT P F.slices_heapSortOrdered_int (a ++ args ++ c) w K := callR_fn Try.func184 (by kernel_rfl) (by kernel_rfl) a c args w K

def M.slices_breakPatternsOrdered_int.j3 (a1 : Value) (x3 : List Value) (a0 : Value) (x0 : List Value) (K2 : KL) (w : World) (K : KV) : Prop :=
  drawT w fun w =>
  w = w ∧ w = w ∧ w = w ∧ w = w ∧ w = w ∧ quietT (fun K' => binT P .add T.int (.tmp 50) (.tmp 51) a1 (gv x3 0) w K') w fun t52 =>
  w = w ∧ w = w ∧ w = w ∧ quietT (fun K' => binT P .add T.int (.tmp 54) (.tmp 55) a1 (gv x3 0) w K') w fun t56 =>
  quietT (fun K' => iaT P T.sl_int a0 t56 w K') w fun t57 =>
  quietT (fun K' => ldT P T.int t57 w K') w fun t58 =>
  w = w ∧ w = w ∧ quietT (fun K' => iaT P T.sl_int a0 (gv x0 1) w K') w fun t61 =>
  quietT (fun K' => ldT P T.int t61 w K') w fun t62 =>
  quietT (fun K' => iaT P T.sl_int a0 (gv x0 1) w K') w fun t63 =>
  stT P T.int t63 t58 w fun _ w =>
  stabT (fun K' => binT P .add T.int (.tmp 50) (.tmp 51) a1 (gv x3 0) w K') w t52 ∧ stabT (fun K' => K' (gv x3 0) w) w (gv x3 0) ∧ stabT (fun K' => K' a1 w) w a1 ∧ stabT (fun K' => K' a0 w) w a0 ∧ quietT (fun K' => iaT P T.sl_int a0 t52 w K') w fun t64 =>
  stT P T.int t64 t62 w fun _ w =>
  K2 [(gv x3 0)] w
def M.slices_breakPatternsOrdered_int.j1 (t7 : Value) (t19 : Value) (t13 : Value) (a1 : Value) (a0 : Value) (x0 : List Value) (K0 : KL) (w : World) (K : KV) : Prop :=
  joinT (fun K2 =>
  fcallT P F.pslices_xorshift_Next [t7] w fun t36 w =>
  binT P .sub T.uint (.tmp 37) (.const (.int .u64 1)) t19 (.int .u64 1) w fun t38 w =>
  binT P .and T.uint (.tmp 36) (.tmp 38) t36 t38 w fun t39 w =>
  cvT P T.uint T.int t39 w fun t40 w =>
  joinT (fun K3 =>
  binT P .geq T.int (.tmp 41) (.tmp 42) t40 t13 w fun t43 w =>
  condT t43 (
  binT P .sub T.int (.tmp 44) (.tmp 45) t40 t13 w fun t46 w =>
  K3 [t46] w) (
  K3 [t40] w)) fun x3 w =>
  M.slices_breakPatternsOrdered_int.j3 a1 x3 a0 x0 K2 w K) fun x2 w =>
  binT P .add T.int (.tmp 34) (.const (.int .i64 1)) (gv x0 1) (.int .i64 1) w fun t35 w =>
  K0 [(gv x2 0), t35] w
def M.slices_breakPatternsOrdered_int.j0 (t13 : Value) (a1 : Value) (x0 : List Value) (t7 : Value) (t19 : Value) (a0 : Value) (K0 : KL) (w : World) (K : KV) : Prop :=
  joinT (fun K1 =>
  binT P .quo T.int (.tmp 28) (.const (.int .i64 4)) t13 (.int .i64 4) w fun t29 w =>
  binT P .mul T.int (.tmp 29) (.const (.int .i64 2)) t29 (.int .i64 2) w fun t30 w =>
  binT P .add T.int (.tmp 27) (.tmp 30) a1 t30 w fun t31 w =>
  binT P .add T.int (.tmp 31) (.const (.int .i64 1)) t31 (.int .i64 1) w fun t32 w =>
  binT P .leq T.int (.tmp 26) (.tmp 32) (gv x0 1) t32 w fun t33 w =>
  condT t33 (
  K1 [] w) (
  K (.tuple #[]) w)) fun x1 w =>
  M.slices_breakPatternsOrdered_int.j1 t7 t19 t13 a1 a0 x0 K0 w K
/-- slices.breakPatternsOrdered[int] -/
def M.slices_breakPatternsOrdered_int (a0 a1 a2 : Value) (w : World) (K : KV) : Prop :=
  binT P .sub T.int (.tmp 11) (.tmp 12) a2 a1 w fun t13 w =>
  binT P .geq T.int (.tmp 14) (.const (.int .i64 8)) t13 (.int .i64 8) w fun t15 w =>
  condT t15 (
  cvT P T.int T.slices_xorshift t13 w fun t17 w =>
  alT P T.slices_xorshift w fun t7 w =>
  stT P T.slices_xorshift t7 t17 w fun _ w =>
  fcallT P F.slices_nextPowerOfTwo [t13] w fun t19 w =>
  binT P .quo T.int (.tmp 21) (.const (.int .i64 4)) t13 (.int .i64 4) w fun t22 w =>
  binT P .mul T.int (.tmp 22) (.const (.int .i64 2)) t22 (.int .i64 2) w fun t23 w =>
  binT P .add T.int (.tmp 20) (.tmp 23) a1 t23 w fun t24 w =>
  binT P .sub T.int (.tmp 24) (.const (.int .i64 1)) t24 (.int .i64 1) w fun t25 w =>
  loopT [undef, t25] w fun K0 x0 w =>
  M.slices_breakPatternsOrdered_int.j0 t13 a1 x0 t7 t19 a0 K0 w K) (
  K (.tuple #[]) w)
def M.slices_breakPatternsOrdered_int.L : List Nat := [0, 1, 2, 6, 8, 9, 10, 7]
def M.slices_breakPatternsOrdered_int.pl : Nat → Plan := fun id => cond (Nat.beq id 10) ⟨(.go 0 (.go 1 (.go 2 (.go 3 (.go 4 (.go 5 (.go 6 (.go 7 (.go 8 (.go 9 (.go 10 (.go 11 (.go 12 (.go 13 (.go 14 (.go 15 (.go 16 (.eff 17 (.go 18 (.eff 19 .nil .stop)) .stop)))))))))))))))))), [17, 19], false, [0, 0, 0, 0, 0, 24, 0, 0, 0, 384, 960, 1984, 0, 0, 12288, 28672, 65475, 131011, 262143, 524287]⟩ (⟨.nil, [], false, []⟩)
theorem M.slices_breakPatternsOrdered_int.eq (a0 a1 a2 : Value) (w : World) (K : KV) : M.slices_breakPatternsOrdered_int a0 a1 a2 w K = den P M.slices_breakPatternsOrdered_int.L M.slices_breakPatternsOrdered_int.pl (Try.f185.body.getD .skip) (argE [a0, a1, a2]) w (bodyQ P Try.f185.results.toList K) := by kernel_rfl
theorem M.slices_breakPatternsOrdered_int.ok : okFn M.slices_breakPatternsOrdered_int.L M.slices_breakPatternsOrdered_int.pl Try.f185 (Try.f185.body.getD .skip) 3 = true := by kernel_rfl
theorem M.slices_breakPatternsOrdered_int.calls (a0 a1 a2 : Value) {w : World} {K : KV} (h : M.slices_breakPatternsOrdered_int a0 a1 a2 w K) : callT P F.slices_breakPatternsOrdered_int [a0, a1, a2] w K :=
  callT_of_den (by kernel_rfl) Try.func185 (by kernel_rfl) M.slices_breakPatternsOrdered_int.ok (M.slices_breakPatternsOrdered_int.eq a0 a1 a2 w K ▸ h)
theorem M.slices_breakPatternsOrdered_int.fcall (args : List Value) (w : World) (K : KV) : fcallT P F.slices_breakPatternsOrdered_int args w K = callT P F.slices_breakPatternsOrdered_int args w K := fcallT_eq Try.func185 (by kernel_rfl) (by kernel_rfl) args w K
theorem M.slices_breakPatternsOrdered_int.rcall (a c args : List Value) (w : World) (K : KV) : callRT P (.func (.func F.slices_breakPatternsOrdered_int) a.toArray c.toArray) args w K = callT P F.slices_breakPatternsOrdered_int (a ++ args ++ c) w K := callR_fn Try.func185 (by kernel_rfl) (by kernel_rfl) a c args w K

def M.slices_choosePivotOrdered_int.j0 (t9 : Value) (x0 : List Value) (w : World) (K : KV) : Prop :=
  ldT P T.int t9 w fun t49 w =>
  binT P .eql T.int (.tmp 49) (.const (.int .i64 0)) t49 (.int .i64 0) w fun t52 w =>
  condT t52 (
  K (.tuple #[(gv x0 1), (.int .i64 1)]) w) (
  binT P .eql T.int (.tmp 49) (.const (.int .i64 12)) t49 (.int .i64 12) w fun t55 w =>
  condT t55 (
  K (.tuple #[(gv x0 1), (.int .i64 2)]) w) (
  K (.tuple #[(gv x0 1), (.int .i64 0)]) w))
/-- slices.choosePivotOrdered[int] -/
def M.slices_choosePivotOrdered_int (a0 a1 a2 : Value) (w : World) (K : KV) : Prop :=
  binT P .sub T.int (.tmp 13) (.tmp 14) a2 a1 w fun t15 w =>
  alT P T.int w fun t9 w =>
  binT P .quo T.int (.tmp 17) (.const (.int .i64 4)) t15 (.int .i64 4) w fun t18 w =>
  binT P .mul T.int (.tmp 18) (.const (.int .i64 1)) t18 (.int .i64 1) w fun t19 w =>
  binT P .add T.int (.tmp 16) (.tmp 19) a1 t19 w fun t20 w =>
  binT P .quo T.int (.tmp 22) (.const (.int .i64 4)) t15 (.int .i64 4) w fun t23 w =>
  binT P .mul T.int (.tmp 23) (.const (.int .i64 2)) t23 (.int .i64 2) w fun t24 w =>
  binT P .add T.int (.tmp 21) (.tmp 24) a1 t24 w fun t25 w =>
  binT P .quo T.int (.tmp 27) (.const (.int .i64 4)) t15 (.int .i64 4) w fun t28 w =>
  binT P .mul T.int (.tmp 28) (.const (.int .i64 3)) t28 (.int .i64 3) w fun t29 w =>
  binT P .add T.int (.tmp 26) (.tmp 29) a1 t29 w fun t30 w =>
  joinT (fun K0 =>
  binT P .geq T.int (.tmp 31) (.const (.int .i64 8)) t15 (.int .i64 8) w fun t32 w =>
  condT t32 (
  joinT (fun K1 =>
  binT P .geq T.int (.tmp 33) (.const (.int .i64 50)) t15 (.int .i64 50) w fun t34 w =>
  condT t34 (
  fcallT P F.slices_medianAdjacentOrdered_int [a0, t20, t9] w fun t37 w =>
  fcallT P F.slices_medianAdjacentOrdered_int [a0, t25, t9] w fun t40 w =>
  fcallT P F.slices_medianAdjacentOrdered_int [a0, t30, t9] w fun t43 w =>
  K1 [t37, t40, t43] w) (
  K1 [t20, t25, t30] w)) fun x1 w =>
  fcallT P F.slices_medianOrdered_int [a0, (gv x1 0), (gv x1 1), (gv x1 2), t9] w fun t48 w =>
  K0 [(gv x1 0), t48, (gv x1 2)] w) (
  K0 [t20, t25, t30] w)) fun x0 w =>
  M.slices_choosePivotOrdered_int.j0 t9 x0 w K
def M.slices_choosePivotOrdered_int.L : List Nat := [0, 1, 2, 6, 7, 8, 10, 11, 12, 51, 54, 9]
def M.slices_choosePivotOrdered_int.pl : Nat → Plan := fun id => ⟨.nil, [], false, []⟩
theorem M.slices_choosePivotOrdered_int.eq (a0 a1 a2 : Value) (w : World) (K : KV) : M.slices_choosePivotOrdered_int a0 a1 a2 w K = den P M.slices_choosePivotOrdered_int.L M.slices_choosePivotOrdered_int.pl (Try.f186.body.getD .skip) (argE [a0, a1, a2]) w (bodyQ P Try.f186.results.toList K) := by kernel_rfl
theorem M.slices_choosePivotOrdered_int.ok : okFn M.slices_choosePivotOrdered_int.L M.slices_choosePivotOrdered_int.pl Try.f186 (Try.f186.body.getD .skip) 3 = true := by kernel_rfl
theorem M.slices_choosePivotOrdered_int.calls (a0 a1 a2 : Value) {w : World} {K : KV} (h : M.slices_choosePivotOrdered_int a0 a1 a2 w K) : callT P F.slices_choosePivotOrdered_int [a0, a1, a2] w K :=
  callT_of_den (by kernel_rfl) Try.func186 (by kernel_rfl) M.slices_choosePivotOrdered_int.ok (M.slices_choosePivotOrdered_int.eq a0 a1 a2 w K ▸ h)
theorem M.slices_choosePivotOrdered_int.fcall (args : List Value) (w : World) (K : KV) : fcallT P F.slices_choosePivotOrdered_int args w K = callT P F.slices_choosePivotOrdered_int args w K := fcallT_eq Try.func186 (by kernel_rfl) (by kernel_rfl) args w K
theorem M.slices_choosePivotOrdered_int.rcall (a c args : List Value) (w : World) (K : KV) : callRT P (.func (.func F.slices_choosePivotOrdered_int) a.toArray c.toArray) args w K = callT P F.slices_choosePivotOrdered_int (a ++ args ++ c) w K := callR_fn Try.func186 (by kernel_rfl) (by kernel_rfl) a c args w K

def M.slices_reverseRangeOrdered_int.j1 (a0 : Value) (x0 : List Value) (K0 : KL) (w : World) (K : KV) : Prop :=
  drawT w fun w =>
  w = w ∧ w = w ∧ w = w ∧ w = w ∧ w = w ∧ w = w ∧ quietT (fun K' => iaT P T.sl_int a0 (gv x0 1) w K') w fun t20 =>
  quietT (fun K' => ldT P T.int t20 w K') w fun t21 =>
  w = w ∧ w = w ∧ quietT (fun K' => iaT P T.sl_int a0 (gv x0 0) w K') w fun t24 =>
  quietT (fun K' => ldT P T.int t24 w K') w fun t25 =>
  quietT (fun K' => iaT P T.sl_int a0 (gv x0 0) w K') w fun t26 =>
  stT P T.int t26 t21 w fun _ w =>
  stabT (fun K' => K' (gv x0 1) w) w (gv x0 1) ∧ stabT (fun K' => K' a0 w) w a0 ∧ quietT (fun K' => iaT P T.sl_int a0 (gv x0 1) w K') w fun t27 =>
  stT P T.int t27 t25 w fun _ w =>
  binT P .add T.int (.tmp 28) (.const (.int .i64 1)) (gv x0 0) (.int .i64 1) w fun t29 w =>
  binT P .sub T.int (.tmp 30) (.const (.int .i64 1)) (gv x0 1) (.int .i64 1) w fun t31 w =>
  K0 [t29, t31] w
/-- slices.reverseRangeOrdered[int] -/
def M.slices_reverseRangeOrdered_int (a0 a1 a2 : Value) (w : World) (K : KV) : Prop :=
  binT P .sub T.int (.tmp 9) (.const (.int .i64 1)) a2 (.int .i64 1) w fun t10 w =>
  loopT [a1, t10] w fun K0 x0 w =>
  joinT (fun K1 =>
  binT P .lss T.int (.tmp 11) (.tmp 12) (gv x0 0) (gv x0 1) w fun t13 w =>
  condT t13 (
  K1 [] w) (
  K (.tuple #[]) w)) fun x1 w =>
  M.slices_reverseRangeOrdered_int.j1 a0 x0 K0 w K
def M.slices_reverseRangeOrdered_int.L : List Nat := [0, 1, 2, 6, 7]
def M.slices_reverseRangeOrdered_int.pl : Nat → Plan := fun id => cond (Nat.beq id 3) ⟨(.go 0 (.go 1 (.go 2 (.go 3 (.go 4 (.go 5 (.go 6 (.go 7 (.go 8 (.go 9 (.go 10 (.go 11 (.go 12 (.eff 13 (.go 14 (.eff 15 .nil .stop)) .stop)))))))))))))), [13, 15], false, [0, 0, 0, 0, 0, 0, 48, 112, 0, 0, 768, 1792, 4083, 8179, 16383, 32767]⟩ (⟨.nil, [], false, []⟩)
theorem M.slices_reverseRangeOrdered_int.eq (a0 a1 a2 : Value) (w : World) (K : KV) : M.slices_reverseRangeOrdered_int a0 a1 a2 w K = den P M.slices_reverseRangeOrdered_int.L M.slices_reverseRangeOrdered_int.pl (Try.f187.body.getD .skip) (argE [a0, a1, a2]) w (bodyQ P Try.f187.results.toList K) := by kernel_rfl
theorem M.slices_reverseRangeOrdered_int.ok : okFn M.slices_reverseRangeOrdered_int.L M.slices_reverseRangeOrdered_int.pl Try.f187 (Try.f187.body.getD .skip) 3 = true := by kernel_rfl
theorem M.slices_reverseRangeOrdered_int.calls (a0 a1 a2 : Value) {w : World} {K : KV} (h : M.slices_reverseRangeOrdered_int a0 a1 a2 w K) : callT P F.slices_reverseRangeOrdered_int [a0, a1, a2] w K :=
  callT_of_den (by kernel_rfl) Try.func187 (by kernel_rfl) M.slices_reverseRangeOrdered_int.ok (M.slices_reverseRangeOrdered_int.eq a0 a1 a2 w K ▸ h)
theorem M.slices_reverseRangeOrdered_int.fcall (args : List Value) (w : World) (K : KV) : fcallT P F.slices_reverseRangeOrdered_int args w K = callT P F.slices_reverseRangeOrdered_int args w K := fcallT_eq Try.func187 (by kernel_rfl) (by kernel_rfl) args w K
theorem M.slices_reverseRangeOrdered_int.rcall (a c args : List Value) (w : World) (K : KV) : callRT P (.func (.func F.slices_reverseRangeOrdered_int) a.toArray c.toArray) args w K = callT P F.slices_reverseRangeOrdered_int (a ++ args ++ c) w K := callR_fn Try.func187 (by kernel_rfl) (by kernel_rfl) a c args w K

def M.slices_partialInsertionSortOrdered_int.j5 (x5 : List Value) (a2 : Value) (a0 : Value) (K4 : KL) (K5 : KL) (w : World) (K : KV) : Prop :=
  joinT (fun K6 =>
  drawT w fun w =>
  w = w ∧ w = w ∧ quietT (fun K' => binT P .lss T.int (.tmp 17) (.tmp 18) (gv x5 0) a2 w K') w fun t19 =>
  w = w ∧ quietT (fun K' => guardT (isB t19 true) (fun K' => K' a0 w) w K') w fun t21 =>
  quietT (fun K' => guardT (isB t19 true) (fun K' => K' (gv x5 0) w) w K') w fun t22 =>
  quietT (fun K' => guardT (isB t19 true) (fun K' => iaT P T.sl_int t21 t22 w K') w K') w fun t23 =>
  quietT (fun K' => guardT (isB t19 true) (fun K' => ldT P T.int t23 w K') w K') w fun t24 =>
  quietT (fun K' => guardT (isB t19 true) (fun K' => K' a0 w) w K') w fun t25 =>
  quietT (fun K' => guardT (isB t19 true) (fun K' => K' (gv x5 0) w) w K') w fun t26 =>
  quietT (fun K' => guardT (isB t19 true) (fun K' => binT P .sub T.int (.tmp 26) (.const (.int .i64 1)) t26 (.int .i64 1) w K') w K') w fun t27 =>
  quietT (fun K' => guardT (isB t19 true) (fun K' => iaT P T.sl_int t25 t27 w K') w K') w fun t28 =>
  quietT (fun K' => guardT (isB t19 true) (fun K' => ldT P T.int t28 w K') w K') w fun t29 =>
  guardT (isB t19 true) (fun K' => fcallT P F.cmp_Less_int [t24, t29] w K') w fun t30 w =>
  quietT (fun K' => guardT (isB t19 true) (fun K' => unT P .not t30 w K') w K') w fun t31 =>
  quietT (fun K' => pickT t19 t31 (.bool false) w K') w fun t32 =>
  condT t32 (
  K6 [] w) (
  K4 [(gv x5 0)] w)) fun x6 w =>
  binT P .add T.int (.tmp 33) (.const (.int .i64 1)) (gv x5 0) (.int .i64 1) w fun t34 w =>
  K5 [t34] w
def M.slices_partialInsertionSortOrdered_int.j13 (x10 : List Value) (a0 : Value) (K12 : KL) (w : World) (K : KV) : Prop :=
  drawT w fun w =>
  w = w ∧ w = w ∧ w = w ∧ w = w ∧ quietT (fun K' => binT P .sub T.int (.tmp 82) (.const (.int .i64 1)) (gv x10 0) (.int .i64 1) w K') w fun t83 =>
  w = w ∧ w = w ∧ quietT (fun K' => binT P .sub T.int (.tmp 85) (.const (.int .i64 1)) (gv x10 0) (.int .i64 1) w K') w fun t86 =>
  quietT (fun K' => iaT P T.sl_int a0 t86 w K') w fun t87 =>
  quietT (fun K' => ldT P T.int t87 w K') w fun t88 =>
  w = w ∧ w = w ∧ quietT (fun K' => iaT P T.sl_int a0 (gv x10 0) w K') w fun t91 =>
  quietT (fun K' => ldT P T.int t91 w K') w fun t92 =>
  quietT (fun K' => iaT P T.sl_int a0 (gv x10 0) w K') w fun t93 =>
  stT P T.int t93 t88 w fun _ w =>
  stabT (fun K' => binT P .sub T.int (.tmp 82) (.const (.int .i64 1)) (gv x10 0) (.int .i64 1) w K') w t83 ∧ stabT (fun K' => K' (gv x10 0) w) w (gv x10 0) ∧ stabT (fun K' => K' a0 w) w a0 ∧ quietT (fun K' => iaT P T.sl_int a0 t83 w K') w fun t94 =>
  stT P T.int t94 t92 w fun _ w =>
  K12 [] w
def M.slices_partialInsertionSortOrdered_int.j11 (a0 : Value) (x10 : List Value) (K9 : KL) (K10 : KL) (w : World) (K : KV) : Prop :=
  joinT (fun K12 =>
  joinT (fun K13 =>
  drawT w fun w =>
  w = w ∧ w = w ∧ quietT (fun K' => iaT P T.sl_int a0 (gv x10 0) w K') w fun t70 =>
  quietT (fun K' => ldT P T.int t70 w K') w fun t71 =>
  w = w ∧ w = w ∧ quietT (fun K' => binT P .sub T.int (.tmp 73) (.const (.int .i64 1)) (gv x10 0) (.int .i64 1) w K') w fun t74 =>
  quietT (fun K' => iaT P T.sl_int a0 t74 w K') w fun t75 =>
  quietT (fun K' => ldT P T.int t75 w K') w fun t76 =>
  fcallT P F.cmp_Less_int [t71, t76] w fun t77 w =>
  quietT (fun K' => unT P .not t77 w K') w fun t78 =>
  condT t78 (
  K9 [(gv x10 0)] w) (
  K13 [] w)) fun x13 w =>
  M.slices_partialInsertionSortOrdered_int.j13 x10 a0 K12 w K) fun x12 w =>
  binT P .sub T.int (.tmp 66) (.const (.int .i64 1)) (gv x10 0) (.int .i64 1) w fun t67 w =>
  K10 [t67] w
def M.slices_partialInsertionSortOrdered_int.j17 (x14 : List Value) (a0 : Value) (K16 : KL) (w : World) (K : KV) : Prop :=
  drawT w fun w =>
  w = w ∧ w = w ∧ w = w ∧ w = w ∧ quietT (fun K' => binT P .sub T.int (.tmp 120) (.const (.int .i64 1)) (gv x14 0) (.int .i64 1) w K') w fun t121 =>
  w = w ∧ w = w ∧ quietT (fun K' => binT P .sub T.int (.tmp 123) (.const (.int .i64 1)) (gv x14 0) (.int .i64 1) w K') w fun t124 =>
  quietT (fun K' => iaT P T.sl_int a0 t124 w K') w fun t125 =>
  quietT (fun K' => ldT P T.int t125 w K') w fun t126 =>
  w = w ∧ w = w ∧ quietT (fun K' => iaT P T.sl_int a0 (gv x14 0) w K') w fun t129 =>
  quietT (fun K' => ldT P T.int t129 w K') w fun t130 =>
  quietT (fun K' => iaT P T.sl_int a0 (gv x14 0) w K') w fun t131 =>
  stT P T.int t131 t126 w fun _ w =>
  stabT (fun K' => binT P .sub T.int (.tmp 120) (.const (.int .i64 1)) (gv x14 0) (.int .i64 1) w K') w t121 ∧ stabT (fun K' => K' (gv x14 0) w) w (gv x14 0) ∧ stabT (fun K' => K' a0 w) w a0 ∧ quietT (fun K' => iaT P T.sl_int a0 t121 w K') w fun t132 =>
  stT P T.int t132 t130 w fun _ w =>
  K16 [] w
def M.slices_partialInsertionSortOrdered_int.j15 (a0 : Value) (x14 : List Value) (K3 : KL) (x4 : List Value) (x8 : List Value) (x9 : List Value) (K14 : KL) (w : World) (K : KV) : Prop :=
  joinT (fun K16 =>
  joinT (fun K17 =>
  drawT w fun w =>
  w = w ∧ w = w ∧ quietT (fun K' => iaT P T.sl_int a0 (gv x14 0) w K') w fun t108 =>
  quietT (fun K' => ldT P T.int t108 w K') w fun t109 =>
  w = w ∧ w = w ∧ quietT (fun K' => binT P .sub T.int (.tmp 111) (.const (.int .i64 1)) (gv x14 0) (.int .i64 1) w K') w fun t112 =>
  quietT (fun K' => iaT P T.sl_int a0 t112 w K') w fun t113 =>
  quietT (fun K' => ldT P T.int t113 w K') w fun t114 =>
  fcallT P F.cmp_Less_int [t109, t114] w fun t115 w =>
  quietT (fun K' => unT P .not t115 w K') w fun t116 =>
  condT t116 (
  K3 [(gv x4 0), (gv x8 0), (gv x9 0), (gv x14 0)] w) (
  K17 [] w)) fun x17 w =>
  M.slices_partialInsertionSortOrdered_int.j17 x14 a0 K16 w K) fun x16 w =>
  binT P .add T.int (.tmp 104) (.const (.int .i64 1)) (gv x14 0) (.int .i64 1) w fun t105 w =>
  K14 [t105] w
def M.slices_partialInsertionSortOrdered_int.j14 (x14 : List Value) (a2 : Value) (K3 : KL) (x4 : List Value) (x8 : List Value) (x9 : List Value) (a0 : Value) (K14 : KL) (w : World) (K : KV) : Prop :=
  joinT (fun K15 =>
  binT P .lss T.int (.tmp 101) (.tmp 102) (gv x14 0) a2 w fun t103 w =>
  condT t103 (
  K15 [] w) (
  K3 [(gv x4 0), (gv x8 0), (gv x9 0), (gv x14 0)] w)) fun x15 w =>
  M.slices_partialInsertionSortOrdered_int.j15 a0 x14 K3 x4 x8 x9 K14 w K
def M.slices_partialInsertionSortOrdered_int.j9 (a2 : Value) (x4 : List Value) (K3 : KL) (x8 : List Value) (x9 : List Value) (a0 : Value) (x1 : List Value) (w : World) (K : KV) : Prop :=
  binT P .sub T.int (.tmp 95) (.tmp 96) a2 (gv x4 0) w fun t97 w =>
  binT P .geq T.int (.tmp 97) (.const (.int .i64 2)) t97 (.int .i64 2) w fun t98 w =>
  condT t98 (
  binT P .add T.int (.tmp 99) (.const (.int .i64 1)) (gv x4 0) (.int .i64 1) w fun t100 w =>
  loopT [t100] w fun K14 x14 w =>
  M.slices_partialInsertionSortOrdered_int.j14 x14 a2 K3 x4 x8 x9 a0 K14 w K) (
  K3 [(gv x4 0), (gv x8 0), (gv x9 0), (gv x1 3)] w)
def M.slices_partialInsertionSortOrdered_int.j8 (x4 : List Value) (a0 : Value) (a1 : Value) (x1 : List Value) (a2 : Value) (K3 : KL) (x8 : List Value) (w : World) (K : KV) : Prop :=
  drawT w fun w =>
  w = w ∧ w = w ∧ w = w ∧ w = w ∧ quietT (fun K' => binT P .sub T.int (.tmp 45) (.const (.int .i64 1)) (gv x4 0) (.int .i64 1) w K') w fun t46 =>
  w = w ∧ w = w ∧ quietT (fun K' => binT P .sub T.int (.tmp 48) (.const (.int .i64 1)) (gv x4 0) (.int .i64 1) w K') w fun t49 =>
  quietT (fun K' => iaT P T.sl_int a0 t49 w K') w fun t50 =>
  quietT (fun K' => ldT P T.int t50 w K') w fun t51 =>
  w = w ∧ w = w ∧ quietT (fun K' => iaT P T.sl_int a0 (gv x4 0) w K') w fun t54 =>
  quietT (fun K' => ldT P T.int t54 w K') w fun t55 =>
  quietT (fun K' => iaT P T.sl_int a0 (gv x4 0) w K') w fun t56 =>
  stT P T.int t56 t51 w fun _ w =>
  stabT (fun K' => binT P .sub T.int (.tmp 45) (.const (.int .i64 1)) (gv x4 0) (.int .i64 1) w K') w t46 ∧ stabT (fun K' => K' (gv x4 0) w) w (gv x4 0) ∧ stabT (fun K' => K' a0 w) w a0 ∧ quietT (fun K' => iaT P T.sl_int a0 t46 w K') w fun t57 =>
  stT P T.int t57 t55 w fun _ w =>
  joinT (fun K9 =>
  binT P .sub T.int (.tmp 58) (.tmp 59) (gv x4 0) a1 w fun t60 w =>
  binT P .geq T.int (.tmp 60) (.const (.int .i64 2)) t60 (.int .i64 2) w fun t61 w =>
  condT t61 (
  binT P .sub T.int (.tmp 62) (.const (.int .i64 1)) (gv x4 0) (.int .i64 1) w fun t63 w =>
  loopT [t63] w fun K10 x10 w =>
  joinT (fun K11 =>
  binT P .geq T.int (.tmp 64) (.const (.int .i64 1)) (gv x10 0) (.int .i64 1) w fun t65 w =>
  condT t65 (
  K11 [] w) (
  K9 [(gv x10 0)] w)) fun x11 w =>
  M.slices_partialInsertionSortOrdered_int.j11 a0 x10 K9 K10 w K) (
  K9 [(gv x1 2)] w)) fun x9 w =>
  M.slices_partialInsertionSortOrdered_int.j9 a2 x4 K3 x8 x9 a0 x1 w K
def M.slices_partialInsertionSortOrdered_int.j7 (a2 : Value) (a1 : Value) (x7 : List Value) (x4 : List Value) (a0 : Value) (x1 : List Value) (K3 : KL) (w : World) (K : KV) : Prop :=
  joinT (fun K8 =>
  binT P .sub T.int (.tmp 38) (.tmp 39) a2 a1 w fun t40 w =>
  binT P .lss T.int (.tmp 40) (.const (.int .i64 50)) t40 (.int .i64 50) w fun t41 w =>
  condT t41 (
  K (.bool false) w) (
  K8 [(gv x7 0)] w)) fun x8 w =>
  M.slices_partialInsertionSortOrdered_int.j8 x4 a0 a1 x1 a2 K3 x8 w K
def M.slices_partialInsertionSortOrdered_int.j2 (x1 : List Value) (a2 : Value) (a0 : Value) (a1 : Value) (K1 : KL) (w : World) (K : KV) : Prop :=
  joinT (fun K3 =>
  joinT (fun K4 =>
  loopT [(gv x1 0)] w fun K5 x5 w =>
  M.slices_partialInsertionSortOrdered_int.j5 x5 a2 a0 K4 K5 w K) fun x4 w =>
  joinT (fun K7 =>
  binT P .eql T.int (.tmp 35) (.tmp 36) (gv x4 0) a2 w fun t37 w =>
  condT t37 (
  K (.bool true) w) (
  K7 [(gv x1 1)] w)) fun x7 w =>
  M.slices_partialInsertionSortOrdered_int.j7 a2 a1 x7 x4 a0 x1 K3 w K) fun x3 w =>
  binT P .add T.int (.tmp 15) (.const (.int .i64 1)) (gv x1 4) (.int .i64 1) w fun t16 w =>
  K1 [(gv x3 0), (gv x3 1), (gv x3 2), (gv x3 3), t16] w
def M.slices_partialInsertionSortOrdered_int.j1 (x1 : List Value) (K0 : KL) (a2 : Value) (a0 : Value) (a1 : Value) (K1 : KL) (w : World) (K : KV) : Prop :=
  joinT (fun K2 =>
  binT P .lss T.int (.tmp 13) (.const (.int .i64 5)) (gv x1 4) (.int .i64 5) w fun t14 w =>
  condT t14 (
  K2 [] w) (
  K0 [(gv x1 4), (gv x1 0), (gv x1 1), (gv x1 2), (gv x1 3)] w)) fun x2 w =>
  M.slices_partialInsertionSortOrdered_int.j2 x1 a2 a0 a1 K1 w K
/-- slices.partialInsertionSortOrdered[int] -/
def M.slices_partialInsertionSortOrdered_int (a0 a1 a2 : Value) (w : World) (K : KV) : Prop :=
  binT P .add T.int (.tmp 11) (.const (.int .i64 1)) a1 (.int .i64 1) w fun t12 w =>
  joinT (fun K0 =>
  loopT [t12, (.bool false), undef, undef, (.int .i64 0)] w fun K1 x1 w =>
  M.slices_partialInsertionSortOrdered_int.j1 x1 K0 a2 a0 a1 K1 w K) fun x0 w =>
  K (.bool false) w
def M.slices_partialInsertionSortOrdered_int.L : List Nat := [0, 1, 2, 6, 7, 8, 9, 10]
def M.slices_partialInsertionSortOrdered_int.pl : Nat → Plan := fun id => cond (Nat.beq id 5) ⟨(.go 0 (.go 1 (.go 2 (.go 3 (.go 4 (.go 5 (.go 6 (.go 7 (.go 8 (.go 9 (.go 10 (.go 11 (.go 12 (.eff 13 (.go 14 (.go 15 .nil)) .stop)))))))))))))), [13], false, [0, 0, 3, 7, 15, 15, 63, 127, 15, 15, 527, 1807, 3855, 8191, 16383, 32767]⟩ (cond (Nat.beq id 11) ⟨(.go 0 (.go 1 (.go 2 (.go 3 (.go 4 (.go 5 (.go 6 (.go 7 (.go 8 (.go 9 (.go 10 (.go 11 (.go 12 (.go 13 (.go 14 (.eff 15 (.go 16 (.eff 17 .nil .stop)) .stop)))))))))))))))), [15, 17], false, [0, 0, 0, 0, 8, 0, 0, 64, 224, 480, 0, 0, 3072, 7168, 16355, 32739, 65535, 131071]⟩ (cond (Nat.beq id 16) ⟨(.go 0 (.go 1 (.go 2 (.go 3 (.go 4 (.go 5 (.go 6 (.go 7 (.go 8 (.eff 9 (.go 10 .nil) .stop)))))))))), [9], false, [0, 0, 3, 7, 0, 0, 32, 112, 240, 511, 1023]⟩ (cond (Nat.beq id 17) ⟨(.go 0 (.go 1 (.go 2 (.go 3 (.go 4 (.go 5 (.go 6 (.go 7 (.go 8 (.go 9 (.go 10 (.go 11 (.go 12 (.go 13 (.go 14 (.eff 15 (.go 16 (.eff 17 .nil .stop)) .stop)))))))))))))))), [15, 17], false, [0, 0, 0, 0, 8, 0, 0, 64, 224, 480, 0, 0, 3072, 7168, 16355, 32739, 65535, 131071]⟩ (cond (Nat.beq id 22) ⟨(.go 0 (.go 1 (.go 2 (.go 3 (.go 4 (.go 5 (.go 6 (.go 7 (.go 8 (.eff 9 (.go 10 .nil) .stop)))))))))), [9], false, [0, 0, 3, 7, 0, 0, 32, 112, 240, 511, 1023]⟩ (cond (Nat.beq id 23) ⟨(.go 0 (.go 1 (.go 2 (.go 3 (.go 4 (.go 5 (.go 6 (.go 7 (.go 8 (.go 9 (.go 10 (.go 11 (.go 12 (.go 13 (.go 14 (.eff 15 (.go 16 (.eff 17 .nil .stop)) .stop)))))))))))))))), [15, 17], false, [0, 0, 0, 0, 8, 0, 0, 64, 224, 480, 0, 0, 3072, 7168, 16355, 32739, 65535, 131071]⟩ (⟨.nil, [], false, []⟩))))))
theorem M.slices_partialInsertionSortOrdered_int.eq (a0 a1 a2 : Value) (w : World) (K : KV) : M.slices_partialInsertionSortOrdered_int a0 a1 a2 w K = den P M.slices_partialInsertionSortOrdered_int.L M.slices_partialInsertionSortOrdered_int.pl (Try.f188.body.getD .skip) (argE [a0, a1, a2]) w (bodyQ P Try.f188.results.toList K) := by kernel_rfl
theorem M.slices_partialInsertionSortOrdered_int.ok : okFn M.slices_partialInsertionSortOrdered_int.L M.slices_partialInsertionSortOrdered_int.pl Try.f188 (Try.f188.body.getD .skip) 3 = true := by kernel_rfl
theorem M.slices_partialInsertionSortOrdered_int.calls (a0 a1 a2 : Value) {w : World} {K : KV} (h : M.slices_partialInsertionSortOrdered_int a0 a1 a2 w K) : callT P F.slices_partialInsertionSortOrdered_int [a0, a1, a2] w K :=
  callT_of_den (by kernel_rfl) Try.func188 (by kernel_rfl) M.slices_partialInsertionSortOrdered_int.ok (M.slices_partialInsertionSortOrdered_int.eq a0 a1 a2 w K ▸ h)
theorem M.slices_partialInsertionSortOrdered_int.fcall (args : List Value) (w : World) (K : KV) : fcallT P F.slices_partialInsertionSortOrdered_int args w K = callT P F.slices_partialInsertionSortOrdered_int args w K := fcallT_eq Try.func188 (by kernel_rfl) (by kernel_rfl) args w K
theorem M.slices_partialInsertionSortOrdered_int.rcall (a c args : List Value) (w : World) (K : KV) : callRT P (.func (.func F.slices_partialInsertionSortOrdered_int) a.toArray c.toArray) args w K = callT P F.slices_partialInsertionSortOrdered_int (a ++ args ++ c) w K := callR_fn Try.func188 (by kernel_rfl) (by kernel_rfl) a c args w K

/-- cmp.Less[int] -/
def M.cmp_Less_int (a0 a1 : Value) (w : World) (K : KV) : Prop :=
  fcallT P F.cmp_isNaN_int [a0] w fun t6 w =>
  guardT (isB t6 true) (fun K' => K' a1 w) w fun t8 w =>
  guardT (isB t6 true) (fun K' => fcallT P F.cmp_isNaN_int [t8] w K') w fun t9 w =>
  guardT (isB t6 true) (fun K' => unT P .not t9 w K') w fun t10 w =>
  pickT t6 t10 (.bool false) w fun t11 w =>
  guardT (isB t11 false) (fun K' => K' a0 w) w fun t13 w =>
  guardT (isB t11 false) (fun K' => K' a1 w) w fun t14 w =>
  guardT (isB t11 false) (fun K' => binT P .lss T.int (.tmp 13) (.tmp 14) t13 t14 w K') w fun t15 w =>
  pickT t11 (.bool true) t15 w fun t16 w =>
  K t16 w
def M.cmp_Less_int.L : List Nat := [0, 1, 4]
def M.cmp_Less_int.pl : Nat → Plan := fun id => ⟨.nil, [], false, []⟩
theorem M.cmp_Less_int.eq (a0 a1 : Value) (w : World) (K : KV) : M.cmp_Less_int a0 a1 w K = den P M.cmp_Less_int.L M.cmp_Less_int.pl (Try.f189.body.getD .skip) (argE [a0, a1]) w (bodyQ P Try.f189.results.toList K) := by kernel_rfl
theorem M.cmp_Less_int.ok : okFn M.cmp_Less_int.L M.cmp_Less_int.pl Try.f189 (Try.f189.body.getD .skip) 2 = true := by kernel_rfl
theorem M.cmp_Less_int.calls (a0 a1 : Value) {w : World} {K : KV} (h : M.cmp_Less_int a0 a1 w K) : callT P F.cmp_Less_int [a0, a1] w K :=
  callT_of_den (by kernel_rfl) Try.func189 (by kernel_rfl) M.cmp_Less_int.ok (M.cmp_Less_int.eq a0 a1 w K ▸ h)
theorem M.cmp_Less_int.fcall (args : List Value) (w : World) (K : KV) : fcallT P F.cmp_Less_int args w K = callT P F.cmp_Less_int args w K := fcallT_eq Try.func189 (by kernel_rfl) (by kernel_rfl) args w K
theorem M.cmp_Less_int.rcall (a c args : List Value) (w : World) (K : KV) : callRT P (.func (.func F.cmp_Less_int) a.toArray c.toArray) args w K = callT P F.cmp_Less_int (a ++ args ++ c) w K := callR_fn Try.func189 (by kernel_rfl) (by kernel_rfl) a c args w K

def M.slices_partitionEqualOrdered_int.j3 (x3 : List Value) (x1 : List Value) (a0 : Value) (a1 : Value) (K2 : KL) (K3 : KL) (w : World) (K : KV) : Prop :=
  joinT (fun K4 =>
  drawT w fun w =>
  w = w ∧ w = w ∧ quietT (fun K' => binT P .leq T.int (.tmp 29) (.tmp 30) (gv x3 0) (gv x1 1) w K') w fun t31 =>
  w = w ∧ quietT (fun K' => guardT (isB t31 true) (fun K' => K' a0 w) w K') w fun t33 =>
  quietT (fun K' => guardT (isB t31 true) (fun K' => K' a1 w) w K') w fun t34 =>
  quietT (fun K' => guardT (isB t31 true) (fun K' => iaT P T.sl_int t33 t34 w K') w K') w fun t35 =>
  quietT (fun K' => guardT (isB t31 true) (fun K' => ldT P T.int t35 w K') w K') w fun t36 =>
  quietT (fun K' => guardT (isB t31 true) (fun K' => K' a0 w) w K') w fun t37 =>
  quietT (fun K' => guardT (isB t31 true) (fun K' => K' (gv x3 0) w) w K') w fun t38 =>
  quietT (fun K' => guardT (isB t31 true) (fun K' => iaT P T.sl_int t37 t38 w K') w K') w fun t39 =>
  quietT (fun K' => guardT (isB t31 true) (fun K' => ldT P T.int t39 w K') w K') w fun t40 =>
  guardT (isB t31 true) (fun K' => fcallT P F.cmp_Less_int [t36, t40] w K') w fun t41 w =>
  quietT (fun K' => guardT (isB t31 true) (fun K' => unT P .not t41 w K') w K') w fun t42 =>
  quietT (fun K' => pickT t31 t42 (.bool false) w K') w fun t43 =>
  condT t43 (
  K4 [] w) (
  K2 [(gv x3 0)] w)) fun x4 w =>
  binT P .add T.int (.tmp 44) (.const (.int .i64 1)) (gv x3 0) (.int .i64 1) w fun t45 w =>
  K3 [t45] w
def M.slices_partitionEqualOrdered_int.j6 (x2 : List Value) (x6 : List Value) (a0 : Value) (a1 : Value) (K5 : KL) (K6 : KL) (w : World) (K : KV) : Prop :=
  joinT (fun K7 =>
  drawT w fun w =>
  w = w ∧ w = w ∧ quietT (fun K' => binT P .leq T.int (.tmp 46) (.tmp 47) (gv x2 0) (gv x6 0) w K') w fun t48 =>
  w = w ∧ quietT (fun K' => guardT (isB t48 true) (fun K' => K' a0 w) w K') w fun t50 =>
  quietT (fun K' => guardT (isB t48 true) (fun K' => K' a1 w) w K') w fun t51 =>
  quietT (fun K' => guardT (isB t48 true) (fun K' => iaT P T.sl_int t50 t51 w K') w K') w fun t52 =>
  quietT (fun K' => guardT (isB t48 true) (fun K' => ldT P T.int t52 w K') w K') w fun t53 =>
  quietT (fun K' => guardT (isB t48 true) (fun K' => K' a0 w) w K') w fun t54 =>
  quietT (fun K' => guardT (isB t48 true) (fun K' => K' (gv x6 0) w) w K') w fun t55 =>
  quietT (fun K' => guardT (isB t48 true) (fun K' => iaT P T.sl_int t54 t55 w K') w K') w fun t56 =>
  quietT (fun K' => guardT (isB t48 true) (fun K' => ldT P T.int t56 w K') w K') w fun t57 =>
  guardT (isB t48 true) (fun K' => fcallT P F.cmp_Less_int [t53, t57] w K') w fun t58 w =>
  quietT (fun K' => pickT t48 t58 (.bool false) w K') w fun t59 =>
  condT t59 (
  K7 [] w) (
  K5 [(gv x6 0)] w)) fun x7 w =>
  binT P .sub T.int (.tmp 60) (.const (.int .i64 1)) (gv x6 0) (.int .i64 1) w fun t61 w =>
  K6 [t61] w
def M.slices_partitionEqualOrdered_int.j8 (a0 : Value) (x5 : List Value) (x2 : List Value) (K1 : KL) (w : World) (K : KV) : Prop :=
  drawT w fun w =>
  w = w ∧ w = w ∧ w = w ∧ w = w ∧ w = w ∧ w = w ∧ quietT (fun K' => iaT P T.sl_int a0 (gv x5 0) w K') w fun t71 =>
  quietT (fun K' => ldT P T.int t71 w K') w fun t72 =>
  w = w ∧ w = w ∧ quietT (fun K' => iaT P T.sl_int a0 (gv x2 0) w K') w fun t75 =>
  quietT (fun K' => ldT P T.int t75 w K') w fun t76 =>
  quietT (fun K' => iaT P T.sl_int a0 (gv x2 0) w K') w fun t77 =>
  stT P T.int t77 t72 w fun _ w =>
  stabT (fun K' => K' (gv x5 0) w) w (gv x5 0) ∧ stabT (fun K' => K' a0 w) w a0 ∧ quietT (fun K' => iaT P T.sl_int a0 (gv x5 0) w K') w fun t78 =>
  stT P T.int t78 t76 w fun _ w =>
  binT P .add T.int (.tmp 79) (.const (.int .i64 1)) (gv x2 0) (.int .i64 1) w fun t80 w =>
  binT P .sub T.int (.tmp 81) (.const (.int .i64 1)) (gv x5 0) (.int .i64 1) w fun t82 w =>
  K1 [t80, t82] w
def M.slices_partitionEqualOrdered_int.j2 (x1 : List Value) (x2 : List Value) (a0 : Value) (a1 : Value) (K0 : KL) (K1 : KL) (w : World) (K : KV) : Prop :=
  joinT (fun K5 =>
  loopT [(gv x1 1)] w fun K6 x6 w =>
  M.slices_partitionEqualOrdered_int.j6 x2 x6 a0 a1 K5 K6 w K) fun x5 w =>
  joinT (fun K8 =>
  binT P .gtr T.int (.tmp 62) (.tmp 63) (gv x2 0) (gv x5 0) w fun t64 w =>
  condT t64 (
  K0 [(gv x2 0), (gv x5 0)] w) (
  K8 [] w)) fun x8 w =>
  M.slices_partitionEqualOrdered_int.j8 a0 x5 x2 K1 w K
/-- slices.partitionEqualOrdered[int] -/
def M.slices_partitionEqualOrdered_int (a0 a1 a2 a3 : Value) (w : World) (K : KV) : Prop :=
  drawT w fun w =>
  w = w ∧ w = w ∧ w = w ∧ w = w ∧ w = w ∧ w = w ∧ quietT (fun K' => iaT P T.sl_int a0 a3 w K') w fun t17 =>
  quietT (fun K' => ldT P T.int t17 w K') w fun t18 =>
  w = w ∧ w = w ∧ quietT (fun K' => iaT P T.sl_int a0 a1 w K') w fun t21 =>
  quietT (fun K' => ldT P T.int t21 w K') w fun t22 =>
  quietT (fun K' => iaT P T.sl_int a0 a1 w K') w fun t23 =>
  stT P T.int t23 t18 w fun _ w =>
  stabT (fun K' => K' a3 w) w a3 ∧ stabT (fun K' => K' a0 w) w a0 ∧ quietT (fun K' => iaT P T.sl_int a0 a3 w K') w fun t24 =>
  stT P T.int t24 t22 w fun _ w =>
  binT P .add T.int (.tmp 25) (.const (.int .i64 1)) a1 (.int .i64 1) w fun t26 w =>
  binT P .sub T.int (.tmp 27) (.const (.int .i64 1)) a2 (.int .i64 1) w fun t28 w =>
  joinT (fun K0 =>
  loopT [t26, t28] w fun K1 x1 w =>
  joinT (fun K2 =>
  loopT [(gv x1 0)] w fun K3 x3 w =>
  M.slices_partitionEqualOrdered_int.j3 x3 x1 a0 a1 K2 K3 w K) fun x2 w =>
  M.slices_partitionEqualOrdered_int.j2 x1 x2 a0 a1 K0 K1 w K) fun x0 w =>
  K (gv x0 0) w
def M.slices_partitionEqualOrdered_int.L : List Nat := [0, 1, 2, 3, 8, 9, 10]
def M.slices_partitionEqualOrdered_int.pl : Nat → Plan := fun id => cond (Nat.beq id 1) ⟨(.go 0 (.go 1 (.go 2 (.go 3 (.go 4 (.go 5 (.go 6 (.go 7 (.go 8 (.go 9 (.go 10 (.go 11 (.go 12 (.eff 13 (.go 14 (.eff 15 .nil .stop)) .stop)))))))))))))), [13, 15], false, [0, 0, 0, 0, 0, 0, 48, 112, 0, 0, 768, 1792, 4083, 8179, 16383, 32767]⟩ (cond (Nat.beq id 3) ⟨(.go 0 (.go 1 (.go 2 (.go 3 (.go 4 (.go 5 (.go 6 (.go 7 (.go 8 (.go 9 (.go 10 (.go 11 (.eff 12 (.go 13 (.go 14 .nil)) .stop))))))))))))), [12], false, [0, 0, 3, 7, 15, 15, 63, 127, 15, 15, 783, 1807, 4095, 8191, 16383]⟩ (cond (Nat.beq id 5) ⟨(.go 0 (.go 1 (.go 2 (.go 3 (.go 4 (.go 5 (.go 6 (.go 7 (.go 8 (.go 9 (.go 10 (.go 11 (.eff 12 (.go 13 .nil) .stop))))))))))))), [12], false, [0, 0, 3, 7, 15, 15, 63, 127, 15, 15, 783, 1807, 4095, 8191]⟩ (cond (Nat.beq id 8) ⟨(.go 0 (.go 1 (.go 2 (.go 3 (.go 4 (.go 5 (.go 6 (.go 7 (.go 8 (.go 9 (.go 10 (.go 11 (.go 12 (.eff 13 (.go 14 (.eff 15 .nil .stop)) .stop)))))))))))))), [13, 15], false, [0, 0, 0, 0, 0, 0, 48, 112, 0, 0, 768, 1792, 4083, 8179, 16383, 32767]⟩ (⟨.nil, [], false, []⟩))))
theorem M.slices_partitionEqualOrdered_int.eq (a0 a1 a2 a3 : Value) (w : World) (K : KV) : M.slices_partitionEqualOrdered_int a0 a1 a2 a3 w K = den P M.slices_partitionEqualOrdered_int.L M.slices_partitionEqualOrdered_int.pl (Try.f190.body.getD .skip) (argE [a0, a1, a2, a3]) w (bodyQ P Try.f190.results.toList K) := by kernel_rfl
theorem M.slices_partitionEqualOrdered_int.ok : okFn M.slices_partitionEqualOrdered_int.L M.slices_partitionEqualOrdered_int.pl Try.f190 (Try.f190.body.getD .skip) 4 = true := by kernel_rfl
theorem M.slices_partitionEqualOrdered_int.calls (a0 a1 a2 a3 : Value) {w : World} {K : KV} (h : M.slices_partitionEqualOrdered_int a0 a1 a2 a3 w K) : callT P F.slices_partitionEqualOrdered_int [a0, a1, a2, a3] w K :=
  callT_of_den (by kernel_rfl) Try.func190 (by kernel_rfl) M.slices_partitionEqualOrdered_int.ok (M.slices_partitionEqualOrdered_int.eq a0 a1 a2 a3 w K ▸ h)
theorem M.slices_partitionEqualOrdered_int.fcall (args : List Value) (w : World) (K : KV) : fcallT P F.slices_partitionEqualOrdered_int args w K = callT P F.slices_partitionEqualOrdered_int args w K := fcallT_eq Try.func190 (by kernel_rfl) (by kernel_rfl) args w K
theorem M.slices_partitionEqualOrdered_int.rcall (a c args : List Value) (w : World) (K : KV) : callRT P (.func (.func F.slices_partitionEqualOrdered_int) a.toArray c.toArray) args w K = callT P F.slices_partitionEqualOrdered_int (a ++ args ++ c) w K := callR_fn Try.func190 (by kernel_rfl) (by kernel_rfl) a c args w K

end Go.Proofs.Ytkjhekflgghbdaa
