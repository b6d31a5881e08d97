/-
  Printed by wip/Shallow.lean: what the operations come to at this seat's types. No condition.
-/
import Derived.Test.YtgcpljghnlohbaaN
import Derived.Test.YtgcpljghnlohbaaZEngSimp
set_option maxRecDepth 1000000
namespace Go.Proofs.Ytgcpljghnlohbaa
open Go.Eng

@[simp] theorem fact0 : isSlB P T.sl_api_Span = true := by refine Eq.trans ?_ rfl; kernel_rfl
@[simp] theorem fact1 : szE P T.sl_api_Span = 8 := by refine Eq.trans ?_ rfl; kernel_rfl
theorem et.sl_api_Span : ElemTy P T.sl_api_Span T.api_Span 8 80 := ElemTy.mk' (by kernel_rfl) (by kernel_rfl) (by kernel_rfl)
@[simp] theorem fact3 (rx ry : Operand)  (w : World) (K : KV) : binT P .eql T.p_buffer_Buffer rx ry (.pointer none) (.pointer none) w K = K (.bool true) w := by refine Eq.trans ?_ rfl; kernel_rfl
@[simp] theorem fact4 (rx ry : Operand) (a : Addr) (w : World) (K : KV) : binT P .eql T.p_buffer_Buffer rx ry (.pointer (some a)) (.pointer none) w K = K (.bool false) w := by refine Eq.trans ?_ rfl; kernel_rfl
@[simp] theorem fact5 (rx ry : Operand) (a : Addr) (w : World) (K : KV) : binT P .eql T.p_buffer_Buffer rx ry (.pointer none) (.pointer (some a)) w K = K (.bool false) w := by refine Eq.trans ?_ rfl; kernel_rfl
@[simp] theorem fact6 (b i : Nat) (w : World) (K : KV) : faT P T.api_Span (.pointer (some ⟨b, i, none⟩)) 6 w K = K (.pointer (some ⟨b, i + 6, none⟩)) w := by refine Eq.trans ?_ rfl; kernel_rfl
@[simp] theorem fact7 (b i : Nat) (w : World) (K : KV) : ldT P T.string (.pointer (some ⟨b, i, none⟩)) w K = ld1 P b i w K := by refine Eq.trans ?_ rfl; kernel_rfl
@[simp] theorem fact8 (b i : Nat) (w : World) (K : KV) : faT P T.api_Span (.pointer (some ⟨b, i, none⟩)) 5 w K = K (.pointer (some ⟨b, i + 5, none⟩)) w := by refine Eq.trans ?_ rfl; kernel_rfl
@[simp] theorem fact9 (b i : Nat) (w : World) (K : KV) : ldT P T.api_Span (.pointer (some ⟨b, i, none⟩)) w K = ldN P 8 b i w K := by refine Eq.trans ?_ rfl; kernel_rfl
@[simp] theorem fact10 : isSlB P T.sl_uint64 = true := by refine Eq.trans ?_ rfl; kernel_rfl
@[simp] theorem fact11 : szE P T.sl_uint64 = 1 := by refine Eq.trans ?_ rfl; kernel_rfl
theorem et.sl_uint64 : ElemTy P T.sl_uint64 T.uint64 1 8 := ElemTy.mk' (by kernel_rfl) (by kernel_rfl) (by kernel_rfl)
@[simp] theorem fact13 (b i : Nat) (w : World) (K : KV) : ldT P T.uint64 (.pointer (some ⟨b, i, none⟩)) w K = ld1 P b i w K := by refine Eq.trans ?_ rfl; kernel_rfl
@[simp] theorem fact14 (b i : Nat) (w : World) (K : KV) : faT P T.api_Span (.pointer (some ⟨b, i, none⟩)) 0 w K = K (.pointer (some ⟨b, i, none⟩)) w := by refine Eq.trans ?_ rfl; kernel_rfl
@[simp] theorem fact15 (x0 : Int) (w : World) (K : KV) : bsT P T.sl_uint64 1 #[(0, (.int .u64 x0))] w K = K (.slice (some ⟨w.heap.size, 0, none⟩) 1 1) (w.alloc (.cells #[(.int .u64 x0)] T.uint64)) := by refine Eq.trans ?_ rfl; kernel_rfl
@[simp] theorem fact16 (b i : Nat) (w : World) (K : KV) : faT P T.api_Span (.pointer (some ⟨b, i, none⟩)) 1 w K = K (.pointer (some ⟨b, i + 1, none⟩)) w := by refine Eq.trans ?_ rfl; kernel_rfl
@[simp] theorem fact17 (b i : Nat) (x : Int) (w : World) (K : KV) : stT P T.uint64 (.pointer (some ⟨b, i, none⟩)) (.int .u64 x) w K = st1 P b i (.int .u64 x) w K := by refine Eq.trans ?_ rfl; kernel_rfl
@[simp] theorem fact18 : isSlB P T.sl_int = true := by refine Eq.trans ?_ rfl; kernel_rfl
@[simp] theorem fact19 : szE P T.sl_int = 1 := by refine Eq.trans ?_ rfl; kernel_rfl
theorem et.sl_int : ElemTy P T.sl_int T.int 1 8 := ElemTy.mk' (by kernel_rfl) (by kernel_rfl) (by kernel_rfl)
@[simp] theorem fact21 (rx ry : Operand)  (w : World) (K : KV) : binT P .eql T.p_disk_Disk rx ry (.pointer none) (.pointer none) w K = K (.bool true) w := by refine Eq.trans ?_ rfl; kernel_rfl
@[simp] theorem fact22 (rx ry : Operand) (a : Addr) (w : World) (K : KV) : binT P .eql T.p_disk_Disk rx ry (.pointer (some a)) (.pointer none) w K = K (.bool false) w := by refine Eq.trans ?_ rfl; kernel_rfl
@[simp] theorem fact23 (rx ry : Operand) (a : Addr) (w : World) (K : KV) : binT P .eql T.p_disk_Disk rx ry (.pointer none) (.pointer (some a)) w K = K (.bool false) w := by refine Eq.trans ?_ rfl; kernel_rfl
@[simp] theorem fact24 : isSlB P T.sl_winnowlaw06_Op = true := by refine Eq.trans ?_ rfl; kernel_rfl
@[simp] theorem fact25 : szE P T.sl_winnowlaw06_Op = 5 := by refine Eq.trans ?_ rfl; kernel_rfl
theorem et.sl_winnowlaw06_Op : ElemTy P T.sl_winnowlaw06_Op T.winnowlaw06_Op 5 72 := ElemTy.mk' (by kernel_rfl) (by kernel_rfl) (by kernel_rfl)
@[simp] theorem fact27 (b i : Nat) (w : World) (K : KV) : faT P T.winnowlaw06_Op (.pointer (some ⟨b, i, none⟩)) 0 w K = K (.pointer (some ⟨b, i, none⟩)) w := by refine Eq.trans ?_ rfl; kernel_rfl
@[simp] theorem fact28 (b i : Nat) (w : World) (K : KV) : ldT P T.int (.pointer (some ⟨b, i, none⟩)) w K = ld1 P b i w K := by refine Eq.trans ?_ rfl; kernel_rfl
@[simp] theorem fact29 (b i : Nat) (w : World) (K : KV) : faT P T.winnowlaw06_Op (.pointer (some ⟨b, i, none⟩)) 1 w K = K (.pointer (some ⟨b, i + 1, none⟩)) w := by refine Eq.trans ?_ rfl; kernel_rfl
@[simp] theorem fact30 (b i : Nat) (w : World) (K : KV) : faT P T.winnowlaw06_Op (.pointer (some ⟨b, i, none⟩)) 3 w K = K (.pointer (some ⟨b, i + 3, none⟩)) w := by refine Eq.trans ?_ rfl; kernel_rfl
@[simp] theorem fact31 (b i : Nat) (w : World) (K : KV) : ldT P T.sl_uint8 (.pointer (some ⟨b, i, none⟩)) w K = ld1 P b i w K := by refine Eq.trans ?_ rfl; kernel_rfl
@[simp] theorem fact32 : isSlB P T.sl_sl_uint8 = true := by refine Eq.trans ?_ rfl; kernel_rfl
@[simp] theorem fact33 : szE P T.sl_sl_uint8 = 1 := by refine Eq.trans ?_ rfl; kernel_rfl
theorem et.sl_sl_uint8 : ElemTy P T.sl_sl_uint8 T.sl_uint8 1 24 := ElemTy.mk' (by kernel_rfl) (by kernel_rfl) (by kernel_rfl)
@[simp] theorem fact35 : isSlB P T.sl_uint8 = true := by refine Eq.trans ?_ rfl; kernel_rfl
@[simp] theorem fact36 : szE P T.sl_uint8 = 1 := by refine Eq.trans ?_ rfl; kernel_rfl
theorem et.sl_uint8 : ElemTy P T.sl_uint8 T.uint8 1 1 := ElemTy.mk' (by kernel_rfl) (by kernel_rfl) (by kernel_rfl)
@[simp] theorem fact38 (x0 : Int) (w : World) (K : KV) : bsT P T.sl_int 1 #[(0, (.int .i64 x0))] w K = K (.slice (some ⟨w.heap.size, 0, none⟩) 1 1) (w.alloc (.cells #[(.int .i64 x0)] T.int)) := by refine Eq.trans ?_ rfl; kernel_rfl
@[simp] theorem fact39 (b i : Nat) (w : World) (K : KV) : ldT P T.winnowlaw06_Op (.pointer (some ⟨b, i, none⟩)) w K = ldN P 5 b i w K := by refine Eq.trans ?_ rfl; kernel_rfl
@[simp] theorem fact40 (w : World) (K : KV) : alT P T.winnowlaw06_Op w K = K (.pointer (some ⟨w.heap.size, 0, none⟩)) (w.alloc (.cells #[(.int .i64 0), (.int .i64 0), (.int .i64 0), (.slice none 0 0), (.slice none 0 0)] T.winnowlaw06_Op)) := by refine Eq.trans ?_ rfl; kernel_rfl
@[simp] theorem fact41 (b i : Nat) (c_0 c_1 c_2 c_3 c_4 : Value) (w : World) (K : KV) : stT P T.winnowlaw06_Op (.pointer (some ⟨b, i, none⟩)) (.agg #[c_0, c_1, c_2, c_3, c_4]) w K = stN P b i [c_0, c_1, c_2, c_3, c_4] w K := by refine Eq.trans ?_ rfl; kernel_rfl
@[simp] theorem fact42 (b i : Nat) (w : World) (K : KV) : faT P T.winnowlaw06_Op (.pointer (some ⟨b, i, none⟩)) 2 w K = K (.pointer (some ⟨b, i + 2, none⟩)) w := by refine Eq.trans ?_ rfl; kernel_rfl
@[simp] theorem fact43 (b i : Nat) (w : World) (K : KV) : faT P T.winnowlaw06_Op (.pointer (some ⟨b, i, none⟩)) 4 w K = K (.pointer (some ⟨b, i + 4, none⟩)) w := by refine Eq.trans ?_ rfl; kernel_rfl
@[simp] theorem fact44 (b i : Nat) (w : World) (K : KV) : ldT P T.sl_int (.pointer (some ⟨b, i, none⟩)) w K = ld1 P b i w K := by refine Eq.trans ?_ rfl; kernel_rfl
@[simp] theorem fact45 (rx ry : Operand)  (w : World) (K : KV) : binT P .eql T.p_winnowref06_Disk rx ry (.pointer none) (.pointer none) w K = K (.bool true) w := by refine Eq.trans ?_ rfl; kernel_rfl
@[simp] theorem fact46 (rx ry : Operand) (a : Addr) (w : World) (K : KV) : binT P .eql T.p_winnowref06_Disk rx ry (.pointer (some a)) (.pointer none) w K = K (.bool false) w := by refine Eq.trans ?_ rfl; kernel_rfl
@[simp] theorem fact47 (rx ry : Operand) (a : Addr) (w : World) (K : KV) : binT P .eql T.p_winnowref06_Disk rx ry (.pointer none) (.pointer (some a)) w K = K (.bool false) w := by refine Eq.trans ?_ rfl; kernel_rfl
theorem mt.map_uint64_bool : MapTy P T.map_uint64_bool .u64 T.bool (.bool false) := MapTy.mk' (key := T.uint64) (by kernel_rfl) (by kernel_rfl) (by kernel_rfl)
@[simp] theorem fact49 (rx ry : Operand)  (w : World) (K : KV) : binT P .eql T.p_winnowref16_Buffer rx ry (.pointer none) (.pointer none) w K = K (.bool true) w := by refine Eq.trans ?_ rfl; kernel_rfl
@[simp] theorem fact50 (rx ry : Operand) (a : Addr) (w : World) (K : KV) : binT P .eql T.p_winnowref16_Buffer rx ry (.pointer (some a)) (.pointer none) w K = K (.bool false) w := by refine Eq.trans ?_ rfl; kernel_rfl
@[simp] theorem fact51 (rx ry : Operand) (a : Addr) (w : World) (K : KV) : binT P .eql T.p_winnowref16_Buffer rx ry (.pointer none) (.pointer (some a)) w K = K (.bool false) w := by refine Eq.trans ?_ rfl; kernel_rfl
@[simp] theorem fact52 : isSlB P T.sl_winnowlaw16_Op = true := by refine Eq.trans ?_ rfl; kernel_rfl
@[simp] theorem fact53 : szE P T.sl_winnowlaw16_Op = 11 := by refine Eq.trans ?_ rfl; kernel_rfl
theorem et.sl_winnowlaw16_Op : ElemTy P T.sl_winnowlaw16_Op T.winnowlaw16_Op 11 104 := ElemTy.mk' (by kernel_rfl) (by kernel_rfl) (by kernel_rfl)
@[simp] theorem fact55 (b i : Nat) (w : World) (K : KV) : ldT P T.winnowlaw16_Op (.pointer (some ⟨b, i, none⟩)) w K = ldN P 11 b i w K := by refine Eq.trans ?_ rfl; kernel_rfl
@[simp] theorem fact56 (w : World) (K : KV) : alT P T.winnowlaw16_Op w K = K (.pointer (some ⟨w.heap.size, 0, none⟩)) (w.alloc (.cells #[(.int .i64 0), (.int .u64 0), (.int .u64 0), (.int .u64 0), (.int .u64 0), (.int .u64 0), (.string ⟨#[]⟩), (.string ⟨#[]⟩), (.bool false), (.int .u64 0), (.int .u64 0)] T.winnowlaw16_Op)) := by refine Eq.trans ?_ rfl; kernel_rfl
@[simp] theorem fact57 (b i : Nat) (c_0 c_1 c_2 c_3 c_4 c_5 c_6 c_7 c_8 c_9 c_10 : Value) (w : World) (K : KV) : stT P T.winnowlaw16_Op (.pointer (some ⟨b, i, none⟩)) (.agg #[c_0, c_1, c_2, c_3, c_4, c_5, c_6, c_7, c_8, c_9, c_10]) w K = stN P b i [c_0, c_1, c_2, c_3, c_4, c_5, c_6, c_7, c_8, c_9, c_10] w K := by refine Eq.trans ?_ rfl; kernel_rfl
@[simp] theorem fact58 (b i : Nat) (w : World) (K : KV) : faT P T.winnowlaw16_Op (.pointer (some ⟨b, i, none⟩)) 0 w K = K (.pointer (some ⟨b, i, none⟩)) w := by refine Eq.trans ?_ rfl; kernel_rfl
@[simp] theorem fact59 (b i : Nat) (w : World) (K : KV) : faT P T.winnowlaw16_Op (.pointer (some ⟨b, i, none⟩)) 1 w K = K (.pointer (some ⟨b, i + 1, none⟩)) w := by refine Eq.trans ?_ rfl; kernel_rfl
@[simp] theorem fact60 (b i : Nat) (w : World) (K : KV) : faT P T.winnowlaw16_Op (.pointer (some ⟨b, i, none⟩)) 3 w K = K (.pointer (some ⟨b, i + 10, none⟩)) w := by refine Eq.trans ?_ rfl; kernel_rfl
@[simp] theorem fact61 (b i : Nat) (w : World) (K : KV) : faT P T.winnowlaw16_Op (.pointer (some ⟨b, i, none⟩)) 2 w K = K (.pointer (some ⟨b, i + 9, none⟩)) w := by refine Eq.trans ?_ rfl; kernel_rfl
@[simp] theorem fact62 (b i : Nat) (w : World) (K : KV) : faT P T.winnowref16_Buffer (.pointer (some ⟨b, i, none⟩)) 3 w K = K (.pointer (some ⟨b, i + 3, none⟩)) w := by refine Eq.trans ?_ rfl; kernel_rfl
@[simp] theorem fact63 (b i : Nat) (w : World) (K : KV) : ldT P T.sl_winnowref16_Trace (.pointer (some ⟨b, i, none⟩)) w K = ld1 P b i w K := by refine Eq.trans ?_ rfl; kernel_rfl
@[simp] theorem fact64 : isSlB P T.sl_winnowref16_Trace = true := by refine Eq.trans ?_ rfl; kernel_rfl
@[simp] theorem fact65 : szE P T.sl_winnowref16_Trace = 4 := by refine Eq.trans ?_ rfl; kernel_rfl
theorem et.sl_winnowref16_Trace : ElemTy P T.sl_winnowref16_Trace T.winnowref16_Trace 4 48 := ElemTy.mk' (by kernel_rfl) (by kernel_rfl) (by kernel_rfl)
@[simp] theorem fact67 (b i : Nat) (w : World) (K : KV) : faT P T.winnowref16_Trace (.pointer (some ⟨b, i, none⟩)) 1 w K = K (.pointer (some ⟨b, i + 1, none⟩)) w := by refine Eq.trans ?_ rfl; kernel_rfl
@[simp] theorem fact68 : isSlB P T.sl_api_Member = true := by refine Eq.trans ?_ rfl; kernel_rfl
@[simp] theorem fact69 : szE P T.sl_api_Member = 3 := by refine Eq.trans ?_ rfl; kernel_rfl
theorem et.sl_api_Member : ElemTy P T.sl_api_Member T.api_Member 3 24 := ElemTy.mk' (by kernel_rfl) (by kernel_rfl) (by kernel_rfl)
@[simp] theorem fact71 (x0 : Int) (x1 : Int) (x2 : Int) (r3 : Option Nat) (w : World) (K : KV) : bldT P T.buffer_Buffer #[(1, (.int .i64 x0)), (2, (.int .i64 x1)), (3, (.int .u64 x2)), (4, (.map r3))] w K = K (.agg #[(.slice none 0 0), (.map none), (.int .i64 x0), (.int .i64 x1), (.int .u64 x2), (.map r3)]) w := by refine Eq.trans ?_ rfl; kernel_rfl
@[simp] theorem fact72 (x0 : Int) (x1 : Int) (s2 : ByteArray) (s3 : ByteArray) (w : World) (K : KV) : bldT P T.api_Span #[(0, (.int .u64 x0)), (1, (.int .u64 x1)), (5, (.string s2)), (6, (.string s3))] w K = K (.agg #[(.int .u64 x0), (.int .u64 x1), (.int .u64 0), (.int .u64 0), (.int .u64 0), (.string s2), (.string s3), (.bool false)]) w := by refine Eq.trans ?_ rfl; kernel_rfl
@[simp] theorem fact73 (w : World) (K : KV) : alT P T.api_Span w K = K (.pointer (some ⟨w.heap.size, 0, none⟩)) (w.alloc (.cells #[(.int .u64 0), (.int .u64 0), (.int .u64 0), (.int .u64 0), (.int .u64 0), (.string ⟨#[]⟩), (.string ⟨#[]⟩), (.bool false)] T.api_Span)) := by refine Eq.trans ?_ rfl; kernel_rfl
@[simp] theorem fact74 (b i : Nat) (c_0 c_1 c_2 c_3 c_4 c_5 c_6 c_7 : Value) (w : World) (K : KV) : stT P T.api_Span (.pointer (some ⟨b, i, none⟩)) (.agg #[c_0, c_1, c_2, c_3, c_4, c_5, c_6, c_7]) w K = stN P b i [c_0, c_1, c_2, c_3, c_4, c_5, c_6, c_7] w K := by refine Eq.trans ?_ rfl; kernel_rfl
@[simp] theorem fact75 (b i : Nat) (w : World) (K : KV) : faT P T.buffer_Buffer (.pointer (some ⟨b, i, none⟩)) 4 w K = K (.pointer (some ⟨b, i + 5, none⟩)) w := by refine Eq.trans ?_ rfl; kernel_rfl
@[simp] theorem fact76 (b i : Nat) (w : World) (K : KV) : ldT P T.map_uint64_p_buffer_entry (.pointer (some ⟨b, i, none⟩)) w K = ld1 P b i w K := by refine Eq.trans ?_ rfl; kernel_rfl
theorem mt.map_uint64_p_buffer_entry : MapTy P T.map_uint64_p_buffer_entry .u64 T.p_buffer_entry (.pointer none) := MapTy.mk' (key := T.uint64) (by kernel_rfl) (by kernel_rfl) (by kernel_rfl)
@[simp] theorem fact78 (rx ry : Operand)  (w : World) (K : KV) : binT P .eql T.p_buffer_entry rx ry (.pointer none) (.pointer none) w K = K (.bool true) w := by refine Eq.trans ?_ rfl; kernel_rfl
@[simp] theorem fact79 (rx ry : Operand) (a : Addr) (w : World) (K : KV) : binT P .eql T.p_buffer_entry rx ry (.pointer (some a)) (.pointer none) w K = K (.bool false) w := by refine Eq.trans ?_ rfl; kernel_rfl
@[simp] theorem fact80 (rx ry : Operand) (a : Addr) (w : World) (K : KV) : binT P .eql T.p_buffer_entry rx ry (.pointer none) (.pointer (some a)) w K = K (.bool false) w := by refine Eq.trans ?_ rfl; kernel_rfl
@[simp] theorem fact81 (b i : Nat) (w : World) (K : KV) : faT P T.buffer_Buffer (.pointer (some ⟨b, i, none⟩)) 1 w K = K (.pointer (some ⟨b, i + 2, none⟩)) w := by refine Eq.trans ?_ rfl; kernel_rfl
@[simp] theorem fact82  (w : World) (K : KV) : bldT P T.buffer_entry #[] w K = K (.agg #[(.slice none 0 0), (.bool false)]) w := by refine Eq.trans ?_ rfl; kernel_rfl
@[simp] theorem fact83 (b i : Nat) (w : World) (K : KV) : faT P T.buffer_Buffer (.pointer (some ⟨b, i, none⟩)) 0 w K = K (.pointer (some ⟨b, i, none⟩)) w := by refine Eq.trans ?_ rfl; kernel_rfl
@[simp] theorem fact84 (b i : Nat) (w : World) (K : KV) : faT P T.buffer_Buffer (.pointer (some ⟨b, i, none⟩)) 3 w K = K (.pointer (some ⟨b, i + 4, none⟩)) w := by refine Eq.trans ?_ rfl; kernel_rfl
@[simp] theorem fact85 (b i : Nat) (w : World) (K : KV) : faT P T.buffer_entry (.pointer (some ⟨b, i, none⟩)) 0 w K = K (.pointer (some ⟨b, i, none⟩)) w := by refine Eq.trans ?_ rfl; kernel_rfl
@[simp] theorem fact86 (b i : Nat) (w : World) (K : KV) : ldT P T.sl_api_Span (.pointer (some ⟨b, i, none⟩)) w K = ld1 P b i w K := by refine Eq.trans ?_ rfl; kernel_rfl
@[simp] theorem fact87 (b i : Nat) (w : World) (K : KV) : faT P T.buffer_Buffer (.pointer (some ⟨b, i, none⟩)) 2 w K = K (.pointer (some ⟨b, i + 3, none⟩)) w := by refine Eq.trans ?_ rfl; kernel_rfl
@[simp] theorem fact88 (b i : Nat) (w : World) (K : KV) : faT P T.buffer_entry (.pointer (some ⟨b, i, none⟩)) 1 w K = K (.pointer (some ⟨b, i + 1, none⟩)) w := by refine Eq.trans ?_ rfl; kernel_rfl
@[simp] theorem fact89 (b i : Nat) (bo : Bool) (w : World) (K : KV) : stT P T.bool (.pointer (some ⟨b, i, none⟩)) (.bool bo) w K = st1 P b i (.bool bo) w K := by refine Eq.trans ?_ rfl; kernel_rfl
@[simp] theorem fact90 (c0_0 c0_1 c0_2 c0_3 c0_4 c0_5 c0_6 c0_7 : Value) (w : World) (K : KV) : bsT P T.sl_api_Span 1 #[(0, (.agg #[c0_0, c0_1, c0_2, c0_3, c0_4, c0_5, c0_6, c0_7]))] w K = K (.slice (some ⟨w.heap.size, 0, none⟩) 1 1) (w.alloc (.cells #[c0_0, c0_1, c0_2, c0_3, c0_4, c0_5, c0_6, c0_7] T.api_Span)) := by refine Eq.trans ?_ rfl; kernel_rfl
@[simp] theorem fact91 (b i : Nat) (p : Option Addr) (l c : Nat) (w : World) (K : KV) : stT P T.sl_api_Span (.pointer (some ⟨b, i, none⟩)) (.slice p l c) w K = st1 P b i (.slice p l c) w K := by refine Eq.trans ?_ rfl; kernel_rfl
theorem mt.map_uint64_uint64 : MapTy P T.map_uint64_uint64 .u64 T.uint64 (.int .u64 0) := MapTy.mk' (key := T.uint64) (by kernel_rfl) (by kernel_rfl) (by kernel_rfl)
@[simp] theorem fact93 (b i : Nat) (w : World) (K : KV) : ldT P T.bool (.pointer (some ⟨b, i, none⟩)) w K = ld1 P b i w K := by refine Eq.trans ?_ rfl; kernel_rfl
@[simp] theorem fact94 (b i : Nat) (w : World) (K : KV) : faT P T.api_Span (.pointer (some ⟨b, i, none⟩)) 3 w K = K (.pointer (some ⟨b, i + 3, none⟩)) w := by refine Eq.trans ?_ rfl; kernel_rfl
@[simp] theorem fact95 (b i : Nat) (w : World) (K : KV) : faT P T.api_Span (.pointer (some ⟨b, i, none⟩)) 4 w K = K (.pointer (some ⟨b, i + 4, none⟩)) w := by refine Eq.trans ?_ rfl; kernel_rfl
@[simp] theorem fact96 (x0 : Int) (x1 : Int) (w : World) (K : KV) : bsT P T.sl_uint8 2 #[(0, (.int .u8 x0)), (1, (.int .u8 x1))] w K = K (.slice (some ⟨w.heap.size, 0, none⟩) 2 2) (w.alloc (.cells #[(.int .u8 x0), (.int .u8 x1)] T.uint8)) := by refine Eq.trans ?_ rfl; kernel_rfl
@[simp] theorem fact97 (x0 : Int) (r1 : Option Nat) (w : World) (K : KV) : bldT P T.disk_Disk #[(0, (.int .i64 x0)), (1, (.map r1))] w K = K (.agg #[(.int .i64 x0), (.map r1), (.int .i64 0), (.bool false), (.bool false)]) w := by refine Eq.trans ?_ rfl; kernel_rfl
@[simp] theorem fact98 (b i : Nat) (w : World) (K : KV) : faT P T.disk_Disk (.pointer (some ⟨b, i, none⟩)) 0 w K = K (.pointer (some ⟨b, i, none⟩)) w := by refine Eq.trans ?_ rfl; kernel_rfl
@[simp] theorem fact99 (b i : Nat) (w : World) (K : KV) : faT P T.disk_Disk (.pointer (some ⟨b, i, none⟩)) 1 w K = K (.pointer (some ⟨b, i + 1, none⟩)) w := by refine Eq.trans ?_ rfl; kernel_rfl
@[simp] theorem fact100 (b i : Nat) (w : World) (K : KV) : ldT P T.map_int_p_disk_file (.pointer (some ⟨b, i, none⟩)) w K = ld1 P b i w K := by refine Eq.trans ?_ rfl; kernel_rfl
theorem mt.map_int_p_disk_file : MapTy P T.map_int_p_disk_file .i64 T.p_disk_file (.pointer none) := MapTy.mk' (key := T.int) (by kernel_rfl) (by kernel_rfl) (by kernel_rfl)
@[simp] theorem fact102 (rx ry : Operand)  (w : World) (K : KV) : binT P .eql T.p_disk_file rx ry (.pointer none) (.pointer none) w K = K (.bool true) w := by refine Eq.trans ?_ rfl; kernel_rfl
@[simp] theorem fact103 (rx ry : Operand) (a : Addr) (w : World) (K : KV) : binT P .eql T.p_disk_file rx ry (.pointer (some a)) (.pointer none) w K = K (.bool false) w := by refine Eq.trans ?_ rfl; kernel_rfl
@[simp] theorem fact104 (rx ry : Operand) (a : Addr) (w : World) (K : KV) : binT P .eql T.p_disk_file rx ry (.pointer none) (.pointer (some a)) w K = K (.bool false) w := by refine Eq.trans ?_ rfl; kernel_rfl
@[simp] theorem fact105  (w : World) (K : KV) : bldT P T.disk_file #[] w K = K (.agg #[(.slice none 0 0), (.slice none 0 0)]) w := by refine Eq.trans ?_ rfl; kernel_rfl
@[simp] theorem fact106 (b i : Nat) (w : World) (K : KV) : faT P T.disk_Disk (.pointer (some ⟨b, i, none⟩)) 3 w K = K (.pointer (some ⟨b, i + 3, none⟩)) w := by refine Eq.trans ?_ rfl; kernel_rfl
@[simp] theorem fact107 (b i : Nat) (w : World) (K : KV) : faT P T.disk_Disk (.pointer (some ⟨b, i, none⟩)) 2 w K = K (.pointer (some ⟨b, i + 2, none⟩)) w := by refine Eq.trans ?_ rfl; kernel_rfl
@[simp] theorem fact108 (b i : Nat) (w : World) (K : KV) : faT P T.disk_Disk (.pointer (some ⟨b, i, none⟩)) 4 w K = K (.pointer (some ⟨b, i + 4, none⟩)) w := by refine Eq.trans ?_ rfl; kernel_rfl
@[simp] theorem fact109 (b i : Nat) (x : Int) (w : World) (K : KV) : stT P T.int (.pointer (some ⟨b, i, none⟩)) (.int .i64 x) w K = st1 P b i (.int .i64 x) w K := by refine Eq.trans ?_ rfl; kernel_rfl
@[simp] theorem fact110 (b i : Nat) (w : World) (K : KV) : faT P T.disk_file (.pointer (some ⟨b, i, none⟩)) 1 w K = K (.pointer (some ⟨b, i + 1, none⟩)) w := by refine Eq.trans ?_ rfl; kernel_rfl
@[simp] theorem fact111 (b i : Nat) (p : Option Addr) (l c : Nat) (w : World) (K : KV) : stT P T.sl_uint8 (.pointer (some ⟨b, i, none⟩)) (.slice p l c) w K = st1 P b i (.slice p l c) w K := by refine Eq.trans ?_ rfl; kernel_rfl
@[simp] theorem fact112 (b i : Nat) (w : World) (K : KV) : faT P T.disk_file (.pointer (some ⟨b, i, none⟩)) 0 w K = K (.pointer (some ⟨b, i, none⟩)) w := by refine Eq.trans ?_ rfl; kernel_rfl
@[simp] theorem fact113 (p0 : Option Addr) (l0 c0 : Nat) (p1 : Option Addr) (l1 c1 : Nat) (w : World) (K : KV) : bsT P T.sl_sl_uint8 2 #[(0, (.slice p0 l0 c0)), (1, (.slice p1 l1 c1))] w K = K (.slice (some ⟨w.heap.size, 0, none⟩) 2 2) (w.alloc (.cells #[(.slice p0 l0 c0), (.slice p1 l1 c1)] T.sl_uint8)) := by refine Eq.trans ?_ rfl; kernel_rfl
@[simp] theorem fact114 (b i : Nat) (w : World) (K : KV) : ldT P T.uint8 (.pointer (some ⟨b, i, none⟩)) w K = ld1 P b i w K := by refine Eq.trans ?_ rfl; kernel_rfl
@[simp] theorem fact115 (rx ry : Operand)  (w : World) (K : KV) : binT P .neq T.p_disk_Disk rx ry (.pointer none) (.pointer none) w K = K (.bool false) w := by refine Eq.trans ?_ rfl; kernel_rfl
@[simp] theorem fact116 (rx ry : Operand) (a : Addr) (w : World) (K : KV) : binT P .neq T.p_disk_Disk rx ry (.pointer (some a)) (.pointer none) w K = K (.bool true) w := by refine Eq.trans ?_ rfl; kernel_rfl
@[simp] theorem fact117 (rx ry : Operand) (a : Addr) (w : World) (K : KV) : binT P .neq T.p_disk_Disk rx ry (.pointer none) (.pointer (some a)) w K = K (.bool true) w := by refine Eq.trans ?_ rfl; kernel_rfl
@[simp] theorem fact118 (x0 : Int) (p1 : Option Addr) (l1 c1 : Nat) (x2 : Int) (w : World) (K : KV) : bldT P T.winnowref06_Disk #[(0, (.int .i64 x0)), (1, (.slice p1 l1 c1)), (2, (.int .i64 x2))] w K = K (.agg #[(.int .i64 x0), (.slice p1 l1 c1), (.int .i64 x2), (.bool false)]) w := by refine Eq.trans ?_ rfl; kernel_rfl
@[simp] theorem fact119 (b i : Nat) (w : World) (K : KV) : faT P T.winnowref06_Disk (.pointer (some ⟨b, i, none⟩)) 3 w K = K (.pointer (some ⟨b, i + 3, none⟩)) w := by refine Eq.trans ?_ rfl; kernel_rfl
@[simp] theorem fact120 (x0 : Int) (x1 : Int) (x2 : Int) (w : World) (K : KV) : bldT P T.winnowref16_Buffer #[(0, (.int .i64 x0)), (1, (.int .i64 x1)), (2, (.int .u64 x2))] w K = K (.agg #[(.int .i64 x0), (.int .i64 x1), (.int .u64 x2), (.slice none 0 0)]) w := by refine Eq.trans ?_ rfl; kernel_rfl
@[simp] theorem fact121 (b i : Nat) (w : World) (K : KV) : faT P T.winnowref16_Buffer (.pointer (some ⟨b, i, none⟩)) 0 w K = K (.pointer (some ⟨b, i, none⟩)) w := by refine Eq.trans ?_ rfl; kernel_rfl
@[simp] theorem fact122 (b i : Nat) (w : World) (K : KV) : faT P T.winnowref16_Buffer (.pointer (some ⟨b, i, none⟩)) 2 w K = K (.pointer (some ⟨b, i + 2, none⟩)) w := by refine Eq.trans ?_ rfl; kernel_rfl
@[simp] theorem fact123 (b i : Nat) (w : World) (K : KV) : faT P T.winnowref16_Trace (.pointer (some ⟨b, i, none⟩)) 0 w K = K (.pointer (some ⟨b, i, none⟩)) w := by refine Eq.trans ?_ rfl; kernel_rfl
@[simp] theorem fact124  (w : World) (K : KV) : bsT P T.sl_winnowref16_Trace 0 #[] w K = K (.slice (some ⟨w.heap.size, 0, none⟩) 0 0) (w.alloc (.cells #[] T.winnowref16_Trace)) := by refine Eq.trans ?_ rfl; kernel_rfl
@[simp] theorem fact125 (x0 : Int) (x1 : Int) (p2 : Option Addr) (l2 c2 : Nat) (w : World) (K : KV) : bldT P T.winnowref16_Trace #[(0, (.int .u64 x0)), (1, (.int .u64 x1)), (2, (.slice p2 l2 c2))] w K = K (.agg #[(.int .u64 x0), (.int .u64 x1), (.slice p2 l2 c2), (.bool false)]) w := by refine Eq.trans ?_ rfl; kernel_rfl
@[simp] theorem fact126 (c0_0 c0_1 c0_2 c0_3 : Value) (w : World) (K : KV) : bsT P T.sl_winnowref16_Trace 1 #[(0, (.agg #[c0_0, c0_1, c0_2, c0_3]))] w K = K (.slice (some ⟨w.heap.size, 0, none⟩) 1 1) (w.alloc (.cells #[c0_0, c0_1, c0_2, c0_3] T.winnowref16_Trace)) := by refine Eq.trans ?_ rfl; kernel_rfl
@[simp] theorem fact127 (b i : Nat) (p : Option Addr) (l c : Nat) (w : World) (K : KV) : stT P T.sl_winnowref16_Trace (.pointer (some ⟨b, i, none⟩)) (.slice p l c) w K = st1 P b i (.slice p l c) w K := by refine Eq.trans ?_ rfl; kernel_rfl
@[simp] theorem fact128 (b i : Nat) (w : World) (K : KV) : faT P T.winnowref16_Trace (.pointer (some ⟨b, i, none⟩)) 2 w K = K (.pointer (some ⟨b, i + 2, none⟩)) w := by refine Eq.trans ?_ rfl; kernel_rfl
@[simp] theorem fact129 (b i : Nat) (w : World) (K : KV) : faT P T.winnowref16_Buffer (.pointer (some ⟨b, i, none⟩)) 1 w K = K (.pointer (some ⟨b, i + 1, none⟩)) w := by refine Eq.trans ?_ rfl; kernel_rfl
@[simp] theorem fact130 (b i : Nat) (w : World) (K : KV) : faT P T.winnowref16_Trace (.pointer (some ⟨b, i, none⟩)) 3 w K = K (.pointer (some ⟨b, i + 3, none⟩)) w := by refine Eq.trans ?_ rfl; kernel_rfl
@[simp] theorem fact131  (w : World) (K : KV) : bsT P T.sl_api_Span 0 #[] w K = K (.slice (some ⟨w.heap.size, 0, none⟩) 0 0) (w.alloc (.cells #[] T.api_Span)) := by refine Eq.trans ?_ rfl; kernel_rfl
@[simp] theorem fact132 (x0 : Int) (x1 : Int) (x2 : Int) (w : World) (K : KV) : bldT P T.api_Member #[(0, (.int .u64 x0)), (1, (.int .u64 x1)), (2, (.int .i64 x2))] w K = K (.agg #[(.int .u64 x0), (.int .u64 x1), (.int .i64 x2)]) w := by refine Eq.trans ?_ rfl; kernel_rfl
@[simp] theorem fact133 (x0 : Int) (x1 : Int) (w : World) (K : KV) : bldT P T.api_Member #[(0, (.int .u64 x0)), (1, (.int .u64 x1))] w K = K (.agg #[(.int .u64 x0), (.int .u64 x1), (.int .i64 0)]) w := by refine Eq.trans ?_ rfl; kernel_rfl
@[simp] theorem fact134 (w : World) (K : KV) : alT P T.api_Member w K = K (.pointer (some ⟨w.heap.size, 0, none⟩)) (w.alloc (.cells #[(.int .u64 0), (.int .u64 0), (.int .i64 0)] T.api_Member)) := by refine Eq.trans ?_ rfl; kernel_rfl
@[simp] theorem fact135 (b i : Nat) (c_0 c_1 c_2 : Value) (w : World) (K : KV) : stT P T.api_Member (.pointer (some ⟨b, i, none⟩)) (.agg #[c_0, c_1, c_2]) w K = stN P b i [c_0, c_1, c_2] w K := by refine Eq.trans ?_ rfl; kernel_rfl
@[simp] theorem fact136 (b i : Nat) (w : World) (K : KV) : ldT P T.api_Member (.pointer (some ⟨b, i, none⟩)) w K = ldN P 3 b i w K := by refine Eq.trans ?_ rfl; kernel_rfl
@[simp] theorem fact137 (c0_0 c0_1 c0_2 : Value) (w : World) (K : KV) : bsT P T.sl_api_Member 1 #[(0, (.agg #[c0_0, c0_1, c0_2]))] w K = K (.slice (some ⟨w.heap.size, 0, none⟩) 1 1) (w.alloc (.cells #[c0_0, c0_1, c0_2] T.api_Member)) := by refine Eq.trans ?_ rfl; kernel_rfl
@[simp] theorem fact138 : isSlB P T.sl_api_Kind = true := by refine Eq.trans ?_ rfl; kernel_rfl
@[simp] theorem fact139 : szE P T.sl_api_Kind = 1 := by refine Eq.trans ?_ rfl; kernel_rfl
theorem et.sl_api_Kind : ElemTy P T.sl_api_Kind T.api_Kind 1 8 := ElemTy.mk' (by kernel_rfl) (by kernel_rfl) (by kernel_rfl)
@[simp] theorem fact141 (x0 : Int) (x1 : Int) (w : World) (K : KV) : bsT P T.sl_api_Kind 2 #[(0, (.int .i64 x0)), (1, (.int .i64 x1))] w K = K (.slice (some ⟨w.heap.size, 0, none⟩) 2 2) (w.alloc (.cells #[(.int .i64 x0), (.int .i64 x1)] T.api_Kind)) := by refine Eq.trans ?_ rfl; kernel_rfl
@[simp] theorem fact142 : isSlB P T.sl_sl_api_Member = true := by refine Eq.trans ?_ rfl; kernel_rfl
@[simp] theorem fact143 : szE P T.sl_sl_api_Member = 1 := by refine Eq.trans ?_ rfl; kernel_rfl
theorem et.sl_sl_api_Member : ElemTy P T.sl_sl_api_Member T.sl_api_Member 1 24 := ElemTy.mk' (by kernel_rfl) (by kernel_rfl) (by kernel_rfl)
@[simp] theorem fact145 (p0 : Option Addr) (l0 c0 : Nat) (p1 : Option Addr) (l1 c1 : Nat) (w : World) (K : KV) : bsT P T.sl_sl_api_Member 2 #[(0, (.slice p0 l0 c0)), (1, (.slice p1 l1 c1))] w K = K (.slice (some ⟨w.heap.size, 0, none⟩) 2 2) (w.alloc (.cells #[(.slice p0 l0 c0), (.slice p1 l1 c1)] T.sl_api_Member)) := by refine Eq.trans ?_ rfl; kernel_rfl
@[simp] theorem fact146 (b i : Nat) (w : World) (K : KV) : faT P T.api_Member (.pointer (some ⟨b, i, none⟩)) 0 w K = K (.pointer (some ⟨b, i, none⟩)) w := by refine Eq.trans ?_ rfl; kernel_rfl
theorem mt.map_uint64_api_Member : MapTy P T.map_uint64_api_Member .u64 T.api_Member (.agg #[(.int .u64 0), (.int .u64 0), (.int .i64 0)]) := MapTy.mk' (key := T.uint64) (by kernel_rfl) (by kernel_rfl) (by kernel_rfl)
@[simp] theorem fact148  (w : World) (K : KV) : bsT P T.sl_api_Member 0 #[] w K = K (.slice (some ⟨w.heap.size, 0, none⟩) 0 0) (w.alloc (.cells #[] T.api_Member)) := by refine Eq.trans ?_ rfl; kernel_rfl
@[simp] theorem fact149 (rx ry : Operand)  (w : World) (K : KV) : binT P .eql T.p_timers_Heap rx ry (.pointer none) (.pointer none) w K = K (.bool true) w := by refine Eq.trans ?_ rfl; kernel_rfl
@[simp] theorem fact150 (rx ry : Operand) (a : Addr) (w : World) (K : KV) : binT P .eql T.p_timers_Heap rx ry (.pointer (some a)) (.pointer none) w K = K (.bool false) w := by refine Eq.trans ?_ rfl; kernel_rfl
@[simp] theorem fact151 (rx ry : Operand) (a : Addr) (w : World) (K : KV) : binT P .eql T.p_timers_Heap rx ry (.pointer none) (.pointer (some a)) w K = K (.bool false) w := by refine Eq.trans ?_ rfl; kernel_rfl
@[simp] theorem fact152 (b i : Nat) (w : World) (K : KV) : faT P T.timers_Heap (.pointer (some ⟨b, i, none⟩)) 1 w K = K (.pointer (some ⟨b, i + 1, none⟩)) w := by refine Eq.trans ?_ rfl; kernel_rfl
@[simp] theorem fact153 (b i : Nat) (w : World) (K : KV) : ldT P T.map_uint64_p_timers_item (.pointer (some ⟨b, i, none⟩)) w K = ld1 P b i w K := by refine Eq.trans ?_ rfl; kernel_rfl
@[simp] theorem fact154 (rx ry : Operand)  (w : World) (K : KV) : binT P .eql T.map_uint64_p_timers_item rx ry (.map none) (.map none) w K = K (.bool true) w := by refine Eq.trans ?_ rfl; kernel_rfl
@[simp] theorem fact155 (rx ry : Operand) (r : Nat) (w : World) (K : KV) : binT P .eql T.map_uint64_p_timers_item rx ry (.map (some r)) (.map none) w K = K (.bool false) w := by refine Eq.trans ?_ rfl; kernel_rfl
@[simp] theorem fact156 (b i : Nat) (r : Option Nat) (w : World) (K : KV) : stT P T.map_uint64_p_timers_item (.pointer (some ⟨b, i, none⟩)) (.map r) w K = st1 P b i (.map r) w K := by refine Eq.trans ?_ rfl; kernel_rfl
theorem mt.map_uint64_p_timers_item : MapTy P T.map_uint64_p_timers_item .u64 T.p_timers_item (.pointer none) := MapTy.mk' (key := T.uint64) (by kernel_rfl) (by kernel_rfl) (by kernel_rfl)
@[simp] theorem fact158 (b i : Nat) (w : World) (K : KV) : faT P T.timers_item (.pointer (some ⟨b, i, none⟩)) 1 w K = K (.pointer (some ⟨b, i + 1, none⟩)) w := by refine Eq.trans ?_ rfl; kernel_rfl
@[simp] theorem fact159 (b i : Nat) (w : World) (K : KV) : faT P T.timers_Heap (.pointer (some ⟨b, i, none⟩)) 0 w K = K (.pointer (some ⟨b, i, none⟩)) w := by refine Eq.trans ?_ rfl; kernel_rfl
@[simp] theorem fact160 (v : Value) (w : World) (K : KV) : mkiT P T.p_timers_line v w K = K (.iface T.p_timers_line v) w := by refine Eq.trans ?_ rfl; kernel_rfl
@[simp] theorem fact161 : mthB P T.p_timers_line "Len" F.timers_line_Len false = true := by refine Eq.trans ?_ rfl; kernel_rfl
@[simp] theorem fact162 : mthB P T.p_timers_line "Less" F.timers_line_Less false = true := by refine Eq.trans ?_ rfl; kernel_rfl
@[simp] theorem fact163 : mthB P T.p_timers_line "Pop" F.ptimers_line_Pop true = true := by refine Eq.trans ?_ rfl; kernel_rfl
@[simp] theorem fact164 : mthB P T.p_timers_line "Push" F.ptimers_line_Push true = true := by refine Eq.trans ?_ rfl; kernel_rfl
@[simp] theorem fact165 : mthB P T.p_timers_line "Swap" F.timers_line_Swap false = true := by refine Eq.trans ?_ rfl; kernel_rfl
@[simp] theorem fact166 (b i : Nat) (w : World) (K : KV) : faT P T.timers_item (.pointer (some ⟨b, i, none⟩)) 2 w K = K (.pointer (some ⟨b, i + 2, none⟩)) w := by refine Eq.trans ?_ rfl; kernel_rfl
@[simp] theorem fact167 (x0 : Int) (x1 : Int) (w : World) (K : KV) : bldT P T.timers_item #[(0, (.int .u64 x0)), (1, (.int .u64 x1))] w K = K (.agg #[(.int .u64 x0), (.int .u64 x1), (.int .i64 0)]) w := by refine Eq.trans ?_ rfl; kernel_rfl
@[simp] theorem fact168 (v : Value) (w : World) (K : KV) : mkiT P T.p_timers_item v w K = K (.iface T.p_timers_item v) w := by refine Eq.trans ?_ rfl; kernel_rfl
@[simp] theorem fact169 (rx ry : Operand)  (w : World) (K : KV) : binT P .eql T.p_timers_item rx ry (.pointer none) (.pointer none) w K = K (.bool true) w := by refine Eq.trans ?_ rfl; kernel_rfl
@[simp] theorem fact170 (rx ry : Operand) (a : Addr) (w : World) (K : KV) : binT P .eql T.p_timers_item rx ry (.pointer (some a)) (.pointer none) w K = K (.bool false) w := by refine Eq.trans ?_ rfl; kernel_rfl
@[simp] theorem fact171 (rx ry : Operand) (a : Addr) (w : World) (K : KV) : binT P .eql T.p_timers_item rx ry (.pointer none) (.pointer (some a)) w K = K (.bool false) w := by refine Eq.trans ?_ rfl; kernel_rfl
@[simp] theorem fact172 (rx ry : Operand) (l c : Nat) (w : World) (K : KV) : binT P .eql T.sl_api_Span rx ry (.slice none l c) (.slice none 0 0) w K = K (.bool true) w := by refine Eq.trans ?_ rfl; kernel_rfl
@[simp] theorem fact173 (rx ry : Operand) (a : Addr) (l c : Nat) (w : World) (K : KV) : binT P .eql T.sl_api_Span rx ry (.slice (some a) l c) (.slice none 0 0) w K = K (.bool false) w := by refine Eq.trans ?_ rfl; kernel_rfl
@[simp] theorem fact174 : isSlB P T.sl_int32 = true := by refine Eq.trans ?_ rfl; kernel_rfl
@[simp] theorem fact175 : szE P T.sl_int32 = 1 := by refine Eq.trans ?_ rfl; kernel_rfl
theorem et.sl_int32 : ElemTy P T.sl_int32 T.int32 1 4 := ElemTy.mk' (by kernel_rfl) (by kernel_rfl) (by kernel_rfl)
@[simp] theorem fact177 (b i : Nat) (w : World) (K : KV) : ldT P T.int32 (.pointer (some ⟨b, i, none⟩)) w K = ld1 P b i w K := by refine Eq.trans ?_ rfl; kernel_rfl
@[simp] theorem fact178 (v : Value) (w : World) (K : KV) : mkiT P T.string v w K = K (.iface T.string v) w := by refine Eq.trans ?_ rfl; kernel_rfl
@[simp] theorem fact179 (b i : Nat) (w : World) (K : KV) : faT P T.winnowref06_Disk (.pointer (some ⟨b, i, none⟩)) 0 w K = K (.pointer (some ⟨b, i, none⟩)) w := by refine Eq.trans ?_ rfl; kernel_rfl
@[simp] theorem fact180 (b i : Nat) (w : World) (K : KV) : faT P T.winnowref06_Disk (.pointer (some ⟨b, i, none⟩)) 2 w K = K (.pointer (some ⟨b, i + 2, none⟩)) w := by refine Eq.trans ?_ rfl; kernel_rfl
@[simp] theorem fact181 (b i : Nat) (w : World) (K : KV) : faT P T.winnowref06_Disk (.pointer (some ⟨b, i, none⟩)) 1 w K = K (.pointer (some ⟨b, i + 1, none⟩)) w := by refine Eq.trans ?_ rfl; kernel_rfl
@[simp] theorem fact182 (b i : Nat) (w : World) (K : KV) : ldT P T.sl_winnowref06_File (.pointer (some ⟨b, i, none⟩)) w K = ld1 P b i w K := by refine Eq.trans ?_ rfl; kernel_rfl
@[simp] theorem fact183 : isSlB P T.sl_winnowref06_File = true := by refine Eq.trans ?_ rfl; kernel_rfl
@[simp] theorem fact184 : szE P T.sl_winnowref06_File = 3 := by refine Eq.trans ?_ rfl; kernel_rfl
theorem et.sl_winnowref06_File : ElemTy P T.sl_winnowref06_File T.winnowref06_File 3 40 := ElemTy.mk' (by kernel_rfl) (by kernel_rfl) (by kernel_rfl)
@[simp] theorem fact186 (b i : Nat) (w : World) (K : KV) : faT P T.winnowref06_File (.pointer (some ⟨b, i, none⟩)) 0 w K = K (.pointer (some ⟨b, i, none⟩)) w := by refine Eq.trans ?_ rfl; kernel_rfl
@[simp] theorem fact187  (w : World) (K : KV) : bsT P T.sl_uint8 0 #[] w K = K (.slice (some ⟨w.heap.size, 0, none⟩) 0 0) (w.alloc (.cells #[] T.uint8)) := by refine Eq.trans ?_ rfl; kernel_rfl
@[simp] theorem fact188 (b i : Nat) (w : World) (K : KV) : faT P T.winnowref06_File (.pointer (some ⟨b, i, none⟩)) 1 w K = K (.pointer (some ⟨b, i + 1, none⟩)) w := by refine Eq.trans ?_ rfl; kernel_rfl
@[simp] theorem fact189 (b i : Nat) (w : World) (K : KV) : faT P T.winnowref06_File (.pointer (some ⟨b, i, none⟩)) 2 w K = K (.pointer (some ⟨b, i + 2, none⟩)) w := by refine Eq.trans ?_ rfl; kernel_rfl
@[simp] theorem fact190  (w : World) (K : KV) : bldT P T.winnowref06_File #[] w K = K (.agg #[(.bool false), (.slice none 0 0), (.int .i64 0)]) w := by refine Eq.trans ?_ rfl; kernel_rfl
@[simp] theorem fact191 (b i : Nat) (c_0 c_1 c_2 : Value) (w : World) (K : KV) : stT P T.winnowref06_File (.pointer (some ⟨b, i, none⟩)) (.agg #[c_0, c_1, c_2]) w K = stN P b i [c_0, c_1, c_2] w K := by refine Eq.trans ?_ rfl; kernel_rfl
@[simp] theorem fact192 (b i : Nat) (w : World) (K : KV) : ldT P T.winnowref16_Trace (.pointer (some ⟨b, i, none⟩)) w K = ldN P 4 b i w K := by refine Eq.trans ?_ rfl; kernel_rfl
@[simp] theorem fact193 (b i : Nat) (w : World) (K : KV) : faT P T.api_Member (.pointer (some ⟨b, i, none⟩)) 1 w K = K (.pointer (some ⟨b, i + 1, none⟩)) w := by refine Eq.trans ?_ rfl; kernel_rfl
@[simp] theorem fact194 (b i : Nat) (w : World) (K : KV) : faT P T.api_Member (.pointer (some ⟨b, i, none⟩)) 2 w K = K (.pointer (some ⟨b, i + 2, none⟩)) w := by refine Eq.trans ?_ rfl; kernel_rfl
@[simp] theorem fact195 (x0 : Int) (x1 : Int) (w : World) (K : KV) : bsT P T.sl_int 2 #[(0, (.int .i64 x0)), (1, (.int .i64 x1))] w K = K (.slice (some ⟨w.heap.size, 0, none⟩) 2 2) (w.alloc (.cells #[(.int .i64 x0), (.int .i64 x1)] T.int)) := by refine Eq.trans ?_ rfl; kernel_rfl
@[simp] theorem fact196 (b i : Nat) (w : World) (K : KV) : ldT P T.api_Kind (.pointer (some ⟨b, i, none⟩)) w K = ld1 P b i w K := by refine Eq.trans ?_ rfl; kernel_rfl
@[simp] theorem fact197 (x0 : Int) (p1 : Option Addr) (l1 c1 : Nat) (w : World) (K : KV) : bldT P T.api_Packet #[(0, (.int .i64 x0)), (7, (.slice p1 l1 c1))] w K = K (.agg #[(.int .i64 x0), (.int .u64 0), (.int .u64 0), (.int .u64 0), (.int .u64 0), (.int .u64 0), (.int .i64 0), (.bool false), (.slice none 0 0), (.slice p1 l1 c1), (.slice none 0 0)]) w := by refine Eq.trans ?_ rfl; kernel_rfl
@[simp] theorem fact198 (b i : Nat) (w : World) (K : KV) : ldT P T.sl_api_Member (.pointer (some ⟨b, i, none⟩)) w K = ld1 P b i w K := by refine Eq.trans ?_ rfl; kernel_rfl
@[simp] theorem fact199  (w : World) (K : KV) : bldT P T.api_Member #[] w K = K (.agg #[(.int .u64 0), (.int .u64 0), (.int .i64 0)]) w := by refine Eq.trans ?_ rfl; kernel_rfl
@[simp] theorem fact200 (b i : Nat) (w : World) (K : KV) : ldT P T.timers_line (.pointer (some ⟨b, i, none⟩)) w K = ld1 P b i w K := by refine Eq.trans ?_ rfl; kernel_rfl
@[simp] theorem fact201 : isSlB P T.timers_line = true := by refine Eq.trans ?_ rfl; kernel_rfl
@[simp] theorem fact202 : szE P T.timers_line = 1 := by refine Eq.trans ?_ rfl; kernel_rfl
theorem et.timers_line : ElemTy P T.timers_line T.p_timers_item 1 8 := ElemTy.mk' (by kernel_rfl) (by kernel_rfl) (by kernel_rfl)
@[simp] theorem fact204 (b i : Nat) (w : World) (K : KV) : ldT P T.p_timers_item (.pointer (some ⟨b, i, none⟩)) w K = ld1 P b i w K := by refine Eq.trans ?_ rfl; kernel_rfl
@[simp] theorem fact205 (b i : Nat) (w : World) (K : KV) : faT P T.timers_item (.pointer (some ⟨b, i, none⟩)) 0 w K = K (.pointer (some ⟨b, i, none⟩)) w := by refine Eq.trans ?_ rfl; kernel_rfl
@[simp] theorem fact206 (x0 : Int) (w : World) (K : KV) : bsT P T.sl_int32 1 #[(0, (.int .i32 x0))] w K = K (.slice (some ⟨w.heap.size, 0, none⟩) 1 1) (w.alloc (.cells #[(.int .i32 x0)] T.int32)) := by refine Eq.trans ?_ rfl; kernel_rfl
@[simp] theorem fact207 (b i : Nat) (w : World) (K : KV) : ldT P T.api_Packet (.pointer (some ⟨b, i, none⟩)) w K = ldN P 11 b i w K := by refine Eq.trans ?_ rfl; kernel_rfl
@[simp] theorem fact208 (rx ry : Operand) (ti : TypeId) (v : Value) (w : World) (K : KV) : binT P .eql T.any rx ry (.iface ti v) .nilIface w K = K (.bool false) w := by refine Eq.trans ?_ rfl; kernel_rfl
@[simp] theorem fact209 (b i : Nat) (w : World) (K : KV) : ldT P T.map_uint64_api_Member (.pointer (some ⟨b, i, none⟩)) w K = ld1 P b i w K := by refine Eq.trans ?_ rfl; kernel_rfl
@[simp] theorem fact210 (b i : Nat) (p : Option Addr) (l c : Nat) (w : World) (K : KV) : stT P T.sl_int (.pointer (some ⟨b, i, none⟩)) (.slice p l c) w K = st1 P b i (.slice p l c) w K := by refine Eq.trans ?_ rfl; kernel_rfl
@[simp] theorem fact211 (b i : Nat) (w : World) (K : KV) : ldT P T.sl_uint64 (.pointer (some ⟨b, i, none⟩)) w K = ld1 P b i w K := by refine Eq.trans ?_ rfl; kernel_rfl
@[simp] theorem fact212 (b i : Nat) (p : Option Addr) (l c : Nat) (w : World) (K : KV) : stT P T.sl_uint64 (.pointer (some ⟨b, i, none⟩)) (.slice p l c) w K = st1 P b i (.slice p l c) w K := by refine Eq.trans ?_ rfl; kernel_rfl
@[simp] theorem fact213 (b i : Nat) (w : World) (K : KV) : faT P T.api_Packet (.pointer (some ⟨b, i, none⟩)) 0 w K = K (.pointer (some ⟨b, i, none⟩)) w := by refine Eq.trans ?_ rfl; kernel_rfl
@[simp] theorem fact214 (b i : Nat) (w : World) (K : KV) : faT P T.api_Packet (.pointer (some ⟨b, i, none⟩)) 1 w K = K (.pointer (some ⟨b, i + 1, none⟩)) w := by refine Eq.trans ?_ rfl; kernel_rfl
@[simp] theorem fact215 (b i : Nat) (w : World) (K : KV) : faT P T.api_Packet (.pointer (some ⟨b, i, none⟩)) 6 w K = K (.pointer (some ⟨b, i + 8, none⟩)) w := by refine Eq.trans ?_ rfl; kernel_rfl
@[simp] theorem fact216 (x0 : Int) (bo1 : Bool) (p2 : Option Addr) (l2 c2 : Nat) (w : World) (K : KV) : bldT P T.message_Spans #[(0, (.int .u64 x0)), (1, (.bool bo1)), (2, (.slice p2 l2 c2))] w K = K (.agg #[(.int .u64 x0), (.bool bo1), (.slice p2 l2 c2)]) w := by refine Eq.trans ?_ rfl; kernel_rfl
@[simp] theorem fact217 (v : Value) (w : World) (K : KV) : mkiT P T.message_Spans v w K = K (.iface T.message_Spans v) w := by refine Eq.trans ?_ rfl; kernel_rfl
@[simp] theorem fact218 (b i : Nat) (w : World) (K : KV) : faT P T.api_Packet (.pointer (some ⟨b, i, none⟩)) 7 w K = K (.pointer (some ⟨b, i + 9, none⟩)) w := by refine Eq.trans ?_ rfl; kernel_rfl
@[simp] theorem fact219 (p0 : Option Addr) (l0 c0 : Nat) (w : World) (K : KV) : bldT P T.message_Members #[(0, (.slice p0 l0 c0))] w K = K (.agg #[(.slice p0 l0 c0)]) w := by refine Eq.trans ?_ rfl; kernel_rfl
@[simp] theorem fact220 (v : Value) (w : World) (K : KV) : mkiT P T.message_Members v w K = K (.iface T.message_Members v) w := by refine Eq.trans ?_ rfl; kernel_rfl
@[simp] theorem fact221 (b i : Nat) (w : World) (K : KV) : faT P T.api_Packet (.pointer (some ⟨b, i, none⟩)) 2 w K = K (.pointer (some ⟨b, i + 2, none⟩)) w := by refine Eq.trans ?_ rfl; kernel_rfl
@[simp] theorem fact222 (b i : Nat) (w : World) (K : KV) : ldT P T.api_Ballot (.pointer (some ⟨b, i, none⟩)) w K = ldN P 2 b i w K := by refine Eq.trans ?_ rfl; kernel_rfl
@[simp] theorem fact223 (b i : Nat) (w : World) (K : KV) : faT P T.api_Packet (.pointer (some ⟨b, i, none⟩)) 4 w K = K (.pointer (some ⟨b, i + 6, none⟩)) w := by refine Eq.trans ?_ rfl; kernel_rfl
@[simp] theorem fact224 (b i : Nat) (w : World) (K : KV) : ldT P T.api_Verdict (.pointer (some ⟨b, i, none⟩)) w K = ld1 P b i w K := by refine Eq.trans ?_ rfl; kernel_rfl
@[simp] theorem fact225 (x0 : Int) (c1_0 c1_1 : Value) (x2 : Int) (w : World) (K : KV) : bldT P T.message_Ask #[(0, (.int .u64 x0)), (1, (.agg #[c1_0, c1_1])), (2, (.int .i64 x2))] w K = K (.agg #[(.int .u64 x0), c1_0, c1_1, (.int .i64 x2)]) w := by refine Eq.trans ?_ rfl; kernel_rfl
@[simp] theorem fact226 (v : Value) (w : World) (K : KV) : mkiT P T.message_Ask v w K = K (.iface T.message_Ask v) w := by refine Eq.trans ?_ rfl; kernel_rfl
@[simp] theorem fact227 (b i : Nat) (w : World) (K : KV) : faT P T.api_Packet (.pointer (some ⟨b, i, none⟩)) 5 w K = K (.pointer (some ⟨b, i + 7, none⟩)) w := by refine Eq.trans ?_ rfl; kernel_rfl
@[simp] theorem fact228 (b i : Nat) (w : World) (K : KV) : faT P T.api_Packet (.pointer (some ⟨b, i, none⟩)) 3 w K = K (.pointer (some ⟨b, i + 4, none⟩)) w := by refine Eq.trans ?_ rfl; kernel_rfl
@[simp] theorem fact229 (x0 : Int) (c1_0 c1_1 : Value) (bo2 : Bool) (c3_0 c3_1 : Value) (x4 : Int) (bo5 : Bool) (w : World) (K : KV) : bldT P T.message_Reply #[(0, (.int .u64 x0)), (1, (.agg #[c1_0, c1_1])), (2, (.bool bo2)), (3, (.agg #[c3_0, c3_1])), (4, (.int .i64 x4)), (5, (.bool bo5))] w K = K (.agg #[(.int .u64 x0), c1_0, c1_1, (.bool bo2), c3_0, c3_1, (.int .i64 x4), (.bool bo5)]) w := by refine Eq.trans ?_ rfl; kernel_rfl
@[simp] theorem fact230 (v : Value) (w : World) (K : KV) : mkiT P T.message_Reply v w K = K (.iface T.message_Reply v) w := by refine Eq.trans ?_ rfl; kernel_rfl
@[simp] theorem fact231 (x0 : Int) (x1 : Int) (w : World) (K : KV) : bldT P T.message_Told #[(0, (.int .u64 x0)), (1, (.int .i64 x1))] w K = K (.agg #[(.int .u64 x0), (.int .i64 x1)]) w := by refine Eq.trans ?_ rfl; kernel_rfl
@[simp] theorem fact232 (v : Value) (w : World) (K : KV) : mkiT P T.message_Told v w K = K (.iface T.message_Told v) w := by refine Eq.trans ?_ rfl; kernel_rfl
@[simp] theorem fact233 (x0 : Int) (c1_0 c1_1 : Value) (p2 : Option Addr) (l2 c2 : Nat) (w : World) (K : KV) : bldT P T.message_Stored #[(0, (.int .u64 x0)), (1, (.agg #[c1_0, c1_1])), (2, (.slice p2 l2 c2))] w K = K (.agg #[(.int .u64 x0), c1_0, c1_1, (.slice p2 l2 c2)]) w := by refine Eq.trans ?_ rfl; kernel_rfl
@[simp] theorem fact234 (v : Value) (w : World) (K : KV) : mkiT P T.message_Stored v w K = K (.iface T.message_Stored v) w := by refine Eq.trans ?_ rfl; kernel_rfl
@[simp] theorem fact235 (b i : Nat) (w : World) (K : KV) : faT P T.api_Packet (.pointer (some ⟨b, i, none⟩)) 8 w K = K (.pointer (some ⟨b, i + 10, none⟩)) w := by refine Eq.trans ?_ rfl; kernel_rfl
@[simp] theorem fact236 (x0 : Int) (p1 : Option Addr) (l1 c1 : Nat) (w : World) (K : KV) : bldT P T.message_Acked #[(0, (.int .u64 x0)), (1, (.slice p1 l1 c1))] w K = K (.agg #[(.int .u64 x0), (.slice p1 l1 c1)]) w := by refine Eq.trans ?_ rfl; kernel_rfl
@[simp] theorem fact237 (v : Value) (w : World) (K : KV) : mkiT P T.message_Acked v w K = K (.iface T.message_Acked v) w := by refine Eq.trans ?_ rfl; kernel_rfl
@[simp] theorem fact238  (w : World) (K : KV) : bldT P T.api_Ballot #[] w K = K (.agg #[(.int .u64 0), (.int .u64 0)]) w := by refine Eq.trans ?_ rfl; kernel_rfl
@[simp] theorem fact239 (w : World) (K : KV) : alT P T.api_Ballot w K = K (.pointer (some ⟨w.heap.size, 0, none⟩)) (w.alloc (.cells #[(.int .u64 0), (.int .u64 0)] T.api_Ballot)) := by refine Eq.trans ?_ rfl; kernel_rfl
@[simp] theorem fact240 (b i : Nat) (c_0 c_1 : Value) (w : World) (K : KV) : stT P T.api_Ballot (.pointer (some ⟨b, i, none⟩)) (.agg #[c_0, c_1]) w K = stN P b i [c_0, c_1] w K := by refine Eq.trans ?_ rfl; kernel_rfl
@[simp] theorem fact241 (v : Value) (w : World) (K : KV) : taT P (.iface T.message_Spans v) T.any T.message_Spans true w K = K (.tuple #[v, .bool true]) w := by refine Eq.trans ?_ rfl; kernel_rfl
@[simp] theorem fact242 (w : World) (K : KV) : alT P T.message_Spans w K = K (.pointer (some ⟨w.heap.size, 0, none⟩)) (w.alloc (.cells #[(.int .u64 0), (.bool false), (.slice none 0 0)] T.message_Spans)) := by refine Eq.trans ?_ rfl; kernel_rfl
@[simp] theorem fact243 (b i : Nat) (c_0 c_1 c_2 : Value) (w : World) (K : KV) : stT P T.message_Spans (.pointer (some ⟨b, i, none⟩)) (.agg #[c_0, c_1, c_2]) w K = stN P b i [c_0, c_1, c_2] w K := by refine Eq.trans ?_ rfl; kernel_rfl
@[simp] theorem fact244 (b i : Nat) (w : World) (K : KV) : faT P T.message_Spans (.pointer (some ⟨b, i, none⟩)) 0 w K = K (.pointer (some ⟨b, i, none⟩)) w := by refine Eq.trans ?_ rfl; kernel_rfl
@[simp] theorem fact245 (b i : Nat) (w : World) (K : KV) : faT P T.message_Spans (.pointer (some ⟨b, i, none⟩)) 2 w K = K (.pointer (some ⟨b, i + 2, none⟩)) w := by refine Eq.trans ?_ rfl; kernel_rfl
@[simp] theorem fact246 (v : Value) (w : World) (K : KV) : taT P (.iface T.message_Members v) T.any T.message_Members true w K = K (.tuple #[v, .bool true]) w := by refine Eq.trans ?_ rfl; kernel_rfl
@[simp] theorem fact247 (w : World) (K : KV) : alT P T.message_Members w K = K (.pointer (some ⟨w.heap.size, 0, none⟩)) (w.alloc (.cells #[(.slice none 0 0)] T.message_Members)) := by refine Eq.trans ?_ rfl; kernel_rfl
@[simp] theorem fact248 (b i : Nat) (c_0 : Value) (w : World) (K : KV) : stT P T.message_Members (.pointer (some ⟨b, i, none⟩)) (.agg #[c_0]) w K = stN P b i [c_0] w K := by refine Eq.trans ?_ rfl; kernel_rfl
@[simp] theorem fact249 (b i : Nat) (w : World) (K : KV) : faT P T.message_Members (.pointer (some ⟨b, i, none⟩)) 0 w K = K (.pointer (some ⟨b, i, none⟩)) w := by refine Eq.trans ?_ rfl; kernel_rfl
@[simp] theorem fact250 (v : Value) (w : World) (K : KV) : taT P (.iface T.message_Ask v) T.any T.message_Ask true w K = K (.tuple #[v, .bool true]) w := by refine Eq.trans ?_ rfl; kernel_rfl
@[simp] theorem fact251 (w : World) (K : KV) : alT P T.message_Ask w K = K (.pointer (some ⟨w.heap.size, 0, none⟩)) (w.alloc (.cells #[(.int .u64 0), (.int .u64 0), (.int .u64 0), (.int .i64 0)] T.message_Ask)) := by refine Eq.trans ?_ rfl; kernel_rfl
@[simp] theorem fact252 (b i : Nat) (c_0 c_1 c_2 c_3 : Value) (w : World) (K : KV) : stT P T.message_Ask (.pointer (some ⟨b, i, none⟩)) (.agg #[c_0, c_1, c_2, c_3]) w K = stN P b i [c_0, c_1, c_2, c_3] w K := by refine Eq.trans ?_ rfl; kernel_rfl
@[simp] theorem fact253 (b i : Nat) (w : World) (K : KV) : faT P T.message_Ask (.pointer (some ⟨b, i, none⟩)) 0 w K = K (.pointer (some ⟨b, i, none⟩)) w := by refine Eq.trans ?_ rfl; kernel_rfl
@[simp] theorem fact254 (b i : Nat) (w : World) (K : KV) : faT P T.message_Ask (.pointer (some ⟨b, i, none⟩)) 1 w K = K (.pointer (some ⟨b, i + 1, none⟩)) w := by refine Eq.trans ?_ rfl; kernel_rfl
@[simp] theorem fact255 (b i : Nat) (w : World) (K : KV) : faT P T.api_Ballot (.pointer (some ⟨b, i, none⟩)) 0 w K = K (.pointer (some ⟨b, i, none⟩)) w := by refine Eq.trans ?_ rfl; kernel_rfl
@[simp] theorem fact256 (b i : Nat) (w : World) (K : KV) : faT P T.message_Ask (.pointer (some ⟨b, i, none⟩)) 2 w K = K (.pointer (some ⟨b, i + 3, none⟩)) w := by refine Eq.trans ?_ rfl; kernel_rfl
@[simp] theorem fact257 (v : Value) (w : World) (K : KV) : taT P (.iface T.message_Reply v) T.any T.message_Reply true w K = K (.tuple #[v, .bool true]) w := by refine Eq.trans ?_ rfl; kernel_rfl
@[simp] theorem fact258 (w : World) (K : KV) : alT P T.message_Reply w K = K (.pointer (some ⟨w.heap.size, 0, none⟩)) (w.alloc (.cells #[(.int .u64 0), (.int .u64 0), (.int .u64 0), (.bool false), (.int .u64 0), (.int .u64 0), (.int .i64 0), (.bool false)] T.message_Reply)) := by refine Eq.trans ?_ rfl; kernel_rfl
@[simp] theorem fact259 (b i : Nat) (c_0 c_1 c_2 c_3 c_4 c_5 c_6 c_7 : Value) (w : World) (K : KV) : stT P T.message_Reply (.pointer (some ⟨b, i, none⟩)) (.agg #[c_0, c_1, c_2, c_3, c_4, c_5, c_6, c_7]) w K = stN P b i [c_0, c_1, c_2, c_3, c_4, c_5, c_6, c_7] w K := by refine Eq.trans ?_ rfl; kernel_rfl
@[simp] theorem fact260 (b i : Nat) (w : World) (K : KV) : faT P T.message_Reply (.pointer (some ⟨b, i, none⟩)) 0 w K = K (.pointer (some ⟨b, i, none⟩)) w := by refine Eq.trans ?_ rfl; kernel_rfl
@[simp] theorem fact261 (b i : Nat) (w : World) (K : KV) : faT P T.message_Reply (.pointer (some ⟨b, i, none⟩)) 1 w K = K (.pointer (some ⟨b, i + 1, none⟩)) w := by refine Eq.trans ?_ rfl; kernel_rfl
@[simp] theorem fact262 (b i : Nat) (w : World) (K : KV) : faT P T.message_Reply (.pointer (some ⟨b, i, none⟩)) 2 w K = K (.pointer (some ⟨b, i + 3, none⟩)) w := by refine Eq.trans ?_ rfl; kernel_rfl
@[simp] theorem fact263 (b i : Nat) (w : World) (K : KV) : faT P T.message_Reply (.pointer (some ⟨b, i, none⟩)) 4 w K = K (.pointer (some ⟨b, i + 6, none⟩)) w := by refine Eq.trans ?_ rfl; kernel_rfl
@[simp] theorem fact264 (b i : Nat) (w : World) (K : KV) : faT P T.message_Reply (.pointer (some ⟨b, i, none⟩)) 3 w K = K (.pointer (some ⟨b, i + 4, none⟩)) w := by refine Eq.trans ?_ rfl; kernel_rfl
@[simp] theorem fact265 (b i : Nat) (w : World) (K : KV) : faT P T.message_Reply (.pointer (some ⟨b, i, none⟩)) 5 w K = K (.pointer (some ⟨b, i + 7, none⟩)) w := by refine Eq.trans ?_ rfl; kernel_rfl
@[simp] theorem fact266 (v : Value) (w : World) (K : KV) : taT P (.iface T.message_Told v) T.any T.message_Told true w K = K (.tuple #[v, .bool true]) w := by refine Eq.trans ?_ rfl; kernel_rfl
@[simp] theorem fact267 (w : World) (K : KV) : alT P T.message_Told w K = K (.pointer (some ⟨w.heap.size, 0, none⟩)) (w.alloc (.cells #[(.int .u64 0), (.int .i64 0)] T.message_Told)) := by refine Eq.trans ?_ rfl; kernel_rfl
@[simp] theorem fact268 (b i : Nat) (c_0 c_1 : Value) (w : World) (K : KV) : stT P T.message_Told (.pointer (some ⟨b, i, none⟩)) (.agg #[c_0, c_1]) w K = stN P b i [c_0, c_1] w K := by refine Eq.trans ?_ rfl; kernel_rfl
@[simp] theorem fact269 (b i : Nat) (w : World) (K : KV) : faT P T.message_Told (.pointer (some ⟨b, i, none⟩)) 0 w K = K (.pointer (some ⟨b, i, none⟩)) w := by refine Eq.trans ?_ rfl; kernel_rfl
@[simp] theorem fact270 (b i : Nat) (w : World) (K : KV) : faT P T.message_Told (.pointer (some ⟨b, i, none⟩)) 1 w K = K (.pointer (some ⟨b, i + 1, none⟩)) w := by refine Eq.trans ?_ rfl; kernel_rfl
@[simp] theorem fact271 (v : Value) (w : World) (K : KV) : taT P (.iface T.message_Stored v) T.any T.message_Stored true w K = K (.tuple #[v, .bool true]) w := by refine Eq.trans ?_ rfl; kernel_rfl
@[simp] theorem fact272 (w : World) (K : KV) : alT P T.message_Stored w K = K (.pointer (some ⟨w.heap.size, 0, none⟩)) (w.alloc (.cells #[(.int .u64 0), (.int .u64 0), (.int .u64 0), (.slice none 0 0)] T.message_Stored)) := by refine Eq.trans ?_ rfl; kernel_rfl
@[simp] theorem fact273 (b i : Nat) (c_0 c_1 c_2 c_3 : Value) (w : World) (K : KV) : stT P T.message_Stored (.pointer (some ⟨b, i, none⟩)) (.agg #[c_0, c_1, c_2, c_3]) w K = stN P b i [c_0, c_1, c_2, c_3] w K := by refine Eq.trans ?_ rfl; kernel_rfl
@[simp] theorem fact274 (b i : Nat) (w : World) (K : KV) : faT P T.message_Stored (.pointer (some ⟨b, i, none⟩)) 0 w K = K (.pointer (some ⟨b, i, none⟩)) w := by refine Eq.trans ?_ rfl; kernel_rfl
@[simp] theorem fact275 (b i : Nat) (w : World) (K : KV) : faT P T.message_Stored (.pointer (some ⟨b, i, none⟩)) 1 w K = K (.pointer (some ⟨b, i + 1, none⟩)) w := by refine Eq.trans ?_ rfl; kernel_rfl
@[simp] theorem fact276 (b i : Nat) (w : World) (K : KV) : faT P T.message_Stored (.pointer (some ⟨b, i, none⟩)) 2 w K = K (.pointer (some ⟨b, i + 3, none⟩)) w := by refine Eq.trans ?_ rfl; kernel_rfl
@[simp] theorem fact277 (v : Value) (w : World) (K : KV) : taT P (.iface T.message_Acked v) T.any T.message_Acked true w K = K (.tuple #[v, .bool true]) w := by refine Eq.trans ?_ rfl; kernel_rfl
@[simp] theorem fact278 (w : World) (K : KV) : alT P T.message_Acked w K = K (.pointer (some ⟨w.heap.size, 0, none⟩)) (w.alloc (.cells #[(.int .u64 0), (.slice none 0 0)] T.message_Acked)) := by refine Eq.trans ?_ rfl; kernel_rfl
@[simp] theorem fact279 (b i : Nat) (c_0 c_1 : Value) (w : World) (K : KV) : stT P T.message_Acked (.pointer (some ⟨b, i, none⟩)) (.agg #[c_0, c_1]) w K = stN P b i [c_0, c_1] w K := by refine Eq.trans ?_ rfl; kernel_rfl
@[simp] theorem fact280 (b i : Nat) (w : World) (K : KV) : faT P T.message_Acked (.pointer (some ⟨b, i, none⟩)) 0 w K = K (.pointer (some ⟨b, i, none⟩)) w := by refine Eq.trans ?_ rfl; kernel_rfl
@[simp] theorem fact281 (b i : Nat) (w : World) (K : KV) : faT P T.message_Acked (.pointer (some ⟨b, i, none⟩)) 1 w K = K (.pointer (some ⟨b, i + 1, none⟩)) w := by refine Eq.trans ?_ rfl; kernel_rfl
@[simp] theorem fact282 (w : World) (K : KV) : alT P T.api_Packet w K = K (.pointer (some ⟨w.heap.size, 0, none⟩)) (w.alloc (.cells #[(.int .i64 0), (.int .u64 0), (.int .u64 0), (.int .u64 0), (.int .u64 0), (.int .u64 0), (.int .i64 0), (.bool false), (.slice none 0 0), (.slice none 0 0), (.slice none 0 0)] T.api_Packet)) := by refine Eq.trans ?_ rfl; kernel_rfl
@[simp] theorem fact283 (x0 : Int) (x1 : Int) (p2 : Option Addr) (l2 c2 : Nat) (w : World) (K : KV) : bldT P T.api_Packet #[(0, (.int .i64 x0)), (1, (.int .u64 x1)), (6, (.slice p2 l2 c2))] w K = K (.agg #[(.int .i64 x0), (.int .u64 x1), (.int .u64 0), (.int .u64 0), (.int .u64 0), (.int .u64 0), (.int .i64 0), (.bool false), (.slice p2 l2 c2), (.slice none 0 0), (.slice none 0 0)]) w := by refine Eq.trans ?_ rfl; kernel_rfl
@[simp] theorem fact284 (b i : Nat) (c_0 c_1 c_2 c_3 c_4 c_5 c_6 c_7 c_8 c_9 c_10 : Value) (w : World) (K : KV) : stT P T.api_Packet (.pointer (some ⟨b, i, none⟩)) (.agg #[c_0, c_1, c_2, c_3, c_4, c_5, c_6, c_7, c_8, c_9, c_10]) w K = stN P b i [c_0, c_1, c_2, c_3, c_4, c_5, c_6, c_7, c_8, c_9, c_10] w K := by refine Eq.trans ?_ rfl; kernel_rfl
@[simp] theorem fact285 (b i : Nat) (w : World) (K : KV) : faT P T.message_Spans (.pointer (some ⟨b, i, none⟩)) 1 w K = K (.pointer (some ⟨b, i + 1, none⟩)) w := by refine Eq.trans ?_ rfl; kernel_rfl
@[simp] theorem fact286 (x0 : Int) (x1 : Int) (c2_0 c2_1 : Value) (x3 : Int) (w : World) (K : KV) : bldT P T.api_Packet #[(0, (.int .i64 x0)), (1, (.int .u64 x1)), (2, (.agg #[c2_0, c2_1])), (4, (.int .i64 x3))] w K = K (.agg #[(.int .i64 x0), (.int .u64 x1), c2_0, c2_1, (.int .u64 0), (.int .u64 0), (.int .i64 x3), (.bool false), (.slice none 0 0), (.slice none 0 0), (.slice none 0 0)]) w := by refine Eq.trans ?_ rfl; kernel_rfl
@[simp] theorem fact287 (x0 : Int) (x1 : Int) (c2_0 c2_1 : Value) (bo3 : Bool) (c4_0 c4_1 : Value) (x5 : Int) (w : World) (K : KV) : bldT P T.api_Packet #[(0, (.int .i64 x0)), (1, (.int .u64 x1)), (2, (.agg #[c2_0, c2_1])), (5, (.bool bo3)), (3, (.agg #[c4_0, c4_1])), (4, (.int .i64 x5))] w K = K (.agg #[(.int .i64 x0), (.int .u64 x1), c2_0, c2_1, c4_0, c4_1, (.int .i64 x5), (.bool bo3), (.slice none 0 0), (.slice none 0 0), (.slice none 0 0)]) w := by refine Eq.trans ?_ rfl; kernel_rfl
@[simp] theorem fact288 (x0 : Int) (x1 : Int) (x2 : Int) (w : World) (K : KV) : bldT P T.api_Packet #[(0, (.int .i64 x0)), (1, (.int .u64 x1)), (4, (.int .i64 x2))] w K = K (.agg #[(.int .i64 x0), (.int .u64 x1), (.int .u64 0), (.int .u64 0), (.int .u64 0), (.int .u64 0), (.int .i64 x2), (.bool false), (.slice none 0 0), (.slice none 0 0), (.slice none 0 0)]) w := by refine Eq.trans ?_ rfl; kernel_rfl
@[simp] theorem fact289 (x0 : Int) (x1 : Int) (c2_0 c2_1 : Value) (p3 : Option Addr) (l3 c3 : Nat) (w : World) (K : KV) : bldT P T.api_Packet #[(0, (.int .i64 x0)), (1, (.int .u64 x1)), (2, (.agg #[c2_0, c2_1])), (6, (.slice p3 l3 c3))] w K = K (.agg #[(.int .i64 x0), (.int .u64 x1), c2_0, c2_1, (.int .u64 0), (.int .u64 0), (.int .i64 0), (.bool false), (.slice p3 l3 c3), (.slice none 0 0), (.slice none 0 0)]) w := by refine Eq.trans ?_ rfl; kernel_rfl
@[simp] theorem fact290 (x0 : Int) (x1 : Int) (p2 : Option Addr) (l2 c2 : Nat) (w : World) (K : KV) : bldT P T.api_Packet #[(0, (.int .i64 x0)), (1, (.int .u64 x1)), (8, (.slice p2 l2 c2))] w K = K (.agg #[(.int .i64 x0), (.int .u64 x1), (.int .u64 0), (.int .u64 0), (.int .u64 0), (.int .u64 0), (.int .i64 0), (.bool false), (.slice none 0 0), (.slice none 0 0), (.slice p2 l2 c2)]) w := by refine Eq.trans ?_ rfl; kernel_rfl
@[simp] theorem fact291 (w : World) (K : KV) : alT P T.slices_xorshift w K = K (.pointer (some ⟨w.heap.size, 0, none⟩)) (w.alloc (.cells #[(.int .u64 0)] T.slices_xorshift)) := by refine Eq.trans ?_ rfl; kernel_rfl
@[simp] theorem fact292 (b i : Nat) (x : Int) (w : World) (K : KV) : stT P T.slices_xorshift (.pointer (some ⟨b, i, none⟩)) (.int .u64 x) w K = st1 P b i (.int .u64 x) w K := by refine Eq.trans ?_ rfl; kernel_rfl
@[simp] theorem fact293 (w : World) (K : KV) : alT P T.int w K = K (.pointer (some ⟨w.heap.size, 0, none⟩)) (w.alloc (.cells #[(.int .i64 0)] T.int)) := by refine Eq.trans ?_ rfl; kernel_rfl
@[simp] theorem fact294 (rx ry : Operand) (l c : Nat) (w : World) (K : KV) : binT P .eql T.sl_api_Member rx ry (.slice none l c) (.slice none 0 0) w K = K (.bool true) w := by refine Eq.trans ?_ rfl; kernel_rfl
@[simp] theorem fact295 (rx ry : Operand) (a : Addr) (l c : Nat) (w : World) (K : KV) : binT P .eql T.sl_api_Member rx ry (.slice (some a) l c) (.slice none 0 0) w K = K (.bool false) w := by refine Eq.trans ?_ rfl; kernel_rfl
@[simp] theorem fact296 (rx ry : Operand) (l c : Nat) (w : World) (K : KV) : binT P .eql T.sl_uint64 rx ry (.slice none l c) (.slice none 0 0) w K = K (.bool true) w := by refine Eq.trans ?_ rfl; kernel_rfl
@[simp] theorem fact297 (rx ry : Operand) (a : Addr) (l c : Nat) (w : World) (K : KV) : binT P .eql T.sl_uint64 rx ry (.slice (some a) l c) (.slice none 0 0) w K = K (.bool false) w := by refine Eq.trans ?_ rfl; kernel_rfl
@[simp] theorem fact298  (w : World) (K : KV) : bsT P T.sl_uint64 0 #[] w K = K (.slice (some ⟨w.heap.size, 0, none⟩) 0 0) (w.alloc (.cells #[] T.uint64)) := by refine Eq.trans ?_ rfl; kernel_rfl
@[simp] theorem fact299 (b i : Nat) (w : World) (K : KV) : ldT P T.slices_xorshift (.pointer (some ⟨b, i, none⟩)) w K = ld1 P b i w K := by refine Eq.trans ?_ rfl; kernel_rfl
@[simp] theorem fact300 (b i : Nat) (p : Option Addr) (w : World) (K : KV) : stT P T.p_timers_item (.pointer (some ⟨b, i, none⟩)) (.pointer p) w K = st1 P b i (.pointer p) w K := by refine Eq.trans ?_ rfl; kernel_rfl
@[simp] theorem fact301 (b i : Nat) (p : Option Addr) (l c : Nat) (w : World) (K : KV) : stT P T.timers_line (.pointer (some ⟨b, i, none⟩)) (.slice p l c) w K = st1 P b i (.slice p l c) w K := by refine Eq.trans ?_ rfl; kernel_rfl
@[simp] theorem fact302 (v : Value) (w : World) (K : KV) : taT P (.iface T.p_timers_item v) T.any T.p_timers_item false w K = K v w := by refine Eq.trans ?_ rfl; kernel_rfl
@[simp] theorem fact303 (p0 : Option Addr) (w : World) (K : KV) : bsT P T.timers_line 1 #[(0, (.pointer p0))] w K = K (.slice (some ⟨w.heap.size, 0, none⟩) 1 1) (w.alloc (.cells #[(.pointer p0)] T.p_timers_item)) := by refine Eq.trans ?_ rfl; kernel_rfl
end Go.Proofs.Ytgcpljghnlohbaa
