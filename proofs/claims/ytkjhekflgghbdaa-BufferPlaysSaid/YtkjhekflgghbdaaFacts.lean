/-
  Printed by wip/Shallow.lean: what the operations come to at this seat's types. No condition.
-/
import Derived.Test.YtkjhekflgghbdaaN
import Derived.Test.YtkjhekflgghbdaaZEngSimp
set_option maxRecDepth 1000000
namespace Go.Proofs.Ytkjhekflgghbdaa
open Go.Eng

@[simp] theorem fact0 (rx ry : Operand)  (w : World) (K : KV) : binT P .eql T.p_winnowref16_Buffer rx ry (.pointer none) (.pointer none) w K = K (.bool true) w := by refine Eq.trans ?_ rfl; kernel_rfl
@[simp] theorem fact1 (rx ry : Operand) (a : Addr) (w : World) (K : KV) : binT P .eql T.p_winnowref16_Buffer rx ry (.pointer (some a)) (.pointer none) w K = K (.bool false) w := by refine Eq.trans ?_ rfl; kernel_rfl
@[simp] theorem fact2 (rx ry : Operand) (a : Addr) (w : World) (K : KV) : binT P .eql T.p_winnowref16_Buffer rx ry (.pointer none) (.pointer (some a)) w K = K (.bool false) w := by refine Eq.trans ?_ rfl; kernel_rfl
@[simp] theorem fact3 (rx ry : Operand)  (w : World) (K : KV) : binT P .eql T.p_buffer_Buffer rx ry (.pointer none) (.pointer none) w K = K (.bool true) w := by refine Eq.trans ?_ rfl; kernel_rfl
@[simp] theorem fact4 (rx ry : Operand) (a : Addr) (w : World) (K : KV) : binT P .eql T.p_buffer_Buffer rx ry (.pointer (some a)) (.pointer none) w K = K (.bool false) w := by refine Eq.trans ?_ rfl; kernel_rfl
@[simp] theorem fact5 (rx ry : Operand) (a : Addr) (w : World) (K : KV) : binT P .eql T.p_buffer_Buffer rx ry (.pointer none) (.pointer (some a)) w K = K (.bool false) w := by refine Eq.trans ?_ rfl; kernel_rfl
@[simp] theorem fact6 : isSlB P T.sl_winnowlaw16_Op = true := by refine Eq.trans ?_ rfl; kernel_rfl
@[simp] theorem fact7 : szE P T.sl_winnowlaw16_Op = 11 := by refine Eq.trans ?_ rfl; kernel_rfl
theorem et.sl_winnowlaw16_Op : ElemTy P T.sl_winnowlaw16_Op T.winnowlaw16_Op 11 104 := ElemTy.mk' (by kernel_rfl) (by kernel_rfl) (by kernel_rfl)
@[simp] theorem fact9 (b i : Nat) (w : World) (K : KV) : ldT P T.winnowlaw16_Op (.pointer (some ⟨b, i, none⟩)) w K = ldN P 11 b i w K := by refine Eq.trans ?_ rfl; kernel_rfl
@[simp] theorem fact10 (w : World) (K : KV) : alT P T.winnowlaw16_Op w K = K (.pointer (some ⟨w.heap.size, 0, none⟩)) (w.alloc (.cells #[(.int .i64 0), (.int .u64 0), (.int .u64 0), (.int .u64 0), (.int .u64 0), (.int .u64 0), (.string ⟨#[]⟩), (.string ⟨#[]⟩), (.bool false), (.int .u64 0), (.int .u64 0)] T.winnowlaw16_Op)) := by refine Eq.trans ?_ rfl; kernel_rfl
@[simp] theorem fact11 (b i : Nat) (c_0 c_1 c_2 c_3 c_4 c_5 c_6 c_7 c_8 c_9 c_10 : Value) (w : World) (K : KV) : stT P T.winnowlaw16_Op (.pointer (some ⟨b, i, none⟩)) (.agg #[c_0, c_1, c_2, c_3, c_4, c_5, c_6, c_7, c_8, c_9, c_10]) w K = stN P b i [c_0, c_1, c_2, c_3, c_4, c_5, c_6, c_7, c_8, c_9, c_10] w K := by refine Eq.trans ?_ rfl; kernel_rfl
@[simp] theorem fact12 (b i : Nat) (w : World) (K : KV) : faT P T.winnowlaw16_Op (.pointer (some ⟨b, i, none⟩)) 0 w K = K (.pointer (some ⟨b, i, none⟩)) w := by refine Eq.trans ?_ rfl; kernel_rfl
@[simp] theorem fact13 (b i : Nat) (w : World) (K : KV) : ldT P T.int (.pointer (some ⟨b, i, none⟩)) w K = ld1 P b i w K := by refine Eq.trans ?_ rfl; kernel_rfl
@[simp] theorem fact14 (b i : Nat) (w : World) (K : KV) : faT P T.winnowlaw16_Op (.pointer (some ⟨b, i, none⟩)) 1 w K = K (.pointer (some ⟨b, i + 1, none⟩)) w := by refine Eq.trans ?_ rfl; kernel_rfl
@[simp] theorem fact15 (b i : Nat) (w : World) (K : KV) : ldT P T.api_Span (.pointer (some ⟨b, i, none⟩)) w K = ldN P 8 b i w K := by refine Eq.trans ?_ rfl; kernel_rfl
@[simp] theorem fact16 (b i : Nat) (w : World) (K : KV) : faT P T.winnowlaw16_Op (.pointer (some ⟨b, i, none⟩)) 3 w K = K (.pointer (some ⟨b, i + 10, none⟩)) w := by refine Eq.trans ?_ rfl; kernel_rfl
@[simp] theorem fact17 (b i : Nat) (w : World) (K : KV) : ldT P T.uint64 (.pointer (some ⟨b, i, none⟩)) w K = ld1 P b i w K := by refine Eq.trans ?_ rfl; kernel_rfl
@[simp] theorem fact18 (b i : Nat) (w : World) (K : KV) : faT P T.winnowlaw16_Op (.pointer (some ⟨b, i, none⟩)) 2 w K = K (.pointer (some ⟨b, i + 9, none⟩)) w := by refine Eq.trans ?_ rfl; kernel_rfl
@[simp] theorem fact19 (b i : Nat) (w : World) (K : KV) : faT P T.winnowref16_Buffer (.pointer (some ⟨b, i, none⟩)) 3 w K = K (.pointer (some ⟨b, i + 3, none⟩)) w := by refine Eq.trans ?_ rfl; kernel_rfl
@[simp] theorem fact20 (b i : Nat) (w : World) (K : KV) : ldT P T.sl_winnowref16_Trace (.pointer (some ⟨b, i, none⟩)) w K = ld1 P b i w K := by refine Eq.trans ?_ rfl; kernel_rfl
@[simp] theorem fact21 : isSlB P T.sl_winnowref16_Trace = true := by refine Eq.trans ?_ rfl; kernel_rfl
@[simp] theorem fact22 : szE P T.sl_winnowref16_Trace = 4 := by refine Eq.trans ?_ rfl; kernel_rfl
theorem et.sl_winnowref16_Trace : ElemTy P T.sl_winnowref16_Trace T.winnowref16_Trace 4 48 := ElemTy.mk' (by kernel_rfl) (by kernel_rfl) (by kernel_rfl)
@[simp] theorem fact24 (b i : Nat) (w : World) (K : KV) : faT P T.winnowref16_Trace (.pointer (some ⟨b, i, none⟩)) 1 w K = K (.pointer (some ⟨b, i + 1, none⟩)) w := by refine Eq.trans ?_ rfl; kernel_rfl
@[simp] theorem fact25 (b i : Nat) (x : Int) (w : World) (K : KV) : stT P T.uint64 (.pointer (some ⟨b, i, none⟩)) (.int .u64 x) w K = st1 P b i (.int .u64 x) w K := by refine Eq.trans ?_ rfl; kernel_rfl
@[simp] theorem fact26 : isSlB P T.sl_api_Member = true := by refine Eq.trans ?_ rfl; kernel_rfl
@[simp] theorem fact27 : szE P T.sl_api_Member = 3 := by refine Eq.trans ?_ rfl; kernel_rfl
theorem et.sl_api_Member : ElemTy P T.sl_api_Member T.api_Member 3 24 := ElemTy.mk' (by kernel_rfl) (by kernel_rfl) (by kernel_rfl)
@[simp] theorem fact29 : isSlB P T.sl_uint64 = true := by refine Eq.trans ?_ rfl; kernel_rfl
@[simp] theorem fact30 : szE P T.sl_uint64 = 1 := by refine Eq.trans ?_ rfl; kernel_rfl
theorem et.sl_uint64 : ElemTy P T.sl_uint64 T.uint64 1 8 := ElemTy.mk' (by kernel_rfl) (by kernel_rfl) (by kernel_rfl)
@[simp] theorem fact32 (rx ry : Operand)  (w : World) (K : KV) : binT P .eql T.p_gossip_Node rx ry (.pointer none) (.pointer none) w K = K (.bool true) w := by refine Eq.trans ?_ rfl; kernel_rfl
@[simp] theorem fact33 (rx ry : Operand) (a : Addr) (w : World) (K : KV) : binT P .eql T.p_gossip_Node rx ry (.pointer (some a)) (.pointer none) w K = K (.bool false) w := by refine Eq.trans ?_ rfl; kernel_rfl
@[simp] theorem fact34 (rx ry : Operand) (a : Addr) (w : World) (K : KV) : binT P .eql T.p_gossip_Node rx ry (.pointer none) (.pointer (some a)) w K = K (.bool false) w := by refine Eq.trans ?_ rfl; kernel_rfl
@[simp] theorem fact35 : isSlB P T.sl_p_gossip_Node = true := by refine Eq.trans ?_ rfl; kernel_rfl
@[simp] theorem fact36 : szE P T.sl_p_gossip_Node = 1 := by refine Eq.trans ?_ rfl; kernel_rfl
theorem et.sl_p_gossip_Node : ElemTy P T.sl_p_gossip_Node T.p_gossip_Node 1 8 := ElemTy.mk' (by kernel_rfl) (by kernel_rfl) (by kernel_rfl)
@[simp] theorem fact38 (p0 : Option Addr) (w : World) (K : KV) : bsT P T.sl_p_gossip_Node 1 #[(0, (.pointer p0))] w K = K (.slice (some ⟨w.heap.size, 0, none⟩) 1 1) (w.alloc (.cells #[(.pointer p0)] T.p_gossip_Node)) := by refine Eq.trans ?_ rfl; kernel_rfl
@[simp] theorem fact39 : isSlB P T.sl_winnowlaw10_Op = true := by refine Eq.trans ?_ rfl; kernel_rfl
@[simp] theorem fact40 : szE P T.sl_winnowlaw10_Op = 5 := by refine Eq.trans ?_ rfl; kernel_rfl
theorem et.sl_winnowlaw10_Op : ElemTy P T.sl_winnowlaw10_Op T.winnowlaw10_Op 5 56 := ElemTy.mk' (by kernel_rfl) (by kernel_rfl) (by kernel_rfl)
@[simp] theorem fact42 (b i : Nat) (w : World) (K : KV) : faT P T.winnowlaw10_Op (.pointer (some ⟨b, i, none⟩)) 3 w K = K (.pointer (some ⟨b, i + 3, none⟩)) w := by refine Eq.trans ?_ rfl; kernel_rfl
@[simp] theorem fact43 (b i : Nat) (w : World) (K : KV) : ldT P T.sl_api_Member (.pointer (some ⟨b, i, none⟩)) w K = ld1 P b i w K := by refine Eq.trans ?_ rfl; kernel_rfl
@[simp] theorem fact44 (b i : Nat) (w : World) (K : KV) : faT P T.api_Member (.pointer (some ⟨b, i, none⟩)) 1 w K = K (.pointer (some ⟨b, i + 1, none⟩)) w := by refine Eq.trans ?_ rfl; kernel_rfl
@[simp] theorem fact45 (b i : Nat) (w : World) (K : KV) : faT P T.api_Member (.pointer (some ⟨b, i, none⟩)) 0 w K = K (.pointer (some ⟨b, i, none⟩)) w := by refine Eq.trans ?_ rfl; kernel_rfl
@[simp] theorem fact46 (b i : Nat) (w : World) (K : KV) : faT P T.winnowlaw10_Op (.pointer (some ⟨b, i, none⟩)) 0 w K = K (.pointer (some ⟨b, i, none⟩)) w := by refine Eq.trans ?_ rfl; kernel_rfl
@[simp] theorem fact47 (b i : Nat) (w : World) (K : KV) : ldT P T.p_gossip_Node (.pointer (some ⟨b, i, none⟩)) w K = ld1 P b i w K := by refine Eq.trans ?_ rfl; kernel_rfl
@[simp] theorem fact48 (w : World) (K : KV) : alT P T.api_Member w K = K (.pointer (some ⟨w.heap.size, 0, none⟩)) (w.alloc (.cells #[(.int .u64 0), (.int .u64 0), (.int .i64 0)] T.api_Member)) := by refine Eq.trans ?_ rfl; kernel_rfl
@[simp] theorem fact49 (b i : Nat) (c_0 c_1 c_2 : Value) (w : World) (K : KV) : stT P T.api_Member (.pointer (some ⟨b, i, none⟩)) (.agg #[c_0, c_1, c_2]) w K = stN P b i [c_0, c_1, c_2] w K := by refine Eq.trans ?_ rfl; kernel_rfl
@[simp] theorem fact50 (b i : Nat) (w : World) (K : KV) : faT P T.api_Member (.pointer (some ⟨b, i, none⟩)) 2 w K = K (.pointer (some ⟨b, i + 2, none⟩)) w := by refine Eq.trans ?_ rfl; kernel_rfl
@[simp] theorem fact51 (x0 : Int) (x1 : Int) (w : World) (K : KV) : bldT P T.api_Member #[(0, (.int .u64 x0)), (1, (.int .u64 x1))] w K = K (.agg #[(.int .u64 x0), (.int .u64 x1), (.int .i64 0)]) w := by refine Eq.trans ?_ rfl; kernel_rfl
@[simp] theorem fact52 (c0_0 c0_1 c0_2 : Value) (c1_0 c1_1 c1_2 : Value) (w : World) (K : KV) : bsT P T.sl_api_Member 2 #[(0, (.agg #[c0_0, c0_1, c0_2])), (1, (.agg #[c1_0, c1_1, c1_2]))] w K = K (.slice (some ⟨w.heap.size, 0, none⟩) 2 2) (w.alloc (.cells #[c0_0, c0_1, c0_2, c1_0, c1_1, c1_2] T.api_Member)) := by refine Eq.trans ?_ rfl; kernel_rfl
@[simp] theorem fact53 (c0_0 c0_1 c0_2 : Value) (w : World) (K : KV) : bsT P T.sl_api_Member 1 #[(0, (.agg #[c0_0, c0_1, c0_2]))] w K = K (.slice (some ⟨w.heap.size, 0, none⟩) 1 1) (w.alloc (.cells #[c0_0, c0_1, c0_2] T.api_Member)) := by refine Eq.trans ?_ rfl; kernel_rfl
@[simp] theorem fact54 (b i : Nat) (w : World) (K : KV) : ldT P T.winnowlaw10_Op (.pointer (some ⟨b, i, none⟩)) w K = ldN P 5 b i w K := by refine Eq.trans ?_ rfl; kernel_rfl
@[simp] theorem fact55 (w : World) (K : KV) : alT P T.winnowlaw10_Op w K = K (.pointer (some ⟨w.heap.size, 0, none⟩)) (w.alloc (.cells #[(.int .i64 0), (.int .u64 0), (.int .u64 0), (.slice none 0 0), (.int .u64 0)] T.winnowlaw10_Op)) := by refine Eq.trans ?_ rfl; kernel_rfl
@[simp] theorem fact56 (b i : Nat) (c_0 c_1 c_2 c_3 c_4 : Value) (w : World) (K : KV) : stT P T.winnowlaw10_Op (.pointer (some ⟨b, i, none⟩)) (.agg #[c_0, c_1, c_2, c_3, c_4]) w K = stN P b i [c_0, c_1, c_2, c_3, c_4] w K := by refine Eq.trans ?_ rfl; kernel_rfl
@[simp] theorem fact57 (b i : Nat) (w : World) (K : KV) : faT P T.winnowlaw10_Op (.pointer (some ⟨b, i, none⟩)) 1 w K = K (.pointer (some ⟨b, i + 1, none⟩)) w := by refine Eq.trans ?_ rfl; kernel_rfl
@[simp] theorem fact58 (b i : Nat) (w : World) (K : KV) : faT P T.winnowlaw10_Op (.pointer (some ⟨b, i, none⟩)) 2 w K = K (.pointer (some ⟨b, i + 2, none⟩)) w := by refine Eq.trans ?_ rfl; kernel_rfl
@[simp] theorem fact59 (b i : Nat) (w : World) (K : KV) : faT P T.winnowlaw10_Op (.pointer (some ⟨b, i, none⟩)) 4 w K = K (.pointer (some ⟨b, i + 4, none⟩)) w := by refine Eq.trans ?_ rfl; kernel_rfl
@[simp] theorem fact60 (b i : Nat) (w : World) (K : KV) : ldT P T.api_Member (.pointer (some ⟨b, i, none⟩)) w K = ldN P 3 b i w K := by refine Eq.trans ?_ rfl; kernel_rfl
@[simp] theorem fact61  (w : World) (K : KV) : bldT P T.api_Member #[] w K = K (.agg #[(.int .u64 0), (.int .u64 0), (.int .i64 0)]) w := by refine Eq.trans ?_ rfl; kernel_rfl
@[simp] theorem fact62 (x0 : Int) (x1 : Int) (x2 : Int) (w : World) (K : KV) : bldT P T.api_Member #[(0, (.int .u64 x0)), (1, (.int .u64 x1)), (2, (.int .i64 x2))] w K = K (.agg #[(.int .u64 x0), (.int .u64 x1), (.int .i64 x2)]) w := by refine Eq.trans ?_ rfl; kernel_rfl
@[simp] theorem fact63 : isSlB P T.sl_sl_uint8 = true := by refine Eq.trans ?_ rfl; kernel_rfl
@[simp] theorem fact64 : szE P T.sl_sl_uint8 = 1 := by refine Eq.trans ?_ rfl; kernel_rfl
theorem et.sl_sl_uint8 : ElemTy P T.sl_sl_uint8 T.sl_uint8 1 24 := ElemTy.mk' (by kernel_rfl) (by kernel_rfl) (by kernel_rfl)
@[simp] theorem fact66 : isSlB P T.sl_uint8 = true := by refine Eq.trans ?_ rfl; kernel_rfl
@[simp] theorem fact67 : szE P T.sl_uint8 = 1 := by refine Eq.trans ?_ rfl; kernel_rfl
theorem et.sl_uint8 : ElemTy P T.sl_uint8 T.uint8 1 1 := ElemTy.mk' (by kernel_rfl) (by kernel_rfl) (by kernel_rfl)
@[simp] theorem fact69 (rx ry : Operand)  (w : World) (K : KV) : binT P .eql T.p_wal_Log rx ry (.pointer none) (.pointer none) w K = K (.bool true) w := by refine Eq.trans ?_ rfl; kernel_rfl
@[simp] theorem fact70 (rx ry : Operand) (a : Addr) (w : World) (K : KV) : binT P .eql T.p_wal_Log rx ry (.pointer (some a)) (.pointer none) w K = K (.bool false) w := by refine Eq.trans ?_ rfl; kernel_rfl
@[simp] theorem fact71 (rx ry : Operand) (a : Addr) (w : World) (K : KV) : binT P .eql T.p_wal_Log rx ry (.pointer none) (.pointer (some a)) w K = K (.bool false) w := by refine Eq.trans ?_ rfl; kernel_rfl
@[simp] theorem fact72 (b i : Nat) (w : World) (K : KV) : ldT P T.sl_uint8 (.pointer (some ⟨b, i, none⟩)) w K = ld1 P b i w K := by refine Eq.trans ?_ rfl; kernel_rfl
@[simp] theorem fact73 (rx ry : Operand)  (w : World) (K : KV) : binT P .neq T.p_wal_Log rx ry (.pointer none) (.pointer none) w K = K (.bool false) w := by refine Eq.trans ?_ rfl; kernel_rfl
@[simp] theorem fact74 (rx ry : Operand) (a : Addr) (w : World) (K : KV) : binT P .neq T.p_wal_Log rx ry (.pointer (some a)) (.pointer none) w K = K (.bool true) w := by refine Eq.trans ?_ rfl; kernel_rfl
@[simp] theorem fact75 (rx ry : Operand) (a : Addr) (w : World) (K : KV) : binT P .neq T.p_wal_Log rx ry (.pointer none) (.pointer (some a)) w K = K (.bool true) w := by refine Eq.trans ?_ rfl; kernel_rfl
@[simp] theorem fact76  (w : World) (K : KV) : bsT P T.sl_sl_uint8 0 #[] w K = K (.slice (some ⟨w.heap.size, 0, none⟩) 0 0) (w.alloc (.cells #[] T.sl_uint8)) := by refine Eq.trans ?_ rfl; kernel_rfl
@[simp] theorem fact77 (p0 : Option Addr) (l0 c0 : Nat) (w : World) (K : KV) : bsT P T.sl_sl_uint8 1 #[(0, (.slice p0 l0 c0))] w K = K (.slice (some ⟨w.heap.size, 0, none⟩) 1 1) (w.alloc (.cells #[(.slice p0 l0 c0)] T.sl_uint8)) := by refine Eq.trans ?_ rfl; kernel_rfl
@[simp] theorem fact78 : isSlB P T.sl_winnowlaw07_Op = true := by refine Eq.trans ?_ rfl; kernel_rfl
@[simp] theorem fact79 : szE P T.sl_winnowlaw07_Op = 4 := by refine Eq.trans ?_ rfl; kernel_rfl
theorem et.sl_winnowlaw07_Op : ElemTy P T.sl_winnowlaw07_Op T.winnowlaw07_Op 4 64 := ElemTy.mk' (by kernel_rfl) (by kernel_rfl) (by kernel_rfl)
@[simp] theorem fact81 (b i : Nat) (w : World) (K : KV) : faT P T.winnowlaw07_Op (.pointer (some ⟨b, i, none⟩)) 0 w K = K (.pointer (some ⟨b, i, none⟩)) w := by refine Eq.trans ?_ rfl; kernel_rfl
@[simp] theorem fact82 (b i : Nat) (w : World) (K : KV) : faT P T.winnowlaw07_Op (.pointer (some ⟨b, i, none⟩)) 2 w K = K (.pointer (some ⟨b, i + 2, none⟩)) w := by refine Eq.trans ?_ rfl; kernel_rfl
@[simp] theorem fact83 (b i : Nat) (w : World) (K : KV) : faT P T.winnowlaw07_Op (.pointer (some ⟨b, i, none⟩)) 1 w K = K (.pointer (some ⟨b, i + 1, none⟩)) w := by refine Eq.trans ?_ rfl; kernel_rfl
@[simp] theorem fact84 (b i : Nat) (w : World) (K : KV) : faT P T.winnowlaw07_Op (.pointer (some ⟨b, i, none⟩)) 3 w K = K (.pointer (some ⟨b, i + 3, none⟩)) w := by refine Eq.trans ?_ rfl; kernel_rfl
@[simp] theorem fact85 (b i : Nat) (w : World) (K : KV) : ldT P T.sl_int (.pointer (some ⟨b, i, none⟩)) w K = ld1 P b i w K := by refine Eq.trans ?_ rfl; kernel_rfl
@[simp] theorem fact86 (b i : Nat) (w : World) (K : KV) : faT P T.api_Span (.pointer (some ⟨b, i, none⟩)) 6 w K = K (.pointer (some ⟨b, i + 6, none⟩)) w := by refine Eq.trans ?_ rfl; kernel_rfl
@[simp] theorem fact87 (b i : Nat) (w : World) (K : KV) : ldT P T.string (.pointer (some ⟨b, i, none⟩)) w K = ld1 P b i w K := by refine Eq.trans ?_ rfl; kernel_rfl
@[simp] theorem fact88 (b i : Nat) (w : World) (K : KV) : faT P T.api_Span (.pointer (some ⟨b, i, none⟩)) 5 w K = K (.pointer (some ⟨b, i + 5, none⟩)) w := by refine Eq.trans ?_ rfl; kernel_rfl
@[simp] theorem fact89 (x0 : Int) (x1 : Int) (s2 : ByteArray) (s3 : ByteArray) (w : World) (K : KV) : bldT P T.api_Span #[(0, (.int .u64 x0)), (1, (.int .u64 x1)), (5, (.string s2)), (6, (.string s3))] w K = K (.agg #[(.int .u64 x0), (.int .u64 x1), (.int .u64 0), (.int .u64 0), (.int .u64 0), (.string s2), (.string s3), (.bool false)]) w := by refine Eq.trans ?_ rfl; kernel_rfl
@[simp] theorem fact90 (w : World) (K : KV) : alT P T.api_Span w K = K (.pointer (some ⟨w.heap.size, 0, none⟩)) (w.alloc (.cells #[(.int .u64 0), (.int .u64 0), (.int .u64 0), (.int .u64 0), (.int .u64 0), (.string ⟨#[]⟩), (.string ⟨#[]⟩), (.bool false)] T.api_Span)) := by refine Eq.trans ?_ rfl; kernel_rfl
@[simp] theorem fact91 (b i : Nat) (c_0 c_1 c_2 c_3 c_4 c_5 c_6 c_7 : Value) (w : World) (K : KV) : stT P T.api_Span (.pointer (some ⟨b, i, none⟩)) (.agg #[c_0, c_1, c_2, c_3, c_4, c_5, c_6, c_7]) w K = stN P b i [c_0, c_1, c_2, c_3, c_4, c_5, c_6, c_7] w K := by refine Eq.trans ?_ rfl; kernel_rfl
@[simp] theorem fact92 (b i : Nat) (w : World) (K : KV) : faT P T.api_Span (.pointer (some ⟨b, i, none⟩)) 0 w K = K (.pointer (some ⟨b, i, none⟩)) w := by refine Eq.trans ?_ rfl; kernel_rfl
@[simp] theorem fact93 (b i : Nat) (w : World) (K : KV) : faT P T.api_Span (.pointer (some ⟨b, i, none⟩)) 1 w K = K (.pointer (some ⟨b, i + 1, none⟩)) w := by refine Eq.trans ?_ rfl; kernel_rfl
@[simp] theorem fact94 : isSlB P T.sl_api_Span = true := by refine Eq.trans ?_ rfl; kernel_rfl
@[simp] theorem fact95 : szE P T.sl_api_Span = 8 := by refine Eq.trans ?_ rfl; kernel_rfl
theorem et.sl_api_Span : ElemTy P T.sl_api_Span T.api_Span 8 80 := ElemTy.mk' (by kernel_rfl) (by kernel_rfl) (by kernel_rfl)
@[simp] theorem fact97 (x0 : Int) (x1 : Int) (x2 : Int) (r3 : Option Nat) (w : World) (K : KV) : bldT P T.buffer_Buffer #[(1, (.int .i64 x0)), (2, (.int .i64 x1)), (3, (.int .u64 x2)), (4, (.map r3))] w K = K (.agg #[(.slice none 0 0), (.map none), (.int .i64 x0), (.int .i64 x1), (.int .u64 x2), (.map r3)]) w := by refine Eq.trans ?_ rfl; kernel_rfl
@[simp] theorem fact98 (x0 : Int) (x1 : Int) (x2 : Int) (w : World) (K : KV) : bldT P T.winnowref16_Buffer #[(0, (.int .i64 x0)), (1, (.int .i64 x1)), (2, (.int .u64 x2))] w K = K (.agg #[(.int .i64 x0), (.int .i64 x1), (.int .u64 x2), (.slice none 0 0)]) w := by refine Eq.trans ?_ rfl; kernel_rfl
@[simp] theorem fact99 (b i : Nat) (w : World) (K : KV) : faT P T.buffer_Buffer (.pointer (some ⟨b, i, none⟩)) 4 w K = K (.pointer (some ⟨b, i + 5, none⟩)) w := by refine Eq.trans ?_ rfl; kernel_rfl
@[simp] theorem fact100 (b i : Nat) (w : World) (K : KV) : ldT P T.map_uint64_p_buffer_entry (.pointer (some ⟨b, i, none⟩)) w K = ld1 P b i w K := by refine Eq.trans ?_ rfl; kernel_rfl
theorem mt.map_uint64_p_buffer_entry : MapTy P T.map_uint64_p_buffer_entry .u64 T.p_buffer_entry (.pointer none) := MapTy.mk' (key := T.uint64) (by kernel_rfl) (by kernel_rfl) (by kernel_rfl)
@[simp] theorem fact102 (rx ry : Operand)  (w : World) (K : KV) : binT P .eql T.p_buffer_entry rx ry (.pointer none) (.pointer none) w K = K (.bool true) w := by refine Eq.trans ?_ rfl; kernel_rfl
@[simp] theorem fact103 (rx ry : Operand) (a : Addr) (w : World) (K : KV) : binT P .eql T.p_buffer_entry rx ry (.pointer (some a)) (.pointer none) w K = K (.bool false) w := by refine Eq.trans ?_ rfl; kernel_rfl
@[simp] theorem fact104 (rx ry : Operand) (a : Addr) (w : World) (K : KV) : binT P .eql T.p_buffer_entry rx ry (.pointer none) (.pointer (some a)) w K = K (.bool false) w := by refine Eq.trans ?_ rfl; kernel_rfl
@[simp] theorem fact105 (b i : Nat) (w : World) (K : KV) : faT P T.buffer_Buffer (.pointer (some ⟨b, i, none⟩)) 1 w K = K (.pointer (some ⟨b, i + 2, none⟩)) w := by refine Eq.trans ?_ rfl; kernel_rfl
@[simp] theorem fact106  (w : World) (K : KV) : bldT P T.buffer_entry #[] w K = K (.agg #[(.slice none 0 0), (.bool false)]) w := by refine Eq.trans ?_ rfl; kernel_rfl
@[simp] theorem fact107 (b i : Nat) (w : World) (K : KV) : faT P T.buffer_Buffer (.pointer (some ⟨b, i, none⟩)) 0 w K = K (.pointer (some ⟨b, i, none⟩)) w := by refine Eq.trans ?_ rfl; kernel_rfl
@[simp] theorem fact108 (b i : Nat) (w : World) (K : KV) : faT P T.buffer_Buffer (.pointer (some ⟨b, i, none⟩)) 3 w K = K (.pointer (some ⟨b, i + 4, none⟩)) w := by refine Eq.trans ?_ rfl; kernel_rfl
@[simp] theorem fact109 (b i : Nat) (w : World) (K : KV) : faT P T.buffer_entry (.pointer (some ⟨b, i, none⟩)) 0 w K = K (.pointer (some ⟨b, i, none⟩)) w := by refine Eq.trans ?_ rfl; kernel_rfl
@[simp] theorem fact110 (b i : Nat) (w : World) (K : KV) : ldT P T.sl_api_Span (.pointer (some ⟨b, i, none⟩)) w K = ld1 P b i w K := by refine Eq.trans ?_ rfl; kernel_rfl
@[simp] theorem fact111 (b i : Nat) (w : World) (K : KV) : faT P T.buffer_Buffer (.pointer (some ⟨b, i, none⟩)) 2 w K = K (.pointer (some ⟨b, i + 3, none⟩)) w := by refine Eq.trans ?_ rfl; kernel_rfl
@[simp] theorem fact112 (b i : Nat) (w : World) (K : KV) : faT P T.buffer_entry (.pointer (some ⟨b, i, none⟩)) 1 w K = K (.pointer (some ⟨b, i + 1, none⟩)) w := by refine Eq.trans ?_ rfl; kernel_rfl
@[simp] theorem fact113 (b i : Nat) (bo : Bool) (w : World) (K : KV) : stT P T.bool (.pointer (some ⟨b, i, none⟩)) (.bool bo) w K = st1 P b i (.bool bo) w K := by refine Eq.trans ?_ rfl; kernel_rfl
@[simp] theorem fact114 (c0_0 c0_1 c0_2 c0_3 c0_4 c0_5 c0_6 c0_7 : Value) (w : World) (K : KV) : bsT P T.sl_api_Span 1 #[(0, (.agg #[c0_0, c0_1, c0_2, c0_3, c0_4, c0_5, c0_6, c0_7]))] w K = K (.slice (some ⟨w.heap.size, 0, none⟩) 1 1) (w.alloc (.cells #[c0_0, c0_1, c0_2, c0_3, c0_4, c0_5, c0_6, c0_7] T.api_Span)) := by refine Eq.trans ?_ rfl; kernel_rfl
@[simp] theorem fact115 (b i : Nat) (p : Option Addr) (l c : Nat) (w : World) (K : KV) : stT P T.sl_api_Span (.pointer (some ⟨b, i, none⟩)) (.slice p l c) w K = st1 P b i (.slice p l c) w K := by refine Eq.trans ?_ rfl; kernel_rfl
@[simp] theorem fact116 (b i : Nat) (w : World) (K : KV) : faT P T.winnowref16_Buffer (.pointer (some ⟨b, i, none⟩)) 0 w K = K (.pointer (some ⟨b, i, none⟩)) w := by refine Eq.trans ?_ rfl; kernel_rfl
@[simp] theorem fact117 (b i : Nat) (w : World) (K : KV) : faT P T.winnowref16_Buffer (.pointer (some ⟨b, i, none⟩)) 2 w K = K (.pointer (some ⟨b, i + 2, none⟩)) w := by refine Eq.trans ?_ rfl; kernel_rfl
@[simp] theorem fact118 (b i : Nat) (w : World) (K : KV) : faT P T.winnowref16_Trace (.pointer (some ⟨b, i, none⟩)) 0 w K = K (.pointer (some ⟨b, i, none⟩)) w := by refine Eq.trans ?_ rfl; kernel_rfl
@[simp] theorem fact119  (w : World) (K : KV) : bsT P T.sl_winnowref16_Trace 0 #[] w K = K (.slice (some ⟨w.heap.size, 0, none⟩) 0 0) (w.alloc (.cells #[] T.winnowref16_Trace)) := by refine Eq.trans ?_ rfl; kernel_rfl
@[simp] theorem fact120 (x0 : Int) (x1 : Int) (p2 : Option Addr) (l2 c2 : Nat) (w : World) (K : KV) : bldT P T.winnowref16_Trace #[(0, (.int .u64 x0)), (1, (.int .u64 x1)), (2, (.slice p2 l2 c2))] w K = K (.agg #[(.int .u64 x0), (.int .u64 x1), (.slice p2 l2 c2), (.bool false)]) w := by refine Eq.trans ?_ rfl; kernel_rfl
@[simp] theorem fact121 (c0_0 c0_1 c0_2 c0_3 : Value) (w : World) (K : KV) : bsT P T.sl_winnowref16_Trace 1 #[(0, (.agg #[c0_0, c0_1, c0_2, c0_3]))] w K = K (.slice (some ⟨w.heap.size, 0, none⟩) 1 1) (w.alloc (.cells #[c0_0, c0_1, c0_2, c0_3] T.winnowref16_Trace)) := by refine Eq.trans ?_ rfl; kernel_rfl
@[simp] theorem fact122 (b i : Nat) (p : Option Addr) (l c : Nat) (w : World) (K : KV) : stT P T.sl_winnowref16_Trace (.pointer (some ⟨b, i, none⟩)) (.slice p l c) w K = st1 P b i (.slice p l c) w K := by refine Eq.trans ?_ rfl; kernel_rfl
@[simp] theorem fact123 (b i : Nat) (w : World) (K : KV) : faT P T.winnowref16_Trace (.pointer (some ⟨b, i, none⟩)) 2 w K = K (.pointer (some ⟨b, i + 2, none⟩)) w := by refine Eq.trans ?_ rfl; kernel_rfl
@[simp] theorem fact124 (b i : Nat) (w : World) (K : KV) : faT P T.winnowref16_Buffer (.pointer (some ⟨b, i, none⟩)) 1 w K = K (.pointer (some ⟨b, i + 1, none⟩)) w := by refine Eq.trans ?_ rfl; kernel_rfl
@[simp] theorem fact125 (b i : Nat) (w : World) (K : KV) : faT P T.winnowref16_Trace (.pointer (some ⟨b, i, none⟩)) 3 w K = K (.pointer (some ⟨b, i + 3, none⟩)) w := by refine Eq.trans ?_ rfl; kernel_rfl
@[simp] theorem fact126  (w : World) (K : KV) : bsT P T.sl_api_Span 0 #[] w K = K (.slice (some ⟨w.heap.size, 0, none⟩) 0 0) (w.alloc (.cells #[] T.api_Span)) := by refine Eq.trans ?_ rfl; kernel_rfl
@[simp] theorem fact127 (b i : Nat) (w : World) (K : KV) : ldT P T.bool (.pointer (some ⟨b, i, none⟩)) w K = ld1 P b i w K := by refine Eq.trans ?_ rfl; kernel_rfl
@[simp] theorem fact128 : isSlB P T.sl_api_Kind = true := by refine Eq.trans ?_ rfl; kernel_rfl
@[simp] theorem fact129 : szE P T.sl_api_Kind = 1 := by refine Eq.trans ?_ rfl; kernel_rfl
theorem et.sl_api_Kind : ElemTy P T.sl_api_Kind T.api_Kind 1 8 := ElemTy.mk' (by kernel_rfl) (by kernel_rfl) (by kernel_rfl)
@[simp] theorem fact131 (x0 : Int) (x1 : Int) (w : World) (K : KV) : bsT P T.sl_api_Kind 2 #[(0, (.int .i64 x0)), (1, (.int .i64 x1))] w K = K (.slice (some ⟨w.heap.size, 0, none⟩) 2 2) (w.alloc (.cells #[(.int .i64 x0), (.int .i64 x1)] T.api_Kind)) := by refine Eq.trans ?_ rfl; kernel_rfl
@[simp] theorem fact132 : isSlB P T.sl_sl_api_Member = true := by refine Eq.trans ?_ rfl; kernel_rfl
@[simp] theorem fact133 : szE P T.sl_sl_api_Member = 1 := by refine Eq.trans ?_ rfl; kernel_rfl
theorem et.sl_sl_api_Member : ElemTy P T.sl_sl_api_Member T.sl_api_Member 1 24 := ElemTy.mk' (by kernel_rfl) (by kernel_rfl) (by kernel_rfl)
@[simp] theorem fact135 (p0 : Option Addr) (l0 c0 : Nat) (p1 : Option Addr) (l1 c1 : Nat) (w : World) (K : KV) : bsT P T.sl_sl_api_Member 2 #[(0, (.slice p0 l0 c0)), (1, (.slice p1 l1 c1))] w K = K (.slice (some ⟨w.heap.size, 0, none⟩) 2 2) (w.alloc (.cells #[(.slice p0 l0 c0), (.slice p1 l1 c1)] T.sl_api_Member)) := by refine Eq.trans ?_ rfl; kernel_rfl
theorem mt.map_uint64_api_Member : MapTy P T.map_uint64_api_Member .u64 T.api_Member (.agg #[(.int .u64 0), (.int .u64 0), (.int .i64 0)]) := MapTy.mk' (key := T.uint64) (by kernel_rfl) (by kernel_rfl) (by kernel_rfl)
@[simp] theorem fact137  (w : World) (K : KV) : bsT P T.sl_api_Member 0 #[] w K = K (.slice (some ⟨w.heap.size, 0, none⟩) 0 0) (w.alloc (.cells #[] T.api_Member)) := by refine Eq.trans ?_ rfl; kernel_rfl
@[simp] theorem fact138 (x0 : Int) (x1 : Int) (x2 : Int) (x3 : Int) (x4 : Int) (p5 : Option Addr) (l5 c5 : Nat) (r6 : Option Nat) (w : World) (K : KV) : bldT P T.gossip_Node #[(0, (.int .u64 x0)), (1, (.int .u64 x1)), (2, (.int .u64 x2)), (3, (.int .u64 x3)), (4, (.int .u64 x4)), (6, (.slice p5 l5 c5)), (7, (.map r6))] w K = K (.agg #[(.int .u64 x0), (.int .u64 x1), (.int .u64 x2), (.int .u64 x3), (.int .u64 x4), (.bool false), (.slice p5 l5 c5), (.map r6)]) w := by refine Eq.trans ?_ rfl; kernel_rfl
@[simp] theorem fact139 (b i : Nat) (w : World) (K : KV) : faT P T.gossip_Node (.pointer (some ⟨b, i, none⟩)) 3 w K = K (.pointer (some ⟨b, i + 3, none⟩)) w := by refine Eq.trans ?_ rfl; kernel_rfl
@[simp] theorem fact140 (b i : Nat) (w : World) (K : KV) : faT P T.gossip_Node (.pointer (some ⟨b, i, none⟩)) 6 w K = K (.pointer (some ⟨b, i + 6, none⟩)) w := by refine Eq.trans ?_ rfl; kernel_rfl
@[simp] theorem fact141 (b i : Nat) (p : Option Addr) (l c : Nat) (w : World) (K : KV) : stT P T.sl_api_Member (.pointer (some ⟨b, i, none⟩)) (.slice p l c) w K = st1 P b i (.slice p l c) w K := by refine Eq.trans ?_ rfl; kernel_rfl
@[simp] theorem fact142 (b i : Nat) (w : World) (K : KV) : faT P T.gossip_Node (.pointer (some ⟨b, i, none⟩)) 7 w K = K (.pointer (some ⟨b, i + 7, none⟩)) w := by refine Eq.trans ?_ rfl; kernel_rfl
@[simp] theorem fact143 (b i : Nat) (w : World) (K : KV) : ldT P T.map_uint64_uint64 (.pointer (some ⟨b, i, none⟩)) w K = ld1 P b i w K := by refine Eq.trans ?_ rfl; kernel_rfl
theorem mt.map_uint64_uint64 : MapTy P T.map_uint64_uint64 .u64 T.uint64 (.int .u64 0) := MapTy.mk' (key := T.uint64) (by kernel_rfl) (by kernel_rfl) (by kernel_rfl)
@[simp] theorem fact145 (b i : Nat) (w : World) (K : KV) : faT P T.gossip_Node (.pointer (some ⟨b, i, none⟩)) 0 w K = K (.pointer (some ⟨b, i, none⟩)) w := by refine Eq.trans ?_ rfl; kernel_rfl
@[simp] theorem fact146 (b i : Nat) (w : World) (K : KV) : faT P T.gossip_Node (.pointer (some ⟨b, i, none⟩)) 5 w K = K (.pointer (some ⟨b, i + 5, none⟩)) w := by refine Eq.trans ?_ rfl; kernel_rfl
@[simp] theorem fact147 (b i : Nat) (x : Int) (w : World) (K : KV) : stT P T.int (.pointer (some ⟨b, i, none⟩)) (.int .i64 x) w K = st1 P b i (.int .i64 x) w K := by refine Eq.trans ?_ rfl; kernel_rfl
@[simp] theorem fact148 (b i : Nat) (w : World) (K : KV) : faT P T.gossip_Node (.pointer (some ⟨b, i, none⟩)) 4 w K = K (.pointer (some ⟨b, i + 4, none⟩)) w := by refine Eq.trans ?_ rfl; kernel_rfl
@[simp] theorem fact149 (b i : Nat) (w : World) (K : KV) : faT P T.gossip_Node (.pointer (some ⟨b, i, none⟩)) 1 w K = K (.pointer (some ⟨b, i + 1, none⟩)) w := by refine Eq.trans ?_ rfl; kernel_rfl
@[simp] theorem fact150 (x0 : Int) (w : World) (K : KV) : bsT P T.sl_uint64 1 #[(0, (.int .u64 x0))] w K = K (.slice (some ⟨w.heap.size, 0, none⟩) 1 1) (w.alloc (.cells #[(.int .u64 x0)] T.uint64)) := by refine Eq.trans ?_ rfl; kernel_rfl
@[simp] theorem fact151 (rx ry : Operand)  (w : World) (K : KV) : binT P .neq T.p_gossip_Node rx ry (.pointer none) (.pointer none) w K = K (.bool false) w := by refine Eq.trans ?_ rfl; kernel_rfl
@[simp] theorem fact152 (rx ry : Operand) (a : Addr) (w : World) (K : KV) : binT P .neq T.p_gossip_Node rx ry (.pointer (some a)) (.pointer none) w K = K (.bool true) w := by refine Eq.trans ?_ rfl; kernel_rfl
@[simp] theorem fact153 (rx ry : Operand) (a : Addr) (w : World) (K : KV) : binT P .neq T.p_gossip_Node rx ry (.pointer none) (.pointer (some a)) w K = K (.bool true) w := by refine Eq.trans ?_ rfl; kernel_rfl
@[simp] theorem fact154 (x0 : Int) (w : World) (K : KV) : bsT P T.sl_uint8 1 #[(0, (.int .u8 x0))] w K = K (.slice (some ⟨w.heap.size, 0, none⟩) 1 1) (w.alloc (.cells #[(.int .u8 x0)] T.uint8)) := by refine Eq.trans ?_ rfl; kernel_rfl
@[simp] theorem fact155 (x0 : Int) (r1 : Option Nat) (w : World) (K : KV) : bldT P T.disk_Disk #[(0, (.int .i64 x0)), (1, (.map r1))] w K = K (.agg #[(.int .i64 x0), (.map r1), (.int .i64 0), (.bool false), (.bool false)]) w := by refine Eq.trans ?_ rfl; kernel_rfl
@[simp] theorem fact156 (rx ry : Operand)  (w : World) (K : KV) : binT P .eql T.p_disk_Disk rx ry (.pointer none) (.pointer none) w K = K (.bool true) w := by refine Eq.trans ?_ rfl; kernel_rfl
@[simp] theorem fact157 (rx ry : Operand) (a : Addr) (w : World) (K : KV) : binT P .eql T.p_disk_Disk rx ry (.pointer (some a)) (.pointer none) w K = K (.bool false) w := by refine Eq.trans ?_ rfl; kernel_rfl
@[simp] theorem fact158 (rx ry : Operand) (a : Addr) (w : World) (K : KV) : binT P .eql T.p_disk_Disk rx ry (.pointer none) (.pointer (some a)) w K = K (.bool false) w := by refine Eq.trans ?_ rfl; kernel_rfl
@[simp] theorem fact159 (p0 : Option Addr) (x1 : Int) (w : World) (K : KV) : bldT P T.wal_Log #[(0, (.pointer p0)), (1, (.int .i64 x1))] w K = K (.agg #[(.pointer p0), (.int .i64 x1), (.slice none 0 0)]) w := by refine Eq.trans ?_ rfl; kernel_rfl
@[simp] theorem fact160 : isSlB P T.sl_int = true := by refine Eq.trans ?_ rfl; kernel_rfl
@[simp] theorem fact161 : szE P T.sl_int = 1 := by refine Eq.trans ?_ rfl; kernel_rfl
theorem et.sl_int : ElemTy P T.sl_int T.int 1 8 := ElemTy.mk' (by kernel_rfl) (by kernel_rfl) (by kernel_rfl)
@[simp] theorem fact163 (rx ry : Operand)  (w : World) (K : KV) : binT P .eql T.p_wal_part rx ry (.pointer none) (.pointer none) w K = K (.bool true) w := by refine Eq.trans ?_ rfl; kernel_rfl
@[simp] theorem fact164 (rx ry : Operand) (a : Addr) (w : World) (K : KV) : binT P .eql T.p_wal_part rx ry (.pointer (some a)) (.pointer none) w K = K (.bool false) w := by refine Eq.trans ?_ rfl; kernel_rfl
@[simp] theorem fact165 (rx ry : Operand) (a : Addr) (w : World) (K : KV) : binT P .eql T.p_wal_part rx ry (.pointer none) (.pointer (some a)) w K = K (.bool false) w := by refine Eq.trans ?_ rfl; kernel_rfl
@[simp] theorem fact166 (b i : Nat) (w : World) (K : KV) : faT P T.wal_Log (.pointer (some ⟨b, i, none⟩)) 2 w K = K (.pointer (some ⟨b, i + 2, none⟩)) w := by refine Eq.trans ?_ rfl; kernel_rfl
@[simp] theorem fact167 (b i : Nat) (w : World) (K : KV) : ldT P T.sl_p_wal_part (.pointer (some ⟨b, i, none⟩)) w K = ld1 P b i w K := by refine Eq.trans ?_ rfl; kernel_rfl
@[simp] theorem fact168 : isSlB P T.sl_p_wal_part = true := by refine Eq.trans ?_ rfl; kernel_rfl
@[simp] theorem fact169 : szE P T.sl_p_wal_part = 1 := by refine Eq.trans ?_ rfl; kernel_rfl
theorem et.sl_p_wal_part : ElemTy P T.sl_p_wal_part T.p_wal_part 1 8 := ElemTy.mk' (by kernel_rfl) (by kernel_rfl) (by kernel_rfl)
@[simp] theorem fact171 (b i : Nat) (w : World) (K : KV) : faT P T.wal_part (.pointer (some ⟨b, i, none⟩)) 1 w K = K (.pointer (some ⟨b, i + 1, none⟩)) w := by refine Eq.trans ?_ rfl; kernel_rfl
@[simp] theorem fact172 (p0 : Option Addr) (w : World) (K : KV) : bsT P T.sl_p_wal_part 1 #[(0, (.pointer p0))] w K = K (.slice (some ⟨w.heap.size, 0, none⟩) 1 1) (w.alloc (.cells #[(.pointer p0)] T.p_wal_part)) := by refine Eq.trans ?_ rfl; kernel_rfl
@[simp] theorem fact173 (b i : Nat) (p : Option Addr) (l c : Nat) (w : World) (K : KV) : stT P T.sl_p_wal_part (.pointer (some ⟨b, i, none⟩)) (.slice p l c) w K = st1 P b i (.slice p l c) w K := by refine Eq.trans ?_ rfl; kernel_rfl
@[simp] theorem fact174 (b i : Nat) (w : World) (K : KV) : faT P T.wal_part (.pointer (some ⟨b, i, none⟩)) 3 w K = K (.pointer (some ⟨b, i + 3, none⟩)) w := by refine Eq.trans ?_ rfl; kernel_rfl
@[simp] theorem fact175 (b i : Nat) (w : World) (K : KV) : faT P T.wal_Log (.pointer (some ⟨b, i, none⟩)) 1 w K = K (.pointer (some ⟨b, i + 1, none⟩)) w := by refine Eq.trans ?_ rfl; kernel_rfl
@[simp] theorem fact176 (b i : Nat) (w : World) (K : KV) : faT P T.wal_Log (.pointer (some ⟨b, i, none⟩)) 0 w K = K (.pointer (some ⟨b, i, none⟩)) w := by refine Eq.trans ?_ rfl; kernel_rfl
@[simp] theorem fact177 (b i : Nat) (w : World) (K : KV) : ldT P T.p_disk_Disk (.pointer (some ⟨b, i, none⟩)) w K = ld1 P b i w K := by refine Eq.trans ?_ rfl; kernel_rfl
@[simp] theorem fact178 (b i : Nat) (w : World) (K : KV) : faT P T.wal_part (.pointer (some ⟨b, i, none⟩)) 0 w K = K (.pointer (some ⟨b, i, none⟩)) w := by refine Eq.trans ?_ rfl; kernel_rfl
@[simp] theorem fact179 (b i : Nat) (w : World) (K : KV) : faT P T.wal_part (.pointer (some ⟨b, i, none⟩)) 2 w K = K (.pointer (some ⟨b, i + 2, none⟩)) w := by refine Eq.trans ?_ rfl; kernel_rfl
@[simp] theorem fact180 (b i : Nat) (w : World) (K : KV) : ldT P T.sl_sl_uint8 (.pointer (some ⟨b, i, none⟩)) w K = ld1 P b i w K := by refine Eq.trans ?_ rfl; kernel_rfl
@[simp] theorem fact181 (b i : Nat) (p : Option Addr) (l c : Nat) (w : World) (K : KV) : stT P T.sl_sl_uint8 (.pointer (some ⟨b, i, none⟩)) (.slice p l c) w K = st1 P b i (.slice p l c) w K := by refine Eq.trans ?_ rfl; kernel_rfl
@[simp] theorem fact182 (b i : Nat) (w : World) (K : KV) : faT P T.disk_file (.pointer (some ⟨b, i, none⟩)) 0 w K = K (.pointer (some ⟨b, i, none⟩)) w := by refine Eq.trans ?_ rfl; kernel_rfl
@[simp] theorem fact183 (b i : Nat) (p : Option Addr) (l c : Nat) (w : World) (K : KV) : stT P T.sl_uint8 (.pointer (some ⟨b, i, none⟩)) (.slice p l c) w K = st1 P b i (.slice p l c) w K := by refine Eq.trans ?_ rfl; kernel_rfl
@[simp] theorem fact184 (b i : Nat) (w : World) (K : KV) : faT P T.disk_file (.pointer (some ⟨b, i, none⟩)) 1 w K = K (.pointer (some ⟨b, i + 1, none⟩)) w := by refine Eq.trans ?_ rfl; kernel_rfl
@[simp] theorem fact185 (b i : Nat) (w : World) (K : KV) : ldT P T.p_wal_part (.pointer (some ⟨b, i, none⟩)) w K = ld1 P b i w K := by refine Eq.trans ?_ rfl; kernel_rfl
@[simp] theorem fact186 (rx ry : Operand)  (w : World) (K : KV) : binT P .neq T.p_disk_Disk rx ry (.pointer none) (.pointer none) w K = K (.bool false) w := by refine Eq.trans ?_ rfl; kernel_rfl
@[simp] theorem fact187 (rx ry : Operand) (a : Addr) (w : World) (K : KV) : binT P .neq T.p_disk_Disk rx ry (.pointer (some a)) (.pointer none) w K = K (.bool true) w := by refine Eq.trans ?_ rfl; kernel_rfl
@[simp] theorem fact188 (rx ry : Operand) (a : Addr) (w : World) (K : KV) : binT P .neq T.p_disk_Disk rx ry (.pointer none) (.pointer (some a)) w K = K (.bool true) w := by refine Eq.trans ?_ rfl; kernel_rfl
@[simp] theorem fact189 (b i : Nat) (w : World) (K : KV) : faT P T.disk_Disk (.pointer (some ⟨b, i, none⟩)) 4 w K = K (.pointer (some ⟨b, i + 4, none⟩)) w := by refine Eq.trans ?_ rfl; kernel_rfl
@[simp] theorem fact190 (b i : Nat) (w : World) (K : KV) : faT P T.disk_Disk (.pointer (some ⟨b, i, none⟩)) 3 w K = K (.pointer (some ⟨b, i + 3, none⟩)) w := by refine Eq.trans ?_ rfl; kernel_rfl
@[simp] theorem fact191 (b i : Nat) (w : World) (K : KV) : faT P T.disk_Disk (.pointer (some ⟨b, i, none⟩)) 2 w K = K (.pointer (some ⟨b, i + 2, none⟩)) w := by refine Eq.trans ?_ rfl; kernel_rfl
@[simp] theorem fact192 (b i : Nat) (w : World) (K : KV) : faT P T.disk_Disk (.pointer (some ⟨b, i, none⟩)) 1 w K = K (.pointer (some ⟨b, i + 1, none⟩)) w := by refine Eq.trans ?_ rfl; kernel_rfl
@[simp] theorem fact193 (b i : Nat) (w : World) (K : KV) : ldT P T.map_int_p_disk_file (.pointer (some ⟨b, i, none⟩)) w K = ld1 P b i w K := by refine Eq.trans ?_ rfl; kernel_rfl
theorem mt.map_int_p_disk_file : MapTy P T.map_int_p_disk_file .i64 T.p_disk_file (.pointer none) := MapTy.mk' (key := T.int) (by kernel_rfl) (by kernel_rfl) (by kernel_rfl)
@[simp] theorem fact195 (p0 : Option Addr) (l0 c0 : Nat) (p1 : Option Addr) (l1 c1 : Nat) (w : World) (K : KV) : bsT P T.sl_sl_uint8 2 #[(0, (.slice p0 l0 c0)), (1, (.slice p1 l1 c1))] w K = K (.slice (some ⟨w.heap.size, 0, none⟩) 2 2) (w.alloc (.cells #[(.slice p0 l0 c0), (.slice p1 l1 c1)] T.sl_uint8)) := by refine Eq.trans ?_ rfl; kernel_rfl
@[simp] theorem fact196 (b i : Nat) (w : World) (K : KV) : faT P T.api_Span (.pointer (some ⟨b, i, none⟩)) 3 w K = K (.pointer (some ⟨b, i + 3, none⟩)) w := by refine Eq.trans ?_ rfl; kernel_rfl
@[simp] theorem fact197 (b i : Nat) (w : World) (K : KV) : faT P T.api_Span (.pointer (some ⟨b, i, none⟩)) 4 w K = K (.pointer (some ⟨b, i + 4, none⟩)) w := by refine Eq.trans ?_ rfl; kernel_rfl
@[simp] theorem fact198 (rx ry : Operand)  (w : World) (K : KV) : binT P .eql T.p_timers_Heap rx ry (.pointer none) (.pointer none) w K = K (.bool true) w := by refine Eq.trans ?_ rfl; kernel_rfl
@[simp] theorem fact199 (rx ry : Operand) (a : Addr) (w : World) (K : KV) : binT P .eql T.p_timers_Heap rx ry (.pointer (some a)) (.pointer none) w K = K (.bool false) w := by refine Eq.trans ?_ rfl; kernel_rfl
@[simp] theorem fact200 (rx ry : Operand) (a : Addr) (w : World) (K : KV) : binT P .eql T.p_timers_Heap rx ry (.pointer none) (.pointer (some a)) w K = K (.bool false) w := by refine Eq.trans ?_ rfl; kernel_rfl
@[simp] theorem fact201 (b i : Nat) (w : World) (K : KV) : faT P T.timers_Heap (.pointer (some ⟨b, i, none⟩)) 1 w K = K (.pointer (some ⟨b, i + 1, none⟩)) w := by refine Eq.trans ?_ rfl; kernel_rfl
@[simp] theorem fact202 (b i : Nat) (w : World) (K : KV) : ldT P T.map_uint64_p_timers_item (.pointer (some ⟨b, i, none⟩)) w K = ld1 P b i w K := by refine Eq.trans ?_ rfl; kernel_rfl
@[simp] theorem fact203 (rx ry : Operand)  (w : World) (K : KV) : binT P .eql T.map_uint64_p_timers_item rx ry (.map none) (.map none) w K = K (.bool true) w := by refine Eq.trans ?_ rfl; kernel_rfl
@[simp] theorem fact204 (rx ry : Operand) (r : Nat) (w : World) (K : KV) : binT P .eql T.map_uint64_p_timers_item rx ry (.map (some r)) (.map none) w K = K (.bool false) w := by refine Eq.trans ?_ rfl; kernel_rfl
@[simp] theorem fact205 (b i : Nat) (r : Option Nat) (w : World) (K : KV) : stT P T.map_uint64_p_timers_item (.pointer (some ⟨b, i, none⟩)) (.map r) w K = st1 P b i (.map r) w K := by refine Eq.trans ?_ rfl; kernel_rfl
theorem mt.map_uint64_p_timers_item : MapTy P T.map_uint64_p_timers_item .u64 T.p_timers_item (.pointer none) := MapTy.mk' (key := T.uint64) (by kernel_rfl) (by kernel_rfl) (by kernel_rfl)
@[simp] theorem fact207 (b i : Nat) (w : World) (K : KV) : faT P T.timers_item (.pointer (some ⟨b, i, none⟩)) 1 w K = K (.pointer (some ⟨b, i + 1, none⟩)) w := by refine Eq.trans ?_ rfl; kernel_rfl
@[simp] theorem fact208 (b i : Nat) (w : World) (K : KV) : faT P T.timers_Heap (.pointer (some ⟨b, i, none⟩)) 0 w K = K (.pointer (some ⟨b, i, none⟩)) w := by refine Eq.trans ?_ rfl; kernel_rfl
@[simp] theorem fact209 (v : Value) (w : World) (K : KV) : mkiT P T.p_timers_line v w K = K (.iface T.p_timers_line v) w := by refine Eq.trans ?_ rfl; kernel_rfl
@[simp] theorem fact210 : mthB P T.p_timers_line "Len" F.timers_line_Len false = true := by refine Eq.trans ?_ rfl; kernel_rfl
@[simp] theorem fact211 : mthB P T.p_timers_line "Less" F.timers_line_Less false = true := by refine Eq.trans ?_ rfl; kernel_rfl
@[simp] theorem fact212 : mthB P T.p_timers_line "Pop" F.ptimers_line_Pop true = true := by refine Eq.trans ?_ rfl; kernel_rfl
@[simp] theorem fact213 : mthB P T.p_timers_line "Push" F.ptimers_line_Push true = true := by refine Eq.trans ?_ rfl; kernel_rfl
@[simp] theorem fact214 : mthB P T.p_timers_line "Swap" F.timers_line_Swap false = true := by refine Eq.trans ?_ rfl; kernel_rfl
@[simp] theorem fact215 (b i : Nat) (w : World) (K : KV) : faT P T.timers_item (.pointer (some ⟨b, i, none⟩)) 2 w K = K (.pointer (some ⟨b, i + 2, none⟩)) w := by refine Eq.trans ?_ rfl; kernel_rfl
@[simp] theorem fact216 (x0 : Int) (x1 : Int) (w : World) (K : KV) : bldT P T.timers_item #[(0, (.int .u64 x0)), (1, (.int .u64 x1))] w K = K (.agg #[(.int .u64 x0), (.int .u64 x1), (.int .i64 0)]) w := by refine Eq.trans ?_ rfl; kernel_rfl
@[simp] theorem fact217 (v : Value) (w : World) (K : KV) : mkiT P T.p_timers_item v w K = K (.iface T.p_timers_item v) w := by refine Eq.trans ?_ rfl; kernel_rfl
@[simp] theorem fact218 (rx ry : Operand)  (w : World) (K : KV) : binT P .eql T.p_timers_item rx ry (.pointer none) (.pointer none) w K = K (.bool true) w := by refine Eq.trans ?_ rfl; kernel_rfl
@[simp] theorem fact219 (rx ry : Operand) (a : Addr) (w : World) (K : KV) : binT P .eql T.p_timers_item rx ry (.pointer (some a)) (.pointer none) w K = K (.bool false) w := by refine Eq.trans ?_ rfl; kernel_rfl
@[simp] theorem fact220 (rx ry : Operand) (a : Addr) (w : World) (K : KV) : binT P .eql T.p_timers_item rx ry (.pointer none) (.pointer (some a)) w K = K (.bool false) w := by refine Eq.trans ?_ rfl; kernel_rfl
@[simp] theorem fact221 (b i : Nat) (w : World) (K : KV) : ldT P T.winnowref16_Trace (.pointer (some ⟨b, i, none⟩)) w K = ldN P 4 b i w K := by refine Eq.trans ?_ rfl; kernel_rfl
@[simp] theorem fact222 (x0 : Int) (x1 : Int) (w : World) (K : KV) : bsT P T.sl_int 2 #[(0, (.int .i64 x0)), (1, (.int .i64 x1))] w K = K (.slice (some ⟨w.heap.size, 0, none⟩) 2 2) (w.alloc (.cells #[(.int .i64 x0), (.int .i64 x1)] T.int)) := by refine Eq.trans ?_ rfl; kernel_rfl
@[simp] theorem fact223 (b i : Nat) (w : World) (K : KV) : ldT P T.api_Kind (.pointer (some ⟨b, i, none⟩)) w K = ld1 P b i w K := by refine Eq.trans ?_ rfl; kernel_rfl
@[simp] theorem fact224 (x0 : Int) (p1 : Option Addr) (l1 c1 : Nat) (w : World) (K : KV) : bldT P T.api_Packet #[(0, (.int .i64 x0)), (7, (.slice p1 l1 c1))] w K = K (.agg #[(.int .i64 x0), (.int .u64 0), (.int .u64 0), (.int .u64 0), (.int .u64 0), (.int .u64 0), (.int .i64 0), (.bool false), (.slice none 0 0), (.slice p1 l1 c1), (.slice none 0 0)]) w := by refine Eq.trans ?_ rfl; kernel_rfl
@[simp] theorem fact225 (v : Value) (w : World) (K : KV) : mkiT P T.string v w K = K (.iface T.string v) w := by refine Eq.trans ?_ rfl; kernel_rfl
@[simp] theorem fact226 (rx ry : Operand) (l c : Nat) (w : World) (K : KV) : binT P .eql T.sl_api_Member rx ry (.slice none l c) (.slice none 0 0) w K = K (.bool true) w := by refine Eq.trans ?_ rfl; kernel_rfl
@[simp] theorem fact227 (rx ry : Operand) (a : Addr) (l c : Nat) (w : World) (K : KV) : binT P .eql T.sl_api_Member rx ry (.slice (some a) l c) (.slice none 0 0) w K = K (.bool false) w := by refine Eq.trans ?_ rfl; kernel_rfl
@[simp] theorem fact228 (b i : Nat) (w : World) (K : KV) : faT P T.gossip_Node (.pointer (some ⟨b, i, none⟩)) 2 w K = K (.pointer (some ⟨b, i + 2, none⟩)) w := by refine Eq.trans ?_ rfl; kernel_rfl
@[simp] theorem fact229 : isSlB P T.sl_sl_int = true := by refine Eq.trans ?_ rfl; kernel_rfl
@[simp] theorem fact230 : szE P T.sl_sl_int = 1 := by refine Eq.trans ?_ rfl; kernel_rfl
theorem et.sl_sl_int : ElemTy P T.sl_sl_int T.sl_int 1 24 := ElemTy.mk' (by kernel_rfl) (by kernel_rfl) (by kernel_rfl)
@[simp] theorem fact232 (p0 : Option Addr) (l0 c0 : Nat) (p1 : Option Addr) (l1 c1 : Nat) (w : World) (K : KV) : bsT P T.sl_sl_int 2 #[(0, (.slice p0 l0 c0)), (1, (.slice p1 l1 c1))] w K = K (.slice (some ⟨w.heap.size, 0, none⟩) 2 2) (w.alloc (.cells #[(.slice p0 l0 c0), (.slice p1 l1 c1)] T.sl_int)) := by refine Eq.trans ?_ rfl; kernel_rfl
@[simp] theorem fact233 (x0 : Int) (x1 : Int) (p2 : Option Addr) (l2 c2 : Nat) (x3 : Int) (w : World) (K : KV) : bldT P T.wal_part #[(0, (.int .i64 x0)), (1, (.int .i64 x1)), (2, (.slice p2 l2 c2)), (3, (.int .i64 x3))] w K = K (.agg #[(.int .i64 x0), (.int .i64 x1), (.slice p2 l2 c2), (.int .i64 x3)]) w := by refine Eq.trans ?_ rfl; kernel_rfl
@[simp] theorem fact234 (x0 : Int) (p1 : Option Addr) (l1 c1 : Nat) (w : World) (K : KV) : bldT P T.wal_part #[(1, (.int .i64 x0)), (2, (.slice p1 l1 c1))] w K = K (.agg #[(.int .i64 0), (.int .i64 x0), (.slice p1 l1 c1), (.int .i64 0)]) w := by refine Eq.trans ?_ rfl; kernel_rfl
@[simp] theorem fact235 (rx ry : Operand)  (w : World) (K : KV) : binT P .neq T.p_wal_part rx ry (.pointer none) (.pointer none) w K = K (.bool false) w := by refine Eq.trans ?_ rfl; kernel_rfl
@[simp] theorem fact236 (rx ry : Operand) (a : Addr) (w : World) (K : KV) : binT P .neq T.p_wal_part rx ry (.pointer (some a)) (.pointer none) w K = K (.bool true) w := by refine Eq.trans ?_ rfl; kernel_rfl
@[simp] theorem fact237 (rx ry : Operand) (a : Addr) (w : World) (K : KV) : binT P .neq T.p_wal_part rx ry (.pointer none) (.pointer (some a)) w K = K (.bool true) w := by refine Eq.trans ?_ rfl; kernel_rfl
@[simp] theorem fact238 (b i : Nat) (w : World) (K : KV) : faT P T.disk_Disk (.pointer (some ⟨b, i, none⟩)) 0 w K = K (.pointer (some ⟨b, i, none⟩)) w := by refine Eq.trans ?_ rfl; kernel_rfl
@[simp] theorem fact239 (rx ry : Operand)  (w : World) (K : KV) : binT P .eql T.p_disk_file rx ry (.pointer none) (.pointer none) w K = K (.bool true) w := by refine Eq.trans ?_ rfl; kernel_rfl
@[simp] theorem fact240 (rx ry : Operand) (a : Addr) (w : World) (K : KV) : binT P .eql T.p_disk_file rx ry (.pointer (some a)) (.pointer none) w K = K (.bool false) w := by refine Eq.trans ?_ rfl; kernel_rfl
@[simp] theorem fact241 (rx ry : Operand) (a : Addr) (w : World) (K : KV) : binT P .eql T.p_disk_file rx ry (.pointer none) (.pointer (some a)) w K = K (.bool false) w := by refine Eq.trans ?_ rfl; kernel_rfl
@[simp] theorem fact242  (w : World) (K : KV) : bldT P T.disk_file #[] w K = K (.agg #[(.slice none 0 0), (.slice none 0 0)]) w := by refine Eq.trans ?_ rfl; kernel_rfl
@[simp] theorem fact243 (rx ry : Operand) (l c : Nat) (w : World) (K : KV) : binT P .eql T.sl_uint8 rx ry (.slice none l c) (.slice none 0 0) w K = K (.bool true) w := by refine Eq.trans ?_ rfl; kernel_rfl
@[simp] theorem fact244 (rx ry : Operand) (a : Addr) (l c : Nat) (w : World) (K : KV) : binT P .eql T.sl_uint8 rx ry (.slice (some a) l c) (.slice none 0 0) w K = K (.bool false) w := by refine Eq.trans ?_ rfl; kernel_rfl
@[simp] theorem fact245  (w : World) (K : KV) : bsT P T.sl_uint8 0 #[] w K = K (.slice (some ⟨w.heap.size, 0, none⟩) 0 0) (w.alloc (.cells #[] T.uint8)) := by refine Eq.trans ?_ rfl; kernel_rfl
@[simp] theorem fact246 (b i : Nat) (w : World) (K : KV) : ldT P T.uint8 (.pointer (some ⟨b, i, none⟩)) w K = ld1 P b i w K := by refine Eq.trans ?_ rfl; kernel_rfl
@[simp] theorem fact247 (rx ry : Operand) (l c : Nat) (w : World) (K : KV) : binT P .eql T.sl_api_Span rx ry (.slice none l c) (.slice none 0 0) w K = K (.bool true) w := by refine Eq.trans ?_ rfl; kernel_rfl
@[simp] theorem fact248 (rx ry : Operand) (a : Addr) (l c : Nat) (w : World) (K : KV) : binT P .eql T.sl_api_Span rx ry (.slice (some a) l c) (.slice none 0 0) w K = K (.bool false) w := by refine Eq.trans ?_ rfl; kernel_rfl
@[simp] theorem fact249 : isSlB P T.sl_int32 = true := by refine Eq.trans ?_ rfl; kernel_rfl
@[simp] theorem fact250 : szE P T.sl_int32 = 1 := by refine Eq.trans ?_ rfl; kernel_rfl
theorem et.sl_int32 : ElemTy P T.sl_int32 T.int32 1 4 := ElemTy.mk' (by kernel_rfl) (by kernel_rfl) (by kernel_rfl)
@[simp] theorem fact252 (b i : Nat) (w : World) (K : KV) : ldT P T.int32 (.pointer (some ⟨b, i, none⟩)) w K = ld1 P b i w K := by refine Eq.trans ?_ rfl; kernel_rfl
@[simp] theorem fact253 (b i : Nat) (w : World) (K : KV) : ldT P T.api_Packet (.pointer (some ⟨b, i, none⟩)) w K = ldN P 11 b i w K := by refine Eq.trans ?_ rfl; kernel_rfl
@[simp] theorem fact254 (rx ry : Operand) (ti : TypeId) (v : Value) (w : World) (K : KV) : binT P .eql T.any rx ry (.iface ti v) .nilIface w K = K (.bool false) w := by refine Eq.trans ?_ rfl; kernel_rfl
@[simp] theorem fact255 (b i : Nat) (w : World) (K : KV) : ldT P T.map_uint64_api_Member (.pointer (some ⟨b, i, none⟩)) w K = ld1 P b i w K := by refine Eq.trans ?_ rfl; kernel_rfl
@[simp] theorem fact256 (b i : Nat) (w : World) (K : KV) : ldT P T.timers_line (.pointer (some ⟨b, i, none⟩)) w K = ld1 P b i w K := by refine Eq.trans ?_ rfl; kernel_rfl
@[simp] theorem fact257 : isSlB P T.timers_line = true := by refine Eq.trans ?_ rfl; kernel_rfl
@[simp] theorem fact258 : szE P T.timers_line = 1 := by refine Eq.trans ?_ rfl; kernel_rfl
theorem et.timers_line : ElemTy P T.timers_line T.p_timers_item 1 8 := ElemTy.mk' (by kernel_rfl) (by kernel_rfl) (by kernel_rfl)
@[simp] theorem fact260 (b i : Nat) (w : World) (K : KV) : ldT P T.p_timers_item (.pointer (some ⟨b, i, none⟩)) w K = ld1 P b i w K := by refine Eq.trans ?_ rfl; kernel_rfl
@[simp] theorem fact261 (b i : Nat) (w : World) (K : KV) : faT P T.timers_item (.pointer (some ⟨b, i, none⟩)) 0 w K = K (.pointer (some ⟨b, i, none⟩)) w := by refine Eq.trans ?_ rfl; kernel_rfl
@[simp] theorem fact262 (x0 : Int) (w : World) (K : KV) : bsT P T.sl_int32 1 #[(0, (.int .i32 x0))] w K = K (.slice (some ⟨w.heap.size, 0, none⟩) 1 1) (w.alloc (.cells #[(.int .i32 x0)] T.int32)) := by refine Eq.trans ?_ rfl; kernel_rfl
@[simp] theorem fact263 (b i : Nat) (w : World) (K : KV) : faT P T.api_Packet (.pointer (some ⟨b, i, none⟩)) 0 w K = K (.pointer (some ⟨b, i, none⟩)) w := by refine Eq.trans ?_ rfl; kernel_rfl
@[simp] theorem fact264 (b i : Nat) (w : World) (K : KV) : faT P T.api_Packet (.pointer (some ⟨b, i, none⟩)) 1 w K = K (.pointer (some ⟨b, i + 1, none⟩)) w := by refine Eq.trans ?_ rfl; kernel_rfl
@[simp] theorem fact265 (b i : Nat) (w : World) (K : KV) : faT P T.api_Packet (.pointer (some ⟨b, i, none⟩)) 6 w K = K (.pointer (some ⟨b, i + 8, none⟩)) w := by refine Eq.trans ?_ rfl; kernel_rfl
@[simp] theorem fact266 (x0 : Int) (bo1 : Bool) (p2 : Option Addr) (l2 c2 : Nat) (w : World) (K : KV) : bldT P T.message_Spans #[(0, (.int .u64 x0)), (1, (.bool bo1)), (2, (.slice p2 l2 c2))] w K = K (.agg #[(.int .u64 x0), (.bool bo1), (.slice p2 l2 c2)]) w := by refine Eq.trans ?_ rfl; kernel_rfl
@[simp] theorem fact267 (v : Value) (w : World) (K : KV) : mkiT P T.message_Spans v w K = K (.iface T.message_Spans v) w := by refine Eq.trans ?_ rfl; kernel_rfl
@[simp] theorem fact268 (b i : Nat) (w : World) (K : KV) : faT P T.api_Packet (.pointer (some ⟨b, i, none⟩)) 7 w K = K (.pointer (some ⟨b, i + 9, none⟩)) w := by refine Eq.trans ?_ rfl; kernel_rfl
@[simp] theorem fact269 (p0 : Option Addr) (l0 c0 : Nat) (w : World) (K : KV) : bldT P T.message_Members #[(0, (.slice p0 l0 c0))] w K = K (.agg #[(.slice p0 l0 c0)]) w := by refine Eq.trans ?_ rfl; kernel_rfl
@[simp] theorem fact270 (v : Value) (w : World) (K : KV) : mkiT P T.message_Members v w K = K (.iface T.message_Members v) w := by refine Eq.trans ?_ rfl; kernel_rfl
@[simp] theorem fact271 (b i : Nat) (w : World) (K : KV) : faT P T.api_Packet (.pointer (some ⟨b, i, none⟩)) 2 w K = K (.pointer (some ⟨b, i + 2, none⟩)) w := by refine Eq.trans ?_ rfl; kernel_rfl
@[simp] theorem fact272 (b i : Nat) (w : World) (K : KV) : ldT P T.api_Ballot (.pointer (some ⟨b, i, none⟩)) w K = ldN P 2 b i w K := by refine Eq.trans ?_ rfl; kernel_rfl
@[simp] theorem fact273 (b i : Nat) (w : World) (K : KV) : faT P T.api_Packet (.pointer (some ⟨b, i, none⟩)) 4 w K = K (.pointer (some ⟨b, i + 6, none⟩)) w := by refine Eq.trans ?_ rfl; kernel_rfl
@[simp] theorem fact274 (b i : Nat) (w : World) (K : KV) : ldT P T.api_Verdict (.pointer (some ⟨b, i, none⟩)) w K = ld1 P b i w K := by refine Eq.trans ?_ rfl; kernel_rfl
@[simp] theorem fact275 (x0 : Int) (c1_0 c1_1 : Value) (x2 : Int) (w : World) (K : KV) : bldT P T.message_Ask #[(0, (.int .u64 x0)), (1, (.agg #[c1_0, c1_1])), (2, (.int .i64 x2))] w K = K (.agg #[(.int .u64 x0), c1_0, c1_1, (.int .i64 x2)]) w := by refine Eq.trans ?_ rfl; kernel_rfl
@[simp] theorem fact276 (v : Value) (w : World) (K : KV) : mkiT P T.message_Ask v w K = K (.iface T.message_Ask v) w := by refine Eq.trans ?_ rfl; kernel_rfl
@[simp] theorem fact277 (b i : Nat) (w : World) (K : KV) : faT P T.api_Packet (.pointer (some ⟨b, i, none⟩)) 5 w K = K (.pointer (some ⟨b, i + 7, none⟩)) w := by refine Eq.trans ?_ rfl; kernel_rfl
@[simp] theorem fact278 (b i : Nat) (w : World) (K : KV) : faT P T.api_Packet (.pointer (some ⟨b, i, none⟩)) 3 w K = K (.pointer (some ⟨b, i + 4, none⟩)) w := by refine Eq.trans ?_ rfl; kernel_rfl
@[simp] theorem fact279 (x0 : Int) (c1_0 c1_1 : Value) (bo2 : Bool) (c3_0 c3_1 : Value) (x4 : Int) (bo5 : Bool) (w : World) (K : KV) : bldT P T.message_Reply #[(0, (.int .u64 x0)), (1, (.agg #[c1_0, c1_1])), (2, (.bool bo2)), (3, (.agg #[c3_0, c3_1])), (4, (.int .i64 x4)), (5, (.bool bo5))] w K = K (.agg #[(.int .u64 x0), c1_0, c1_1, (.bool bo2), c3_0, c3_1, (.int .i64 x4), (.bool bo5)]) w := by refine Eq.trans ?_ rfl; kernel_rfl
@[simp] theorem fact280 (v : Value) (w : World) (K : KV) : mkiT P T.message_Reply v w K = K (.iface T.message_Reply v) w := by refine Eq.trans ?_ rfl; kernel_rfl
@[simp] theorem fact281 (x0 : Int) (x1 : Int) (w : World) (K : KV) : bldT P T.message_Told #[(0, (.int .u64 x0)), (1, (.int .i64 x1))] w K = K (.agg #[(.int .u64 x0), (.int .i64 x1)]) w := by refine Eq.trans ?_ rfl; kernel_rfl
@[simp] theorem fact282 (v : Value) (w : World) (K : KV) : mkiT P T.message_Told v w K = K (.iface T.message_Told v) w := by refine Eq.trans ?_ rfl; kernel_rfl
@[simp] theorem fact283 (x0 : Int) (c1_0 c1_1 : Value) (p2 : Option Addr) (l2 c2 : Nat) (w : World) (K : KV) : bldT P T.message_Stored #[(0, (.int .u64 x0)), (1, (.agg #[c1_0, c1_1])), (2, (.slice p2 l2 c2))] w K = K (.agg #[(.int .u64 x0), c1_0, c1_1, (.slice p2 l2 c2)]) w := by refine Eq.trans ?_ rfl; kernel_rfl
@[simp] theorem fact284 (v : Value) (w : World) (K : KV) : mkiT P T.message_Stored v w K = K (.iface T.message_Stored v) w := by refine Eq.trans ?_ rfl; kernel_rfl
@[simp] theorem fact285 (b i : Nat) (w : World) (K : KV) : faT P T.api_Packet (.pointer (some ⟨b, i, none⟩)) 8 w K = K (.pointer (some ⟨b, i + 10, none⟩)) w := by refine Eq.trans ?_ rfl; kernel_rfl
@[simp] theorem fact286 (b i : Nat) (w : World) (K : KV) : ldT P T.sl_uint64 (.pointer (some ⟨b, i, none⟩)) w K = ld1 P b i w K := by refine Eq.trans ?_ rfl; kernel_rfl
@[simp] theorem fact287 (x0 : Int) (p1 : Option Addr) (l1 c1 : Nat) (w : World) (K : KV) : bldT P T.message_Acked #[(0, (.int .u64 x0)), (1, (.slice p1 l1 c1))] w K = K (.agg #[(.int .u64 x0), (.slice p1 l1 c1)]) w := by refine Eq.trans ?_ rfl; kernel_rfl
@[simp] theorem fact288 (v : Value) (w : World) (K : KV) : mkiT P T.message_Acked v w K = K (.iface T.message_Acked v) w := by refine Eq.trans ?_ rfl; kernel_rfl
@[simp] theorem fact289  (w : World) (K : KV) : bldT P T.api_Ballot #[] w K = K (.agg #[(.int .u64 0), (.int .u64 0)]) w := by refine Eq.trans ?_ rfl; kernel_rfl
@[simp] theorem fact290 (w : World) (K : KV) : alT P T.api_Ballot w K = K (.pointer (some ⟨w.heap.size, 0, none⟩)) (w.alloc (.cells #[(.int .u64 0), (.int .u64 0)] T.api_Ballot)) := by refine Eq.trans ?_ rfl; kernel_rfl
@[simp] theorem fact291 (b i : Nat) (c_0 c_1 : Value) (w : World) (K : KV) : stT P T.api_Ballot (.pointer (some ⟨b, i, none⟩)) (.agg #[c_0, c_1]) w K = stN P b i [c_0, c_1] w K := by refine Eq.trans ?_ rfl; kernel_rfl
@[simp] theorem fact292 (v : Value) (w : World) (K : KV) : taT P (.iface T.message_Spans v) T.any T.message_Spans true w K = K (.tuple #[v, .bool true]) w := by refine Eq.trans ?_ rfl; kernel_rfl
@[simp] theorem fact293 (w : World) (K : KV) : alT P T.message_Spans w K = K (.pointer (some ⟨w.heap.size, 0, none⟩)) (w.alloc (.cells #[(.int .u64 0), (.bool false), (.slice none 0 0)] T.message_Spans)) := by refine Eq.trans ?_ rfl; kernel_rfl
@[simp] theorem fact294 (b i : Nat) (c_0 c_1 c_2 : Value) (w : World) (K : KV) : stT P T.message_Spans (.pointer (some ⟨b, i, none⟩)) (.agg #[c_0, c_1, c_2]) w K = stN P b i [c_0, c_1, c_2] w K := by refine Eq.trans ?_ rfl; kernel_rfl
@[simp] theorem fact295 (b i : Nat) (w : World) (K : KV) : faT P T.message_Spans (.pointer (some ⟨b, i, none⟩)) 0 w K = K (.pointer (some ⟨b, i, none⟩)) w := by refine Eq.trans ?_ rfl; kernel_rfl
@[simp] theorem fact296 (b i : Nat) (w : World) (K : KV) : faT P T.message_Spans (.pointer (some ⟨b, i, none⟩)) 2 w K = K (.pointer (some ⟨b, i + 2, none⟩)) w := by refine Eq.trans ?_ rfl; kernel_rfl
@[simp] theorem fact297 (v : Value) (w : World) (K : KV) : taT P (.iface T.message_Members v) T.any T.message_Members true w K = K (.tuple #[v, .bool true]) w := by refine Eq.trans ?_ rfl; kernel_rfl
@[simp] theorem fact298 (w : World) (K : KV) : alT P T.message_Members w K = K (.pointer (some ⟨w.heap.size, 0, none⟩)) (w.alloc (.cells #[(.slice none 0 0)] T.message_Members)) := by refine Eq.trans ?_ rfl; kernel_rfl
@[simp] theorem fact299 (b i : Nat) (c_0 : Value) (w : World) (K : KV) : stT P T.message_Members (.pointer (some ⟨b, i, none⟩)) (.agg #[c_0]) w K = stN P b i [c_0] w K := by refine Eq.trans ?_ rfl; kernel_rfl
@[simp] theorem fact300 (b i : Nat) (w : World) (K : KV) : faT P T.message_Members (.pointer (some ⟨b, i, none⟩)) 0 w K = K (.pointer (some ⟨b, i, none⟩)) w := by refine Eq.trans ?_ rfl; kernel_rfl
@[simp] theorem fact301 (v : Value) (w : World) (K : KV) : taT P (.iface T.message_Ask v) T.any T.message_Ask true w K = K (.tuple #[v, .bool true]) w := by refine Eq.trans ?_ rfl; kernel_rfl
@[simp] theorem fact302 (w : World) (K : KV) : alT P T.message_Ask w K = K (.pointer (some ⟨w.heap.size, 0, none⟩)) (w.alloc (.cells #[(.int .u64 0), (.int .u64 0), (.int .u64 0), (.int .i64 0)] T.message_Ask)) := by refine Eq.trans ?_ rfl; kernel_rfl
@[simp] theorem fact303 (b i : Nat) (c_0 c_1 c_2 c_3 : Value) (w : World) (K : KV) : stT P T.message_Ask (.pointer (some ⟨b, i, none⟩)) (.agg #[c_0, c_1, c_2, c_3]) w K = stN P b i [c_0, c_1, c_2, c_3] w K := by refine Eq.trans ?_ rfl; kernel_rfl
@[simp] theorem fact304 (b i : Nat) (w : World) (K : KV) : faT P T.message_Ask (.pointer (some ⟨b, i, none⟩)) 0 w K = K (.pointer (some ⟨b, i, none⟩)) w := by refine Eq.trans ?_ rfl; kernel_rfl
@[simp] theorem fact305 (b i : Nat) (w : World) (K : KV) : faT P T.message_Ask (.pointer (some ⟨b, i, none⟩)) 1 w K = K (.pointer (some ⟨b, i + 1, none⟩)) w := by refine Eq.trans ?_ rfl; kernel_rfl
@[simp] theorem fact306 (b i : Nat) (w : World) (K : KV) : faT P T.api_Ballot (.pointer (some ⟨b, i, none⟩)) 0 w K = K (.pointer (some ⟨b, i, none⟩)) w := by refine Eq.trans ?_ rfl; kernel_rfl
@[simp] theorem fact307 (b i : Nat) (w : World) (K : KV) : faT P T.message_Ask (.pointer (some ⟨b, i, none⟩)) 2 w K = K (.pointer (some ⟨b, i + 3, none⟩)) w := by refine Eq.trans ?_ rfl; kernel_rfl
@[simp] theorem fact308 (v : Value) (w : World) (K : KV) : taT P (.iface T.message_Reply v) T.any T.message_Reply true w K = K (.tuple #[v, .bool true]) w := by refine Eq.trans ?_ rfl; kernel_rfl
@[simp] theorem fact309 (w : World) (K : KV) : alT P T.message_Reply w K = K (.pointer (some ⟨w.heap.size, 0, none⟩)) (w.alloc (.cells #[(.int .u64 0), (.int .u64 0), (.int .u64 0), (.bool false), (.int .u64 0), (.int .u64 0), (.int .i64 0), (.bool false)] T.message_Reply)) := by refine Eq.trans ?_ rfl; kernel_rfl
@[simp] theorem fact310 (b i : Nat) (c_0 c_1 c_2 c_3 c_4 c_5 c_6 c_7 : Value) (w : World) (K : KV) : stT P T.message_Reply (.pointer (some ⟨b, i, none⟩)) (.agg #[c_0, c_1, c_2, c_3, c_4, c_5, c_6, c_7]) w K = stN P b i [c_0, c_1, c_2, c_3, c_4, c_5, c_6, c_7] w K := by refine Eq.trans ?_ rfl; kernel_rfl
@[simp] theorem fact311 (b i : Nat) (w : World) (K : KV) : faT P T.message_Reply (.pointer (some ⟨b, i, none⟩)) 0 w K = K (.pointer (some ⟨b, i, none⟩)) w := by refine Eq.trans ?_ rfl; kernel_rfl
@[simp] theorem fact312 (b i : Nat) (w : World) (K : KV) : faT P T.message_Reply (.pointer (some ⟨b, i, none⟩)) 1 w K = K (.pointer (some ⟨b, i + 1, none⟩)) w := by refine Eq.trans ?_ rfl; kernel_rfl
@[simp] theorem fact313 (b i : Nat) (w : World) (K : KV) : faT P T.message_Reply (.pointer (some ⟨b, i, none⟩)) 2 w K = K (.pointer (some ⟨b, i + 3, none⟩)) w := by refine Eq.trans ?_ rfl; kernel_rfl
@[simp] theorem fact314 (b i : Nat) (w : World) (K : KV) : faT P T.message_Reply (.pointer (some ⟨b, i, none⟩)) 4 w K = K (.pointer (some ⟨b, i + 6, none⟩)) w := by refine Eq.trans ?_ rfl; kernel_rfl
@[simp] theorem fact315 (b i : Nat) (w : World) (K : KV) : faT P T.message_Reply (.pointer (some ⟨b, i, none⟩)) 3 w K = K (.pointer (some ⟨b, i + 4, none⟩)) w := by refine Eq.trans ?_ rfl; kernel_rfl
@[simp] theorem fact316 (b i : Nat) (w : World) (K : KV) : faT P T.message_Reply (.pointer (some ⟨b, i, none⟩)) 5 w K = K (.pointer (some ⟨b, i + 7, none⟩)) w := by refine Eq.trans ?_ rfl; kernel_rfl
@[simp] theorem fact317 (v : Value) (w : World) (K : KV) : taT P (.iface T.message_Told v) T.any T.message_Told true w K = K (.tuple #[v, .bool true]) w := by refine Eq.trans ?_ rfl; kernel_rfl
@[simp] theorem fact318 (w : World) (K : KV) : alT P T.message_Told w K = K (.pointer (some ⟨w.heap.size, 0, none⟩)) (w.alloc (.cells #[(.int .u64 0), (.int .i64 0)] T.message_Told)) := by refine Eq.trans ?_ rfl; kernel_rfl
@[simp] theorem fact319 (b i : Nat) (c_0 c_1 : Value) (w : World) (K : KV) : stT P T.message_Told (.pointer (some ⟨b, i, none⟩)) (.agg #[c_0, c_1]) w K = stN P b i [c_0, c_1] w K := by refine Eq.trans ?_ rfl; kernel_rfl
@[simp] theorem fact320 (b i : Nat) (w : World) (K : KV) : faT P T.message_Told (.pointer (some ⟨b, i, none⟩)) 0 w K = K (.pointer (some ⟨b, i, none⟩)) w := by refine Eq.trans ?_ rfl; kernel_rfl
@[simp] theorem fact321 (b i : Nat) (w : World) (K : KV) : faT P T.message_Told (.pointer (some ⟨b, i, none⟩)) 1 w K = K (.pointer (some ⟨b, i + 1, none⟩)) w := by refine Eq.trans ?_ rfl; kernel_rfl
@[simp] theorem fact322 (v : Value) (w : World) (K : KV) : taT P (.iface T.message_Stored v) T.any T.message_Stored true w K = K (.tuple #[v, .bool true]) w := by refine Eq.trans ?_ rfl; kernel_rfl
@[simp] theorem fact323 (w : World) (K : KV) : alT P T.message_Stored w K = K (.pointer (some ⟨w.heap.size, 0, none⟩)) (w.alloc (.cells #[(.int .u64 0), (.int .u64 0), (.int .u64 0), (.slice none 0 0)] T.message_Stored)) := by refine Eq.trans ?_ rfl; kernel_rfl
@[simp] theorem fact324 (b i : Nat) (c_0 c_1 c_2 c_3 : Value) (w : World) (K : KV) : stT P T.message_Stored (.pointer (some ⟨b, i, none⟩)) (.agg #[c_0, c_1, c_2, c_3]) w K = stN P b i [c_0, c_1, c_2, c_3] w K := by refine Eq.trans ?_ rfl; kernel_rfl
@[simp] theorem fact325 (b i : Nat) (w : World) (K : KV) : faT P T.message_Stored (.pointer (some ⟨b, i, none⟩)) 0 w K = K (.pointer (some ⟨b, i, none⟩)) w := by refine Eq.trans ?_ rfl; kernel_rfl
@[simp] theorem fact326 (b i : Nat) (w : World) (K : KV) : faT P T.message_Stored (.pointer (some ⟨b, i, none⟩)) 1 w K = K (.pointer (some ⟨b, i + 1, none⟩)) w := by refine Eq.trans ?_ rfl; kernel_rfl
@[simp] theorem fact327 (b i : Nat) (w : World) (K : KV) : faT P T.message_Stored (.pointer (some ⟨b, i, none⟩)) 2 w K = K (.pointer (some ⟨b, i + 3, none⟩)) w := by refine Eq.trans ?_ rfl; kernel_rfl
@[simp] theorem fact328 (v : Value) (w : World) (K : KV) : taT P (.iface T.message_Acked v) T.any T.message_Acked true w K = K (.tuple #[v, .bool true]) w := by refine Eq.trans ?_ rfl; kernel_rfl
@[simp] theorem fact329 (w : World) (K : KV) : alT P T.message_Acked w K = K (.pointer (some ⟨w.heap.size, 0, none⟩)) (w.alloc (.cells #[(.int .u64 0), (.slice none 0 0)] T.message_Acked)) := by refine Eq.trans ?_ rfl; kernel_rfl
@[simp] theorem fact330 (b i : Nat) (c_0 c_1 : Value) (w : World) (K : KV) : stT P T.message_Acked (.pointer (some ⟨b, i, none⟩)) (.agg #[c_0, c_1]) w K = stN P b i [c_0, c_1] w K := by refine Eq.trans ?_ rfl; kernel_rfl
@[simp] theorem fact331 (b i : Nat) (w : World) (K : KV) : faT P T.message_Acked (.pointer (some ⟨b, i, none⟩)) 0 w K = K (.pointer (some ⟨b, i, none⟩)) w := by refine Eq.trans ?_ rfl; kernel_rfl
@[simp] theorem fact332 (b i : Nat) (w : World) (K : KV) : faT P T.message_Acked (.pointer (some ⟨b, i, none⟩)) 1 w K = K (.pointer (some ⟨b, i + 1, none⟩)) w := by refine Eq.trans ?_ rfl; kernel_rfl
@[simp] theorem fact333 (w : World) (K : KV) : alT P T.api_Packet w K = K (.pointer (some ⟨w.heap.size, 0, none⟩)) (w.alloc (.cells #[(.int .i64 0), (.int .u64 0), (.int .u64 0), (.int .u64 0), (.int .u64 0), (.int .u64 0), (.int .i64 0), (.bool false), (.slice none 0 0), (.slice none 0 0), (.slice none 0 0)] T.api_Packet)) := by refine Eq.trans ?_ rfl; kernel_rfl
@[simp] theorem fact334 (x0 : Int) (x1 : Int) (p2 : Option Addr) (l2 c2 : Nat) (w : World) (K : KV) : bldT P T.api_Packet #[(0, (.int .i64 x0)), (1, (.int .u64 x1)), (6, (.slice p2 l2 c2))] w K = K (.agg #[(.int .i64 x0), (.int .u64 x1), (.int .u64 0), (.int .u64 0), (.int .u64 0), (.int .u64 0), (.int .i64 0), (.bool false), (.slice p2 l2 c2), (.slice none 0 0), (.slice none 0 0)]) w := by refine Eq.trans ?_ rfl; kernel_rfl
@[simp] theorem fact335 (b i : Nat) (c_0 c_1 c_2 c_3 c_4 c_5 c_6 c_7 c_8 c_9 c_10 : Value) (w : World) (K : KV) : stT P T.api_Packet (.pointer (some ⟨b, i, none⟩)) (.agg #[c_0, c_1, c_2, c_3, c_4, c_5, c_6, c_7, c_8, c_9, c_10]) w K = stN P b i [c_0, c_1, c_2, c_3, c_4, c_5, c_6, c_7, c_8, c_9, c_10] w K := by refine Eq.trans ?_ rfl; kernel_rfl
@[simp] theorem fact336 (b i : Nat) (w : World) (K : KV) : faT P T.message_Spans (.pointer (some ⟨b, i, none⟩)) 1 w K = K (.pointer (some ⟨b, i + 1, none⟩)) w := by refine Eq.trans ?_ rfl; kernel_rfl
@[simp] theorem fact337 (x0 : Int) (x1 : Int) (c2_0 c2_1 : Value) (x3 : Int) (w : World) (K : KV) : bldT P T.api_Packet #[(0, (.int .i64 x0)), (1, (.int .u64 x1)), (2, (.agg #[c2_0, c2_1])), (4, (.int .i64 x3))] w K = K (.agg #[(.int .i64 x0), (.int .u64 x1), c2_0, c2_1, (.int .u64 0), (.int .u64 0), (.int .i64 x3), (.bool false), (.slice none 0 0), (.slice none 0 0), (.slice none 0 0)]) w := by refine Eq.trans ?_ rfl; kernel_rfl
@[simp] theorem fact338 (x0 : Int) (x1 : Int) (c2_0 c2_1 : Value) (bo3 : Bool) (c4_0 c4_1 : Value) (x5 : Int) (w : World) (K : KV) : bldT P T.api_Packet #[(0, (.int .i64 x0)), (1, (.int .u64 x1)), (2, (.agg #[c2_0, c2_1])), (5, (.bool bo3)), (3, (.agg #[c4_0, c4_1])), (4, (.int .i64 x5))] w K = K (.agg #[(.int .i64 x0), (.int .u64 x1), c2_0, c2_1, c4_0, c4_1, (.int .i64 x5), (.bool bo3), (.slice none 0 0), (.slice none 0 0), (.slice none 0 0)]) w := by refine Eq.trans ?_ rfl; kernel_rfl
@[simp] theorem fact339 (x0 : Int) (x1 : Int) (x2 : Int) (w : World) (K : KV) : bldT P T.api_Packet #[(0, (.int .i64 x0)), (1, (.int .u64 x1)), (4, (.int .i64 x2))] w K = K (.agg #[(.int .i64 x0), (.int .u64 x1), (.int .u64 0), (.int .u64 0), (.int .u64 0), (.int .u64 0), (.int .i64 x2), (.bool false), (.slice none 0 0), (.slice none 0 0), (.slice none 0 0)]) w := by refine Eq.trans ?_ rfl; kernel_rfl
@[simp] theorem fact340 (x0 : Int) (x1 : Int) (c2_0 c2_1 : Value) (p3 : Option Addr) (l3 c3 : Nat) (w : World) (K : KV) : bldT P T.api_Packet #[(0, (.int .i64 x0)), (1, (.int .u64 x1)), (2, (.agg #[c2_0, c2_1])), (6, (.slice p3 l3 c3))] w K = K (.agg #[(.int .i64 x0), (.int .u64 x1), c2_0, c2_1, (.int .u64 0), (.int .u64 0), (.int .i64 0), (.bool false), (.slice p3 l3 c3), (.slice none 0 0), (.slice none 0 0)]) w := by refine Eq.trans ?_ rfl; kernel_rfl
@[simp] theorem fact341 (x0 : Int) (x1 : Int) (p2 : Option Addr) (l2 c2 : Nat) (w : World) (K : KV) : bldT P T.api_Packet #[(0, (.int .i64 x0)), (1, (.int .u64 x1)), (8, (.slice p2 l2 c2))] w K = K (.agg #[(.int .i64 x0), (.int .u64 x1), (.int .u64 0), (.int .u64 0), (.int .u64 0), (.int .u64 0), (.int .i64 0), (.bool false), (.slice none 0 0), (.slice none 0 0), (.slice p2 l2 c2)]) w := by refine Eq.trans ?_ rfl; kernel_rfl
@[simp] theorem fact342 (b i : Nat) (p : Option Addr) (l c : Nat) (w : World) (K : KV) : stT P T.sl_uint64 (.pointer (some ⟨b, i, none⟩)) (.slice p l c) w K = st1 P b i (.slice p l c) w K := by refine Eq.trans ?_ rfl; kernel_rfl
@[simp] theorem fact343 (rx ry : Operand) (l c : Nat) (w : World) (K : KV) : binT P .eql T.sl_uint64 rx ry (.slice none l c) (.slice none 0 0) w K = K (.bool true) w := by refine Eq.trans ?_ rfl; kernel_rfl
@[simp] theorem fact344 (rx ry : Operand) (a : Addr) (l c : Nat) (w : World) (K : KV) : binT P .eql T.sl_uint64 rx ry (.slice (some a) l c) (.slice none 0 0) w K = K (.bool false) w := by refine Eq.trans ?_ rfl; kernel_rfl
@[simp] theorem fact345  (w : World) (K : KV) : bsT P T.sl_uint64 0 #[] w K = K (.slice (some ⟨w.heap.size, 0, none⟩) 0 0) (w.alloc (.cells #[] T.uint64)) := by refine Eq.trans ?_ rfl; kernel_rfl
theorem mt.map_uint64_bool : MapTy P T.map_uint64_bool .u64 T.bool (.bool false) := MapTy.mk' (key := T.uint64) (by kernel_rfl) (by kernel_rfl) (by kernel_rfl)
@[simp] theorem fact347 (w : World) (K : KV) : alT P T.slices_xorshift w K = K (.pointer (some ⟨w.heap.size, 0, none⟩)) (w.alloc (.cells #[(.int .u64 0)] T.slices_xorshift)) := by refine Eq.trans ?_ rfl; kernel_rfl
@[simp] theorem fact348 (b i : Nat) (x : Int) (w : World) (K : KV) : stT P T.slices_xorshift (.pointer (some ⟨b, i, none⟩)) (.int .u64 x) w K = st1 P b i (.int .u64 x) w K := by refine Eq.trans ?_ rfl; kernel_rfl
@[simp] theorem fact349 (w : World) (K : KV) : alT P T.int w K = K (.pointer (some ⟨w.heap.size, 0, none⟩)) (w.alloc (.cells #[(.int .i64 0)] T.int)) := by refine Eq.trans ?_ rfl; kernel_rfl
@[simp] theorem fact350 (x0 : Int) (w : World) (K : KV) : bsT P T.sl_int 1 #[(0, (.int .i64 x0))] w K = K (.slice (some ⟨w.heap.size, 0, none⟩) 1 1) (w.alloc (.cells #[(.int .i64 x0)] T.int)) := by refine Eq.trans ?_ rfl; kernel_rfl
@[simp] theorem fact351 (b i : Nat) (p : Option Addr) (l c : Nat) (w : World) (K : KV) : stT P T.sl_int (.pointer (some ⟨b, i, none⟩)) (.slice p l c) w K = st1 P b i (.slice p l c) w K := by refine Eq.trans ?_ rfl; kernel_rfl
@[simp] theorem fact352 (b i : Nat) (w : World) (K : KV) : ldT P T.slices_xorshift (.pointer (some ⟨b, i, none⟩)) w K = ld1 P b i w K := by refine Eq.trans ?_ rfl; kernel_rfl
@[simp] theorem fact353 (b i : Nat) (p : Option Addr) (w : World) (K : KV) : stT P T.p_timers_item (.pointer (some ⟨b, i, none⟩)) (.pointer p) w K = st1 P b i (.pointer p) w K := by refine Eq.trans ?_ rfl; kernel_rfl
@[simp] theorem fact354 (b i : Nat) (p : Option Addr) (l c : Nat) (w : World) (K : KV) : stT P T.timers_line (.pointer (some ⟨b, i, none⟩)) (.slice p l c) w K = st1 P b i (.slice p l c) w K := by refine Eq.trans ?_ rfl; kernel_rfl
@[simp] theorem fact355 (v : Value) (w : World) (K : KV) : taT P (.iface T.p_timers_item v) T.any T.p_timers_item false w K = K v w := by refine Eq.trans ?_ rfl; kernel_rfl
@[simp] theorem fact356 (p0 : Option Addr) (w : World) (K : KV) : bsT P T.timers_line 1 #[(0, (.pointer p0))] w K = K (.slice (some ⟨w.heap.size, 0, none⟩) 1 1) (w.alloc (.cells #[(.pointer p0)] T.p_timers_item)) := by refine Eq.trans ?_ rfl; kernel_rfl
end Go.Proofs.Ytkjhekflgghbdaa
