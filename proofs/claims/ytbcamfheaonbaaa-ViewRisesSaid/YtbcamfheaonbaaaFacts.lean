/-
  Printed by wip/Shallow.lean: what the operations come to at this seat's types. No condition.
-/
import Derived.Test.YtbcamfheaonbaaaN
import Derived.Test.YtbcamfheaonbaaaZEngSimp
set_option maxRecDepth 1000000
namespace Go.Proofs.Ytbcamfheaonbaaa
open Go.Eng

@[simp] theorem fact0 (b i : Nat) (w : World) (K : KV) : faT P T.api_Member (.pointer (some ⟨b, i, none⟩)) 1 w K = K (.pointer (some ⟨b, i + 1, none⟩)) w := by refine Eq.trans ?_ rfl; kernel_rfl
@[simp] theorem fact1 (b i : Nat) (w : World) (K : KV) : ldT P T.uint64 (.pointer (some ⟨b, i, none⟩)) w K = ld1 P b i w K := by refine Eq.trans ?_ rfl; kernel_rfl
@[simp] theorem fact2 (b i : Nat) (w : World) (K : KV) : faT P T.api_Member (.pointer (some ⟨b, i, none⟩)) 2 w K = K (.pointer (some ⟨b, i + 2, none⟩)) w := by refine Eq.trans ?_ rfl; kernel_rfl
@[simp] theorem fact3 (b i : Nat) (w : World) (K : KV) : ldT P T.int (.pointer (some ⟨b, i, none⟩)) w K = ld1 P b i w K := by refine Eq.trans ?_ rfl; kernel_rfl
@[simp] theorem fact4 (b i : Nat) (w : World) (K : KV) : ldT P T.api_Member (.pointer (some ⟨b, i, none⟩)) w K = ldN P 3 b i w K := by refine Eq.trans ?_ rfl; kernel_rfl
@[simp] theorem fact5 : isSlB P T.sl_api_Member = true := by refine Eq.trans ?_ rfl; kernel_rfl
@[simp] theorem fact6 : szE P T.sl_api_Member = 3 := by refine Eq.trans ?_ rfl; kernel_rfl
theorem et.sl_api_Member : ElemTy P T.sl_api_Member T.api_Member 3 24 := ElemTy.mk' (by kernel_rfl) (by kernel_rfl) (by kernel_rfl)
@[simp] theorem fact8 (w : World) (K : KV) : alT P T.api_Member w K = K (.pointer (some ⟨w.heap.size, 0, none⟩)) (w.alloc (.cells #[(.int .u64 0), (.int .u64 0), (.int .i64 0)] T.api_Member)) := by refine Eq.trans ?_ rfl; kernel_rfl
@[simp] theorem fact9 (b i : Nat) (c_0 c_1 c_2 : Value) (w : World) (K : KV) : stT P T.api_Member (.pointer (some ⟨b, i, none⟩)) (.agg #[c_0, c_1, c_2]) w K = stN P b i [c_0, c_1, c_2] w K := by refine Eq.trans ?_ rfl; kernel_rfl
@[simp] theorem fact10 : isSlB P T.sl_int = true := by refine Eq.trans ?_ rfl; kernel_rfl
@[simp] theorem fact11 : szE P T.sl_int = 1 := by refine Eq.trans ?_ rfl; kernel_rfl
theorem et.sl_int : ElemTy P T.sl_int T.int 1 8 := ElemTy.mk' (by kernel_rfl) (by kernel_rfl) (by kernel_rfl)
@[simp] theorem fact13 (x0 : Int) (x1 : Int) (w : World) (K : KV) : bsT P T.sl_int 2 #[(0, (.int .i64 x0)), (1, (.int .i64 x1))] w K = K (.slice (some ⟨w.heap.size, 0, none⟩) 2 2) (w.alloc (.cells #[(.int .i64 x0), (.int .i64 x1)] T.int)) := by refine Eq.trans ?_ rfl; kernel_rfl
@[simp] theorem fact14 (x0 : Int) (x1 : Int) (x2 : Int) (w : World) (K : KV) : bldT P T.api_Member #[(0, (.int .u64 x0)), (1, (.int .u64 x1)), (2, (.int .i64 x2))] w K = K (.agg #[(.int .u64 x0), (.int .u64 x1), (.int .i64 x2)]) w := by refine Eq.trans ?_ rfl; kernel_rfl
@[simp] theorem fact15 (x0 : Int) (x1 : Int) (w : World) (K : KV) : bldT P T.api_Member #[(0, (.int .u64 x0)), (1, (.int .u64 x1))] w K = K (.agg #[(.int .u64 x0), (.int .u64 x1), (.int .i64 0)]) w := by refine Eq.trans ?_ rfl; kernel_rfl
@[simp] theorem fact16 (c0_0 c0_1 c0_2 : Value) (w : World) (K : KV) : bsT P T.sl_api_Member 1 #[(0, (.agg #[c0_0, c0_1, c0_2]))] w K = K (.slice (some ⟨w.heap.size, 0, none⟩) 1 1) (w.alloc (.cells #[c0_0, c0_1, c0_2] T.api_Member)) := by refine Eq.trans ?_ rfl; kernel_rfl
@[simp] theorem fact17  (w : World) (K : KV) : bldT P T.api_Member #[] w K = K (.agg #[(.int .u64 0), (.int .u64 0), (.int .i64 0)]) w := by refine Eq.trans ?_ rfl; kernel_rfl
@[simp] theorem fact18 (b i : Nat) (w : World) (K : KV) : faT P T.api_Member (.pointer (some ⟨b, i, none⟩)) 0 w K = K (.pointer (some ⟨b, i, none⟩)) w := by refine Eq.trans ?_ rfl; kernel_rfl
@[simp] theorem fact19 (x0 : Int) (p1 : Option Addr) (l1 c1 : Nat) (w : World) (K : KV) : bldT P T.api_Packet #[(0, (.int .i64 x0)), (7, (.slice p1 l1 c1))] w K = K (.agg #[(.int .i64 x0), (.int .u64 0), (.int .u64 0), (.int .u64 0), (.int .u64 0), (.int .u64 0), (.int .i64 0), (.bool false), (.slice none 0 0), (.slice p1 l1 c1), (.slice none 0 0)]) w := by refine Eq.trans ?_ rfl; kernel_rfl
@[simp] theorem fact20 : isSlB P T.sl_api_Kind = true := by refine Eq.trans ?_ rfl; kernel_rfl
@[simp] theorem fact21 : szE P T.sl_api_Kind = 1 := by refine Eq.trans ?_ rfl; kernel_rfl
theorem et.sl_api_Kind : ElemTy P T.sl_api_Kind T.api_Kind 1 8 := ElemTy.mk' (by kernel_rfl) (by kernel_rfl) (by kernel_rfl)
@[simp] theorem fact23 (x0 : Int) (x1 : Int) (w : World) (K : KV) : bsT P T.sl_api_Kind 2 #[(0, (.int .i64 x0)), (1, (.int .i64 x1))] w K = K (.slice (some ⟨w.heap.size, 0, none⟩) 2 2) (w.alloc (.cells #[(.int .i64 x0), (.int .i64 x1)] T.api_Kind)) := by refine Eq.trans ?_ rfl; kernel_rfl
@[simp] theorem fact24 : isSlB P T.sl_sl_api_Member = true := by refine Eq.trans ?_ rfl; kernel_rfl
@[simp] theorem fact25 : szE P T.sl_sl_api_Member = 1 := by refine Eq.trans ?_ rfl; kernel_rfl
theorem et.sl_sl_api_Member : ElemTy P T.sl_sl_api_Member T.sl_api_Member 1 24 := ElemTy.mk' (by kernel_rfl) (by kernel_rfl) (by kernel_rfl)
@[simp] theorem fact27 (p0 : Option Addr) (l0 c0 : Nat) (p1 : Option Addr) (l1 c1 : Nat) (w : World) (K : KV) : bsT P T.sl_sl_api_Member 2 #[(0, (.slice p0 l0 c0)), (1, (.slice p1 l1 c1))] w K = K (.slice (some ⟨w.heap.size, 0, none⟩) 2 2) (w.alloc (.cells #[(.slice p0 l0 c0), (.slice p1 l1 c1)] T.sl_api_Member)) := by refine Eq.trans ?_ rfl; kernel_rfl
theorem mt.map_uint64_api_Member : MapTy P T.map_uint64_api_Member .u64 T.api_Member (.agg #[(.int .u64 0), (.int .u64 0), (.int .i64 0)]) := MapTy.mk' (key := T.uint64) (by kernel_rfl) (by kernel_rfl) (by kernel_rfl)
@[simp] theorem fact29 : isSlB P T.sl_uint64 = true := by refine Eq.trans ?_ rfl; kernel_rfl
@[simp] theorem fact30 : szE P T.sl_uint64 = 1 := by refine Eq.trans ?_ rfl; kernel_rfl
theorem et.sl_uint64 : ElemTy P T.sl_uint64 T.uint64 1 8 := ElemTy.mk' (by kernel_rfl) (by kernel_rfl) (by kernel_rfl)
@[simp] theorem fact32 (x0 : Int) (w : World) (K : KV) : bsT P T.sl_uint64 1 #[(0, (.int .u64 x0))] w K = K (.slice (some ⟨w.heap.size, 0, none⟩) 1 1) (w.alloc (.cells #[(.int .u64 x0)] T.uint64)) := by refine Eq.trans ?_ rfl; kernel_rfl
@[simp] theorem fact33  (w : World) (K : KV) : bsT P T.sl_api_Member 0 #[] w K = K (.slice (some ⟨w.heap.size, 0, none⟩) 0 0) (w.alloc (.cells #[] T.api_Member)) := by refine Eq.trans ?_ rfl; kernel_rfl
@[simp] theorem fact34 (b i : Nat) (w : World) (K : KV) : ldT P T.api_Packet (.pointer (some ⟨b, i, none⟩)) w K = ldN P 11 b i w K := by refine Eq.trans ?_ rfl; kernel_rfl
@[simp] theorem fact35 (rx ry : Operand) (ti : TypeId) (v : Value) (w : World) (K : KV) : binT P .eql T.any rx ry (.iface ti v) .nilIface w K = K (.bool false) w := by refine Eq.trans ?_ rfl; kernel_rfl
@[simp] theorem fact36 (b i : Nat) (w : World) (K : KV) : ldT P T.api_Kind (.pointer (some ⟨b, i, none⟩)) w K = ld1 P b i w K := by refine Eq.trans ?_ rfl; kernel_rfl
@[simp] theorem fact37 (b i : Nat) (w : World) (K : KV) : ldT P T.sl_api_Member (.pointer (some ⟨b, i, none⟩)) w K = ld1 P b i w K := by refine Eq.trans ?_ rfl; kernel_rfl
@[simp] theorem fact38 (v : Value) (w : World) (K : KV) : mkiT P T.string v w K = K (.iface T.string v) w := by refine Eq.trans ?_ rfl; kernel_rfl
@[simp] theorem fact39 (b i : Nat) (w : World) (K : KV) : faT P T.api_Packet (.pointer (some ⟨b, i, none⟩)) 0 w K = K (.pointer (some ⟨b, i, none⟩)) w := by refine Eq.trans ?_ rfl; kernel_rfl
@[simp] theorem fact40 (b i : Nat) (w : World) (K : KV) : faT P T.api_Packet (.pointer (some ⟨b, i, none⟩)) 1 w K = K (.pointer (some ⟨b, i + 1, none⟩)) w := by refine Eq.trans ?_ rfl; kernel_rfl
@[simp] theorem fact41 (b i : Nat) (w : World) (K : KV) : faT P T.api_Packet (.pointer (some ⟨b, i, none⟩)) 6 w K = K (.pointer (some ⟨b, i + 8, none⟩)) w := by refine Eq.trans ?_ rfl; kernel_rfl
@[simp] theorem fact42 (b i : Nat) (w : World) (K : KV) : ldT P T.sl_api_Span (.pointer (some ⟨b, i, none⟩)) w K = ld1 P b i w K := by refine Eq.trans ?_ rfl; kernel_rfl
@[simp] theorem fact43 (x0 : Int) (bo1 : Bool) (p2 : Option Addr) (l2 c2 : Nat) (w : World) (K : KV) : bldT P T.message_Spans #[(0, (.int .u64 x0)), (1, (.bool bo1)), (2, (.slice p2 l2 c2))] w K = K (.agg #[(.int .u64 x0), (.bool bo1), (.slice p2 l2 c2)]) w := by refine Eq.trans ?_ rfl; kernel_rfl
@[simp] theorem fact44 (v : Value) (w : World) (K : KV) : mkiT P T.message_Spans v w K = K (.iface T.message_Spans v) w := by refine Eq.trans ?_ rfl; kernel_rfl
@[simp] theorem fact45 (b i : Nat) (w : World) (K : KV) : faT P T.api_Packet (.pointer (some ⟨b, i, none⟩)) 7 w K = K (.pointer (some ⟨b, i + 9, none⟩)) w := by refine Eq.trans ?_ rfl; kernel_rfl
@[simp] theorem fact46 (p0 : Option Addr) (l0 c0 : Nat) (w : World) (K : KV) : bldT P T.message_Members #[(0, (.slice p0 l0 c0))] w K = K (.agg #[(.slice p0 l0 c0)]) w := by refine Eq.trans ?_ rfl; kernel_rfl
@[simp] theorem fact47 (v : Value) (w : World) (K : KV) : mkiT P T.message_Members v w K = K (.iface T.message_Members v) w := by refine Eq.trans ?_ rfl; kernel_rfl
@[simp] theorem fact48 (b i : Nat) (w : World) (K : KV) : faT P T.api_Packet (.pointer (some ⟨b, i, none⟩)) 2 w K = K (.pointer (some ⟨b, i + 2, none⟩)) w := by refine Eq.trans ?_ rfl; kernel_rfl
@[simp] theorem fact49 (b i : Nat) (w : World) (K : KV) : ldT P T.api_Ballot (.pointer (some ⟨b, i, none⟩)) w K = ldN P 2 b i w K := by refine Eq.trans ?_ rfl; kernel_rfl
@[simp] theorem fact50 (b i : Nat) (w : World) (K : KV) : faT P T.api_Packet (.pointer (some ⟨b, i, none⟩)) 4 w K = K (.pointer (some ⟨b, i + 6, none⟩)) w := by refine Eq.trans ?_ rfl; kernel_rfl
@[simp] theorem fact51 (b i : Nat) (w : World) (K : KV) : ldT P T.api_Verdict (.pointer (some ⟨b, i, none⟩)) w K = ld1 P b i w K := by refine Eq.trans ?_ rfl; kernel_rfl
@[simp] theorem fact52 (x0 : Int) (c1_0 c1_1 : Value) (x2 : Int) (w : World) (K : KV) : bldT P T.message_Ask #[(0, (.int .u64 x0)), (1, (.agg #[c1_0, c1_1])), (2, (.int .i64 x2))] w K = K (.agg #[(.int .u64 x0), c1_0, c1_1, (.int .i64 x2)]) w := by refine Eq.trans ?_ rfl; kernel_rfl
@[simp] theorem fact53 (v : Value) (w : World) (K : KV) : mkiT P T.message_Ask v w K = K (.iface T.message_Ask v) w := by refine Eq.trans ?_ rfl; kernel_rfl
@[simp] theorem fact54 (b i : Nat) (w : World) (K : KV) : faT P T.api_Packet (.pointer (some ⟨b, i, none⟩)) 5 w K = K (.pointer (some ⟨b, i + 7, none⟩)) w := by refine Eq.trans ?_ rfl; kernel_rfl
@[simp] theorem fact55 (b i : Nat) (w : World) (K : KV) : ldT P T.bool (.pointer (some ⟨b, i, none⟩)) w K = ld1 P b i w K := by refine Eq.trans ?_ rfl; kernel_rfl
@[simp] theorem fact56 (b i : Nat) (w : World) (K : KV) : faT P T.api_Packet (.pointer (some ⟨b, i, none⟩)) 3 w K = K (.pointer (some ⟨b, i + 4, none⟩)) w := by refine Eq.trans ?_ rfl; kernel_rfl
@[simp] theorem fact57 (x0 : Int) (c1_0 c1_1 : Value) (bo2 : Bool) (c3_0 c3_1 : Value) (x4 : Int) (bo5 : Bool) (w : World) (K : KV) : bldT P T.message_Reply #[(0, (.int .u64 x0)), (1, (.agg #[c1_0, c1_1])), (2, (.bool bo2)), (3, (.agg #[c3_0, c3_1])), (4, (.int .i64 x4)), (5, (.bool bo5))] w K = K (.agg #[(.int .u64 x0), c1_0, c1_1, (.bool bo2), c3_0, c3_1, (.int .i64 x4), (.bool bo5)]) w := by refine Eq.trans ?_ rfl; kernel_rfl
@[simp] theorem fact58 (v : Value) (w : World) (K : KV) : mkiT P T.message_Reply v w K = K (.iface T.message_Reply v) w := by refine Eq.trans ?_ rfl; kernel_rfl
@[simp] theorem fact59 (x0 : Int) (x1 : Int) (w : World) (K : KV) : bldT P T.message_Told #[(0, (.int .u64 x0)), (1, (.int .i64 x1))] w K = K (.agg #[(.int .u64 x0), (.int .i64 x1)]) w := by refine Eq.trans ?_ rfl; kernel_rfl
@[simp] theorem fact60 (v : Value) (w : World) (K : KV) : mkiT P T.message_Told v w K = K (.iface T.message_Told v) w := by refine Eq.trans ?_ rfl; kernel_rfl
@[simp] theorem fact61 (x0 : Int) (c1_0 c1_1 : Value) (p2 : Option Addr) (l2 c2 : Nat) (w : World) (K : KV) : bldT P T.message_Stored #[(0, (.int .u64 x0)), (1, (.agg #[c1_0, c1_1])), (2, (.slice p2 l2 c2))] w K = K (.agg #[(.int .u64 x0), c1_0, c1_1, (.slice p2 l2 c2)]) w := by refine Eq.trans ?_ rfl; kernel_rfl
@[simp] theorem fact62 (v : Value) (w : World) (K : KV) : mkiT P T.message_Stored v w K = K (.iface T.message_Stored v) w := by refine Eq.trans ?_ rfl; kernel_rfl
@[simp] theorem fact63 (b i : Nat) (w : World) (K : KV) : faT P T.api_Packet (.pointer (some ⟨b, i, none⟩)) 8 w K = K (.pointer (some ⟨b, i + 10, none⟩)) w := by refine Eq.trans ?_ rfl; kernel_rfl
@[simp] theorem fact64 (b i : Nat) (w : World) (K : KV) : ldT P T.sl_uint64 (.pointer (some ⟨b, i, none⟩)) w K = ld1 P b i w K := by refine Eq.trans ?_ rfl; kernel_rfl
@[simp] theorem fact65 (x0 : Int) (p1 : Option Addr) (l1 c1 : Nat) (w : World) (K : KV) : bldT P T.message_Acked #[(0, (.int .u64 x0)), (1, (.slice p1 l1 c1))] w K = K (.agg #[(.int .u64 x0), (.slice p1 l1 c1)]) w := by refine Eq.trans ?_ rfl; kernel_rfl
@[simp] theorem fact66 (v : Value) (w : World) (K : KV) : mkiT P T.message_Acked v w K = K (.iface T.message_Acked v) w := by refine Eq.trans ?_ rfl; kernel_rfl
@[simp] theorem fact67  (w : World) (K : KV) : bldT P T.api_Ballot #[] w K = K (.agg #[(.int .u64 0), (.int .u64 0)]) w := by refine Eq.trans ?_ rfl; kernel_rfl
@[simp] theorem fact68 (w : World) (K : KV) : alT P T.api_Ballot w K = K (.pointer (some ⟨w.heap.size, 0, none⟩)) (w.alloc (.cells #[(.int .u64 0), (.int .u64 0)] T.api_Ballot)) := by refine Eq.trans ?_ rfl; kernel_rfl
@[simp] theorem fact69 (b i : Nat) (c_0 c_1 : Value) (w : World) (K : KV) : stT P T.api_Ballot (.pointer (some ⟨b, i, none⟩)) (.agg #[c_0, c_1]) w K = stN P b i [c_0, c_1] w K := by refine Eq.trans ?_ rfl; kernel_rfl
@[simp] theorem fact70 (v : Value) (w : World) (K : KV) : taT P (.iface T.message_Spans v) T.any T.message_Spans true w K = K (.tuple #[v, .bool true]) w := by refine Eq.trans ?_ rfl; kernel_rfl
@[simp] theorem fact71 (w : World) (K : KV) : alT P T.message_Spans w K = K (.pointer (some ⟨w.heap.size, 0, none⟩)) (w.alloc (.cells #[(.int .u64 0), (.bool false), (.slice none 0 0)] T.message_Spans)) := by refine Eq.trans ?_ rfl; kernel_rfl
@[simp] theorem fact72 (b i : Nat) (c_0 c_1 c_2 : Value) (w : World) (K : KV) : stT P T.message_Spans (.pointer (some ⟨b, i, none⟩)) (.agg #[c_0, c_1, c_2]) w K = stN P b i [c_0, c_1, c_2] w K := by refine Eq.trans ?_ rfl; kernel_rfl
@[simp] theorem fact73 (b i : Nat) (w : World) (K : KV) : faT P T.message_Spans (.pointer (some ⟨b, i, none⟩)) 0 w K = K (.pointer (some ⟨b, i, none⟩)) w := by refine Eq.trans ?_ rfl; kernel_rfl
@[simp] theorem fact74 (b i : Nat) (w : World) (K : KV) : faT P T.message_Spans (.pointer (some ⟨b, i, none⟩)) 2 w K = K (.pointer (some ⟨b, i + 2, none⟩)) w := by refine Eq.trans ?_ rfl; kernel_rfl
@[simp] theorem fact75 (v : Value) (w : World) (K : KV) : taT P (.iface T.message_Members v) T.any T.message_Members true w K = K (.tuple #[v, .bool true]) w := by refine Eq.trans ?_ rfl; kernel_rfl
@[simp] theorem fact76 (w : World) (K : KV) : alT P T.message_Members w K = K (.pointer (some ⟨w.heap.size, 0, none⟩)) (w.alloc (.cells #[(.slice none 0 0)] T.message_Members)) := by refine Eq.trans ?_ rfl; kernel_rfl
@[simp] theorem fact77 (b i : Nat) (c_0 : Value) (w : World) (K : KV) : stT P T.message_Members (.pointer (some ⟨b, i, none⟩)) (.agg #[c_0]) w K = stN P b i [c_0] w K := by refine Eq.trans ?_ rfl; kernel_rfl
@[simp] theorem fact78 (b i : Nat) (w : World) (K : KV) : faT P T.message_Members (.pointer (some ⟨b, i, none⟩)) 0 w K = K (.pointer (some ⟨b, i, none⟩)) w := by refine Eq.trans ?_ rfl; kernel_rfl
@[simp] theorem fact79 (v : Value) (w : World) (K : KV) : taT P (.iface T.message_Ask v) T.any T.message_Ask true w K = K (.tuple #[v, .bool true]) w := by refine Eq.trans ?_ rfl; kernel_rfl
@[simp] theorem fact80 (w : World) (K : KV) : alT P T.message_Ask w K = K (.pointer (some ⟨w.heap.size, 0, none⟩)) (w.alloc (.cells #[(.int .u64 0), (.int .u64 0), (.int .u64 0), (.int .i64 0)] T.message_Ask)) := by refine Eq.trans ?_ rfl; kernel_rfl
@[simp] theorem fact81 (b i : Nat) (c_0 c_1 c_2 c_3 : Value) (w : World) (K : KV) : stT P T.message_Ask (.pointer (some ⟨b, i, none⟩)) (.agg #[c_0, c_1, c_2, c_3]) w K = stN P b i [c_0, c_1, c_2, c_3] w K := by refine Eq.trans ?_ rfl; kernel_rfl
@[simp] theorem fact82 (b i : Nat) (w : World) (K : KV) : faT P T.message_Ask (.pointer (some ⟨b, i, none⟩)) 0 w K = K (.pointer (some ⟨b, i, none⟩)) w := by refine Eq.trans ?_ rfl; kernel_rfl
@[simp] theorem fact83 (b i : Nat) (w : World) (K : KV) : faT P T.message_Ask (.pointer (some ⟨b, i, none⟩)) 1 w K = K (.pointer (some ⟨b, i + 1, none⟩)) w := by refine Eq.trans ?_ rfl; kernel_rfl
@[simp] theorem fact84 (b i : Nat) (w : World) (K : KV) : faT P T.api_Ballot (.pointer (some ⟨b, i, none⟩)) 0 w K = K (.pointer (some ⟨b, i, none⟩)) w := by refine Eq.trans ?_ rfl; kernel_rfl
@[simp] theorem fact85 (b i : Nat) (w : World) (K : KV) : faT P T.message_Ask (.pointer (some ⟨b, i, none⟩)) 2 w K = K (.pointer (some ⟨b, i + 3, none⟩)) w := by refine Eq.trans ?_ rfl; kernel_rfl
@[simp] theorem fact86 (v : Value) (w : World) (K : KV) : taT P (.iface T.message_Reply v) T.any T.message_Reply true w K = K (.tuple #[v, .bool true]) w := by refine Eq.trans ?_ rfl; kernel_rfl
@[simp] theorem fact87 (w : World) (K : KV) : alT P T.message_Reply w K = K (.pointer (some ⟨w.heap.size, 0, none⟩)) (w.alloc (.cells #[(.int .u64 0), (.int .u64 0), (.int .u64 0), (.bool false), (.int .u64 0), (.int .u64 0), (.int .i64 0), (.bool false)] T.message_Reply)) := by refine Eq.trans ?_ rfl; kernel_rfl
@[simp] theorem fact88 (b i : Nat) (c_0 c_1 c_2 c_3 c_4 c_5 c_6 c_7 : Value) (w : World) (K : KV) : stT P T.message_Reply (.pointer (some ⟨b, i, none⟩)) (.agg #[c_0, c_1, c_2, c_3, c_4, c_5, c_6, c_7]) w K = stN P b i [c_0, c_1, c_2, c_3, c_4, c_5, c_6, c_7] w K := by refine Eq.trans ?_ rfl; kernel_rfl
@[simp] theorem fact89 (b i : Nat) (w : World) (K : KV) : faT P T.message_Reply (.pointer (some ⟨b, i, none⟩)) 0 w K = K (.pointer (some ⟨b, i, none⟩)) w := by refine Eq.trans ?_ rfl; kernel_rfl
@[simp] theorem fact90 (b i : Nat) (w : World) (K : KV) : faT P T.message_Reply (.pointer (some ⟨b, i, none⟩)) 1 w K = K (.pointer (some ⟨b, i + 1, none⟩)) w := by refine Eq.trans ?_ rfl; kernel_rfl
@[simp] theorem fact91 (b i : Nat) (w : World) (K : KV) : faT P T.message_Reply (.pointer (some ⟨b, i, none⟩)) 2 w K = K (.pointer (some ⟨b, i + 3, none⟩)) w := by refine Eq.trans ?_ rfl; kernel_rfl
@[simp] theorem fact92 (b i : Nat) (w : World) (K : KV) : faT P T.message_Reply (.pointer (some ⟨b, i, none⟩)) 4 w K = K (.pointer (some ⟨b, i + 6, none⟩)) w := by refine Eq.trans ?_ rfl; kernel_rfl
@[simp] theorem fact93 (b i : Nat) (w : World) (K : KV) : faT P T.message_Reply (.pointer (some ⟨b, i, none⟩)) 3 w K = K (.pointer (some ⟨b, i + 4, none⟩)) w := by refine Eq.trans ?_ rfl; kernel_rfl
@[simp] theorem fact94 (b i : Nat) (w : World) (K : KV) : faT P T.message_Reply (.pointer (some ⟨b, i, none⟩)) 5 w K = K (.pointer (some ⟨b, i + 7, none⟩)) w := by refine Eq.trans ?_ rfl; kernel_rfl
@[simp] theorem fact95 (v : Value) (w : World) (K : KV) : taT P (.iface T.message_Told v) T.any T.message_Told true w K = K (.tuple #[v, .bool true]) w := by refine Eq.trans ?_ rfl; kernel_rfl
@[simp] theorem fact96 (w : World) (K : KV) : alT P T.message_Told w K = K (.pointer (some ⟨w.heap.size, 0, none⟩)) (w.alloc (.cells #[(.int .u64 0), (.int .i64 0)] T.message_Told)) := by refine Eq.trans ?_ rfl; kernel_rfl
@[simp] theorem fact97 (b i : Nat) (c_0 c_1 : Value) (w : World) (K : KV) : stT P T.message_Told (.pointer (some ⟨b, i, none⟩)) (.agg #[c_0, c_1]) w K = stN P b i [c_0, c_1] w K := by refine Eq.trans ?_ rfl; kernel_rfl
@[simp] theorem fact98 (b i : Nat) (w : World) (K : KV) : faT P T.message_Told (.pointer (some ⟨b, i, none⟩)) 0 w K = K (.pointer (some ⟨b, i, none⟩)) w := by refine Eq.trans ?_ rfl; kernel_rfl
@[simp] theorem fact99 (b i : Nat) (w : World) (K : KV) : faT P T.message_Told (.pointer (some ⟨b, i, none⟩)) 1 w K = K (.pointer (some ⟨b, i + 1, none⟩)) w := by refine Eq.trans ?_ rfl; kernel_rfl
@[simp] theorem fact100 (v : Value) (w : World) (K : KV) : taT P (.iface T.message_Stored v) T.any T.message_Stored true w K = K (.tuple #[v, .bool true]) w := by refine Eq.trans ?_ rfl; kernel_rfl
@[simp] theorem fact101 (w : World) (K : KV) : alT P T.message_Stored w K = K (.pointer (some ⟨w.heap.size, 0, none⟩)) (w.alloc (.cells #[(.int .u64 0), (.int .u64 0), (.int .u64 0), (.slice none 0 0)] T.message_Stored)) := by refine Eq.trans ?_ rfl; kernel_rfl
@[simp] theorem fact102 (b i : Nat) (c_0 c_1 c_2 c_3 : Value) (w : World) (K : KV) : stT P T.message_Stored (.pointer (some ⟨b, i, none⟩)) (.agg #[c_0, c_1, c_2, c_3]) w K = stN P b i [c_0, c_1, c_2, c_3] w K := by refine Eq.trans ?_ rfl; kernel_rfl
@[simp] theorem fact103 (b i : Nat) (w : World) (K : KV) : faT P T.message_Stored (.pointer (some ⟨b, i, none⟩)) 0 w K = K (.pointer (some ⟨b, i, none⟩)) w := by refine Eq.trans ?_ rfl; kernel_rfl
@[simp] theorem fact104 (b i : Nat) (w : World) (K : KV) : faT P T.message_Stored (.pointer (some ⟨b, i, none⟩)) 1 w K = K (.pointer (some ⟨b, i + 1, none⟩)) w := by refine Eq.trans ?_ rfl; kernel_rfl
@[simp] theorem fact105 (b i : Nat) (w : World) (K : KV) : faT P T.message_Stored (.pointer (some ⟨b, i, none⟩)) 2 w K = K (.pointer (some ⟨b, i + 3, none⟩)) w := by refine Eq.trans ?_ rfl; kernel_rfl
@[simp] theorem fact106 (v : Value) (w : World) (K : KV) : taT P (.iface T.message_Acked v) T.any T.message_Acked true w K = K (.tuple #[v, .bool true]) w := by refine Eq.trans ?_ rfl; kernel_rfl
@[simp] theorem fact107 (w : World) (K : KV) : alT P T.message_Acked w K = K (.pointer (some ⟨w.heap.size, 0, none⟩)) (w.alloc (.cells #[(.int .u64 0), (.slice none 0 0)] T.message_Acked)) := by refine Eq.trans ?_ rfl; kernel_rfl
@[simp] theorem fact108 (b i : Nat) (c_0 c_1 : Value) (w : World) (K : KV) : stT P T.message_Acked (.pointer (some ⟨b, i, none⟩)) (.agg #[c_0, c_1]) w K = stN P b i [c_0, c_1] w K := by refine Eq.trans ?_ rfl; kernel_rfl
@[simp] theorem fact109 (b i : Nat) (w : World) (K : KV) : faT P T.message_Acked (.pointer (some ⟨b, i, none⟩)) 0 w K = K (.pointer (some ⟨b, i, none⟩)) w := by refine Eq.trans ?_ rfl; kernel_rfl
@[simp] theorem fact110 (b i : Nat) (w : World) (K : KV) : faT P T.message_Acked (.pointer (some ⟨b, i, none⟩)) 1 w K = K (.pointer (some ⟨b, i + 1, none⟩)) w := by refine Eq.trans ?_ rfl; kernel_rfl
@[simp] theorem fact111 (w : World) (K : KV) : alT P T.api_Packet w K = K (.pointer (some ⟨w.heap.size, 0, none⟩)) (w.alloc (.cells #[(.int .i64 0), (.int .u64 0), (.int .u64 0), (.int .u64 0), (.int .u64 0), (.int .u64 0), (.int .i64 0), (.bool false), (.slice none 0 0), (.slice none 0 0), (.slice none 0 0)] T.api_Packet)) := by refine Eq.trans ?_ rfl; kernel_rfl
@[simp] theorem fact112 (x0 : Int) (x1 : Int) (p2 : Option Addr) (l2 c2 : Nat) (w : World) (K : KV) : bldT P T.api_Packet #[(0, (.int .i64 x0)), (1, (.int .u64 x1)), (6, (.slice p2 l2 c2))] w K = K (.agg #[(.int .i64 x0), (.int .u64 x1), (.int .u64 0), (.int .u64 0), (.int .u64 0), (.int .u64 0), (.int .i64 0), (.bool false), (.slice p2 l2 c2), (.slice none 0 0), (.slice none 0 0)]) w := by refine Eq.trans ?_ rfl; kernel_rfl
@[simp] theorem fact113 (b i : Nat) (c_0 c_1 c_2 c_3 c_4 c_5 c_6 c_7 c_8 c_9 c_10 : Value) (w : World) (K : KV) : stT P T.api_Packet (.pointer (some ⟨b, i, none⟩)) (.agg #[c_0, c_1, c_2, c_3, c_4, c_5, c_6, c_7, c_8, c_9, c_10]) w K = stN P b i [c_0, c_1, c_2, c_3, c_4, c_5, c_6, c_7, c_8, c_9, c_10] w K := by refine Eq.trans ?_ rfl; kernel_rfl
@[simp] theorem fact114 (b i : Nat) (w : World) (K : KV) : faT P T.message_Spans (.pointer (some ⟨b, i, none⟩)) 1 w K = K (.pointer (some ⟨b, i + 1, none⟩)) w := by refine Eq.trans ?_ rfl; kernel_rfl
@[simp] theorem fact115 (b i : Nat) (x : Int) (w : World) (K : KV) : stT P T.int (.pointer (some ⟨b, i, none⟩)) (.int .i64 x) w K = st1 P b i (.int .i64 x) w K := by refine Eq.trans ?_ rfl; kernel_rfl
@[simp] theorem fact116 (x0 : Int) (x1 : Int) (c2_0 c2_1 : Value) (x3 : Int) (w : World) (K : KV) : bldT P T.api_Packet #[(0, (.int .i64 x0)), (1, (.int .u64 x1)), (2, (.agg #[c2_0, c2_1])), (4, (.int .i64 x3))] w K = K (.agg #[(.int .i64 x0), (.int .u64 x1), c2_0, c2_1, (.int .u64 0), (.int .u64 0), (.int .i64 x3), (.bool false), (.slice none 0 0), (.slice none 0 0), (.slice none 0 0)]) w := by refine Eq.trans ?_ rfl; kernel_rfl
@[simp] theorem fact117 (x0 : Int) (x1 : Int) (c2_0 c2_1 : Value) (bo3 : Bool) (c4_0 c4_1 : Value) (x5 : Int) (w : World) (K : KV) : bldT P T.api_Packet #[(0, (.int .i64 x0)), (1, (.int .u64 x1)), (2, (.agg #[c2_0, c2_1])), (5, (.bool bo3)), (3, (.agg #[c4_0, c4_1])), (4, (.int .i64 x5))] w K = K (.agg #[(.int .i64 x0), (.int .u64 x1), c2_0, c2_1, c4_0, c4_1, (.int .i64 x5), (.bool bo3), (.slice none 0 0), (.slice none 0 0), (.slice none 0 0)]) w := by refine Eq.trans ?_ rfl; kernel_rfl
@[simp] theorem fact118 (x0 : Int) (x1 : Int) (x2 : Int) (w : World) (K : KV) : bldT P T.api_Packet #[(0, (.int .i64 x0)), (1, (.int .u64 x1)), (4, (.int .i64 x2))] w K = K (.agg #[(.int .i64 x0), (.int .u64 x1), (.int .u64 0), (.int .u64 0), (.int .u64 0), (.int .u64 0), (.int .i64 x2), (.bool false), (.slice none 0 0), (.slice none 0 0), (.slice none 0 0)]) w := by refine Eq.trans ?_ rfl; kernel_rfl
@[simp] theorem fact119 (x0 : Int) (x1 : Int) (c2_0 c2_1 : Value) (p3 : Option Addr) (l3 c3 : Nat) (w : World) (K : KV) : bldT P T.api_Packet #[(0, (.int .i64 x0)), (1, (.int .u64 x1)), (2, (.agg #[c2_0, c2_1])), (6, (.slice p3 l3 c3))] w K = K (.agg #[(.int .i64 x0), (.int .u64 x1), c2_0, c2_1, (.int .u64 0), (.int .u64 0), (.int .i64 0), (.bool false), (.slice p3 l3 c3), (.slice none 0 0), (.slice none 0 0)]) w := by refine Eq.trans ?_ rfl; kernel_rfl
@[simp] theorem fact120 (x0 : Int) (x1 : Int) (p2 : Option Addr) (l2 c2 : Nat) (w : World) (K : KV) : bldT P T.api_Packet #[(0, (.int .i64 x0)), (1, (.int .u64 x1)), (8, (.slice p2 l2 c2))] w K = K (.agg #[(.int .i64 x0), (.int .u64 x1), (.int .u64 0), (.int .u64 0), (.int .u64 0), (.int .u64 0), (.int .i64 0), (.bool false), (.slice none 0 0), (.slice none 0 0), (.slice p2 l2 c2)]) w := by refine Eq.trans ?_ rfl; kernel_rfl
@[simp] theorem fact121 (b i : Nat) (w : World) (K : KV) : ldT P T.map_uint64_api_Member (.pointer (some ⟨b, i, none⟩)) w K = ld1 P b i w K := by refine Eq.trans ?_ rfl; kernel_rfl
@[simp] theorem fact122 (rx ry : Operand) (l c : Nat) (w : World) (K : KV) : binT P .eql T.sl_api_Span rx ry (.slice none l c) (.slice none 0 0) w K = K (.bool true) w := by refine Eq.trans ?_ rfl; kernel_rfl
@[simp] theorem fact123 (rx ry : Operand) (a : Addr) (l c : Nat) (w : World) (K : KV) : binT P .eql T.sl_api_Span rx ry (.slice (some a) l c) (.slice none 0 0) w K = K (.bool false) w := by refine Eq.trans ?_ rfl; kernel_rfl
@[simp] theorem fact124 : isSlB P T.sl_api_Span = true := by refine Eq.trans ?_ rfl; kernel_rfl
@[simp] theorem fact125 : szE P T.sl_api_Span = 8 := by refine Eq.trans ?_ rfl; kernel_rfl
theorem et.sl_api_Span : ElemTy P T.sl_api_Span T.api_Span 8 80 := ElemTy.mk' (by kernel_rfl) (by kernel_rfl) (by kernel_rfl)
@[simp] theorem fact127  (w : World) (K : KV) : bsT P T.sl_api_Span 0 #[] w K = K (.slice (some ⟨w.heap.size, 0, none⟩) 0 0) (w.alloc (.cells #[] T.api_Span)) := by refine Eq.trans ?_ rfl; kernel_rfl
@[simp] theorem fact128 (rx ry : Operand) (l c : Nat) (w : World) (K : KV) : binT P .eql T.sl_api_Member rx ry (.slice none l c) (.slice none 0 0) w K = K (.bool true) w := by refine Eq.trans ?_ rfl; kernel_rfl
@[simp] theorem fact129 (rx ry : Operand) (a : Addr) (l c : Nat) (w : World) (K : KV) : binT P .eql T.sl_api_Member rx ry (.slice (some a) l c) (.slice none 0 0) w K = K (.bool false) w := by refine Eq.trans ?_ rfl; kernel_rfl
@[simp] theorem fact130 (rx ry : Operand) (l c : Nat) (w : World) (K : KV) : binT P .eql T.sl_uint64 rx ry (.slice none l c) (.slice none 0 0) w K = K (.bool true) w := by refine Eq.trans ?_ rfl; kernel_rfl
@[simp] theorem fact131 (rx ry : Operand) (a : Addr) (l c : Nat) (w : World) (K : KV) : binT P .eql T.sl_uint64 rx ry (.slice (some a) l c) (.slice none 0 0) w K = K (.bool false) w := by refine Eq.trans ?_ rfl; kernel_rfl
@[simp] theorem fact132  (w : World) (K : KV) : bsT P T.sl_uint64 0 #[] w K = K (.slice (some ⟨w.heap.size, 0, none⟩) 0 0) (w.alloc (.cells #[] T.uint64)) := by refine Eq.trans ?_ rfl; kernel_rfl
@[simp] theorem fact133 (b i : Nat) (w : World) (K : KV) : ldT P T.api_Span (.pointer (some ⟨b, i, none⟩)) w K = ldN P 8 b i w K := by refine Eq.trans ?_ rfl; kernel_rfl
@[simp] theorem fact134 (w : World) (K : KV) : alT P T.api_Span w K = K (.pointer (some ⟨w.heap.size, 0, none⟩)) (w.alloc (.cells #[(.int .u64 0), (.int .u64 0), (.int .u64 0), (.int .u64 0), (.int .u64 0), (.string ⟨#[]⟩), (.string ⟨#[]⟩), (.bool false)] T.api_Span)) := by refine Eq.trans ?_ rfl; kernel_rfl
@[simp] theorem fact135 (b i : Nat) (c_0 c_1 c_2 c_3 c_4 c_5 c_6 c_7 : Value) (w : World) (K : KV) : stT P T.api_Span (.pointer (some ⟨b, i, none⟩)) (.agg #[c_0, c_1, c_2, c_3, c_4, c_5, c_6, c_7]) w K = stN P b i [c_0, c_1, c_2, c_3, c_4, c_5, c_6, c_7] w K := by refine Eq.trans ?_ rfl; kernel_rfl
@[simp] theorem fact136 (b i : Nat) (w : World) (K : KV) : faT P T.api_Span (.pointer (some ⟨b, i, none⟩)) 0 w K = K (.pointer (some ⟨b, i, none⟩)) w := by refine Eq.trans ?_ rfl; kernel_rfl
@[simp] theorem fact137 (b i : Nat) (w : World) (K : KV) : faT P T.api_Span (.pointer (some ⟨b, i, none⟩)) 1 w K = K (.pointer (some ⟨b, i + 1, none⟩)) w := by refine Eq.trans ?_ rfl; kernel_rfl
theorem mt.map_uint64_bool : MapTy P T.map_uint64_bool .u64 T.bool (.bool false) := MapTy.mk' (key := T.uint64) (by kernel_rfl) (by kernel_rfl) (by kernel_rfl)
@[simp] theorem fact139 (b i : Nat) (p : Option Addr) (l c : Nat) (w : World) (K : KV) : stT P T.sl_uint64 (.pointer (some ⟨b, i, none⟩)) (.slice p l c) w K = st1 P b i (.slice p l c) w K := by refine Eq.trans ?_ rfl; kernel_rfl
@[simp] theorem fact140 (b i : Nat) (w : World) (K : KV) : faT P T.api_Span (.pointer (some ⟨b, i, none⟩)) 3 w K = K (.pointer (some ⟨b, i + 3, none⟩)) w := by refine Eq.trans ?_ rfl; kernel_rfl
@[simp] theorem fact141 (b i : Nat) (w : World) (K : KV) : faT P T.api_Span (.pointer (some ⟨b, i, none⟩)) 4 w K = K (.pointer (some ⟨b, i + 4, none⟩)) w := by refine Eq.trans ?_ rfl; kernel_rfl
@[simp] theorem fact142 (b i : Nat) (w : World) (K : KV) : faT P T.api_Span (.pointer (some ⟨b, i, none⟩)) 5 w K = K (.pointer (some ⟨b, i + 5, none⟩)) w := by refine Eq.trans ?_ rfl; kernel_rfl
@[simp] theorem fact143 (b i : Nat) (w : World) (K : KV) : ldT P T.string (.pointer (some ⟨b, i, none⟩)) w K = ld1 P b i w K := by refine Eq.trans ?_ rfl; kernel_rfl
@[simp] theorem fact144 (b i : Nat) (w : World) (K : KV) : faT P T.api_Span (.pointer (some ⟨b, i, none⟩)) 6 w K = K (.pointer (some ⟨b, i + 6, none⟩)) w := by refine Eq.trans ?_ rfl; kernel_rfl
@[simp] theorem fact145 (b i : Nat) (x : Int) (w : World) (K : KV) : stT P T.uint64 (.pointer (some ⟨b, i, none⟩)) (.int .u64 x) w K = st1 P b i (.int .u64 x) w K := by refine Eq.trans ?_ rfl; kernel_rfl
@[simp] theorem fact146 (w : World) (K : KV) : alT P T.slices_xorshift w K = K (.pointer (some ⟨w.heap.size, 0, none⟩)) (w.alloc (.cells #[(.int .u64 0)] T.slices_xorshift)) := by refine Eq.trans ?_ rfl; kernel_rfl
@[simp] theorem fact147 (b i : Nat) (x : Int) (w : World) (K : KV) : stT P T.slices_xorshift (.pointer (some ⟨b, i, none⟩)) (.int .u64 x) w K = st1 P b i (.int .u64 x) w K := by refine Eq.trans ?_ rfl; kernel_rfl
@[simp] theorem fact148 (w : World) (K : KV) : alT P T.int w K = K (.pointer (some ⟨w.heap.size, 0, none⟩)) (w.alloc (.cells #[(.int .i64 0)] T.int)) := by refine Eq.trans ?_ rfl; kernel_rfl
@[simp] theorem fact149 (b i : Nat) (w : World) (K : KV) : ldT P T.slices_xorshift (.pointer (some ⟨b, i, none⟩)) w K = ld1 P b i w K := by refine Eq.trans ?_ rfl; kernel_rfl
end Go.Proofs.Ytbcamfheaonbaaa
