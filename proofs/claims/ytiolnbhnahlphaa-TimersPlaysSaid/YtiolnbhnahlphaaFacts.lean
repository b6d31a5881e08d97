/-
  Printed by wip/Shallow.lean: what the operations come to at this seat's types. No condition.
-/
import Derived.Test.YtiolnbhnahlphaaN
import Derived.Test.YtiolnbhnahlphaaEngSimp
set_option maxRecDepth 1000000
namespace Go.Proofs.Ytiolnbhnahlphaa
open Go.Eng

@[simp] theorem fact0 : isSlB P T.sl_winnowref15_Due = true := by refine Eq.trans ?_ rfl; kernel_rfl
@[simp] theorem fact1 : szE P T.sl_winnowref15_Due = 2 := by refine Eq.trans ?_ rfl; kernel_rfl
theorem et.sl_winnowref15_Due : ElemTy P T.sl_winnowref15_Due T.winnowref15_Due 2 16 := ElemTy.mk' (by kernel_rfl) (by kernel_rfl) (by kernel_rfl)
@[simp] theorem fact3  (w : World) (K : KV) : bldT P T.timers_Heap #[] w K = K (.agg #[(.slice none 0 0), (.map none)]) w := by refine Eq.trans ?_ rfl; kernel_rfl
@[simp] theorem fact4 (b i : Nat) (w : World) (K : KV) : faT P T.winnowref15_Due (.pointer (some ⟨b, i, none⟩)) 0 w K = K (.pointer (some ⟨b, i, none⟩)) w := by refine Eq.trans ?_ rfl; kernel_rfl
@[simp] theorem fact5 (b i : Nat) (w : World) (K : KV) : ldT P T.uint64 (.pointer (some ⟨b, i, none⟩)) w K = ld1 P b i w K := by refine Eq.trans ?_ rfl; kernel_rfl
@[simp] theorem fact6 (b i : Nat) (w : World) (K : KV) : faT P T.winnowref15_Due (.pointer (some ⟨b, i, none⟩)) 1 w K = K (.pointer (some ⟨b, i + 1, none⟩)) w := by refine Eq.trans ?_ rfl; kernel_rfl
@[simp] theorem fact7 (b i : Nat) (w : World) (K : KV) : ldT P T.winnowref15_Due (.pointer (some ⟨b, i, none⟩)) w K = ldN P 2 b i w K := by refine Eq.trans ?_ rfl; kernel_rfl
@[simp] theorem fact8 (c0_0 c0_1 : Value) (w : World) (K : KV) : bsT P T.sl_winnowref15_Due 1 #[(0, (.agg #[c0_0, c0_1]))] w K = K (.slice (some ⟨w.heap.size, 0, none⟩) 1 1) (w.alloc (.cells #[c0_0, c0_1] T.winnowref15_Due)) := by refine Eq.trans ?_ rfl; kernel_rfl
@[simp] theorem fact9  (w : World) (K : KV) : bldT P T.winnowref15_Due #[] w K = K (.agg #[(.int .u64 0), (.int .u64 0)]) w := by refine Eq.trans ?_ rfl; kernel_rfl
@[simp] theorem fact10 (w : World) (K : KV) : alT P T.winnowref15_Due w K = K (.pointer (some ⟨w.heap.size, 0, none⟩)) (w.alloc (.cells #[(.int .u64 0), (.int .u64 0)] T.winnowref15_Due)) := by refine Eq.trans ?_ rfl; kernel_rfl
@[simp] theorem fact11 (b i : Nat) (c_0 c_1 : Value) (w : World) (K : KV) : stT P T.winnowref15_Due (.pointer (some ⟨b, i, none⟩)) (.agg #[c_0, c_1]) w K = stN P b i [c_0, c_1] w K := by refine Eq.trans ?_ rfl; kernel_rfl
@[simp] theorem fact12 (x0 : Int) (x1 : Int) (w : World) (K : KV) : bldT P T.winnowref15_Due #[(0, (.int .u64 x0)), (1, (.int .u64 x1))] w K = K (.agg #[(.int .u64 x0), (.int .u64 x1)]) w := by refine Eq.trans ?_ rfl; kernel_rfl
@[simp] theorem fact13 : isSlB P T.sl_uint64 = true := by refine Eq.trans ?_ rfl; kernel_rfl
@[simp] theorem fact14 : szE P T.sl_uint64 = 1 := by refine Eq.trans ?_ rfl; kernel_rfl
theorem et.sl_uint64 : ElemTy P T.sl_uint64 T.uint64 1 8 := ElemTy.mk' (by kernel_rfl) (by kernel_rfl) (by kernel_rfl)
@[simp] theorem fact16 : isSlB P T.sl_winnowlaw15_Op = true := by refine Eq.trans ?_ rfl; kernel_rfl
@[simp] theorem fact17 : szE P T.sl_winnowlaw15_Op = 3 := by refine Eq.trans ?_ rfl; kernel_rfl
theorem et.sl_winnowlaw15_Op : ElemTy P T.sl_winnowlaw15_Op T.winnowlaw15_Op 3 24 := ElemTy.mk' (by kernel_rfl) (by kernel_rfl) (by kernel_rfl)
@[simp] theorem fact19 (b i : Nat) (w : World) (K : KV) : ldT P T.winnowlaw15_Op (.pointer (some ⟨b, i, none⟩)) w K = ldN P 3 b i w K := by refine Eq.trans ?_ rfl; kernel_rfl
@[simp] theorem fact20 (w : World) (K : KV) : alT P T.winnowlaw15_Op w K = K (.pointer (some ⟨w.heap.size, 0, none⟩)) (w.alloc (.cells #[(.int .i64 0), (.int .u64 0), (.int .u64 0)] T.winnowlaw15_Op)) := by refine Eq.trans ?_ rfl; kernel_rfl
@[simp] theorem fact21 (b i : Nat) (c_0 c_1 c_2 : Value) (w : World) (K : KV) : stT P T.winnowlaw15_Op (.pointer (some ⟨b, i, none⟩)) (.agg #[c_0, c_1, c_2]) w K = stN P b i [c_0, c_1, c_2] w K := by refine Eq.trans ?_ rfl; kernel_rfl
@[simp] theorem fact22 (b i : Nat) (w : World) (K : KV) : faT P T.winnowlaw15_Op (.pointer (some ⟨b, i, none⟩)) 0 w K = K (.pointer (some ⟨b, i, none⟩)) w := by refine Eq.trans ?_ rfl; kernel_rfl
@[simp] theorem fact23 (b i : Nat) (w : World) (K : KV) : ldT P T.int (.pointer (some ⟨b, i, none⟩)) w K = ld1 P b i w K := by refine Eq.trans ?_ rfl; kernel_rfl
@[simp] theorem fact24 (b i : Nat) (w : World) (K : KV) : faT P T.winnowlaw15_Op (.pointer (some ⟨b, i, none⟩)) 1 w K = K (.pointer (some ⟨b, i + 1, none⟩)) w := by refine Eq.trans ?_ rfl; kernel_rfl
@[simp] theorem fact25 (b i : Nat) (w : World) (K : KV) : faT P T.winnowlaw15_Op (.pointer (some ⟨b, i, none⟩)) 2 w K = K (.pointer (some ⟨b, i + 2, none⟩)) w := by refine Eq.trans ?_ rfl; kernel_rfl
@[simp] theorem fact26 (rx ry : Operand)  (w : World) (K : KV) : binT P .eql T.p_timers_Heap rx ry (.pointer none) (.pointer none) w K = K (.bool true) w := by refine Eq.trans ?_ rfl; kernel_rfl
@[simp] theorem fact27 (rx ry : Operand) (a : Addr) (w : World) (K : KV) : binT P .eql T.p_timers_Heap rx ry (.pointer (some a)) (.pointer none) w K = K (.bool false) w := by refine Eq.trans ?_ rfl; kernel_rfl
@[simp] theorem fact28 (rx ry : Operand) (a : Addr) (w : World) (K : KV) : binT P .eql T.p_timers_Heap rx ry (.pointer none) (.pointer (some a)) w K = K (.bool false) w := by refine Eq.trans ?_ rfl; kernel_rfl
@[simp] theorem fact29 (b i : Nat) (w : World) (K : KV) : faT P T.timers_Heap (.pointer (some ⟨b, i, none⟩)) 1 w K = K (.pointer (some ⟨b, i + 1, none⟩)) w := by refine Eq.trans ?_ rfl; kernel_rfl
@[simp] theorem fact30 (b i : Nat) (w : World) (K : KV) : ldT P T.map_uint64_p_timers_item (.pointer (some ⟨b, i, none⟩)) w K = ld1 P b i w K := by refine Eq.trans ?_ rfl; kernel_rfl
@[simp] theorem fact31 (rx ry : Operand)  (w : World) (K : KV) : binT P .eql T.map_uint64_p_timers_item rx ry (.map none) (.map none) w K = K (.bool true) w := by refine Eq.trans ?_ rfl; kernel_rfl
@[simp] theorem fact32 (rx ry : Operand) (r : Nat) (w : World) (K : KV) : binT P .eql T.map_uint64_p_timers_item rx ry (.map (some r)) (.map none) w K = K (.bool false) w := by refine Eq.trans ?_ rfl; kernel_rfl
@[simp] theorem fact33 (b i : Nat) (r : Option Nat) (w : World) (K : KV) : stT P T.map_uint64_p_timers_item (.pointer (some ⟨b, i, none⟩)) (.map r) w K = st1 P b i (.map r) w K := by refine Eq.trans ?_ rfl; kernel_rfl
theorem mt.map_uint64_p_timers_item : MapTy P T.map_uint64_p_timers_item .u64 T.p_timers_item (.pointer none) := MapTy.mk' (key := T.uint64) (by kernel_rfl) (by kernel_rfl) (by kernel_rfl)
@[simp] theorem fact35 (b i : Nat) (w : World) (K : KV) : faT P T.timers_item (.pointer (some ⟨b, i, none⟩)) 1 w K = K (.pointer (some ⟨b, i + 1, none⟩)) w := by refine Eq.trans ?_ rfl; kernel_rfl
@[simp] theorem fact36 (b i : Nat) (x : Int) (w : World) (K : KV) : stT P T.uint64 (.pointer (some ⟨b, i, none⟩)) (.int .u64 x) w K = st1 P b i (.int .u64 x) w K := by refine Eq.trans ?_ rfl; kernel_rfl
@[simp] theorem fact37 (b i : Nat) (w : World) (K : KV) : faT P T.timers_Heap (.pointer (some ⟨b, i, none⟩)) 0 w K = K (.pointer (some ⟨b, i, none⟩)) w := by refine Eq.trans ?_ rfl; kernel_rfl
@[simp] theorem fact38 (v : Value) (w : World) (K : KV) : mkiT P T.p_timers_line v w K = K (.iface T.p_timers_line v) w := by refine Eq.trans ?_ rfl; kernel_rfl
@[simp] theorem fact39 : mthB P T.p_timers_line "Len" F.timers_line_Len false = true := by refine Eq.trans ?_ rfl; kernel_rfl
@[simp] theorem fact40 : mthB P T.p_timers_line "Less" F.timers_line_Less false = true := by refine Eq.trans ?_ rfl; kernel_rfl
@[simp] theorem fact41 : mthB P T.p_timers_line "Pop" F.ptimers_line_Pop true = true := by refine Eq.trans ?_ rfl; kernel_rfl
@[simp] theorem fact42 : mthB P T.p_timers_line "Push" F.ptimers_line_Push true = true := by refine Eq.trans ?_ rfl; kernel_rfl
@[simp] theorem fact43 : mthB P T.p_timers_line "Swap" F.timers_line_Swap false = true := by refine Eq.trans ?_ rfl; kernel_rfl
@[simp] theorem fact44 (b i : Nat) (w : World) (K : KV) : faT P T.timers_item (.pointer (some ⟨b, i, none⟩)) 2 w K = K (.pointer (some ⟨b, i + 2, none⟩)) w := by refine Eq.trans ?_ rfl; kernel_rfl
@[simp] theorem fact45 (x0 : Int) (x1 : Int) (w : World) (K : KV) : bldT P T.timers_item #[(0, (.int .u64 x0)), (1, (.int .u64 x1))] w K = K (.agg #[(.int .u64 x0), (.int .u64 x1), (.int .i64 0)]) w := by refine Eq.trans ?_ rfl; kernel_rfl
@[simp] theorem fact46 (v : Value) (w : World) (K : KV) : mkiT P T.p_timers_item v w K = K (.iface T.p_timers_item v) w := by refine Eq.trans ?_ rfl; kernel_rfl
@[simp] theorem fact47  (w : World) (K : KV) : bsT P T.sl_winnowref15_Due 0 #[] w K = K (.slice (some ⟨w.heap.size, 0, none⟩) 0 0) (w.alloc (.cells #[] T.winnowref15_Due)) := by refine Eq.trans ?_ rfl; kernel_rfl
@[simp] theorem fact48 (b i : Nat) (w : World) (K : KV) : ldT P T.timers_line (.pointer (some ⟨b, i, none⟩)) w K = ld1 P b i w K := by refine Eq.trans ?_ rfl; kernel_rfl
@[simp] theorem fact49 : isSlB P T.timers_line = true := by refine Eq.trans ?_ rfl; kernel_rfl
@[simp] theorem fact50 : szE P T.timers_line = 1 := by refine Eq.trans ?_ rfl; kernel_rfl
theorem et.timers_line : ElemTy P T.timers_line T.p_timers_item 1 8 := ElemTy.mk' (by kernel_rfl) (by kernel_rfl) (by kernel_rfl)
@[simp] theorem fact52 (b i : Nat) (w : World) (K : KV) : ldT P T.p_timers_item (.pointer (some ⟨b, i, none⟩)) w K = ld1 P b i w K := by refine Eq.trans ?_ rfl; kernel_rfl
@[simp] theorem fact53 (b i : Nat) (w : World) (K : KV) : faT P T.timers_item (.pointer (some ⟨b, i, none⟩)) 0 w K = K (.pointer (some ⟨b, i, none⟩)) w := by refine Eq.trans ?_ rfl; kernel_rfl
@[simp] theorem fact54 (rx ry : Operand)  (w : World) (K : KV) : binT P .eql T.p_timers_item rx ry (.pointer none) (.pointer none) w K = K (.bool true) w := by refine Eq.trans ?_ rfl; kernel_rfl
@[simp] theorem fact55 (rx ry : Operand) (a : Addr) (w : World) (K : KV) : binT P .eql T.p_timers_item rx ry (.pointer (some a)) (.pointer none) w K = K (.bool false) w := by refine Eq.trans ?_ rfl; kernel_rfl
@[simp] theorem fact56 (rx ry : Operand) (a : Addr) (w : World) (K : KV) : binT P .eql T.p_timers_item rx ry (.pointer none) (.pointer (some a)) w K = K (.bool false) w := by refine Eq.trans ?_ rfl; kernel_rfl
@[simp] theorem fact57 (x0 : Int) (w : World) (K : KV) : bsT P T.sl_uint64 1 #[(0, (.int .u64 x0))] w K = K (.slice (some ⟨w.heap.size, 0, none⟩) 1 1) (w.alloc (.cells #[(.int .u64 x0)] T.uint64)) := by refine Eq.trans ?_ rfl; kernel_rfl
@[simp] theorem fact58 (b i : Nat) (p : Option Addr) (w : World) (K : KV) : stT P T.p_timers_item (.pointer (some ⟨b, i, none⟩)) (.pointer p) w K = st1 P b i (.pointer p) w K := by refine Eq.trans ?_ rfl; kernel_rfl
@[simp] theorem fact59 (b i : Nat) (x : Int) (w : World) (K : KV) : stT P T.int (.pointer (some ⟨b, i, none⟩)) (.int .i64 x) w K = st1 P b i (.int .i64 x) w K := by refine Eq.trans ?_ rfl; kernel_rfl
@[simp] theorem fact60 (b i : Nat) (p : Option Addr) (l c : Nat) (w : World) (K : KV) : stT P T.timers_line (.pointer (some ⟨b, i, none⟩)) (.slice p l c) w K = st1 P b i (.slice p l c) w K := by refine Eq.trans ?_ rfl; kernel_rfl
@[simp] theorem fact61 (v : Value) (w : World) (K : KV) : taT P (.iface T.p_timers_item v) T.any T.p_timers_item false w K = K v w := by refine Eq.trans ?_ rfl; kernel_rfl
@[simp] theorem fact62 (p0 : Option Addr) (w : World) (K : KV) : bsT P T.timers_line 1 #[(0, (.pointer p0))] w K = K (.slice (some ⟨w.heap.size, 0, none⟩) 1 1) (w.alloc (.cells #[(.pointer p0)] T.p_timers_item)) := by refine Eq.trans ?_ rfl; kernel_rfl
end Go.Proofs.Ytiolnbhnahlphaa
