/-
  Printed by wip/Shallow.lean: what the operations come to at this seat's types. No condition.
-/
import Derived.Test.YtfnhoaemapheoaaGreatN
import Derived.Test.YtfnhoaemapheoaaGreatZEng
set_option maxRecDepth 1000000
namespace Go.Proofs.YtfnhoaemapheoaaGreat
open Go.Eng
@[simp] theorem bve (b i : Nat) (w : World) (K : KV) : ldT P T.ac (.pointer (some ⟨b, i, none⟩)) w K = ld1 P b i w K := .trans (by kernel_rfl) rfl
@[simp] theorem bwc : nc P T.ac = true := .trans (by kernel_rfl) rfl
@[simp] theorem bvq : szE P T.ac = 1 := .trans (by kernel_rfl) rfl
theorem et.ac : mn P T.ac T.b 1 8 := mn.mk' (by kernel_rfl) (by kernel_rfl) (by kernel_rfl)
@[simp] theorem bvk (b i : Nat) (w : World) (K : KV) : ldT P T.g (.pointer (some ⟨b, i, none⟩)) w K = ld1 P b i w K := .trans (by kernel_rfl) rfl
@[simp] theorem bvz (b i : Nat) (w : World) (K : KV) : ldT P T.o (.pointer (some ⟨b, i, none⟩)) w K = ld1 P b i w K := .trans (by kernel_rfl) rfl
@[simp] theorem bvo (x0 : Int) (x1 : Int) (w : World) (K : KV) : jp P T.d #[(0, (.int .u64 x0)), (1, (.int .u64 x1))] w K = K (.agg #[(.int .u64 x0), (.int .u64 x1)]) w := .trans (by kernel_rfl) rfl
@[simp] theorem bvh (w : World) (K : KV) : alT P T.d w K = K (.pointer (some ⟨w.heap.size, 0, none⟩)) (w.alloc (.cells #[(.int .u64 0), (.int .u64 0)] T.d)) := .trans (by kernel_rfl) rfl
@[simp] theorem bvc (b i : Nat) (c_0 c_1 : Value) (w : World) (K : KV) : stT P T.d (.pointer (some ⟨b, i, none⟩)) (.agg #[c_0, c_1]) w K = stN P b i [c_0, c_1] w K := .trans (by kernel_rfl) rfl
@[simp] theorem bwh  (w : World) (K : KV) : jp P T.d #[] w K = K (.agg #[(.int .u64 0), (.int .u64 0)]) w := .trans (by kernel_rfl) rfl
@[simp] theorem bwa (b i : Nat) (w : World) (K : KV) : ldT P T.b (.pointer (some ⟨b, i, none⟩)) w K = ld1 P b i w K := .trans (by kernel_rfl) rfl
@[simp] theorem bvt (b i : Nat) (w : World) (K : KV) : ldT P T.d (.pointer (some ⟨b, i, none⟩)) w K = ldN P 2 b i w K := .trans (by kernel_rfl) rfl
@[simp] theorem bvf (w : World) (K : KV) : alT P T.a w K = K (.pointer (some ⟨w.heap.size, 0, none⟩)) (w.alloc (.cells #[(.int .i64 0), (.int .u64 0), (.int .u64 0), (.int .u64 0), (.int .u64 0), (.int .u64 0), (.int .i64 0), (.bool false), (.slice none 0 0), (.slice none 0 0), (.slice none 0 0)] T.a)) := .trans (by kernel_rfl) rfl
@[simp] theorem bvu (b i : Nat) (c_0 c_1 c_2 c_3 c_4 c_5 c_6 c_7 c_8 c_9 c_10 : Value) (w : World) (K : KV) : stT P T.a (.pointer (some ⟨b, i, none⟩)) (.agg #[c_0, c_1, c_2, c_3, c_4, c_5, c_6, c_7, c_8, c_9, c_10]) w K = stN P b i [c_0, c_1, c_2, c_3, c_4, c_5, c_6, c_7, c_8, c_9, c_10] w K := .trans (by kernel_rfl) rfl
@[simp] theorem bvj (b i : Nat) (w : World) (K : KV) : faT P T.a (.pointer (some ⟨b, i, none⟩)) 5 w K = K (.pointer (some ⟨b, i + 7, none⟩)) w := .trans (by kernel_rfl) rfl
@[simp] theorem bvm (b i : Nat) (w : World) (K : KV) : ldT P T.ao (.pointer (some ⟨b, i, none⟩)) w K = ld1 P b i w K := .trans (by kernel_rfl) rfl
@[simp] theorem bvs (b i : Nat) (bo : Bool) (w : World) (K : KV) : stT P T.ao (.pointer (some ⟨b, i, none⟩)) (.bool bo) w K = st1 P b i (.bool bo) w K := .trans (by kernel_rfl) rfl
@[simp] theorem bvr (b i : Nat) (w : World) (K : KV) : faT P T.a (.pointer (some ⟨b, i, none⟩)) 4 w K = K (.pointer (some ⟨b, i + 6, none⟩)) w := .trans (by kernel_rfl) rfl
@[simp] theorem bvn (b i : Nat) (w : World) (K : KV) : faT P T.a (.pointer (some ⟨b, i, none⟩)) 3 w K = K (.pointer (some ⟨b, i + 4, none⟩)) w := .trans (by kernel_rfl) rfl
@[simp] theorem bvy (b i : Nat) (w : World) (K : KV) : ldT P T.al (.pointer (some ⟨b, i, none⟩)) w K = ld1 P b i w K := .trans (by kernel_rfl) rfl
@[simp] theorem bvd (x0 : Int) (x1 : Int) (c2_0 c2_1 : Value) (x3 : Int) (w : World) (K : KV) : jp P T.a #[(0, (.int .i64 x0)), (1, (.int .u64 x1)), (2, (.agg #[c2_0, c2_1])), (4, (.int .i64 x3))] w K = K (.agg #[(.int .i64 x0), (.int .u64 x1), c2_0, c2_1, (.int .u64 0), (.int .u64 0), (.int .i64 x3), (.bool false), (.slice none 0 0), (.slice none 0 0), (.slice none 0 0)]) w := .trans (by kernel_rfl) rfl
@[simp] theorem bvv (b i : Nat) (w : World) (K : KV) : ldT P T.a (.pointer (some ⟨b, i, none⟩)) w K = ldN P 11 b i w K := .trans (by kernel_rfl) rfl
@[simp] theorem bvi (b i : Nat) (w : World) (K : KV) : faT P T.a (.pointer (some ⟨b, i, none⟩)) 2 w K = K (.pointer (some ⟨b, i + 2, none⟩)) w := .trans (by kernel_rfl) rfl
@[simp] theorem bwg  (w : World) (K : KV) : jp P T.a #[] w K = K (.agg #[(.int .i64 0), (.int .u64 0), (.int .u64 0), (.int .u64 0), (.int .u64 0), (.int .u64 0), (.int .i64 0), (.bool false), (.slice none 0 0), (.slice none 0 0), (.slice none 0 0)]) w := .trans (by kernel_rfl) rfl
@[simp] theorem bwj (b i : Nat) (w : World) (K : KV) : faT P T.a (.pointer (some ⟨b, i, none⟩)) 1 w K = K (.pointer (some ⟨b, i + 1, none⟩)) w := .trans (by kernel_rfl) rfl
@[simp] theorem bvg (b i : Nat) (w : World) (K : KV) : faT P T.a (.pointer (some ⟨b, i, none⟩)) 0 w K = K (.pointer (some ⟨b, i, none⟩)) w := .trans (by kernel_rfl) rfl
@[simp] theorem bvx (rx ry : Operand) (a : Addr) (w : World) (K : KV) : ga P .eql T.aw rx ry (.pointer (some a)) (.pointer none) w K = K (.bool false) w := .trans (by kernel_rfl) rfl
@[simp] theorem bwb : nc P T.c = true := .trans (by kernel_rfl) rfl
@[simp] theorem bvp : szE P T.c = 8 := .trans (by kernel_rfl) rfl
theorem et.c : mn P T.c T.e 8 80 := mn.mk' (by kernel_rfl) (by kernel_rfl) (by kernel_rfl)
@[simp] theorem bwd (b i : Nat) (w : World) (K : KV) : faT P T.a (.pointer (some ⟨b, i, none⟩)) 6 w K = K (.pointer (some ⟨b, i + 8, none⟩)) w := .trans (by kernel_rfl) rfl
@[simp] theorem bwi (b i : Nat) (w : World) (K : KV) : ldT P T.c (.pointer (some ⟨b, i, none⟩)) w K = ld1 P b i w K := .trans (by kernel_rfl) rfl
@[simp] theorem bvb (b i : Nat) (w : World) (K : KV) : ldT P T.e (.pointer (some ⟨b, i, none⟩)) w K = ldN P 8 b i w K := .trans (by kernel_rfl) rfl
@[simp] theorem bwe : nc P T.k = true := .trans (by kernel_rfl) rfl
@[simp] theorem bvw : szE P T.k = 1 := .trans (by kernel_rfl) rfl
theorem et.k : mn P T.k T.g 1 8 := mn.mk' (by kernel_rfl) (by kernel_rfl) (by kernel_rfl)
@[simp] theorem bpt (x0 : Int) (r1 : Option Nat) (w : World) (K : KV) : jp P T.ae #[(0, (.int .i64 x0)), (1, (.map r1))] w K = K (.agg #[(.int .i64 x0), (.map r1), (.int .i64 0), (.bool false), (.bool false)]) w := .trans (by kernel_rfl) rfl
@[simp] theorem bun : nc P T.j = true := .trans (by kernel_rfl) rfl
@[simp] theorem bov : szE P T.j = 1 := .trans (by kernel_rfl) rfl
theorem et.j : mn P T.j T.f 1 24 := mn.mk' (by kernel_rfl) (by kernel_rfl) (by kernel_rfl)
@[simp] theorem bpq (b i : Nat) (w : World) (K : KV) : ldT P T.f (.pointer (some ⟨b, i, none⟩)) w K = ld1 P b i w K := .trans (by kernel_rfl) rfl
@[simp] theorem bnx (b i : Nat) (w : World) (K : KV) : faT P T.d (.pointer (some ⟨b, i, none⟩)) 0 w K = K (.pointer (some ⟨b, i, none⟩)) w := .trans (by kernel_rfl) rfl
@[simp] theorem bts (b i : Nat) (w : World) (K : KV) : faT P T.d (.pointer (some ⟨b, i, none⟩)) 1 w K = K (.pointer (some ⟨b, i + 1, none⟩)) w := .trans (by kernel_rfl) rfl
@[simp] theorem bqb (rx ry : Operand) (a : Addr) (w : World) (K : KV) : ga P .eql T.al rx ry (.pointer (some a)) (.pointer none) w K = K (.bool false) w := .trans (by kernel_rfl) rfl
@[simp] theorem bnk (b i : Nat) (w : World) (K : KV) : faT P T.ae (.pointer (some ⟨b, i, none⟩)) 1 w K = K (.pointer (some ⟨b, i + 1, none⟩)) w := .trans (by kernel_rfl) rfl
@[simp] theorem btl (b i : Nat) (w : World) (K : KV) : ldT P T.n (.pointer (some ⟨b, i, none⟩)) w K = ld1 P b i w K := .trans (by kernel_rfl) rfl
theorem mt.n : tw P T.n .i64 T.bd (.pointer none) := tw.mk' (key := T.b) (by kernel_rfl) (by kernel_rfl) (by kernel_rfl)
@[simp] theorem btq (b i : Nat) (w : World) (K : KV) : faT P T.af (.pointer (some ⟨b, i, none⟩)) 1 w K = K (.pointer (some ⟨b, i + 1, none⟩)) w := .trans (by kernel_rfl) rfl
@[simp] theorem bou : nc P T.f = true := .trans (by kernel_rfl) rfl
@[simp] theorem brv : szE P T.f = 1 := .trans (by kernel_rfl) rfl
theorem et.f : mn P T.f T.ak 1 1 := mn.mk' (by kernel_rfl) (by kernel_rfl) (by kernel_rfl)
@[simp] theorem bsi (b i : Nat) (w : World) (K : KV) : faT P T.af (.pointer (some ⟨b, i, none⟩)) 0 w K = K (.pointer (some ⟨b, i, none⟩)) w := .trans (by kernel_rfl) rfl
@[simp] theorem bst (p0 : Option Addr) (l0 c0 : Nat) (p1 : Option Addr) (l1 c1 : Nat) (w : World) (K : KV) : bsT P T.j 2 #[(0, (.slice p0 l0 c0)), (1, (.slice p1 l1 c1))] w K = K (.slice (some ⟨w.heap.size, 0, none⟩) 2 2) (w.alloc (.cells #[(.slice p0 l0 c0), (.slice p1 l1 c1)] T.f)) := .trans (by kernel_rfl) rfl
@[simp] theorem bty (b i : Nat) (p : Option Addr) (l c : Nat) (w : World) (K : KV) : stT P T.f (.pointer (some ⟨b, i, none⟩)) (.slice p l c) w K = st1 P b i (.slice p l c) w K := .trans (by kernel_rfl) rfl
@[simp] theorem bno (b i : Nat) (w : World) (K : KV) : faT P T.ae (.pointer (some ⟨b, i, none⟩)) 3 w K = K (.pointer (some ⟨b, i + 3, none⟩)) w := .trans (by kernel_rfl) rfl
@[simp] theorem brz (b i : Nat) (w : World) (K : KV) : faT P T.ae (.pointer (some ⟨b, i, none⟩)) 4 w K = K (.pointer (some ⟨b, i + 4, none⟩)) w := .trans (by kernel_rfl) rfl
@[simp] theorem brt (v : Value) (w : World) (K : KV) : taT P (.iface T.w v) T.an T.w true w K = K (.tuple #[v, .bool true]) w := .trans (by kernel_rfl) rfl
@[simp] theorem boq (w : World) (K : KV) : alT P T.w w K = K (.pointer (some ⟨w.heap.size, 0, none⟩)) (w.alloc (.cells #[(.int .u64 0), (.int .u64 0), (.int .u64 0), (.int .i64 0)] T.w)) := .trans (by kernel_rfl) rfl
@[simp] theorem boz (b i : Nat) (c_0 c_1 c_2 c_3 : Value) (w : World) (K : KV) : stT P T.w (.pointer (some ⟨b, i, none⟩)) (.agg #[c_0, c_1, c_2, c_3]) w K = stN P b i [c_0, c_1, c_2, c_3] w K := .trans (by kernel_rfl) rfl
@[simp] theorem brw (b i : Nat) (w : World) (K : KV) : faT P T.w (.pointer (some ⟨b, i, none⟩)) 0 w K = K (.pointer (some ⟨b, i, none⟩)) w := .trans (by kernel_rfl) rfl
@[simp] theorem bti (b i : Nat) (w : World) (K : KV) : faT P T.w (.pointer (some ⟨b, i, none⟩)) 1 w K = K (.pointer (some ⟨b, i + 1, none⟩)) w := .trans (by kernel_rfl) rfl
@[simp] theorem brn (b i : Nat) (w : World) (K : KV) : faT P T.w (.pointer (some ⟨b, i, none⟩)) 2 w K = K (.pointer (some ⟨b, i + 3, none⟩)) w := .trans (by kernel_rfl) rfl
@[simp] theorem bqa (p0 : Option Addr) (l0 c0 : Nat) (w : World) (K : KV) : bsT P T.j 1 #[(0, (.slice p0 l0 c0))] w K = K (.slice (some ⟨w.heap.size, 0, none⟩) 1 1) (w.alloc (.cells #[(.slice p0 l0 c0)] T.f)) := .trans (by kernel_rfl) rfl
@[simp] theorem bqd (b i : Nat) (w : World) (K : KV) : faT P T.a (.pointer (some ⟨b, i, none⟩)) 7 w K = K (.pointer (some ⟨b, i + 9, none⟩)) w := .trans (by kernel_rfl) rfl
@[simp] theorem bsb (b i : Nat) (w : World) (K : KV) : ldT P T.i (.pointer (some ⟨b, i, none⟩)) w K = ld1 P b i w K := .trans (by kernel_rfl) rfl
@[simp] theorem boc : nc P T.i = true := .trans (by kernel_rfl) rfl
@[simp] theorem bom : szE P T.i = 3 := .trans (by kernel_rfl) rfl
theorem et.i : mn P T.i T.p 3 24 := mn.mk' (by kernel_rfl) (by kernel_rfl) (by kernel_rfl)
@[simp] theorem buh (b i : Nat) (w : World) (K : KV) : faT P T.a (.pointer (some ⟨b, i, none⟩)) 8 w K = K (.pointer (some ⟨b, i + 10, none⟩)) w := .trans (by kernel_rfl) rfl
@[simp] theorem btz (b i : Nat) (w : World) (K : KV) : ldT P T.k (.pointer (some ⟨b, i, none⟩)) w K = ld1 P b i w K := .trans (by kernel_rfl) rfl
@[simp] theorem brq (b i : Nat) (w : World) (K : KV) : ldT P T.p (.pointer (some ⟨b, i, none⟩)) w K = ldN P 3 b i w K := .trans (by kernel_rfl) rfl
@[simp] theorem bpi (b i : Nat) (w : World) (K : KV) : ldT P T.bb (.pointer (some ⟨b, i, none⟩)) w K = ld1 P b i w K := .trans (by kernel_rfl) rfl
@[simp] theorem bub (rx ry : Operand) (a : Addr) (w : World) (K : KV) : ga P .neq T.al rx ry (.pointer (some a)) (.pointer none) w K = K (.bool true) w := .trans (by kernel_rfl) rfl
@[simp] theorem bob (b i : Nat) (w : World) (K : KV) : faT P T.ae (.pointer (some ⟨b, i, none⟩)) 2 w K = K (.pointer (some ⟨b, i + 2, none⟩)) w := .trans (by kernel_rfl) rfl
@[simp] theorem bsu (b i : Nat) (x : Int) (w : World) (K : KV) : stT P T.b (.pointer (some ⟨b, i, none⟩)) (.int .i64 x) w K = st1 P b i (.int .i64 x) w K := .trans (by kernel_rfl) rfl
@[simp] theorem bsz (b i : Nat) (w : World) (K : KV) : faT P T.e (.pointer (some ⟨b, i, none⟩)) 6 w K = K (.pointer (some ⟨b, i + 6, none⟩)) w := .trans (by kernel_rfl) rfl
@[simp] theorem bqs (b i : Nat) (w : World) (K : KV) : ldT P T.ad (.pointer (some ⟨b, i, none⟩)) w K = ld1 P b i w K := .trans (by kernel_rfl) rfl
@[simp] theorem bpb (b i : Nat) (w : World) (K : KV) : faT P T.e (.pointer (some ⟨b, i, none⟩)) 5 w K = K (.pointer (some ⟨b, i + 5, none⟩)) w := .trans (by kernel_rfl) rfl
@[simp] theorem boy (x0 : Int) (x1 : Int) (s2 : ByteArray) (s3 : ByteArray) (w : World) (K : KV) : jp P T.e #[(0, (.int .u64 x0)), (1, (.int .u64 x1)), (5, (.string s2)), (6, (.string s3))] w K = K (.agg #[(.int .u64 x0), (.int .u64 x1), (.int .u64 0), (.int .u64 0), (.int .u64 0), (.string s2), (.string s3), (.bool false)]) w := .trans (by kernel_rfl) rfl
@[simp] theorem bur (c0_0 c0_1 c0_2 c0_3 c0_4 c0_5 c0_6 c0_7 : Value) (c1_0 c1_1 c1_2 c1_3 c1_4 c1_5 c1_6 c1_7 : Value) (w : World) (K : KV) : bsT P T.c 2 #[(0, (.agg #[c0_0, c0_1, c0_2, c0_3, c0_4, c0_5, c0_6, c0_7])), (1, (.agg #[c1_0, c1_1, c1_2, c1_3, c1_4, c1_5, c1_6, c1_7]))] w K = K (.slice (some ⟨w.heap.size, 0, none⟩) 2 2) (w.alloc (.cells #[c0_0, c0_1, c0_2, c0_3, c0_4, c0_5, c0_6, c0_7, c1_0, c1_1, c1_2, c1_3, c1_4, c1_5, c1_6, c1_7] T.e)) := .trans (by kernel_rfl) rfl
@[simp] theorem buy (x0 : Int) (w : World) (K : KV) : jp P T.d #[(0, (.int .u64 x0))] w K = K (.agg #[(.int .u64 x0), (.int .u64 0)]) w := .trans (by kernel_rfl) rfl
@[simp] theorem bpe (x0 : Int) (x1 : Int) (c2_0 c2_1 : Value) (p3 : Option Addr) (l3 c3 : Nat) (w : World) (K : KV) : jp P T.a #[(0, (.int .i64 x0)), (1, (.int .u64 x1)), (2, (.agg #[c2_0, c2_1])), (6, (.slice p3 l3 c3))] w K = K (.agg #[(.int .i64 x0), (.int .u64 x1), c2_0, c2_1, (.int .u64 0), (.int .u64 0), (.int .i64 0), (.bool false), (.slice p3 l3 c3), (.slice none 0 0), (.slice none 0 0)]) w := .trans (by kernel_rfl) rfl
@[simp] theorem bpf (rx ry : Operand) (a : Addr) (w : World) (K : KV) : ga P .neq T.aw rx ry (.pointer (some a)) (.pointer none) w K = K (.bool true) w := .trans (by kernel_rfl) rfl
@[simp] theorem bss (b i : Nat) (w : World) (K : KV) : faT P T.e (.pointer (some ⟨b, i, none⟩)) 1 w K = K (.pointer (some ⟨b, i + 1, none⟩)) w := .trans (by kernel_rfl) rfl
@[simp] theorem brx (p0 : Option Addr) (p1 : Option Addr) (r2 : Option Nat) (w : World) (K : KV) : jp P T.aj #[(0, (.pointer p0)), (1, (.pointer p1)), (2, (.map r2))] w K = K (.agg #[(.pointer p0), (.pointer p1), (.map r2), (.bool false)]) w := .trans (by kernel_rfl) rfl
@[simp] theorem bpg (w : World) (K : KV) : alT P T.e w K = K (.pointer (some ⟨w.heap.size, 0, none⟩)) (w.alloc (.cells #[(.int .u64 0), (.int .u64 0), (.int .u64 0), (.int .u64 0), (.int .u64 0), (.string ⟨#[]⟩), (.string ⟨#[]⟩), (.bool false)] T.e)) := .trans (by kernel_rfl) rfl
@[simp] theorem bso (b i : Nat) (c_0 c_1 c_2 c_3 c_4 c_5 c_6 c_7 : Value) (w : World) (K : KV) : stT P T.e (.pointer (some ⟨b, i, none⟩)) (.agg #[c_0, c_1, c_2, c_3, c_4, c_5, c_6, c_7]) w K = stN P b i [c_0, c_1, c_2, c_3, c_4, c_5, c_6, c_7] w K := .trans (by kernel_rfl) rfl
@[simp] theorem bnu (v : Value) (w : World) (K : KV) : taT P (.iface T.h v) T.an T.h true w K = K (.tuple #[v, .bool true]) w := .trans (by kernel_rfl) rfl
@[simp] theorem bnq (w : World) (K : KV) : alT P T.h w K = K (.pointer (some ⟨w.heap.size, 0, none⟩)) (w.alloc (.cells #[(.int .u64 0), (.int .u64 0), (.int .u64 0), (.slice none 0 0)] T.h)) := .trans (by kernel_rfl) rfl
@[simp] theorem buk (b i : Nat) (c_0 c_1 c_2 c_3 : Value) (w : World) (K : KV) : stT P T.h (.pointer (some ⟨b, i, none⟩)) (.agg #[c_0, c_1, c_2, c_3]) w K = stN P b i [c_0, c_1, c_2, c_3] w K := .trans (by kernel_rfl) rfl
@[simp] theorem bqt (b i : Nat) (w : World) (K : KV) : faT P T.aj (.pointer (some ⟨b, i, none⟩)) 3 w K = K (.pointer (some ⟨b, i + 3, none⟩)) w := .trans (by kernel_rfl) rfl
@[simp] theorem bsn (b i : Nat) (w : World) (K : KV) : faT P T.aj (.pointer (some ⟨b, i, none⟩)) 0 w K = K (.pointer (some ⟨b, i, none⟩)) w := .trans (by kernel_rfl) rfl
@[simp] theorem bqu (b i : Nat) (w : World) (K : KV) : faT P T.h (.pointer (some ⟨b, i, none⟩)) 2 w K = K (.pointer (some ⟨b, i + 3, none⟩)) w := .trans (by kernel_rfl) rfl
@[simp] theorem brp (b i : Nat) (w : World) (K : KV) : faT P T.h (.pointer (some ⟨b, i, none⟩)) 1 w K = K (.pointer (some ⟨b, i + 1, none⟩)) w := .trans (by kernel_rfl) rfl
@[simp] theorem brl (b i : Nat) (w : World) (K : KV) : faT P T.h (.pointer (some ⟨b, i, none⟩)) 0 w K = K (.pointer (some ⟨b, i, none⟩)) w := .trans (by kernel_rfl) rfl
@[simp] theorem bsd (x0 : Int) (w : World) (K : KV) : jp P T.m #[(0, (.int .u64 x0))] w K = K (.agg #[(.int .u64 x0), (.slice none 0 0)]) w := .trans (by kernel_rfl) rfl
@[simp] theorem bui (w : World) (K : KV) : alT P T.m w K = K (.pointer (some ⟨w.heap.size, 0, none⟩)) (w.alloc (.cells #[(.int .u64 0), (.slice none 0 0)] T.m)) := .trans (by kernel_rfl) rfl
@[simp] theorem bph (b i : Nat) (c_0 c_1 : Value) (w : World) (K : KV) : stT P T.m (.pointer (some ⟨b, i, none⟩)) (.agg #[c_0, c_1]) w K = stN P b i [c_0, c_1] w K := .trans (by kernel_rfl) rfl
@[simp] theorem bqr (b i : Nat) (w : World) (K : KV) : faT P T.m (.pointer (some ⟨b, i, none⟩)) 1 w K = K (.pointer (some ⟨b, i + 1, none⟩)) w := .trans (by kernel_rfl) rfl
@[simp] theorem bor (x0 : Int) (w : World) (K : KV) : bsT P T.k 1 #[(0, (.int .u64 x0))] w K = K (.slice (some ⟨w.heap.size, 0, none⟩) 1 1) (w.alloc (.cells #[(.int .u64 x0)] T.g)) := .trans (by kernel_rfl) rfl
@[simp] theorem btk (b i : Nat) (p : Option Addr) (l c : Nat) (w : World) (K : KV) : stT P T.k (.pointer (some ⟨b, i, none⟩)) (.slice p l c) w K = st1 P b i (.slice p l c) w K := .trans (by kernel_rfl) rfl
@[simp] theorem btj (b i : Nat) (w : World) (K : KV) : ldT P T.m (.pointer (some ⟨b, i, none⟩)) w K = ldN P 2 b i w K := .trans (by kernel_rfl) rfl
@[simp] theorem btp (v : Value) (w : World) (K : KV) : uh P T.m v w K = K (.iface T.m v) w := .trans (by kernel_rfl) rfl
@[simp] theorem buj (b i : Nat) (w : World) (K : KV) : faT P T.aj (.pointer (some ⟨b, i, none⟩)) 2 w K = K (.pointer (some ⟨b, i + 2, none⟩)) w := .trans (by kernel_rfl) rfl
@[simp] theorem buv (b i : Nat) (w : World) (K : KV) : ldT P T.x (.pointer (some ⟨b, i, none⟩)) w K = ld1 P b i w K := .trans (by kernel_rfl) rfl
theorem mt.x : tw P T.x .u64 T.az (.pointer none) := tw.mk' (key := T.g) (by kernel_rfl) (by kernel_rfl) (by kernel_rfl)
@[simp] theorem bry (rx ry : Operand)  (w : World) (K : KV) : ga P .eql T.az rx ry (.pointer none) (.pointer none) w K = K (.bool true) w := .trans (by kernel_rfl) rfl
@[simp] theorem btb (rx ry : Operand) (a : Addr) (w : World) (K : KV) : ga P .eql T.az rx ry (.pointer (some a)) (.pointer none) w K = K (.bool false) w := .trans (by kernel_rfl) rfl
@[simp] theorem bpo (b i : Nat) (w : World) (K : KV) : faT P T.am (.pointer (some ⟨b, i, none⟩)) 0 w K = K (.pointer (some ⟨b, i, none⟩)) w := .trans (by kernel_rfl) rfl
@[simp] theorem btv (b i : Nat) (w : World) (K : KV) : ldT P T.r (.pointer (some ⟨b, i, none⟩)) w K = ld1 P b i w K := .trans (by kernel_rfl) rfl
@[simp] theorem brg  (w : World) (K : KV) : bsT P T.k 0 #[] w K = K (.slice (some ⟨w.heap.size, 0, none⟩) 0 0) (w.alloc (.cells #[] T.g)) := .trans (by kernel_rfl) rfl
@[simp] theorem bpx (x0 : Int) (x1 : Int) (p2 : Option Addr) (l2 c2 : Nat) (w : World) (K : KV) : jp P T.a #[(0, (.int .i64 x0)), (1, (.int .u64 x1)), (8, (.slice p2 l2 c2))] w K = K (.agg #[(.int .i64 x0), (.int .u64 x1), (.int .u64 0), (.int .u64 0), (.int .u64 0), (.int .u64 0), (.int .i64 0), (.bool false), (.slice none 0 0), (.slice none 0 0), (.slice p2 l2 c2)]) w := .trans (by kernel_rfl) rfl
@[simp] theorem bpj (b i : Nat) (w : World) (K : KV) : faT P T.am (.pointer (some ⟨b, i, none⟩)) 1 w K = K (.pointer (some ⟨b, i + 1, none⟩)) w := .trans (by kernel_rfl) rfl
@[simp] theorem bqo (p0 : Option Addr) (x1 : Int) (w : World) (K : KV) : jp P T.aa #[(0, (.pointer p0)), (1, (.int .i64 x1))] w K = K (.agg #[(.pointer p0), (.int .i64 x1), (.slice none 0 0)]) w := .trans (by kernel_rfl) rfl
@[simp] theorem bqc (rx ry : Operand)  (w : World) (K : KV) : ga P .eql T.z rx ry (.pointer none) (.pointer none) w K = K (.bool true) w := .trans (by kernel_rfl) rfl
@[simp] theorem bul (rx ry : Operand) (a : Addr) (w : World) (K : KV) : ga P .eql T.z rx ry (.pointer (some a)) (.pointer none) w K = K (.bool false) w := .trans (by kernel_rfl) rfl
@[simp] theorem brm (b i : Nat) (w : World) (K : KV) : faT P T.aa (.pointer (some ⟨b, i, none⟩)) 2 w K = K (.pointer (some ⟨b, i + 2, none⟩)) w := .trans (by kernel_rfl) rfl
@[simp] theorem bue (b i : Nat) (w : World) (K : KV) : ldT P T.t (.pointer (some ⟨b, i, none⟩)) w K = ld1 P b i w K := .trans (by kernel_rfl) rfl
@[simp] theorem btg : nc P T.t = true := .trans (by kernel_rfl) rfl
@[simp] theorem boa : szE P T.t = 1 := .trans (by kernel_rfl) rfl
theorem et.t : mn P T.t T.z 1 8 := mn.mk' (by kernel_rfl) (by kernel_rfl) (by kernel_rfl)
@[simp] theorem bpl (b i : Nat) (w : World) (K : KV) : faT P T.ab (.pointer (some ⟨b, i, none⟩)) 1 w K = K (.pointer (some ⟨b, i + 1, none⟩)) w := .trans (by kernel_rfl) rfl
@[simp] theorem bqx (p0 : Option Addr) (w : World) (K : KV) : bsT P T.t 1 #[(0, (.pointer p0))] w K = K (.slice (some ⟨w.heap.size, 0, none⟩) 1 1) (w.alloc (.cells #[(.pointer p0)] T.z)) := .trans (by kernel_rfl) rfl
@[simp] theorem bpd (b i : Nat) (p : Option Addr) (l c : Nat) (w : World) (K : KV) : stT P T.t (.pointer (some ⟨b, i, none⟩)) (.slice p l c) w K = st1 P b i (.slice p l c) w K := .trans (by kernel_rfl) rfl
@[simp] theorem bqn (rx ry : Operand) (a : Addr) (w : World) (K : KV) : ga P .eql T.bb rx ry (.pointer (some a)) (.pointer none) w K = K (.bool false) w := .trans (by kernel_rfl) rfl
@[simp] theorem bqq (b i : Nat) (w : World) (K : KV) : ldT P T.z (.pointer (some ⟨b, i, none⟩)) w K = ld1 P b i w K := .trans (by kernel_rfl) rfl
@[simp] theorem bnr (b i : Nat) (w : World) (K : KV) : faT P T.ab (.pointer (some ⟨b, i, none⟩)) 2 w K = K (.pointer (some ⟨b, i + 2, none⟩)) w := .trans (by kernel_rfl) rfl
@[simp] theorem bnp (b i : Nat) (w : World) (K : KV) : ldT P T.j (.pointer (some ⟨b, i, none⟩)) w K = ld1 P b i w K := .trans (by kernel_rfl) rfl
@[simp] theorem bsg (b i : Nat) (x : Int) (w : World) (K : KV) : stT P T.g (.pointer (some ⟨b, i, none⟩)) (.int .u64 x) w K = st1 P b i (.int .u64 x) w K := .trans (by kernel_rfl) rfl
@[simp] theorem bsp (b i : Nat) (w : World) (K : KV) : ldT P T.ak (.pointer (some ⟨b, i, none⟩)) w K = ld1 P b i w K := .trans (by kernel_rfl) rfl
@[simp] theorem brs (b i : Nat) (w : World) (K : KV) : faT P T.aa (.pointer (some ⟨b, i, none⟩)) 0 w K = K (.pointer (some ⟨b, i, none⟩)) w := .trans (by kernel_rfl) rfl
@[simp] theorem bnm (b i : Nat) (w : World) (K : KV) : faT P T.ab (.pointer (some ⟨b, i, none⟩)) 0 w K = K (.pointer (some ⟨b, i, none⟩)) w := .trans (by kernel_rfl) rfl
@[simp] theorem boh (v : Value) (w : World) (K : KV) : uh P T.ad v w K = K (.iface T.ad v) w := .trans (by kernel_rfl) rfl
@[simp] theorem buq (x0 : Int) (w : World) (K : KV) : bsT P T.f 1 #[(0, (.int .u8 x0))] w K = K (.slice (some ⟨w.heap.size, 0, none⟩) 1 1) (w.alloc (.cells #[(.int .u8 x0)] T.ak)) := .trans (by kernel_rfl) rfl
@[simp] theorem bnl (b i : Nat) (x : Int) (w : World) (K : KV) : stT P T.o (.pointer (some ⟨b, i, none⟩)) (.int .i64 x) w K = st1 P b i (.int .i64 x) w K := .trans (by kernel_rfl) rfl
@[simp] theorem bsv (b i : Nat) (w : World) (K : KV) : faT P T.e (.pointer (some ⟨b, i, none⟩)) 0 w K = K (.pointer (some ⟨b, i, none⟩)) w := .trans (by kernel_rfl) rfl
@[simp] theorem buc (c0_0 c0_1 c0_2 c0_3 c0_4 c0_5 c0_6 c0_7 : Value) (w : World) (K : KV) : bsT P T.c 1 #[(0, (.agg #[c0_0, c0_1, c0_2, c0_3, c0_4, c0_5, c0_6, c0_7]))] w K = K (.slice (some ⟨w.heap.size, 0, none⟩) 1 1) (w.alloc (.cells #[c0_0, c0_1, c0_2, c0_3, c0_4, c0_5, c0_6, c0_7] T.e)) := .trans (by kernel_rfl) rfl
@[simp] theorem bqh (r0 : Option Nat) (w : World) (K : KV) : jp P T.am #[(0, (.map r0))] w K = K (.agg #[(.map r0), (.int .u64 0), (.int .u64 0)]) w := .trans (by kernel_rfl) rfl
theorem mt.r : tw P T.r .u64 T.e (.agg #[(.int .u64 0), (.int .u64 0), (.int .u64 0), (.int .u64 0), (.int .u64 0), (.string ⟨#[]⟩), (.string ⟨#[]⟩), (.bool false)]) := tw.mk' (key := T.g) (by kernel_rfl) (by kernel_rfl) (by kernel_rfl)
@[simp] theorem boj (c0_0 c0_1 : Value) (c1_0 c1_1 : Value) (w : World) (K : KV) : bsT P T.ax 2 #[(0, (.agg #[c0_0, c0_1])), (1, (.agg #[c1_0, c1_1]))] w K = K (.slice (some ⟨w.heap.size, 0, none⟩) 2 2) (w.alloc (.cells #[c0_0, c0_1, c1_0, c1_1] T.d)) := .trans (by kernel_rfl) rfl
@[simp] theorem bpn (rx ry : Operand) (l c : Nat) (w : World) (K : KV) : ga P .eql T.c rx ry (.slice none l c) (.slice none 0 0) w K = K (.bool true) w := .trans (by kernel_rfl) rfl
@[simp] theorem bsr (rx ry : Operand) (a : Addr) (l c : Nat) (w : World) (K : KV) : ga P .eql T.c rx ry (.slice (some a) l c) (.slice none 0 0) w K = K (.bool false) w := .trans (by kernel_rfl) rfl
@[simp] theorem bpa  (w : World) (K : KV) : bsT P T.c 0 #[] w K = K (.slice (some ⟨w.heap.size, 0, none⟩) 0 0) (w.alloc (.cells #[] T.e)) := .trans (by kernel_rfl) rfl
@[simp] theorem but (b i : Nat) (w : World) (K : KV) : faT P T.aj (.pointer (some ⟨b, i, none⟩)) 1 w K = K (.pointer (some ⟨b, i + 1, none⟩)) w := .trans (by kernel_rfl) rfl
@[simp] theorem bqz : nc P T.av = true := .trans (by kernel_rfl) rfl
@[simp] theorem bnv : szE P T.av = 1 := .trans (by kernel_rfl) rfl
@[simp] theorem bot (p0 : Option Addr) (l0 c0 : Nat) (p1 : Option Addr) (l1 c1 : Nat) (w : World) (K : KV) : bsT P T.av 2 #[(0, (.slice p0 l0 c0)), (1, (.slice p1 l1 c1))] w K = K (.slice (some ⟨w.heap.size, 0, none⟩) 2 2) (w.alloc (.cells #[(.slice p0 l0 c0), (.slice p1 l1 c1)] T.ac)) := .trans (by kernel_rfl) rfl
@[simp] theorem bnj (x0 : Int) (x1 : Int) (p2 : Option Addr) (l2 c2 : Nat) (x3 : Int) (w : World) (K : KV) : jp P T.ab #[(0, (.int .i64 x0)), (1, (.int .i64 x1)), (2, (.slice p2 l2 c2)), (3, (.int .i64 x3))] w K = K (.agg #[(.int .i64 x0), (.int .i64 x1), (.slice p2 l2 c2), (.int .i64 x3)]) w := .trans (by kernel_rfl) rfl
@[simp] theorem bsf (rx ry : Operand) (l c : Nat) (w : World) (K : KV) : ga P .eql T.f rx ry (.slice none l c) (.slice none 0 0) w K = K (.bool true) w := .trans (by kernel_rfl) rfl
@[simp] theorem bqg (rx ry : Operand) (a : Addr) (l c : Nat) (w : World) (K : KV) : ga P .eql T.f rx ry (.slice (some a) l c) (.slice none 0 0) w K = K (.bool false) w := .trans (by kernel_rfl) rfl
@[simp] theorem bow  (w : World) (K : KV) : bsT P T.f 0 #[] w K = K (.slice (some ⟨w.heap.size, 0, none⟩) 0 0) (w.alloc (.cells #[] T.ak)) := .trans (by kernel_rfl) rfl
@[simp] theorem bru (x0 : Int) (bo1 : Bool) (p2 : Option Addr) (l2 c2 : Nat) (w : World) (K : KV) : jp P T.q #[(0, (.int .u64 x0)), (1, (.bool bo1)), (2, (.slice p2 l2 c2))] w K = K (.agg #[(.int .u64 x0), (.bool bo1), (.slice p2 l2 c2)]) w := .trans (by kernel_rfl) rfl
@[simp] theorem brj (v : Value) (w : World) (K : KV) : uh P T.q v w K = K (.iface T.q v) w := .trans (by kernel_rfl) rfl
@[simp] theorem btu (p0 : Option Addr) (l0 c0 : Nat) (w : World) (K : KV) : jp P T.s #[(0, (.slice p0 l0 c0))] w K = K (.agg #[(.slice p0 l0 c0)]) w := .trans (by kernel_rfl) rfl
@[simp] theorem bsx (v : Value) (w : World) (K : KV) : uh P T.s v w K = K (.iface T.s v) w := .trans (by kernel_rfl) rfl
@[simp] theorem bud (x0 : Int) (c1_0 c1_1 : Value) (x2 : Int) (w : World) (K : KV) : jp P T.w #[(0, (.int .u64 x0)), (1, (.agg #[c1_0, c1_1])), (2, (.int .i64 x2))] w K = K (.agg #[(.int .u64 x0), c1_0, c1_1, (.int .i64 x2)]) w := .trans (by kernel_rfl) rfl
@[simp] theorem btd (v : Value) (w : World) (K : KV) : uh P T.w v w K = K (.iface T.w v) w := .trans (by kernel_rfl) rfl
@[simp] theorem brk (x0 : Int) (c1_0 c1_1 : Value) (bo2 : Bool) (c3_0 c3_1 : Value) (x4 : Int) (bo5 : Bool) (w : World) (K : KV) : jp P T.l #[(0, (.int .u64 x0)), (1, (.agg #[c1_0, c1_1])), (2, (.bool bo2)), (3, (.agg #[c3_0, c3_1])), (4, (.int .i64 x4)), (5, (.bool bo5))] w K = K (.agg #[(.int .u64 x0), c1_0, c1_1, (.bool bo2), c3_0, c3_1, (.int .i64 x4), (.bool bo5)]) w := .trans (by kernel_rfl) rfl
@[simp] theorem bsj (v : Value) (w : World) (K : KV) : uh P T.l v w K = K (.iface T.l v) w := .trans (by kernel_rfl) rfl
@[simp] theorem btc (x0 : Int) (x1 : Int) (w : World) (K : KV) : jp P T.y #[(0, (.int .u64 x0)), (1, (.int .i64 x1))] w K = K (.agg #[(.int .u64 x0), (.int .i64 x1)]) w := .trans (by kernel_rfl) rfl
@[simp] theorem bps (v : Value) (w : World) (K : KV) : uh P T.y v w K = K (.iface T.y v) w := .trans (by kernel_rfl) rfl
@[simp] theorem btm (x0 : Int) (c1_0 c1_1 : Value) (p2 : Option Addr) (l2 c2 : Nat) (w : World) (K : KV) : jp P T.h #[(0, (.int .u64 x0)), (1, (.agg #[c1_0, c1_1])), (2, (.slice p2 l2 c2))] w K = K (.agg #[(.int .u64 x0), c1_0, c1_1, (.slice p2 l2 c2)]) w := .trans (by kernel_rfl) rfl
@[simp] theorem bqj (v : Value) (w : World) (K : KV) : uh P T.h v w K = K (.iface T.h v) w := .trans (by kernel_rfl) rfl
@[simp] theorem bro (x0 : Int) (p1 : Option Addr) (l1 c1 : Nat) (w : World) (K : KV) : jp P T.m #[(0, (.int .u64 x0)), (1, (.slice p1 l1 c1))] w K = K (.agg #[(.int .u64 x0), (.slice p1 l1 c1)]) w := .trans (by kernel_rfl) rfl
@[simp] theorem brh (b i : Nat) (w : World) (K : KV) : faT P T.ab (.pointer (some ⟨b, i, none⟩)) 3 w K = K (.pointer (some ⟨b, i + 3, none⟩)) w := .trans (by kernel_rfl) rfl
@[simp] theorem bnt (b i : Nat) (w : World) (K : KV) : faT P T.aa (.pointer (some ⟨b, i, none⟩)) 1 w K = K (.pointer (some ⟨b, i + 1, none⟩)) w := .trans (by kernel_rfl) rfl
@[simp] theorem bol (b i : Nat) (p : Option Addr) (l c : Nat) (w : World) (K : KV) : stT P T.j (.pointer (some ⟨b, i, none⟩)) (.slice p l c) w K = st1 P b i (.slice p l c) w K := .trans (by kernel_rfl) rfl
@[simp] theorem bux (x0 : Int) (x1 : Int) (w : World) (K : KV) : jp P T.a #[(0, (.int .i64 x0)), (1, (.int .u64 x1))] w K = K (.agg #[(.int .i64 x0), (.int .u64 x1), (.int .u64 0), (.int .u64 0), (.int .u64 0), (.int .u64 0), (.int .i64 0), (.bool false), (.slice none 0 0), (.slice none 0 0), (.slice none 0 0)]) w := .trans (by kernel_rfl) rfl
@[simp] theorem bsa (b i : Nat) (p : Option Addr) (l c : Nat) (w : World) (K : KV) : stT P T.c (.pointer (some ⟨b, i, none⟩)) (.slice p l c) w K = st1 P b i (.slice p l c) w K := .trans (by kernel_rfl) rfl
@[simp] theorem bsk (b i : Nat) (p : Option Addr) (l c : Nat) (w : World) (K : KV) : stT P T.i (.pointer (some ⟨b, i, none⟩)) (.slice p l c) w K = st1 P b i (.slice p l c) w K := .trans (by kernel_rfl) rfl
@[simp] theorem bsl (w : World) (K : KV) : alT P T.p w K = K (.pointer (some ⟨w.heap.size, 0, none⟩)) (w.alloc (.cells #[(.int .u64 0), (.int .u64 0), (.int .i64 0)] T.p)) := .trans (by kernel_rfl) rfl
@[simp] theorem bqp (b i : Nat) (c_0 c_1 c_2 : Value) (w : World) (K : KV) : stT P T.p (.pointer (some ⟨b, i, none⟩)) (.agg #[c_0, c_1, c_2]) w K = stN P b i [c_0, c_1, c_2] w K := .trans (by kernel_rfl) rfl
@[simp] theorem bum (b i : Nat) (w : World) (K : KV) : faT P T.p (.pointer (some ⟨b, i, none⟩)) 0 w K = K (.pointer (some ⟨b, i, none⟩)) w := .trans (by kernel_rfl) rfl
@[simp] theorem bpy (b i : Nat) (w : World) (K : KV) : faT P T.p (.pointer (some ⟨b, i, none⟩)) 1 w K = K (.pointer (some ⟨b, i + 1, none⟩)) w := .trans (by kernel_rfl) rfl
@[simp] theorem bop (b i : Nat) (w : World) (K : KV) : faT P T.p (.pointer (some ⟨b, i, none⟩)) 2 w K = K (.pointer (some ⟨b, i + 2, none⟩)) w := .trans (by kernel_rfl) rfl
@[simp] theorem bpv (p0 : Option Addr) (l0 c0 : Nat) (w : World) (K : KV) : jp P T.ag #[(0, (.slice p0 l0 c0))] w K = K (.agg #[(.slice p0 l0 c0), (.int .i64 0)]) w := .trans (by kernel_rfl) rfl
@[simp] theorem bre (x0 : Int) (x1 : Int) (x2 : Int) (x3 : Int) (x4 : Int) (w : World) (K : KV) : jp P T.e #[(0, (.int .u64 x0)), (1, (.int .u64 x1)), (2, (.int .u64 x2)), (3, (.int .u64 x3)), (4, (.int .u64 x4))] w K = K (.agg #[(.int .u64 x0), (.int .u64 x1), (.int .u64 x2), (.int .u64 x3), (.int .u64 x4), (.string ⟨#[]⟩), (.string ⟨#[]⟩), (.bool false)]) w := .trans (by kernel_rfl) rfl
@[simp] theorem brf (b i : Nat) (w : World) (K : KV) : faT P T.e (.pointer (some ⟨b, i, none⟩)) 7 w K = K (.pointer (some ⟨b, i + 7, none⟩)) w := .trans (by kernel_rfl) rfl
@[simp] theorem btt (b i : Nat) (s : ByteArray) (w : World) (K : KV) : stT P T.ad (.pointer (some ⟨b, i, none⟩)) (.string s) w K = st1 P b i (.string s) w K := .trans (by kernel_rfl) rfl
@[simp] theorem boe (b i : Nat) (w : World) (K : KV) : faT P T.ag (.pointer (some ⟨b, i, none⟩)) 1 w K = K (.pointer (some ⟨b, i + 1, none⟩)) w := .trans (by kernel_rfl) rfl
@[simp] theorem bsw (b i : Nat) (w : World) (K : KV) : ldT P T.u (.pointer (some ⟨b, i, none⟩)) w K = ld1 P b i w K := .trans (by kernel_rfl) rfl
@[simp] theorem bpk (b i : Nat) (x : Int) (w : World) (K : KV) : stT P T.u (.pointer (some ⟨b, i, none⟩)) (.int .i64 x) w K = st1 P b i (.int .i64 x) w K := .trans (by kernel_rfl) rfl
@[simp] theorem bpp  (w : World) (K : KV) : jp P T.e #[] w K = K (.agg #[(.int .u64 0), (.int .u64 0), (.int .u64 0), (.int .u64 0), (.int .u64 0), (.string ⟨#[]⟩), (.string ⟨#[]⟩), (.bool false)]) w := .trans (by kernel_rfl) rfl
@[simp] theorem bsh (b i : Nat) (w : World) (K : KV) : faT P T.ag (.pointer (some ⟨b, i, none⟩)) 0 w K = K (.pointer (some ⟨b, i, none⟩)) w := .trans (by kernel_rfl) rfl
@[simp] theorem bsq (v : Value) (w : World) (K : KV) : taT P (.iface T.q v) T.an T.q true w K = K (.tuple #[v, .bool true]) w := .trans (by kernel_rfl) rfl
@[simp] theorem bog (w : World) (K : KV) : alT P T.q w K = K (.pointer (some ⟨w.heap.size, 0, none⟩)) (w.alloc (.cells #[(.int .u64 0), (.bool false), (.slice none 0 0)] T.q)) := .trans (by kernel_rfl) rfl
@[simp] theorem bto (b i : Nat) (c_0 c_1 c_2 : Value) (w : World) (K : KV) : stT P T.q (.pointer (some ⟨b, i, none⟩)) (.agg #[c_0, c_1, c_2]) w K = stN P b i [c_0, c_1, c_2] w K := .trans (by kernel_rfl) rfl
@[simp] theorem bql (b i : Nat) (w : World) (K : KV) : faT P T.q (.pointer (some ⟨b, i, none⟩)) 0 w K = K (.pointer (some ⟨b, i, none⟩)) w := .trans (by kernel_rfl) rfl
@[simp] theorem brd (b i : Nat) (w : World) (K : KV) : faT P T.q (.pointer (some ⟨b, i, none⟩)) 2 w K = K (.pointer (some ⟨b, i + 2, none⟩)) w := .trans (by kernel_rfl) rfl
@[simp] theorem bqw (x0 : Int) (x1 : Int) (p2 : Option Addr) (l2 c2 : Nat) (w : World) (K : KV) : jp P T.a #[(0, (.int .i64 x0)), (1, (.int .u64 x1)), (6, (.slice p2 l2 c2))] w K = K (.agg #[(.int .i64 x0), (.int .u64 x1), (.int .u64 0), (.int .u64 0), (.int .u64 0), (.int .u64 0), (.int .i64 0), (.bool false), (.slice p2 l2 c2), (.slice none 0 0), (.slice none 0 0)]) w := .trans (by kernel_rfl) rfl
@[simp] theorem bri (b i : Nat) (w : World) (K : KV) : faT P T.q (.pointer (some ⟨b, i, none⟩)) 1 w K = K (.pointer (some ⟨b, i + 1, none⟩)) w := .trans (by kernel_rfl) rfl
@[simp] theorem boi (v : Value) (w : World) (K : KV) : taT P (.iface T.s v) T.an T.s true w K = K (.tuple #[v, .bool true]) w := .trans (by kernel_rfl) rfl
@[simp] theorem btn (w : World) (K : KV) : alT P T.s w K = K (.pointer (some ⟨w.heap.size, 0, none⟩)) (w.alloc (.cells #[(.slice none 0 0)] T.s)) := .trans (by kernel_rfl) rfl
@[simp] theorem btf (b i : Nat) (c_0 : Value) (w : World) (K : KV) : stT P T.s (.pointer (some ⟨b, i, none⟩)) (.agg #[c_0]) w K = stN P b i [c_0] w K := .trans (by kernel_rfl) rfl
@[simp] theorem buo (b i : Nat) (w : World) (K : KV) : faT P T.s (.pointer (some ⟨b, i, none⟩)) 0 w K = K (.pointer (some ⟨b, i, none⟩)) w := .trans (by kernel_rfl) rfl
@[simp] theorem bnn (x0 : Int) (p1 : Option Addr) (l1 c1 : Nat) (w : World) (K : KV) : jp P T.a #[(0, (.int .i64 x0)), (7, (.slice p1 l1 c1))] w K = K (.agg #[(.int .i64 x0), (.int .u64 0), (.int .u64 0), (.int .u64 0), (.int .u64 0), (.int .u64 0), (.int .i64 0), (.bool false), (.slice none 0 0), (.slice p1 l1 c1), (.slice none 0 0)]) w := .trans (by kernel_rfl) rfl
@[simp] theorem bqe (v : Value) (w : World) (K : KV) : taT P (.iface T.l v) T.an T.l true w K = K (.tuple #[v, .bool true]) w := .trans (by kernel_rfl) rfl
@[simp] theorem buw (w : World) (K : KV) : alT P T.l w K = K (.pointer (some ⟨w.heap.size, 0, none⟩)) (w.alloc (.cells #[(.int .u64 0), (.int .u64 0), (.int .u64 0), (.bool false), (.int .u64 0), (.int .u64 0), (.int .i64 0), (.bool false)] T.l)) := .trans (by kernel_rfl) rfl
@[simp] theorem bqi (b i : Nat) (c_0 c_1 c_2 c_3 c_4 c_5 c_6 c_7 : Value) (w : World) (K : KV) : stT P T.l (.pointer (some ⟨b, i, none⟩)) (.agg #[c_0, c_1, c_2, c_3, c_4, c_5, c_6, c_7]) w K = stN P b i [c_0, c_1, c_2, c_3, c_4, c_5, c_6, c_7] w K := .trans (by kernel_rfl) rfl
@[simp] theorem boo (b i : Nat) (w : World) (K : KV) : faT P T.l (.pointer (some ⟨b, i, none⟩)) 0 w K = K (.pointer (some ⟨b, i, none⟩)) w := .trans (by kernel_rfl) rfl
@[simp] theorem bon (b i : Nat) (w : World) (K : KV) : faT P T.l (.pointer (some ⟨b, i, none⟩)) 1 w K = K (.pointer (some ⟨b, i + 1, none⟩)) w := .trans (by kernel_rfl) rfl
@[simp] theorem btr (b i : Nat) (w : World) (K : KV) : faT P T.l (.pointer (some ⟨b, i, none⟩)) 2 w K = K (.pointer (some ⟨b, i + 3, none⟩)) w := .trans (by kernel_rfl) rfl
@[simp] theorem bqk (b i : Nat) (w : World) (K : KV) : faT P T.l (.pointer (some ⟨b, i, none⟩)) 3 w K = K (.pointer (some ⟨b, i + 4, none⟩)) w := .trans (by kernel_rfl) rfl
@[simp] theorem brr (b i : Nat) (w : World) (K : KV) : faT P T.l (.pointer (some ⟨b, i, none⟩)) 4 w K = K (.pointer (some ⟨b, i + 6, none⟩)) w := .trans (by kernel_rfl) rfl
@[simp] theorem bpz (x0 : Int) (x1 : Int) (c2_0 c2_1 : Value) (bo3 : Bool) (c4_0 c4_1 : Value) (x5 : Int) (w : World) (K : KV) : jp P T.a #[(0, (.int .i64 x0)), (1, (.int .u64 x1)), (2, (.agg #[c2_0, c2_1])), (5, (.bool bo3)), (3, (.agg #[c4_0, c4_1])), (4, (.int .i64 x5))] w K = K (.agg #[(.int .i64 x0), (.int .u64 x1), c2_0, c2_1, c4_0, c4_1, (.int .i64 x5), (.bool bo3), (.slice none 0 0), (.slice none 0 0), (.slice none 0 0)]) w := .trans (by kernel_rfl) rfl
@[simp] theorem bns (b i : Nat) (w : World) (K : KV) : faT P T.l (.pointer (some ⟨b, i, none⟩)) 5 w K = K (.pointer (some ⟨b, i + 7, none⟩)) w := .trans (by kernel_rfl) rfl
@[simp] theorem buf (v : Value) (w : World) (K : KV) : taT P (.iface T.y v) T.an T.y true w K = K (.tuple #[v, .bool true]) w := .trans (by kernel_rfl) rfl
@[simp] theorem bta (w : World) (K : KV) : alT P T.y w K = K (.pointer (some ⟨w.heap.size, 0, none⟩)) (w.alloc (.cells #[(.int .u64 0), (.int .i64 0)] T.y)) := .trans (by kernel_rfl) rfl
@[simp] theorem bof (b i : Nat) (c_0 c_1 : Value) (w : World) (K : KV) : stT P T.y (.pointer (some ⟨b, i, none⟩)) (.agg #[c_0, c_1]) w K = stN P b i [c_0, c_1] w K := .trans (by kernel_rfl) rfl
@[simp] theorem bte (b i : Nat) (w : World) (K : KV) : faT P T.y (.pointer (some ⟨b, i, none⟩)) 0 w K = K (.pointer (some ⟨b, i, none⟩)) w := .trans (by kernel_rfl) rfl
@[simp] theorem bos (b i : Nat) (w : World) (K : KV) : faT P T.y (.pointer (some ⟨b, i, none⟩)) 1 w K = K (.pointer (some ⟨b, i + 1, none⟩)) w := .trans (by kernel_rfl) rfl
@[simp] theorem bra (x0 : Int) (x1 : Int) (x2 : Int) (w : World) (K : KV) : jp P T.a #[(0, (.int .i64 x0)), (1, (.int .u64 x1)), (4, (.int .i64 x2))] w K = K (.agg #[(.int .i64 x0), (.int .u64 x1), (.int .u64 0), (.int .u64 0), (.int .u64 0), (.int .u64 0), (.int .i64 x2), (.bool false), (.slice none 0 0), (.slice none 0 0), (.slice none 0 0)]) w := .trans (by kernel_rfl) rfl
@[simp] theorem bok (v : Value) (w : World) (K : KV) : taT P (.iface T.m v) T.an T.m true w K = K (.tuple #[v, .bool true]) w := .trans (by kernel_rfl) rfl
@[simp] theorem bqy (b i : Nat) (w : World) (K : KV) : faT P T.m (.pointer (some ⟨b, i, none⟩)) 0 w K = K (.pointer (some ⟨b, i, none⟩)) w := .trans (by kernel_rfl) rfl
@[simp] theorem bqv (b i : Nat) (w : World) (K : KV) : faT P T.e (.pointer (some ⟨b, i, none⟩)) 3 w K = K (.pointer (some ⟨b, i + 3, none⟩)) w := .trans (by kernel_rfl) rfl
@[simp] theorem bus (x0 : Int) (x1 : Int) (w : World) (K : KV) : bsT P T.ac 2 #[(0, (.int .i64 x0)), (1, (.int .i64 x1))] w K = K (.slice (some ⟨w.heap.size, 0, none⟩) 2 2) (w.alloc (.cells #[(.int .i64 x0), (.int .i64 x1)] T.b)) := .trans (by kernel_rfl) rfl
@[simp] theorem bpu (rx ry : Operand)  (w : World) (K : KV) : ga P .eql T.bd rx ry (.pointer none) (.pointer none) w K = K (.bool true) w := .trans (by kernel_rfl) rfl
@[simp] theorem bpm (rx ry : Operand) (a : Addr) (w : World) (K : KV) : ga P .eql T.bd rx ry (.pointer (some a)) (.pointer none) w K = K (.bool false) w := .trans (by kernel_rfl) rfl
@[simp] theorem bsy (rx ry : Operand) (l c : Nat) (w : World) (K : KV) : ga P .eql T.i rx ry (.slice none l c) (.slice none 0 0) w K = K (.bool true) w := .trans (by kernel_rfl) rfl
@[simp] theorem bny (rx ry : Operand) (a : Addr) (l c : Nat) (w : World) (K : KV) : ga P .eql T.i rx ry (.slice (some a) l c) (.slice none 0 0) w K = K (.bool false) w := .trans (by kernel_rfl) rfl
@[simp] theorem bup  (w : World) (K : KV) : bsT P T.i 0 #[] w K = K (.slice (some ⟨w.heap.size, 0, none⟩) 0 0) (w.alloc (.cells #[] T.p)) := .trans (by kernel_rfl) rfl
@[simp] theorem bsc (rx ry : Operand) (l c : Nat) (w : World) (K : KV) : ga P .eql T.k rx ry (.slice none l c) (.slice none 0 0) w K = K (.bool true) w := .trans (by kernel_rfl) rfl
@[simp] theorem buz (rx ry : Operand) (a : Addr) (l c : Nat) (w : World) (K : KV) : ga P .eql T.k rx ry (.slice (some a) l c) (.slice none 0 0) w K = K (.bool false) w := .trans (by kernel_rfl) rfl
@[simp] theorem bnw (x0 : Int) (p1 : Option Addr) (l1 c1 : Nat) (w : World) (K : KV) : jp P T.ab #[(1, (.int .i64 x0)), (2, (.slice p1 l1 c1))] w K = K (.agg #[(.int .i64 0), (.int .i64 x0), (.slice p1 l1 c1), (.int .i64 0)]) w := .trans (by kernel_rfl) rfl
@[simp] theorem bpw (rx ry : Operand)  (w : World) (K : KV) : ga P .neq T.z rx ry (.pointer none) (.pointer none) w K = K (.bool false) w := .trans (by kernel_rfl) rfl
@[simp] theorem bpc (rx ry : Operand) (a : Addr) (w : World) (K : KV) : ga P .neq T.z rx ry (.pointer (some a)) (.pointer none) w K = K (.bool true) w := .trans (by kernel_rfl) rfl
@[simp] theorem bse (b i : Nat) (w : World) (K : KV) : faT P T.ae (.pointer (some ⟨b, i, none⟩)) 0 w K = K (.pointer (some ⟨b, i, none⟩)) w := .trans (by kernel_rfl) rfl
@[simp] theorem bqf  (w : World) (K : KV) : jp P T.af #[] w K = K (.agg #[(.slice none 0 0), (.slice none 0 0)]) w := .trans (by kernel_rfl) rfl
@[simp] theorem brc (b i : Nat) (w : World) (K : KV) : faT P T.e (.pointer (some ⟨b, i, none⟩)) 4 w K = K (.pointer (some ⟨b, i + 4, none⟩)) w := .trans (by kernel_rfl) rfl
@[simp] theorem bnz : nc P T.bc = true := .trans (by kernel_rfl) rfl
@[simp] theorem bva : szE P T.bc = 1 := .trans (by kernel_rfl) rfl
@[simp] theorem bsm (x0 : Int) (x1 : Int) (w : World) (K : KV) : bsT P T.bc 2 #[(0, (.int .i64 x0)), (1, (.int .i64 x1))] w K = K (.slice (some ⟨w.heap.size, 0, none⟩) 2 2) (w.alloc (.cells #[(.int .i64 x0), (.int .i64 x1)] T.u)) := .trans (by kernel_rfl) rfl
@[simp] theorem brb (b i : Nat) (w : World) (K : KV) : faT P T.e (.pointer (some ⟨b, i, none⟩)) 2 w K = K (.pointer (some ⟨b, i + 2, none⟩)) w := .trans (by kernel_rfl) rfl
@[simp] theorem bpr (w : World) (K : KV) : alT P T.v w K = K (.pointer (some ⟨w.heap.size, 0, none⟩)) (w.alloc (.cells #[(.int .u64 0)] T.v)) := .trans (by kernel_rfl) rfl
@[simp] theorem bqm (b i : Nat) (x : Int) (w : World) (K : KV) : stT P T.v (.pointer (some ⟨b, i, none⟩)) (.int .u64 x) w K = st1 P b i (.int .u64 x) w K := .trans (by kernel_rfl) rfl
theorem mt.aq : tw P T.aq .u64 T.ao (.bool false) := tw.mk' (key := T.g) (by kernel_rfl) (by kernel_rfl) (by kernel_rfl)
@[simp] theorem btx : nc P T.ar = true := .trans (by kernel_rfl) rfl
@[simp] theorem buu : szE P T.ar = 1 := .trans (by kernel_rfl) rfl
theorem et.ar : mn P T.ar T.ap 1 4 := mn.mk' (by kernel_rfl) (by kernel_rfl) (by kernel_rfl)
@[simp] theorem btw (b i : Nat) (w : World) (K : KV) : ldT P T.ap (.pointer (some ⟨b, i, none⟩)) w K = ld1 P b i w K := .trans (by kernel_rfl) rfl
@[simp] theorem bth (b i : Nat) (w : World) (K : KV) : ldT P T.v (.pointer (some ⟨b, i, none⟩)) w K = ld1 P b i w K := .trans (by kernel_rfl) rfl
@[simp] theorem bug (x0 : Int) (w : World) (K : KV) : bsT P T.ar 1 #[(0, (.int .i32 x0))] w K = K (.slice (some ⟨w.heap.size, 0, none⟩) 1 1) (w.alloc (.cells #[(.int .i32 x0)] T.ap)) := .trans (by kernel_rfl) rfl
end Go.Proofs.YtfnhoaemapheoaaGreat
