/-
  Printed by wip/Shallow.lean: what the operations come to at this seat's types. No condition.
-/
import Derived.Test.YtfnhoaemapheoaaGreatN
import Derived.Test.YtfnhoaemapheoaaGreatZEng
set_option maxRecDepth 1000000
namespace Go.Proofs.YtfnhoaemapheoaaGreat
open Go.Eng
variable (B I : Nat) (W : World) (K : KV)
@[simp] theorem byo : ldT P T.ad (pB B I) W K = ld1 P B I W K := kr
@[simp] theorem bxn : nk P T.ad = true := kr
@[simp] theorem bxs : szE P T.ad = 1 := kr
theorem et.ad : mq P T.ad T.b 1 8 := mq.mk' (by kernel_rfl) (by kernel_rfl) (by kernel_rfl)
@[simp] theorem bxw : ldT P T.g (pB B I) W K = ld1 P B I W K := kr
@[simp] theorem bxo : ldT P T.p (pB B I) W K = ld1 P B I W K := kr
@[simp] theorem byr (x0 : Int) (x1 : Int) (w : World) (K : KV) : kf P T.c #[(0, (.int .u64 x0)), (1, (.int .u64 x1))] w K = K (.agg #[(.int .u64 x0), (.int .u64 x1)]) w := kr
@[simp] theorem byv : alT P T.c W K = K (.pointer (some ⟨W.heap.size, 0, none⟩)) (W.alloc (.cells #[u0, u0] T.c)) := kr
@[simp] theorem bxy (b i : Nat) (c_0 c_1 : Value) (w : World) (K : KV) : stT P T.c (pB b i) (.agg #[c_0, c_1]) w K = stN P b i [c_0, c_1] w K := kr
@[simp] theorem byg : kf P T.c #[] W K = K (.agg #[u0, u0]) W := kr
@[simp] theorem byl : ldT P T.b (pB B I) W K = ld1 P B I W K := kr
@[simp] theorem bye : ldT P T.c (pB B I) W K = ldN P 2 B I W K := kr
@[simp] theorem bxr : alT P T.a W K = K (.pointer (some ⟨W.heap.size, 0, none⟩)) (W.alloc (.cells #[i0, u0, u0, u0, u0, u0, i0, bF, nS, nS, nS] T.a)) := kr
@[simp] theorem byj (b i : Nat) (c_0 c_1 c_2 c_3 c_4 c_5 c_6 c_7 c_8 c_9 c_10 : Value) (w : World) (K : KV) : stT P T.a (pB b i) (.agg #[c_0, c_1, c_2, c_3, c_4, c_5, c_6, c_7, c_8, c_9, c_10]) w K = stN P b i [c_0, c_1, c_2, c_3, c_4, c_5, c_6, c_7, c_8, c_9, c_10] w K := kr
@[simp] theorem bxt : faT P T.a (pB B I) 5 W K = K (.pointer (some ⟨B, I + 7, none⟩)) W := kr
@[simp] theorem byf : ldT P T.aq (pB B I) W K = ld1 P B I W K := kr
@[simp] theorem byd (b i : Nat) (bo : Bool) (w : World) (K : KV) : stT P T.aq (pB b i) (.bool bo) w K = st1 P b i (.bool bo) w K := kr
@[simp] theorem byu : faT P T.a (pB B I) 4 W K = K (.pointer (some ⟨B, I + 6, none⟩)) W := kr
@[simp] theorem byh : faT P T.a (pB B I) 3 W K = K (.pointer (some ⟨B, I + 4, none⟩)) W := kr
@[simp] theorem bxp : ldT P T.an (pB B I) W K = ld1 P B I W K := kr
@[simp] theorem bym (x0 : Int) (x1 : Int) (c2_0 c2_1 : Value) (x3 : Int) (w : World) (K : KV) : kf P T.a #[(0, (.int .i64 x0)), (1, (.int .u64 x1)), (2, (.agg #[c2_0, c2_1])), (4, (.int .i64 x3))] w K = K (.agg #[(.int .i64 x0), (.int .u64 x1), c2_0, c2_1, u0, u0, (.int .i64 x3), bF, nS, nS, nS]) w := kr
@[simp] theorem byy : ldT P T.a (pB B I) W K = ldN P 11 B I W K := kr
@[simp] theorem bxu : nk P T.u = true := kr
@[simp] theorem byw : szE P T.u = 11 := kr
theorem et.u : mq P T.u T.a 11 136 := mq.mk' (by kernel_rfl) (by kernel_rfl) (by kernel_rfl)
@[simp] theorem bya : faT P T.a (pB B I) 2 W K = K (.pointer (some ⟨B, I + 2, none⟩)) W := kr
@[simp] theorem bxx : kf P T.a #[] W K = K (.agg #[i0, u0, u0, u0, u0, u0, i0, bF, nS, nS, nS]) W := kr
@[simp] theorem bxv : faT P T.a (pB B I) 1 W K = K (.pointer (some ⟨B, I + 1, none⟩)) W := kr
@[simp] theorem byk : faT P T.a (pB B I) 0 W K = K (pB B I) W := kr
@[simp] theorem bxm (rx ry : Operand) (a : Addr) (w : World) (K : KV) : ib P .eql T.av rx ry (.pointer (some a)) nP w K = K bF w := kr
@[simp] theorem byc : nk P T.d = true := kr
@[simp] theorem byx : szE P T.d = 8 := kr
theorem et.d : mq P T.d T.e 8 80 := mq.mk' (by kernel_rfl) (by kernel_rfl) (by kernel_rfl)
@[simp] theorem bxz : faT P T.a (pB B I) 6 W K = K (.pointer (some ⟨B, I + 8, none⟩)) W := kr
@[simp] theorem byi : ldT P T.d (pB B I) W K = ld1 P B I W K := kr
@[simp] theorem bys : ldT P T.e (pB B I) W K = ldN P 8 B I W K := kr
theorem et.af : mq P T.af T.ar 10 96 := mq.mk' (by kernel_rfl) (by kernel_rfl) (by kernel_rfl)
@[simp] theorem bxq : faT P T.ar (pB B I) 1 W K = K (.pointer (some ⟨B, I + 2, none⟩)) W := kr
@[simp] theorem byp : bsT P T.u 0 #[] W K = K (.slice (some ⟨W.heap.size, 0, none⟩) 0 0) (W.alloc (.cells #[] T.a)) := kr
@[simp] theorem byq : nk P T.i = true := kr
@[simp] theorem byn : szE P T.i = 1 := kr
theorem et.i : mq P T.i T.g 1 8 := mq.mk' (by kernel_rfl) (by kernel_rfl) (by kernel_rfl)
@[simp] theorem bqf (x0 : Int) (r1 : Option Nat) (w : World) (K : KV) : kf P T.ag #[(0, (.int .i64 x0)), (1, (.map r1))] w K = K (.agg #[(.int .i64 x0), (.map r1), i0, bF, bF]) w := kr
@[simp] theorem bus : nk P T.l = true := kr
@[simp] theorem brm : szE P T.l = 1 := kr
theorem et.l : mq P T.l T.f 1 24 := mq.mk' (by kernel_rfl) (by kernel_rfl) (by kernel_rfl)
@[simp] theorem bul : ldT P T.f (pB B I) W K = ld1 P B I W K := kr
@[simp] theorem bsa : faT P T.c (pB B I) 0 W K = K (pB B I) W := kr
@[simp] theorem brs : faT P T.c (pB B I) 1 W K = K (.pointer (some ⟨B, I + 1, none⟩)) W := kr
@[simp] theorem bxe (rx ry : Operand) (a : Addr) (w : World) (K : KV) : ib P .eql T.an rx ry (.pointer (some a)) nP w K = K bF w := kr
@[simp] theorem bqh : faT P T.ag (pB B I) 1 W K = K (.pointer (some ⟨B, I + 1, none⟩)) W := kr
@[simp] theorem buh : ldT P T.o (pB B I) W K = ld1 P B I W K := kr
theorem mt.o : uw P T.o .i64 T.bg nP := uw.mk' (key := T.b) (by kernel_rfl) (by kernel_rfl) (by kernel_rfl)
@[simp] theorem bpx : faT P T.ah (pB B I) 1 W K = K (.pointer (some ⟨B, I + 1, none⟩)) W := kr
@[simp] theorem buz : nk P T.f = true := kr
@[simp] theorem bwf : szE P T.f = 1 := kr
theorem et.f : mq P T.f T.am 1 1 := mq.mk' (by kernel_rfl) (by kernel_rfl) (by kernel_rfl)
@[simp] theorem bso : faT P T.ah (pB B I) 0 W K = K (pB B I) W := kr
@[simp] theorem bua (p0 : Option Addr) (l0 c0 : Nat) (p1 : Option Addr) (l1 c1 : Nat) (w : World) (K : KV) : bsT P T.l 2 #[(0, (.slice p0 l0 c0)), (1, (.slice p1 l1 c1))] w K = K (.slice (some ⟨w.heap.size, 0, none⟩) 2 2) (w.alloc (.cells #[(.slice p0 l0 c0), (.slice p1 l1 c1)] T.f)) := kr
@[simp] theorem bpz (b i : Nat) (p : Option Addr) (l c : Nat) (w : World) (K : KV) : stT P T.f (pB b i) (.slice p l c) w K = st1 P b i (.slice p l c) w K := kr
@[simp] theorem bvq : faT P T.ag (pB B I) 3 W K = K (.pointer (some ⟨B, I + 3, none⟩)) W := kr
@[simp] theorem bqy : faT P T.ag (pB B I) 4 W K = K (.pointer (some ⟨B, I + 4, none⟩)) W := kr
@[simp] theorem bse (v : Value) (w : World) (K : KV) : taT P (.iface T.y v) T.ap T.y true w K = K (.tuple #[v, .bool true]) w := kr
@[simp] theorem bsk : alT P T.y W K = K (.pointer (some ⟨W.heap.size, 0, none⟩)) (W.alloc (.cells #[u0, u0, u0, i0] T.y)) := kr
@[simp] theorem bqn (b i : Nat) (c_0 c_1 c_2 c_3 : Value) (w : World) (K : KV) : stT P T.y (pB b i) (.agg #[c_0, c_1, c_2, c_3]) w K = stN P b i [c_0, c_1, c_2, c_3] w K := kr
@[simp] theorem bwl : faT P T.y (pB B I) 0 W K = K (pB B I) W := kr
@[simp] theorem brq : faT P T.y (pB B I) 1 W K = K (.pointer (some ⟨B, I + 1, none⟩)) W := kr
@[simp] theorem bvt : faT P T.y (pB B I) 2 W K = K (.pointer (some ⟨B, I + 3, none⟩)) W := kr
@[simp] theorem bxd (p0 : Option Addr) (l0 c0 : Nat) (w : World) (K : KV) : bsT P T.l 1 #[(0, (.slice p0 l0 c0))] w K = K (.slice (some ⟨w.heap.size, 0, none⟩) 1 1) (w.alloc (.cells #[(.slice p0 l0 c0)] T.f)) := kr
@[simp] theorem bsl : faT P T.a (pB B I) 7 W K = K (.pointer (some ⟨B, I + 9, none⟩)) W := kr
@[simp] theorem brk : ldT P T.j (pB B I) W K = ld1 P B I W K := kr
@[simp] theorem bre : nk P T.j = true := kr
@[simp] theorem bvn : szE P T.j = 3 := kr
theorem et.j : mq P T.j T.q 3 24 := mq.mk' (by kernel_rfl) (by kernel_rfl) (by kernel_rfl)
@[simp] theorem bss : faT P T.a (pB B I) 8 W K = K (.pointer (some ⟨B, I + 10, none⟩)) W := kr
@[simp] theorem bum : ldT P T.i (pB B I) W K = ld1 P B I W K := kr
@[simp] theorem bvz : ldT P T.q (pB B I) W K = ldN P 3 B I W K := kr
@[simp] theorem bsg : ldT P T.be (pB B I) W K = ld1 P B I W K := kr
@[simp] theorem btr (rx ry : Operand) (a : Addr) (w : World) (K : KV) : ib P .neq T.an rx ry (.pointer (some a)) nP w K = K bY w := kr
@[simp] theorem bqa : faT P T.ag (pB B I) 2 W K = K (.pointer (some ⟨B, I + 2, none⟩)) W := kr
@[simp] theorem bqb (b i : Nat) (x : Int) (w : World) (K : KV) : stT P T.b (pB b i) (.int .i64 x) w K = st1 P b i (.int .i64 x) w K := kr
@[simp] theorem bql : faT P T.e (pB B I) 6 W K = K (.pointer (some ⟨B, I + 6, none⟩)) W := kr
@[simp] theorem but : ldT P T.ae (pB B I) W K = ld1 P B I W K := kr
@[simp] theorem bxg : faT P T.e (pB B I) 5 W K = K (.pointer (some ⟨B, I + 5, none⟩)) W := kr
@[simp] theorem bsr (x0 : Int) (x1 : Int) (s2 : ByteArray) (s3 : ByteArray) (w : World) (K : KV) : kf P T.e #[(0, (.int .u64 x0)), (1, (.int .u64 x1)), (5, (.string s2)), (6, (.string s3))] w K = K (.agg #[(.int .u64 x0), (.int .u64 x1), u0, u0, u0, (.string s2), (.string s3), bF]) w := kr
@[simp] theorem bwq (c0_0 c0_1 c0_2 c0_3 c0_4 c0_5 c0_6 c0_7 : Value) (c1_0 c1_1 c1_2 c1_3 c1_4 c1_5 c1_6 c1_7 : Value) (w : World) (K : KV) : bsT P T.d 2 #[(0, (.agg #[c0_0, c0_1, c0_2, c0_3, c0_4, c0_5, c0_6, c0_7])), (1, (.agg #[c1_0, c1_1, c1_2, c1_3, c1_4, c1_5, c1_6, c1_7]))] w K = K (.slice (some ⟨w.heap.size, 0, none⟩) 2 2) (w.alloc (.cells #[c0_0, c0_1, c0_2, c0_3, c0_4, c0_5, c0_6, c0_7, c1_0, c1_1, c1_2, c1_3, c1_4, c1_5, c1_6, c1_7] T.e)) := kr
@[simp] theorem bsz (x0 : Int) (w : World) (K : KV) : kf P T.c #[(0, (.int .u64 x0))] w K = K (.agg #[(.int .u64 x0), u0]) w := kr
@[simp] theorem bwi (x0 : Int) (x1 : Int) (c2_0 c2_1 : Value) (p3 : Option Addr) (l3 c3 : Nat) (w : World) (K : KV) : kf P T.a #[(0, (.int .i64 x0)), (1, (.int .u64 x1)), (2, (.agg #[c2_0, c2_1])), (6, (.slice p3 l3 c3))] w K = K (.agg #[(.int .i64 x0), (.int .u64 x1), c2_0, c2_1, u0, u0, i0, bF, (.slice p3 l3 c3), nS, nS]) w := kr
@[simp] theorem bwr (rx ry : Operand) (a : Addr) (w : World) (K : KV) : ib P .neq T.av rx ry (.pointer (some a)) nP w K = K bY w := kr
@[simp] theorem bvs : faT P T.e (pB B I) 1 W K = K (.pointer (some ⟨B, I + 1, none⟩)) W := kr
@[simp] theorem brt (p0 : Option Addr) (p1 : Option Addr) (r2 : Option Nat) (w : World) (K : KV) : kf P T.aj #[(0, (.pointer p0)), (1, (.pointer p1)), (2, (.map r2))] w K = K (.agg #[(.pointer p0), (.pointer p1), (.map r2), bF]) w := kr
@[simp] theorem bva : alT P T.e W K = K (.pointer (some ⟨W.heap.size, 0, none⟩)) (W.alloc (.cells #[u0, u0, u0, u0, u0, (.string ⟨#[]⟩), (.string ⟨#[]⟩), bF] T.e)) := kr
@[simp] theorem bvf (b i : Nat) (c_0 c_1 c_2 c_3 c_4 c_5 c_6 c_7 : Value) (w : World) (K : KV) : stT P T.e (pB b i) (.agg #[c_0, c_1, c_2, c_3, c_4, c_5, c_6, c_7]) w K = stN P b i [c_0, c_1, c_2, c_3, c_4, c_5, c_6, c_7] w K := kr
@[simp] theorem bwj (v : Value) (w : World) (K : KV) : taT P (.iface T.h v) T.ap T.h true w K = K (.tuple #[v, .bool true]) w := kr
@[simp] theorem brl : alT P T.h W K = K (.pointer (some ⟨W.heap.size, 0, none⟩)) (W.alloc (.cells #[u0, u0, u0, nS] T.h)) := kr
@[simp] theorem btk (b i : Nat) (c_0 c_1 c_2 c_3 : Value) (w : World) (K : KV) : stT P T.h (pB b i) (.agg #[c_0, c_1, c_2, c_3]) w K = stN P b i [c_0, c_1, c_2, c_3] w K := kr
@[simp] theorem bwv : faT P T.aj (pB B I) 3 W K = K (.pointer (some ⟨B, I + 3, none⟩)) W := kr
@[simp] theorem bsx : faT P T.aj (pB B I) 0 W K = K (pB B I) W := kr
@[simp] theorem bru : faT P T.h (pB B I) 2 W K = K (.pointer (some ⟨B, I + 3, none⟩)) W := kr
@[simp] theorem bsq : faT P T.h (pB B I) 1 W K = K (.pointer (some ⟨B, I + 1, none⟩)) W := kr
@[simp] theorem brh : faT P T.h (pB B I) 0 W K = K (pB B I) W := kr
@[simp] theorem bvi (x0 : Int) (w : World) (K : KV) : kf P T.n #[(0, (.int .u64 x0))] w K = K (.agg #[(.int .u64 x0), nS]) w := kr
@[simp] theorem bqw : alT P T.n W K = K (.pointer (some ⟨W.heap.size, 0, none⟩)) (W.alloc (.cells #[u0, nS] T.n)) := kr
@[simp] theorem bug (b i : Nat) (c_0 c_1 : Value) (w : World) (K : KV) : stT P T.n (pB b i) (.agg #[c_0, c_1]) w K = stN P b i [c_0, c_1] w K := kr
@[simp] theorem btb : faT P T.n (pB B I) 1 W K = K (.pointer (some ⟨B, I + 1, none⟩)) W := kr
@[simp] theorem buy (x0 : Int) (w : World) (K : KV) : bsT P T.i 1 #[(0, (.int .u64 x0))] w K = K (.slice (some ⟨w.heap.size, 0, none⟩) 1 1) (w.alloc (.cells #[(.int .u64 x0)] T.g)) := kr
@[simp] theorem bvl (b i : Nat) (p : Option Addr) (l c : Nat) (w : World) (K : KV) : stT P T.i (pB b i) (.slice p l c) w K = st1 P b i (.slice p l c) w K := kr
@[simp] theorem bqp : ldT P T.n (pB B I) W K = ldN P 2 B I W K := kr
@[simp] theorem brv (v : Value) (w : World) (K : KV) : uz P T.n v w K = K (.iface T.n v) w := kr
@[simp] theorem bps : faT P T.aj (pB B I) 2 W K = K (.pointer (some ⟨B, I + 2, none⟩)) W := kr
@[simp] theorem bwp : ldT P T.k (pB B I) W K = ld1 P B I W K := kr
theorem mt.k : uw P T.k .u64 T.ba nP := uw.mk' (key := T.g) (by kernel_rfl) (by kernel_rfl) (by kernel_rfl)
@[simp] theorem bup (rx ry : Operand)  (w : World) (K : KV) : ib P .eql T.ba rx ry nP nP w K = K bY w := kr
@[simp] theorem bqq (rx ry : Operand) (a : Addr) (w : World) (K : KV) : ib P .eql T.ba rx ry (.pointer (some a)) nP w K = K bF w := kr
@[simp] theorem bvh : faT P T.ao (pB B I) 0 W K = K (pB B I) W := kr
@[simp] theorem bvm : ldT P T.s (pB B I) W K = ld1 P B I W K := kr
@[simp] theorem bqu (c0_0 c0_1 : Value) (c1_0 c1_1 c1_2 c1_3 c1_4 c1_5 c1_6 c1_7 : Value) (w : World) (K : KV) : kf P T.ar #[(0, (.agg #[c0_0, c0_1])), (1, (.agg #[c1_0, c1_1, c1_2, c1_3, c1_4, c1_5, c1_6, c1_7]))] w K = K (.agg #[c0_0, c0_1, c1_0, c1_1, c1_2, c1_3, c1_4, c1_5, c1_6, c1_7]) w := kr
@[simp] theorem bwz (c0_0 c0_1 c0_2 c0_3 c0_4 c0_5 c0_6 c0_7 c0_8 c0_9 : Value) (w : World) (K : KV) : bsT P T.af 1 #[(0, (.agg #[c0_0, c0_1, c0_2, c0_3, c0_4, c0_5, c0_6, c0_7, c0_8, c0_9]))] w K = K (.slice (some ⟨w.heap.size, 0, none⟩) 1 1) (w.alloc (.cells #[c0_0, c0_1, c0_2, c0_3, c0_4, c0_5, c0_6, c0_7, c0_8, c0_9] T.ar)) := kr
@[simp] theorem bws : bsT P T.i 0 #[] W K = K (.slice (some ⟨W.heap.size, 0, none⟩) 0 0) (W.alloc (.cells #[] T.g)) := kr
@[simp] theorem bvo (x0 : Int) (x1 : Int) (p2 : Option Addr) (l2 c2 : Nat) (w : World) (K : KV) : kf P T.a #[(0, (.int .i64 x0)), (1, (.int .u64 x1)), (8, (.slice p2 l2 c2))] w K = K (.agg #[(.int .i64 x0), (.int .u64 x1), u0, u0, u0, u0, i0, bF, nS, nS, (.slice p2 l2 c2)]) w := kr
@[simp] theorem bpu : faT P T.ao (pB B I) 1 W K = K (.pointer (some ⟨B, I + 1, none⟩)) W := kr
@[simp] theorem bsj (p0 : Option Addr) (x1 : Int) (w : World) (K : KV) : kf P T.ab #[(0, (.pointer p0)), (1, (.int .i64 x1))] w K = K (.agg #[(.pointer p0), (.int .i64 x1), nS]) w := kr
@[simp] theorem bqk (rx ry : Operand)  (w : World) (K : KV) : ib P .eql T.aa rx ry nP nP w K = K bY w := kr
@[simp] theorem bwu (rx ry : Operand) (a : Addr) (w : World) (K : KV) : ib P .eql T.aa rx ry (.pointer (some a)) nP w K = K bF w := kr
@[simp] theorem brz : faT P T.ab (pB B I) 2 W K = K (.pointer (some ⟨B, I + 2, none⟩)) W := kr
@[simp] theorem btn : ldT P T.v (pB B I) W K = ld1 P B I W K := kr
@[simp] theorem buf : nk P T.v = true := kr
@[simp] theorem buq : szE P T.v = 1 := kr
theorem et.v : mq P T.v T.aa 1 8 := mq.mk' (by kernel_rfl) (by kernel_rfl) (by kernel_rfl)
@[simp] theorem bvg : faT P T.ac (pB B I) 1 W K = K (.pointer (some ⟨B, I + 1, none⟩)) W := kr
@[simp] theorem bxa (p0 : Option Addr) (w : World) (K : KV) : bsT P T.v 1 #[(0, (.pointer p0))] w K = K (.slice (some ⟨w.heap.size, 0, none⟩) 1 1) (w.alloc (.cells #[(.pointer p0)] T.aa)) := kr
@[simp] theorem bvc (b i : Nat) (p : Option Addr) (l c : Nat) (w : World) (K : KV) : stT P T.v (pB b i) (.slice p l c) w K = st1 P b i (.slice p l c) w K := kr
@[simp] theorem bqe (rx ry : Operand) (a : Addr) (w : World) (K : KV) : ib P .eql T.be rx ry (.pointer (some a)) nP w K = K bF w := kr
@[simp] theorem btv : ldT P T.aa (pB B I) W K = ld1 P B I W K := kr
@[simp] theorem bsf : faT P T.ac (pB B I) 2 W K = K (.pointer (some ⟨B, I + 2, none⟩)) W := kr
@[simp] theorem btz : ldT P T.l (pB B I) W K = ld1 P B I W K := kr
@[simp] theorem bwg (b i : Nat) (x : Int) (w : World) (K : KV) : stT P T.g (pB b i) (.int .u64 x) w K = st1 P b i (.int .u64 x) w K := kr
@[simp] theorem bwt : ldT P T.am (pB B I) W K = ld1 P B I W K := kr
@[simp] theorem btw : faT P T.ab (pB B I) 0 W K = K (pB B I) W := kr
@[simp] theorem bty : faT P T.ac (pB B I) 0 W K = K (pB B I) W := kr
@[simp] theorem bvr (v : Value) (w : World) (K : KV) : uz P T.ae v w K = K (.iface T.ae v) w := kr
@[simp] theorem buw (x0 : Int) (w : World) (K : KV) : bsT P T.f 1 #[(0, (.int .u8 x0))] w K = K (.slice (some ⟨w.heap.size, 0, none⟩) 1 1) (w.alloc (.cells #[(.int .u8 x0)] T.am)) := kr
@[simp] theorem bvx (b i : Nat) (x : Int) (w : World) (K : KV) : stT P T.p (pB b i) (.int .i64 x) w K = st1 P b i (.int .i64 x) w K := kr
@[simp] theorem btt : faT P T.e (pB B I) 0 W K = K (pB B I) W := kr
@[simp] theorem bqd (c0_0 c0_1 c0_2 c0_3 c0_4 c0_5 c0_6 c0_7 : Value) (w : World) (K : KV) : bsT P T.d 1 #[(0, (.agg #[c0_0, c0_1, c0_2, c0_3, c0_4, c0_5, c0_6, c0_7]))] w K = K (.slice (some ⟨w.heap.size, 0, none⟩) 1 1) (w.alloc (.cells #[c0_0, c0_1, c0_2, c0_3, c0_4, c0_5, c0_6, c0_7] T.e)) := kr
@[simp] theorem bto (r0 : Option Nat) (w : World) (K : KV) : kf P T.ao #[(0, (.map r0))] w K = K (.agg #[(.map r0), u0, u0]) w := kr
theorem mt.s : uw P T.s .u64 T.e (.agg #[u0, u0, u0, u0, u0, (.string ⟨#[]⟩), (.string ⟨#[]⟩), bF]) := uw.mk' (key := T.g) (by kernel_rfl) (by kernel_rfl) (by kernel_rfl)
@[simp] theorem bsy (c0_0 c0_1 : Value) (c1_0 c1_1 : Value) (w : World) (K : KV) : bsT P T.bb 2 #[(0, (.agg #[c0_0, c0_1])), (1, (.agg #[c1_0, c1_1]))] w K = K (.slice (some ⟨w.heap.size, 0, none⟩) 2 2) (w.alloc (.cells #[c0_0, c0_1, c1_0, c1_1] T.c)) := kr
@[simp] theorem brb (rx ry : Operand) (l c : Nat) (w : World) (K : KV) : ib P .eql T.d rx ry (.slice none l c) nS w K = K bY w := kr
@[simp] theorem buk (rx ry : Operand) (a : Addr) (l c : Nat) (w : World) (K : KV) : ib P .eql T.d rx ry (.slice (some a) l c) nS w K = K bF w := kr
@[simp] theorem brw : bsT P T.d 0 #[] W K = K (.slice (some ⟨W.heap.size, 0, none⟩) 0 0) (W.alloc (.cells #[] T.e)) := kr
@[simp] theorem bsd : faT P T.aj (pB B I) 1 W K = K (.pointer (some ⟨B, I + 1, none⟩)) W := kr
@[simp] theorem bvu : nk P T.az = true := kr
@[simp] theorem bxf : szE P T.az = 1 := kr
@[simp] theorem bux (p0 : Option Addr) (l0 c0 : Nat) (p1 : Option Addr) (l1 c1 : Nat) (w : World) (K : KV) : bsT P T.az 2 #[(0, (.slice p0 l0 c0)), (1, (.slice p1 l1 c1))] w K = K (.slice (some ⟨w.heap.size, 0, none⟩) 2 2) (w.alloc (.cells #[(.slice p0 l0 c0), (.slice p1 l1 c1)] T.ad)) := kr
@[simp] theorem brx (x0 : Int) (x1 : Int) (p2 : Option Addr) (l2 c2 : Nat) (x3 : Int) (w : World) (K : KV) : kf P T.ac #[(0, (.int .i64 x0)), (1, (.int .i64 x1)), (2, (.slice p2 l2 c2)), (3, (.int .i64 x3))] w K = K (.agg #[(.int .i64 x0), (.int .i64 x1), (.slice p2 l2 c2), (.int .i64 x3)]) w := kr
@[simp] theorem buu (rx ry : Operand) (l c : Nat) (w : World) (K : KV) : ib P .eql T.f rx ry (.slice none l c) nS w K = K bY w := kr
@[simp] theorem bti (rx ry : Operand) (a : Addr) (l c : Nat) (w : World) (K : KV) : ib P .eql T.f rx ry (.slice (some a) l c) nS w K = K bF w := kr
@[simp] theorem bvw : bsT P T.f 0 #[] W K = K (.slice (some ⟨W.heap.size, 0, none⟩) 0 0) (W.alloc (.cells #[] T.am)) := kr
@[simp] theorem bxj (x0 : Int) (bo1 : Bool) (p2 : Option Addr) (l2 c2 : Nat) (w : World) (K : KV) : kf P T.r #[(0, (.int .u64 x0)), (1, (.bool bo1)), (2, (.slice p2 l2 c2))] w K = K (.agg #[(.int .u64 x0), (.bool bo1), (.slice p2 l2 c2)]) w := kr
@[simp] theorem bsv (v : Value) (w : World) (K : KV) : uz P T.r v w K = K (.iface T.r v) w := kr
@[simp] theorem bqi (p0 : Option Addr) (l0 c0 : Nat) (w : World) (K : KV) : kf P T.t #[(0, (.slice p0 l0 c0))] w K = K (.agg #[(.slice p0 l0 c0)]) w := kr
@[simp] theorem bwe (v : Value) (w : World) (K : KV) : uz P T.t v w K = K (.iface T.t v) w := kr
@[simp] theorem bqv (x0 : Int) (c1_0 c1_1 : Value) (x2 : Int) (w : World) (K : KV) : kf P T.y #[(0, (.int .u64 x0)), (1, (.agg #[c1_0, c1_1])), (2, (.int .i64 x2))] w K = K (.agg #[(.int .u64 x0), c1_0, c1_1, (.int .i64 x2)]) w := kr
@[simp] theorem bst (v : Value) (w : World) (K : KV) : uz P T.y v w K = K (.iface T.y v) w := kr
@[simp] theorem btg (x0 : Int) (c1_0 c1_1 : Value) (bo2 : Bool) (c3_0 c3_1 : Value) (x4 : Int) (bo5 : Bool) (w : World) (K : KV) : kf P T.m #[(0, (.int .u64 x0)), (1, (.agg #[c1_0, c1_1])), (2, (.bool bo2)), (3, (.agg #[c3_0, c3_1])), (4, (.int .i64 x4)), (5, (.bool bo5))] w K = K (.agg #[(.int .u64 x0), c1_0, c1_1, (.bool bo2), c3_0, c3_1, (.int .i64 x4), (.bool bo5)]) w := kr
@[simp] theorem bsm (v : Value) (w : World) (K : KV) : uz P T.m v w K = K (.iface T.m v) w := kr
@[simp] theorem bwk (x0 : Int) (x1 : Int) (w : World) (K : KV) : kf P T.z #[(0, (.int .u64 x0)), (1, (.int .i64 x1))] w K = K (.agg #[(.int .u64 x0), (.int .i64 x1)]) w := kr
@[simp] theorem bta (v : Value) (w : World) (K : KV) : uz P T.z v w K = K (.iface T.z v) w := kr
@[simp] theorem bvk (x0 : Int) (c1_0 c1_1 : Value) (p2 : Option Addr) (l2 c2 : Nat) (w : World) (K : KV) : kf P T.h #[(0, (.int .u64 x0)), (1, (.agg #[c1_0, c1_1])), (2, (.slice p2 l2 c2))] w K = K (.agg #[(.int .u64 x0), c1_0, c1_1, (.slice p2 l2 c2)]) w := kr
@[simp] theorem bvv (v : Value) (w : World) (K : KV) : uz P T.h v w K = K (.iface T.h v) w := kr
@[simp] theorem brn (x0 : Int) (p1 : Option Addr) (l1 c1 : Nat) (w : World) (K : KV) : kf P T.n #[(0, (.int .u64 x0)), (1, (.slice p1 l1 c1))] w K = K (.agg #[(.int .u64 x0), (.slice p1 l1 c1)]) w := kr
@[simp] theorem bwc : faT P T.ac (pB B I) 3 W K = K (.pointer (some ⟨B, I + 3, none⟩)) W := kr
@[simp] theorem bqz : faT P T.ab (pB B I) 1 W K = K (.pointer (some ⟨B, I + 1, none⟩)) W := kr
@[simp] theorem bvy (b i : Nat) (p : Option Addr) (l c : Nat) (w : World) (K : KV) : stT P T.l (pB b i) (.slice p l c) w K = st1 P b i (.slice p l c) w K := kr
@[simp] theorem bqo (x0 : Int) (x1 : Int) (w : World) (K : KV) : kf P T.a #[(0, (.int .i64 x0)), (1, (.int .u64 x1))] w K = K (.agg #[(.int .i64 x0), (.int .u64 x1), u0, u0, u0, u0, i0, bF, nS, nS, nS]) w := kr
@[simp] theorem bwa (b i : Nat) (p : Option Addr) (l c : Nat) (w : World) (K : KV) : stT P T.d (pB b i) (.slice p l c) w K = st1 P b i (.slice p l c) w K := kr
@[simp] theorem bud (b i : Nat) (p : Option Addr) (l c : Nat) (w : World) (K : KV) : stT P T.j (pB b i) (.slice p l c) w K = st1 P b i (.slice p l c) w K := kr
@[simp] theorem brf : alT P T.q W K = K (.pointer (some ⟨W.heap.size, 0, none⟩)) (W.alloc (.cells #[u0, u0, i0] T.q)) := kr
@[simp] theorem bvd (b i : Nat) (c_0 c_1 c_2 : Value) (w : World) (K : KV) : stT P T.q (pB b i) (.agg #[c_0, c_1, c_2]) w K = stN P b i [c_0, c_1, c_2] w K := kr
@[simp] theorem bra : faT P T.q (pB B I) 0 W K = K (pB B I) W := kr
@[simp] theorem buj : faT P T.q (pB B I) 1 W K = K (.pointer (some ⟨B, I + 1, none⟩)) W := kr
@[simp] theorem bur : faT P T.q (pB B I) 2 W K = K (.pointer (some ⟨B, I + 2, none⟩)) W := kr
@[simp] theorem btf (p0 : Option Addr) (l0 c0 : Nat) (w : World) (K : KV) : kf P T.ai #[(0, (.slice p0 l0 c0))] w K = K (.agg #[(.slice p0 l0 c0), i0]) w := kr
@[simp] theorem bpt (x0 : Int) (x1 : Int) (x2 : Int) (x3 : Int) (x4 : Int) (w : World) (K : KV) : kf P T.e #[(0, (.int .u64 x0)), (1, (.int .u64 x1)), (2, (.int .u64 x2)), (3, (.int .u64 x3)), (4, (.int .u64 x4))] w K = K (.agg #[(.int .u64 x0), (.int .u64 x1), (.int .u64 x2), (.int .u64 x3), (.int .u64 x4), (.string ⟨#[]⟩), (.string ⟨#[]⟩), bF]) w := kr
@[simp] theorem bts : faT P T.e (pB B I) 7 W K = K (.pointer (some ⟨B, I + 7, none⟩)) W := kr
@[simp] theorem btp (b i : Nat) (s : ByteArray) (w : World) (K : KV) : stT P T.ae (pB b i) (.string s) w K = st1 P b i (.string s) w K := kr
@[simp] theorem bwn : faT P T.ai (pB B I) 1 W K = K (.pointer (some ⟨B, I + 1, none⟩)) W := kr
@[simp] theorem bui : ldT P T.w (pB B I) W K = ld1 P B I W K := kr
@[simp] theorem brj (b i : Nat) (x : Int) (w : World) (K : KV) : stT P T.w (pB b i) (.int .i64 x) w K = st1 P b i (.int .i64 x) w K := kr
@[simp] theorem bwh : kf P T.e #[] W K = K (.agg #[u0, u0, u0, u0, u0, (.string ⟨#[]⟩), (.string ⟨#[]⟩), bF]) W := kr
@[simp] theorem brp : faT P T.ai (pB B I) 0 W K = K (pB B I) W := kr
@[simp] theorem bqc (v : Value) (w : World) (K : KV) : taT P (.iface T.r v) T.ap T.r true w K = K (.tuple #[v, .bool true]) w := kr
@[simp] theorem btx : alT P T.r W K = K (.pointer (some ⟨W.heap.size, 0, none⟩)) (W.alloc (.cells #[u0, bF, nS] T.r)) := kr
@[simp] theorem bte (b i : Nat) (c_0 c_1 c_2 : Value) (w : World) (K : KV) : stT P T.r (pB b i) (.agg #[c_0, c_1, c_2]) w K = stN P b i [c_0, c_1, c_2] w K := kr
@[simp] theorem bsu : faT P T.r (pB B I) 0 W K = K (pB B I) W := kr
@[simp] theorem btc : faT P T.r (pB B I) 2 W K = K (.pointer (some ⟨B, I + 2, none⟩)) W := kr
@[simp] theorem bro (x0 : Int) (x1 : Int) (p2 : Option Addr) (l2 c2 : Nat) (w : World) (K : KV) : kf P T.a #[(0, (.int .i64 x0)), (1, (.int .u64 x1)), (6, (.slice p2 l2 c2))] w K = K (.agg #[(.int .i64 x0), (.int .u64 x1), u0, u0, u0, u0, i0, bF, (.slice p2 l2 c2), nS, nS]) w := kr
@[simp] theorem bvb : faT P T.r (pB B I) 1 W K = K (.pointer (some ⟨B, I + 1, none⟩)) W := kr
@[simp] theorem bsi (v : Value) (w : World) (K : KV) : taT P (.iface T.t v) T.ap T.t true w K = K (.tuple #[v, .bool true]) w := kr
@[simp] theorem bwy : alT P T.t W K = K (.pointer (some ⟨W.heap.size, 0, none⟩)) (W.alloc (.cells #[nS] T.t)) := kr
@[simp] theorem bsn (b i : Nat) (c_0 : Value) (w : World) (K : KV) : stT P T.t (pB b i) (.agg #[c_0]) w K = stN P b i [c_0] w K := kr
@[simp] theorem brc : faT P T.t (pB B I) 0 W K = K (pB B I) W := kr
@[simp] theorem brd (x0 : Int) (p1 : Option Addr) (l1 c1 : Nat) (w : World) (K : KV) : kf P T.a #[(0, (.int .i64 x0)), (7, (.slice p1 l1 c1))] w K = K (.agg #[(.int .i64 x0), u0, u0, u0, u0, u0, i0, bF, nS, (.slice p1 l1 c1), nS]) w := kr
@[simp] theorem bub (v : Value) (w : World) (K : KV) : taT P (.iface T.m v) T.ap T.m true w K = K (.tuple #[v, .bool true]) w := kr
@[simp] theorem bun : alT P T.m W K = K (.pointer (some ⟨W.heap.size, 0, none⟩)) (W.alloc (.cells #[u0, u0, u0, bF, u0, u0, i0, bF] T.m)) := kr
@[simp] theorem bvj (b i : Nat) (c_0 c_1 c_2 c_3 c_4 c_5 c_6 c_7 : Value) (w : World) (K : KV) : stT P T.m (pB b i) (.agg #[c_0, c_1, c_2, c_3, c_4, c_5, c_6, c_7]) w K = stN P b i [c_0, c_1, c_2, c_3, c_4, c_5, c_6, c_7] w K := kr
@[simp] theorem btd : faT P T.m (pB B I) 0 W K = K (pB B I) W := kr
@[simp] theorem bth : faT P T.m (pB B I) 1 W K = K (.pointer (some ⟨B, I + 1, none⟩)) W := kr
@[simp] theorem bwb : faT P T.m (pB B I) 2 W K = K (.pointer (some ⟨B, I + 3, none⟩)) W := kr
@[simp] theorem bww : faT P T.m (pB B I) 3 W K = K (.pointer (some ⟨B, I + 4, none⟩)) W := kr
@[simp] theorem bsp : faT P T.m (pB B I) 4 W K = K (.pointer (some ⟨B, I + 6, none⟩)) W := kr
@[simp] theorem bwm (x0 : Int) (x1 : Int) (c2_0 c2_1 : Value) (bo3 : Bool) (c4_0 c4_1 : Value) (x5 : Int) (w : World) (K : KV) : kf P T.a #[(0, (.int .i64 x0)), (1, (.int .u64 x1)), (2, (.agg #[c2_0, c2_1])), (5, (.bool bo3)), (3, (.agg #[c4_0, c4_1])), (4, (.int .i64 x5))] w K = K (.agg #[(.int .i64 x0), (.int .u64 x1), c2_0, c2_1, c4_0, c4_1, (.int .i64 x5), (.bool bo3), nS, nS, nS]) w := kr
@[simp] theorem bqm : faT P T.m (pB B I) 5 W K = K (.pointer (some ⟨B, I + 7, none⟩)) W := kr
@[simp] theorem btl (v : Value) (w : World) (K : KV) : taT P (.iface T.z v) T.ap T.z true w K = K (.tuple #[v, .bool true]) w := kr
@[simp] theorem bve : alT P T.z W K = K (.pointer (some ⟨W.heap.size, 0, none⟩)) (W.alloc (.cells #[u0, i0] T.z)) := kr
@[simp] theorem btq (b i : Nat) (c_0 c_1 : Value) (w : World) (K : KV) : stT P T.z (pB b i) (.agg #[c_0, c_1]) w K = stN P b i [c_0, c_1] w K := kr
@[simp] theorem bpv : faT P T.z (pB B I) 0 W K = K (pB B I) W := kr
@[simp] theorem bue : faT P T.z (pB B I) 1 W K = K (.pointer (some ⟨B, I + 1, none⟩)) W := kr
@[simp] theorem buv (x0 : Int) (x1 : Int) (x2 : Int) (w : World) (K : KV) : kf P T.a #[(0, (.int .i64 x0)), (1, (.int .u64 x1)), (4, (.int .i64 x2))] w K = K (.agg #[(.int .i64 x0), (.int .u64 x1), u0, u0, u0, u0, (.int .i64 x2), bF, nS, nS, nS]) w := kr
@[simp] theorem bwd (v : Value) (w : World) (K : KV) : taT P (.iface T.n v) T.ap T.n true w K = K (.tuple #[v, .bool true]) w := kr
@[simp] theorem bsb : faT P T.n (pB B I) 0 W K = K (pB B I) W := kr
@[simp] theorem bpy : faT P T.e (pB B I) 3 W K = K (.pointer (some ⟨B, I + 3, none⟩)) W := kr
@[simp] theorem bpw (x0 : Int) (x1 : Int) (w : World) (K : KV) : bsT P T.ad 2 #[(0, (.int .i64 x0)), (1, (.int .i64 x1))] w K = K (.slice (some ⟨w.heap.size, 0, none⟩) 2 2) (w.alloc (.cells #[(.int .i64 x0), (.int .i64 x1)] T.b)) := kr
@[simp] theorem bqt (rx ry : Operand)  (w : World) (K : KV) : ib P .eql T.bg rx ry nP nP w K = K bY w := kr
@[simp] theorem bri (rx ry : Operand) (a : Addr) (w : World) (K : KV) : ib P .eql T.bg rx ry (.pointer (some a)) nP w K = K bF w := kr
@[simp] theorem bwx (rx ry : Operand) (l c : Nat) (w : World) (K : KV) : ib P .eql T.j rx ry (.slice none l c) nS w K = K bY w := kr
@[simp] theorem bsw (rx ry : Operand) (a : Addr) (l c : Nat) (w : World) (K : KV) : ib P .eql T.j rx ry (.slice (some a) l c) nS w K = K bF w := kr
@[simp] theorem brr : bsT P T.j 0 #[] W K = K (.slice (some ⟨W.heap.size, 0, none⟩) 0 0) (W.alloc (.cells #[] T.q)) := kr
@[simp] theorem brg (rx ry : Operand) (l c : Nat) (w : World) (K : KV) : ib P .eql T.i rx ry (.slice none l c) nS w K = K bY w := kr
@[simp] theorem bsc (rx ry : Operand) (a : Addr) (l c : Nat) (w : World) (K : KV) : ib P .eql T.i rx ry (.slice (some a) l c) nS w K = K bF w := kr
@[simp] theorem btm (x0 : Int) (p1 : Option Addr) (l1 c1 : Nat) (w : World) (K : KV) : kf P T.ac #[(1, (.int .i64 x0)), (2, (.slice p1 l1 c1))] w K = K (.agg #[i0, (.int .i64 x0), (.slice p1 l1 c1), i0]) w := kr
@[simp] theorem bxc (rx ry : Operand)  (w : World) (K : KV) : ib P .neq T.aa rx ry nP nP w K = K bF w := kr
@[simp] theorem bwo (rx ry : Operand) (a : Addr) (w : World) (K : KV) : ib P .neq T.aa rx ry (.pointer (some a)) nP w K = K bY w := kr
@[simp] theorem btj : faT P T.ag (pB B I) 0 W K = K (pB B I) W := kr
@[simp] theorem bqx : kf P T.ah #[] W K = K (.agg #[nS, nS]) W := kr
@[simp] theorem bqg : faT P T.e (pB B I) 4 W K = K (.pointer (some ⟨B, I + 4, none⟩)) W := kr
@[simp] theorem bxb : nk P T.bf = true := kr
@[simp] theorem bry : szE P T.bf = 1 := kr
@[simp] theorem bqr (x0 : Int) (x1 : Int) (w : World) (K : KV) : bsT P T.bf 2 #[(0, (.int .i64 x0)), (1, (.int .i64 x1))] w K = K (.slice (some ⟨w.heap.size, 0, none⟩) 2 2) (w.alloc (.cells #[(.int .i64 x0), (.int .i64 x1)] T.w)) := kr
@[simp] theorem bsh : faT P T.e (pB B I) 2 W K = K (.pointer (some ⟨B, I + 2, none⟩)) W := kr
@[simp] theorem buo : alT P T.x W K = K (.pointer (some ⟨W.heap.size, 0, none⟩)) (W.alloc (.cells #[u0] T.x)) := kr
@[simp] theorem bqs (b i : Nat) (x : Int) (w : World) (K : KV) : stT P T.x (pB b i) (.int .u64 x) w K = st1 P b i (.int .u64 x) w K := kr
theorem mt.aw : uw P T.aw .u64 T.aq bF := uw.mk' (key := T.g) (by kernel_rfl) (by kernel_rfl) (by kernel_rfl)
@[simp] theorem bqj : nk P T.ax = true := kr
@[simp] theorem btu : szE P T.ax = 1 := kr
theorem et.ax : mq P T.ax T.au 1 4 := mq.mk' (by kernel_rfl) (by kernel_rfl) (by kernel_rfl)
@[simp] theorem bxh : ldT P T.au (pB B I) W K = ld1 P B I W K := kr
@[simp] theorem buc : ldT P T.x (pB B I) W K = ld1 P B I W K := kr
@[simp] theorem bxi (x0 : Int) (w : World) (K : KV) : bsT P T.ax 1 #[(0, (.int .i32 x0))] w K = K (.slice (some ⟨w.heap.size, 0, none⟩) 1 1) (w.alloc (.cells #[(.int .i32 x0)] T.au)) := kr
end Go.Proofs.YtfnhoaemapheoaaGreat
