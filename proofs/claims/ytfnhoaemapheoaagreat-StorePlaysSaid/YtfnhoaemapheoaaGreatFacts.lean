/-
  Printed by wip/Shallow.lean: what the operations come to at this seat's types. No condition.
-/
import Derived.Test.YtfnhoaemapheoaaGreatN
import Derived.Test.YtfnhoaemapheoaaGreatZEng
set_option maxRecDepth 1000000
namespace Go.Proofs.YtfnhoaemapheoaaGreat
open Go.Eng
variable (B I : Nat) (W : World) (K : KV)
@[simp] theorem byp : ldT P T.ad (pB B I) W K = ld1 P B I W K := kr
@[simp] theorem bzn : ny P T.ad = true := kr
@[simp] theorem byv : szE P T.ad = 1 := kr
theorem et.ad : mi P T.ad T.c 1 8 := mi.mk' (by kernel_rfl) (by kernel_rfl) (by kernel_rfl)
@[simp] theorem byw : ldT P T.h (pB B I) W K = ld1 P B I W K := kr
@[simp] theorem byk : ldT P T.q (pB B I) W K = ld1 P B I W K := kr
@[simp] theorem bzf (x0 : Int) (x1 : Int) (w : World) (K : KV) : kg P T.d #[(0, (.int .u64 x0)), (1, (.int .u64 x1))] w K = K (.agg #[(.int .u64 x0), (.int .u64 x1)]) w := kr
@[simp] theorem bzu : alT P T.d W K = K (.pointer (some ⟨W.heap.size, 0, none⟩)) (W.alloc (.cells #[u0, u0] T.d)) := kr
@[simp] theorem bzh (b i : Nat) (c_0 c_1 : Value) (w : World) (K : KV) : stT P T.d (pB b i) (.agg #[c_0, c_1]) w K = stN P b i [c_0, c_1] w K := kr
@[simp] theorem bze : kg P T.d #[] W K = K (.agg #[u0, u0]) W := kr
@[simp] theorem bzj : ldT P T.c (pB B I) W K = ld1 P B I W K := kr
@[simp] theorem byq : ldT P T.d (pB B I) W K = ldN P 2 B I W K := kr
@[simp] theorem byo : alT P T.a W K = K (.pointer (some ⟨W.heap.size, 0, none⟩)) (W.alloc (.cells #[i0, u0, u0, u0, u0, u0, i0, bF, nS, nS, nS] T.a)) := kr
@[simp] theorem byl (b i : Nat) (c_0 c_1 c_2 c_3 c_4 c_5 c_6 c_7 c_8 c_9 c_10 : Value) (w : World) (K : KV) : stT P T.a (pB b i) (.agg #[c_0, c_1, c_2, c_3, c_4, c_5, c_6, c_7, c_8, c_9, c_10]) w K = stN P b i [c_0, c_1, c_2, c_3, c_4, c_5, c_6, c_7, c_8, c_9, c_10] w K := kr
@[simp] theorem bzi : faT P T.a (pB B I) 5 W K = K (.pointer (some ⟨B, I + 7, none⟩)) W := kr
@[simp] theorem bzb : ldT P T.au (pB B I) W K = ld1 P B I W K := kr
@[simp] theorem byn (b i : Nat) (bo : Bool) (w : World) (K : KV) : stT P T.au (pB b i) (.bool bo) w K = st1 P b i (.bool bo) w K := kr
@[simp] theorem bzv : faT P T.a (pB B I) 4 W K = K (.pointer (some ⟨B, I + 6, none⟩)) W := kr
@[simp] theorem bzx : faT P T.a (pB B I) 3 W K = K (.pointer (some ⟨B, I + 4, none⟩)) W := kr
@[simp] theorem byr : ldT P T.ap (pB B I) W K = ld1 P B I W K := kr
@[simp] theorem bzo (x0 : Int) (x1 : Int) (c2_0 c2_1 : Value) (x3 : Int) (w : World) (K : KV) : kg P T.a #[(0, (.int .i64 x0)), (1, (.int .u64 x1)), (2, (.agg #[c2_0, c2_1])), (4, (.int .i64 x3))] w K = K (.agg #[(.int .i64 x0), (.int .u64 x1), c2_0, c2_1, u0, u0, (.int .i64 x3), bF, nS, nS, nS]) w := kr
@[simp] theorem byy : ldT P T.a (pB B I) W K = ldN P 11 B I W K := kr
@[simp] theorem bza : faT P T.a (pB B I) 2 W K = K (.pointer (some ⟨B, I + 2, none⟩)) W := kr
@[simp] theorem bym : kg P T.a #[] W K = K (.agg #[i0, u0, u0, u0, u0, u0, i0, bF, nS, nS, nS]) W := kr
@[simp] theorem byx : faT P T.a (pB B I) 1 W K = K (.pointer (some ⟨B, I + 1, none⟩)) W := kr
@[simp] theorem bzw : faT P T.a (pB B I) 0 W K = K (pB B I) W := kr
@[simp] theorem bzl (rx ry : Operand) (a : Addr) (w : World) (K : KV) : ik P .eql T.ax rx ry (.pointer (some a)) nP w K = K bF w := kr
@[simp] theorem bzs : ny P T.b = true := kr
@[simp] theorem bzk : szE P T.b = 8 := kr
theorem et.b : mi P T.b T.e 8 80 := mi.mk' (by kernel_rfl) (by kernel_rfl) (by kernel_rfl)
@[simp] theorem bzd : faT P T.a (pB B I) 6 W K = K (.pointer (some ⟨B, I + 8, none⟩)) W := kr
@[simp] theorem bys : ldT P T.b (pB B I) W K = ld1 P B I W K := kr
@[simp] theorem byz : ldT P T.e (pB B I) W K = ldN P 8 B I W K := kr
@[simp] theorem bzp : ny P T.af = true := kr
@[simp] theorem bzq : szE P T.af = 14 := kr
theorem et.af : mi P T.af T.av 14 176 := mi.mk' (by kernel_rfl) (by kernel_rfl) (by kernel_rfl)
@[simp] theorem bzg : faT P T.av (pB B I) 0 W K = K (pB B I) W := kr
@[simp] theorem bzt : faT P T.av (pB B I) 2 W K = K (.pointer (some ⟨B, I + 2, none⟩)) W := kr
theorem et.j : mi P T.j T.ac 10 96 := mi.mk' (by kernel_rfl) (by kernel_rfl) (by kernel_rfl)
@[simp] theorem bzc : faT P T.ac (pB B I) 1 W K = K (.pointer (some ⟨B, I + 2, none⟩)) W := kr
@[simp] theorem byu : bsT P T.j 0 #[] W K = K (.slice (some ⟨W.heap.size, 0, none⟩) 0 0) (W.alloc (.cells #[] T.ac)) := kr
@[simp] theorem bzm : ny P T.f = true := kr
@[simp] theorem bzy : szE P T.f = 1 := kr
theorem et.f : mi P T.f T.h 1 8 := mi.mk' (by kernel_rfl) (by kernel_rfl) (by kernel_rfl)
@[simp] theorem bwa (x0 : Int) (r1 : Option Nat) (w : World) (K : KV) : kg P T.ah #[(0, (.int .i64 x0)), (1, (.map r1))] w K = K (.agg #[(.int .i64 x0), (.map r1), i0, bF, bF]) w := kr
@[simp] theorem btu : ny P T.m = true := kr
@[simp] theorem btv : szE P T.m = 1 := kr
theorem et.m : mi P T.m T.g 1 24 := mi.mk' (by kernel_rfl) (by kernel_rfl) (by kernel_rfl)
@[simp] theorem brz : ldT P T.g (pB B I) W K = ld1 P B I W K := kr
@[simp] theorem bul : faT P T.d (pB B I) 0 W K = K (pB B I) W := kr
@[simp] theorem bwk : faT P T.d (pB B I) 1 W K = K (.pointer (some ⟨B, I + 1, none⟩)) W := kr
@[simp] theorem bry (rx ry : Operand) (a : Addr) (w : World) (K : KV) : ik P .eql T.ap rx ry (.pointer (some a)) nP w K = K bF w := kr
@[simp] theorem bsn : faT P T.ah (pB B I) 1 W K = K (.pointer (some ⟨B, I + 1, none⟩)) W := kr
@[simp] theorem bwf : ldT P T.p (pB B I) W K = ld1 P B I W K := kr
theorem mt.p : vp P T.p .i64 T.bh nP := vp.mk' (key := T.c) (by kernel_rfl) (by kernel_rfl) (by kernel_rfl)
@[simp] theorem bua : faT P T.ai (pB B I) 1 W K = K (.pointer (some ⟨B, I + 1, none⟩)) W := kr
@[simp] theorem bur : ny P T.g = true := kr
@[simp] theorem btw : szE P T.g = 1 := kr
theorem et.g : mi P T.g T.ao 1 1 := mi.mk' (by kernel_rfl) (by kernel_rfl) (by kernel_rfl)
@[simp] theorem bvz : faT P T.ai (pB B I) 0 W K = K (pB B I) W := kr
@[simp] theorem bqo (p0 : Option Addr) (l0 c0 : Nat) (p1 : Option Addr) (l1 c1 : Nat) (w : World) (K : KV) : bsT P T.m 2 #[(0, (.slice p0 l0 c0)), (1, (.slice p1 l1 c1))] w K = K (.slice (some ⟨w.heap.size, 0, none⟩) 2 2) (w.alloc (.cells #[(.slice p0 l0 c0), (.slice p1 l1 c1)] T.g)) := kr
@[simp] theorem buo (b i : Nat) (p : Option Addr) (l c : Nat) (w : World) (K : KV) : stT P T.g (pB b i) (.slice p l c) w K = st1 P b i (.slice p l c) w K := kr
@[simp] theorem btj : faT P T.ah (pB B I) 3 W K = K (.pointer (some ⟨B, I + 3, none⟩)) W := kr
@[simp] theorem bsf : faT P T.ah (pB B I) 4 W K = K (.pointer (some ⟨B, I + 4, none⟩)) W := kr
@[simp] theorem bxk (v : Value) (w : World) (K : KV) : taT P (.iface T.y v) T.ar T.y true w K = K (.tuple #[v, .bool true]) w := kr
@[simp] theorem bxy : alT P T.y W K = K (.pointer (some ⟨W.heap.size, 0, none⟩)) (W.alloc (.cells #[u0, u0, u0, i0] T.y)) := kr
@[simp] theorem bvh (b i : Nat) (c_0 c_1 c_2 c_3 : Value) (w : World) (K : KV) : stT P T.y (pB b i) (.agg #[c_0, c_1, c_2, c_3]) w K = stN P b i [c_0, c_1, c_2, c_3] w K := kr
@[simp] theorem bxr : faT P T.y (pB B I) 0 W K = K (pB B I) W := kr
@[simp] theorem bww : faT P T.y (pB B I) 1 W K = K (.pointer (some ⟨B, I + 1, none⟩)) W := kr
@[simp] theorem brj : faT P T.y (pB B I) 2 W K = K (.pointer (some ⟨B, I + 3, none⟩)) W := kr
@[simp] theorem bqz (p0 : Option Addr) (l0 c0 : Nat) (w : World) (K : KV) : bsT P T.m 1 #[(0, (.slice p0 l0 c0))] w K = K (.slice (some ⟨w.heap.size, 0, none⟩) 1 1) (w.alloc (.cells #[(.slice p0 l0 c0)] T.g)) := kr
@[simp] theorem bty : faT P T.a (pB B I) 7 W K = K (.pointer (some ⟨B, I + 9, none⟩)) W := kr
@[simp] theorem btt : ldT P T.k (pB B I) W K = ld1 P B I W K := kr
@[simp] theorem bvp : ny P T.k = true := kr
@[simp] theorem bud : szE P T.k = 3 := kr
theorem et.k : mi P T.k T.r 3 24 := mi.mk' (by kernel_rfl) (by kernel_rfl) (by kernel_rfl)
@[simp] theorem bxf : faT P T.a (pB B I) 8 W K = K (.pointer (some ⟨B, I + 10, none⟩)) W := kr
@[simp] theorem bwh : ldT P T.f (pB B I) W K = ld1 P B I W K := kr
@[simp] theorem brk : ldT P T.r (pB B I) W K = ldN P 3 B I W K := kr
@[simp] theorem bvn : ldT P T.bf (pB B I) W K = ld1 P B I W K := kr
@[simp] theorem bxq (rx ry : Operand) (a : Addr) (w : World) (K : KV) : ik P .neq T.ap rx ry (.pointer (some a)) nP w K = K bY w := kr
@[simp] theorem bwg : faT P T.ah (pB B I) 2 W K = K (.pointer (some ⟨B, I + 2, none⟩)) W := kr
@[simp] theorem bsr (b i : Nat) (x : Int) (w : World) (K : KV) : stT P T.c (pB b i) (.int .i64 x) w K = st1 P b i (.int .i64 x) w K := kr
@[simp] theorem bvr : faT P T.e (pB B I) 6 W K = K (.pointer (some ⟨B, I + 6, none⟩)) W := kr
@[simp] theorem bqy : ldT P T.ag (pB B I) W K = ld1 P B I W K := kr
@[simp] theorem bsp : faT P T.e (pB B I) 5 W K = K (.pointer (some ⟨B, I + 5, none⟩)) W := kr
@[simp] theorem buy (x0 : Int) (x1 : Int) (s2 : ByteArray) (s3 : ByteArray) (w : World) (K : KV) : kg P T.e #[(0, (.int .u64 x0)), (1, (.int .u64 x1)), (5, (.string s2)), (6, (.string s3))] w K = K (.agg #[(.int .u64 x0), (.int .u64 x1), u0, u0, u0, (.string s2), (.string s3), bF]) w := kr
@[simp] theorem bvq (c0_0 c0_1 c0_2 c0_3 c0_4 c0_5 c0_6 c0_7 : Value) (c1_0 c1_1 c1_2 c1_3 c1_4 c1_5 c1_6 c1_7 : Value) (w : World) (K : KV) : bsT P T.b 2 #[(0, (.agg #[c0_0, c0_1, c0_2, c0_3, c0_4, c0_5, c0_6, c0_7])), (1, (.agg #[c1_0, c1_1, c1_2, c1_3, c1_4, c1_5, c1_6, c1_7]))] w K = K (.slice (some ⟨w.heap.size, 0, none⟩) 2 2) (w.alloc (.cells #[c0_0, c0_1, c0_2, c0_3, c0_4, c0_5, c0_6, c0_7, c1_0, c1_1, c1_2, c1_3, c1_4, c1_5, c1_6, c1_7] T.e)) := kr
@[simp] theorem bqq (x0 : Int) (w : World) (K : KV) : kg P T.d #[(0, (.int .u64 x0))] w K = K (.agg #[(.int .u64 x0), u0]) w := kr
@[simp] theorem bxg (x0 : Int) (x1 : Int) (c2_0 c2_1 : Value) (p3 : Option Addr) (l3 c3 : Nat) (w : World) (K : KV) : kg P T.a #[(0, (.int .i64 x0)), (1, (.int .u64 x1)), (2, (.agg #[c2_0, c2_1])), (6, (.slice p3 l3 c3))] w K = K (.agg #[(.int .i64 x0), (.int .u64 x1), c2_0, c2_1, u0, u0, i0, bF, (.slice p3 l3 c3), nS, nS]) w := kr
@[simp] theorem bun (rx ry : Operand) (a : Addr) (w : World) (K : KV) : ik P .neq T.ax rx ry (.pointer (some a)) nP w K = K bY w := kr
@[simp] theorem brq : faT P T.e (pB B I) 1 W K = K (.pointer (some ⟨B, I + 1, none⟩)) W := kr
@[simp] theorem byf (p0 : Option Addr) (p1 : Option Addr) (r2 : Option Nat) (w : World) (K : KV) : kg P T.ak #[(0, (.pointer p0)), (1, (.pointer p1)), (2, (.map r2))] w K = K (.agg #[(.pointer p0), (.pointer p1), (.map r2), bF]) w := kr
@[simp] theorem bva : alT P T.e W K = K (.pointer (some ⟨W.heap.size, 0, none⟩)) (W.alloc (.cells #[u0, u0, u0, u0, u0, (.string ⟨#[]⟩), (.string ⟨#[]⟩), bF] T.e)) := kr
@[simp] theorem brr (b i : Nat) (c_0 c_1 c_2 c_3 c_4 c_5 c_6 c_7 : Value) (w : World) (K : KV) : stT P T.e (pB b i) (.agg #[c_0, c_1, c_2, c_3, c_4, c_5, c_6, c_7]) w K = stN P b i [c_0, c_1, c_2, c_3, c_4, c_5, c_6, c_7] w K := kr
@[simp] theorem btb (v : Value) (w : World) (K : KV) : taT P (.iface T.i v) T.ar T.i true w K = K (.tuple #[v, .bool true]) w := kr
@[simp] theorem bvm : alT P T.i W K = K (.pointer (some ⟨W.heap.size, 0, none⟩)) (W.alloc (.cells #[u0, u0, u0, nS] T.i)) := kr
@[simp] theorem byh (b i : Nat) (c_0 c_1 c_2 c_3 : Value) (w : World) (K : KV) : stT P T.i (pB b i) (.agg #[c_0, c_1, c_2, c_3]) w K = stN P b i [c_0, c_1, c_2, c_3] w K := kr
@[simp] theorem bxz : faT P T.ak (pB B I) 3 W K = K (.pointer (some ⟨B, I + 3, none⟩)) W := kr
@[simp] theorem bux : faT P T.ak (pB B I) 0 W K = K (pB B I) W := kr
@[simp] theorem byi : faT P T.i (pB B I) 2 W K = K (.pointer (some ⟨B, I + 3, none⟩)) W := kr
@[simp] theorem bvt : faT P T.i (pB B I) 1 W K = K (.pointer (some ⟨B, I + 1, none⟩)) W := kr
@[simp] theorem bsh : faT P T.i (pB B I) 0 W K = K (pB B I) W := kr
@[simp] theorem brf (x0 : Int) (w : World) (K : KV) : kg P T.o #[(0, (.int .u64 x0))] w K = K (.agg #[(.int .u64 x0), nS]) w := kr
@[simp] theorem bwl : alT P T.o W K = K (.pointer (some ⟨W.heap.size, 0, none⟩)) (W.alloc (.cells #[u0, nS] T.o)) := kr
@[simp] theorem bqt (b i : Nat) (c_0 c_1 : Value) (w : World) (K : KV) : stT P T.o (pB b i) (.agg #[c_0, c_1]) w K = stN P b i [c_0, c_1] w K := kr
@[simp] theorem btd : faT P T.o (pB B I) 1 W K = K (.pointer (some ⟨B, I + 1, none⟩)) W := kr
@[simp] theorem buu (x0 : Int) (w : World) (K : KV) : bsT P T.f 1 #[(0, (.int .u64 x0))] w K = K (.slice (some ⟨w.heap.size, 0, none⟩) 1 1) (w.alloc (.cells #[(.int .u64 x0)] T.h)) := kr
@[simp] theorem bwm (b i : Nat) (p : Option Addr) (l c : Nat) (w : World) (K : KV) : stT P T.f (pB b i) (.slice p l c) w K = st1 P b i (.slice p l c) w K := kr
@[simp] theorem bvv : ldT P T.o (pB B I) W K = ldN P 2 B I W K := kr
@[simp] theorem bwb (v : Value) (w : World) (K : KV) : vx P T.o v w K = K (.iface T.o v) w := kr
@[simp] theorem buz : faT P T.ak (pB B I) 2 W K = K (.pointer (some ⟨B, I + 2, none⟩)) W := kr
@[simp] theorem bvw : ldT P T.l (pB B I) W K = ld1 P B I W K := kr
theorem mt.l : vp P T.l .u64 T.bc nP := vp.mk' (key := T.h) (by kernel_rfl) (by kernel_rfl) (by kernel_rfl)
@[simp] theorem bxo (rx ry : Operand)  (w : World) (K : KV) : ik P .eql T.bc rx ry nP nP w K = K bY w := kr
@[simp] theorem bqx (rx ry : Operand) (a : Addr) (w : World) (K : KV) : ik P .eql T.bc rx ry (.pointer (some a)) nP w K = K bF w := kr
@[simp] theorem bxu : faT P T.aq (pB B I) 0 W K = K (pB B I) W := kr
@[simp] theorem buq : ldT P T.t (pB B I) W K = ld1 P B I W K := kr
@[simp] theorem bug (c0_0 c0_1 : Value) (c1_0 c1_1 c1_2 c1_3 c1_4 c1_5 c1_6 c1_7 : Value) (w : World) (K : KV) : kg P T.ac #[(0, (.agg #[c0_0, c0_1])), (1, (.agg #[c1_0, c1_1, c1_2, c1_3, c1_4, c1_5, c1_6, c1_7]))] w K = K (.agg #[c0_0, c0_1, c1_0, c1_1, c1_2, c1_3, c1_4, c1_5, c1_6, c1_7]) w := kr
@[simp] theorem brc (c0_0 c0_1 c0_2 c0_3 c0_4 c0_5 c0_6 c0_7 c0_8 c0_9 : Value) (w : World) (K : KV) : bsT P T.j 1 #[(0, (.agg #[c0_0, c0_1, c0_2, c0_3, c0_4, c0_5, c0_6, c0_7, c0_8, c0_9]))] w K = K (.slice (some ⟨w.heap.size, 0, none⟩) 1 1) (w.alloc (.cells #[c0_0, c0_1, c0_2, c0_3, c0_4, c0_5, c0_6, c0_7, c0_8, c0_9] T.ac)) := kr
@[simp] theorem brb : bsT P T.f 0 #[] W K = K (.slice (some ⟨W.heap.size, 0, none⟩) 0 0) (W.alloc (.cells #[] T.h)) := kr
@[simp] theorem bxb (x0 : Int) (x1 : Int) (p2 : Option Addr) (l2 c2 : Nat) (w : World) (K : KV) : kg P T.a #[(0, (.int .i64 x0)), (1, (.int .u64 x1)), (8, (.slice p2 l2 c2))] w K = K (.agg #[(.int .i64 x0), (.int .u64 x1), u0, u0, u0, u0, i0, bF, nS, nS, (.slice p2 l2 c2)]) w := kr
@[simp] theorem bsv : faT P T.aq (pB B I) 1 W K = K (.pointer (some ⟨B, I + 1, none⟩)) W := kr
@[simp] theorem bwj (p0 : Option Addr) (x1 : Int) (w : World) (K : KV) : kg P T.ab #[(0, (.pointer p0)), (1, (.int .i64 x1))] w K = K (.agg #[(.pointer p0), (.int .i64 x1), nS]) w := kr
@[simp] theorem bso (rx ry : Operand)  (w : World) (K : KV) : ik P .eql T.aa rx ry nP nP w K = K bY w := kr
@[simp] theorem bra (rx ry : Operand) (a : Addr) (w : World) (K : KV) : ik P .eql T.aa rx ry (.pointer (some a)) nP w K = K bF w := kr
@[simp] theorem brp : faT P T.ab (pB B I) 2 W K = K (.pointer (some ⟨B, I + 2, none⟩)) W := kr
@[simp] theorem bsx : ldT P T.v (pB B I) W K = ld1 P B I W K := kr
@[simp] theorem bsu : ny P T.v = true := kr
@[simp] theorem bvk : szE P T.v = 1 := kr
theorem et.v : mi P T.v T.aa 1 8 := mi.mk' (by kernel_rfl) (by kernel_rfl) (by kernel_rfl)
@[simp] theorem buc : faT P T.ae (pB B I) 1 W K = K (.pointer (some ⟨B, I + 1, none⟩)) W := kr
@[simp] theorem bsy (p0 : Option Addr) (w : World) (K : KV) : bsT P T.v 1 #[(0, (.pointer p0))] w K = K (.slice (some ⟨w.heap.size, 0, none⟩) 1 1) (w.alloc (.cells #[(.pointer p0)] T.aa)) := kr
@[simp] theorem bxn (b i : Nat) (p : Option Addr) (l c : Nat) (w : World) (K : KV) : stT P T.v (pB b i) (.slice p l c) w K = st1 P b i (.slice p l c) w K := kr
@[simp] theorem bsb (rx ry : Operand) (a : Addr) (w : World) (K : KV) : ik P .eql T.bf rx ry (.pointer (some a)) nP w K = K bF w := kr
@[simp] theorem bsa : ldT P T.aa (pB B I) W K = ld1 P B I W K := kr
@[simp] theorem bsm : faT P T.ae (pB B I) 2 W K = K (.pointer (some ⟨B, I + 2, none⟩)) W := kr
@[simp] theorem bvy : ldT P T.m (pB B I) W K = ld1 P B I W K := kr
@[simp] theorem byg (b i : Nat) (x : Int) (w : World) (K : KV) : stT P T.h (pB b i) (.int .u64 x) w K = st1 P b i (.int .u64 x) w K := kr
@[simp] theorem bqr : ldT P T.ao (pB B I) W K = ld1 P B I W K := kr
@[simp] theorem bus : faT P T.ab (pB B I) 0 W K = K (pB B I) W := kr
@[simp] theorem bvx : faT P T.ae (pB B I) 0 W K = K (pB B I) W := kr
@[simp] theorem bwx (v : Value) (w : World) (K : KV) : vx P T.ag v w K = K (.iface T.ag v) w := kr
@[simp] theorem bxs (x0 : Int) (w : World) (K : KV) : bsT P T.g 1 #[(0, (.int .u8 x0))] w K = K (.slice (some ⟨w.heap.size, 0, none⟩) 1 1) (w.alloc (.cells #[(.int .u8 x0)] T.ao)) := kr
@[simp] theorem bto (b i : Nat) (x : Int) (w : World) (K : KV) : stT P T.q (pB b i) (.int .i64 x) w K = st1 P b i (.int .i64 x) w K := kr
@[simp] theorem bvc : faT P T.e (pB B I) 0 W K = K (pB B I) W := kr
@[simp] theorem brt (c0_0 c0_1 c0_2 c0_3 c0_4 c0_5 c0_6 c0_7 : Value) (w : World) (K : KV) : bsT P T.b 1 #[(0, (.agg #[c0_0, c0_1, c0_2, c0_3, c0_4, c0_5, c0_6, c0_7]))] w K = K (.slice (some ⟨w.heap.size, 0, none⟩) 1 1) (w.alloc (.cells #[c0_0, c0_1, c0_2, c0_3, c0_4, c0_5, c0_6, c0_7] T.e)) := kr
@[simp] theorem bwz (r0 : Option Nat) (w : World) (K : KV) : kg P T.aq #[(0, (.map r0))] w K = K (.agg #[(.map r0), u0, u0]) w := kr
theorem mt.t : vp P T.t .u64 T.e (.agg #[u0, u0, u0, u0, u0, (.string ⟨#[]⟩), (.string ⟨#[]⟩), bF]) := vp.mk' (key := T.h) (by kernel_rfl) (by kernel_rfl) (by kernel_rfl)
theorem et.al : mi P T.al T.d 2 16 := mi.mk' (by kernel_rfl) (by kernel_rfl) (by kernel_rfl)
@[simp] theorem bue (c0_0 c0_1 : Value) (c1_0 c1_1 : Value) (w : World) (K : KV) : bsT P T.al 2 #[(0, (.agg #[c0_0, c0_1])), (1, (.agg #[c1_0, c1_1]))] w K = K (.slice (some ⟨w.heap.size, 0, none⟩) 2 2) (w.alloc (.cells #[c0_0, c0_1, c1_0, c1_1] T.d)) := kr
@[simp] theorem bxp (rx ry : Operand) (l c : Nat) (w : World) (K : KV) : ik P .eql T.b rx ry (.slice none l c) nS w K = K bY w := kr
@[simp] theorem bya (rx ry : Operand) (a : Addr) (l c : Nat) (w : World) (K : KV) : ik P .eql T.b rx ry (.slice (some a) l c) nS w K = K bF w := kr
@[simp] theorem bsl : bsT P T.b 0 #[] W K = K (.slice (some ⟨W.heap.size, 0, none⟩) 0 0) (W.alloc (.cells #[] T.e)) := kr
@[simp] theorem bxl : faT P T.ak (pB B I) 1 W K = K (.pointer (some ⟨B, I + 1, none⟩)) W := kr
@[simp] theorem bws : faT P T.ac (pB B I) 0 W K = K (pB B I) W := kr
@[simp] theorem bsd (c0_0 c0_1 : Value) (w : World) (K : KV) : bsT P T.al 1 #[(0, (.agg #[c0_0, c0_1]))] w K = K (.slice (some ⟨w.heap.size, 0, none⟩) 1 1) (w.alloc (.cells #[c0_0, c0_1] T.d)) := kr
@[simp] theorem bxx : ny P T.bb = true := kr
@[simp] theorem btr : szE P T.bb = 1 := kr
@[simp] theorem byb (p0 : Option Addr) (l0 c0 : Nat) (p1 : Option Addr) (l1 c1 : Nat) (w : World) (K : KV) : bsT P T.bb 2 #[(0, (.slice p0 l0 c0)), (1, (.slice p1 l1 c1))] w K = K (.slice (some ⟨w.heap.size, 0, none⟩) 2 2) (w.alloc (.cells #[(.slice p0 l0 c0), (.slice p1 l1 c1)] T.ad)) := kr
@[simp] theorem bxe (x0 : Int) (x1 : Int) (p2 : Option Addr) (l2 c2 : Nat) (x3 : Int) (w : World) (K : KV) : kg P T.ae #[(0, (.int .i64 x0)), (1, (.int .i64 x1)), (2, (.slice p2 l2 c2)), (3, (.int .i64 x3))] w K = K (.agg #[(.int .i64 x0), (.int .i64 x1), (.slice p2 l2 c2), (.int .i64 x3)]) w := kr
@[simp] theorem brn (rx ry : Operand) (l c : Nat) (w : World) (K : KV) : ik P .eql T.g rx ry (.slice none l c) nS w K = K bY w := kr
@[simp] theorem bse (rx ry : Operand) (a : Addr) (l c : Nat) (w : World) (K : KV) : ik P .eql T.g rx ry (.slice (some a) l c) nS w K = K bF w := kr
@[simp] theorem brl : bsT P T.g 0 #[] W K = K (.slice (some ⟨W.heap.size, 0, none⟩) 0 0) (W.alloc (.cells #[] T.ao)) := kr
@[simp] theorem bum (x0 : Int) (bo1 : Bool) (p2 : Option Addr) (l2 c2 : Nat) (w : World) (K : KV) : kg P T.s #[(0, (.int .u64 x0)), (1, (.bool bo1)), (2, (.slice p2 l2 c2))] w K = K (.agg #[(.int .u64 x0), (.bool bo1), (.slice p2 l2 c2)]) w := kr
@[simp] theorem btc (v : Value) (w : World) (K : KV) : vx P T.s v w K = K (.iface T.s v) w := kr
@[simp] theorem bvo (p0 : Option Addr) (l0 c0 : Nat) (w : World) (K : KV) : kg P T.u #[(0, (.slice p0 l0 c0))] w K = K (.agg #[(.slice p0 l0 c0)]) w := kr
@[simp] theorem btg (v : Value) (w : World) (K : KV) : vx P T.u v w K = K (.iface T.u v) w := kr
@[simp] theorem bqv (x0 : Int) (c1_0 c1_1 : Value) (x2 : Int) (w : World) (K : KV) : kg P T.y #[(0, (.int .u64 x0)), (1, (.agg #[c1_0, c1_1])), (2, (.int .i64 x2))] w K = K (.agg #[(.int .u64 x0), c1_0, c1_1, (.int .i64 x2)]) w := kr
@[simp] theorem but (v : Value) (w : World) (K : KV) : vx P T.y v w K = K (.iface T.y v) w := kr
@[simp] theorem bwy (x0 : Int) (c1_0 c1_1 : Value) (bo2 : Bool) (c3_0 c3_1 : Value) (x4 : Int) (bo5 : Bool) (w : World) (K : KV) : kg P T.n #[(0, (.int .u64 x0)), (1, (.agg #[c1_0, c1_1])), (2, (.bool bo2)), (3, (.agg #[c3_0, c3_1])), (4, (.int .i64 x4)), (5, (.bool bo5))] w K = K (.agg #[(.int .u64 x0), c1_0, c1_1, (.bool bo2), c3_0, c3_1, (.int .i64 x4), (.bool bo5)]) w := kr
@[simp] theorem bss (v : Value) (w : World) (K : KV) : vx P T.n v w K = K (.iface T.n v) w := kr
@[simp] theorem btz (x0 : Int) (x1 : Int) (w : World) (K : KV) : kg P T.z #[(0, (.int .u64 x0)), (1, (.int .i64 x1))] w K = K (.agg #[(.int .u64 x0), (.int .i64 x1)]) w := kr
@[simp] theorem byd (v : Value) (w : World) (K : KV) : vx P T.z v w K = K (.iface T.z v) w := kr
@[simp] theorem bth (x0 : Int) (c1_0 c1_1 : Value) (p2 : Option Addr) (l2 c2 : Nat) (w : World) (K : KV) : kg P T.i #[(0, (.int .u64 x0)), (1, (.agg #[c1_0, c1_1])), (2, (.slice p2 l2 c2))] w K = K (.agg #[(.int .u64 x0), c1_0, c1_1, (.slice p2 l2 c2)]) w := kr
@[simp] theorem bvd (v : Value) (w : World) (K : KV) : vx P T.i v w K = K (.iface T.i v) w := kr
@[simp] theorem bui (x0 : Int) (p1 : Option Addr) (l1 c1 : Nat) (w : World) (K : KV) : kg P T.o #[(0, (.int .u64 x0)), (1, (.slice p1 l1 c1))] w K = K (.agg #[(.int .u64 x0), (.slice p1 l1 c1)]) w := kr
@[simp] theorem buk : faT P T.ae (pB B I) 3 W K = K (.pointer (some ⟨B, I + 3, none⟩)) W := kr
@[simp] theorem bsq : faT P T.ab (pB B I) 1 W K = K (.pointer (some ⟨B, I + 1, none⟩)) W := kr
@[simp] theorem bsg (b i : Nat) (p : Option Addr) (l c : Nat) (w : World) (K : KV) : stT P T.m (pB b i) (.slice p l c) w K = st1 P b i (.slice p l c) w K := kr
@[simp] theorem btn (x0 : Int) (x1 : Int) (w : World) (K : KV) : kg P T.a #[(0, (.int .i64 x0)), (1, (.int .u64 x1))] w K = K (.agg #[(.int .i64 x0), (.int .u64 x1), u0, u0, u0, u0, i0, bF, nS, nS, nS]) w := kr
@[simp] theorem bvg (b i : Nat) (p : Option Addr) (l c : Nat) (w : World) (K : KV) : stT P T.b (pB b i) (.slice p l c) w K = st1 P b i (.slice p l c) w K := kr
@[simp] theorem bru (b i : Nat) (p : Option Addr) (l c : Nat) (w : World) (K : KV) : stT P T.k (pB b i) (.slice p l c) w K = st1 P b i (.slice p l c) w K := kr
@[simp] theorem bwt : alT P T.r W K = K (.pointer (some ⟨W.heap.size, 0, none⟩)) (W.alloc (.cells #[u0, u0, i0] T.r)) := kr
@[simp] theorem bvf (b i : Nat) (c_0 c_1 c_2 : Value) (w : World) (K : KV) : stT P T.r (pB b i) (.agg #[c_0, c_1, c_2]) w K = stN P b i [c_0, c_1, c_2] w K := kr
@[simp] theorem bsi : faT P T.r (pB B I) 0 W K = K (pB B I) W := kr
@[simp] theorem buf : faT P T.r (pB B I) 1 W K = K (.pointer (some ⟨B, I + 1, none⟩)) W := kr
@[simp] theorem bqw : faT P T.r (pB B I) 2 W K = K (.pointer (some ⟨B, I + 2, none⟩)) W := kr
@[simp] theorem bsz (p0 : Option Addr) (l0 c0 : Nat) (w : World) (K : KV) : kg P T.aj #[(0, (.slice p0 l0 c0))] w K = K (.agg #[(.slice p0 l0 c0), i0]) w := kr
@[simp] theorem bwu (x0 : Int) (x1 : Int) (x2 : Int) (x3 : Int) (x4 : Int) (w : World) (K : KV) : kg P T.e #[(0, (.int .u64 x0)), (1, (.int .u64 x1)), (2, (.int .u64 x2)), (3, (.int .u64 x3)), (4, (.int .u64 x4))] w K = K (.agg #[(.int .u64 x0), (.int .u64 x1), (.int .u64 x2), (.int .u64 x3), (.int .u64 x4), (.string ⟨#[]⟩), (.string ⟨#[]⟩), bF]) w := kr
@[simp] theorem bqs : faT P T.e (pB B I) 7 W K = K (.pointer (some ⟨B, I + 7, none⟩)) W := kr
@[simp] theorem bwe (b i : Nat) (s : ByteArray) (w : World) (K : KV) : stT P T.ag (pB b i) (.string s) w K = st1 P b i (.string s) w K := kr
@[simp] theorem bvi : faT P T.aj (pB B I) 1 W K = K (.pointer (some ⟨B, I + 1, none⟩)) W := kr
@[simp] theorem bqp : ldT P T.w (pB B I) W K = ld1 P B I W K := kr
@[simp] theorem bxd (b i : Nat) (x : Int) (w : World) (K : KV) : stT P T.w (pB b i) (.int .i64 x) w K = st1 P b i (.int .i64 x) w K := kr
@[simp] theorem bst : kg P T.e #[] W K = K (.agg #[u0, u0, u0, u0, u0, (.string ⟨#[]⟩), (.string ⟨#[]⟩), bF]) W := kr
@[simp] theorem brx : faT P T.aj (pB B I) 0 W K = K (pB B I) W := kr
@[simp] theorem bsw (v : Value) (w : World) (K : KV) : taT P (.iface T.s v) T.ar T.s true w K = K (.tuple #[v, .bool true]) w := kr
@[simp] theorem brs : alT P T.s W K = K (.pointer (some ⟨W.heap.size, 0, none⟩)) (W.alloc (.cells #[u0, bF, nS] T.s)) := kr
@[simp] theorem bwo (b i : Nat) (c_0 c_1 c_2 : Value) (w : World) (K : KV) : stT P T.s (pB b i) (.agg #[c_0, c_1, c_2]) w K = stN P b i [c_0, c_1, c_2] w K := kr
@[simp] theorem bye : faT P T.s (pB B I) 0 W K = K (pB B I) W := kr
@[simp] theorem brh : faT P T.s (pB B I) 2 W K = K (.pointer (some ⟨B, I + 2, none⟩)) W := kr
@[simp] theorem brm (x0 : Int) (x1 : Int) (p2 : Option Addr) (l2 c2 : Nat) (w : World) (K : KV) : kg P T.a #[(0, (.int .i64 x0)), (1, (.int .u64 x1)), (6, (.slice p2 l2 c2))] w K = K (.agg #[(.int .i64 x0), (.int .u64 x1), u0, u0, u0, u0, i0, bF, (.slice p2 l2 c2), nS, nS]) w := kr
@[simp] theorem bxh : faT P T.s (pB B I) 1 W K = K (.pointer (some ⟨B, I + 1, none⟩)) W := kr
@[simp] theorem bro (v : Value) (w : World) (K : KV) : taT P (.iface T.u v) T.ar T.u true w K = K (.tuple #[v, .bool true]) w := kr
@[simp] theorem bvu : alT P T.u W K = K (.pointer (some ⟨W.heap.size, 0, none⟩)) (W.alloc (.cells #[nS] T.u)) := kr
@[simp] theorem bqu (b i : Nat) (c_0 : Value) (w : World) (K : KV) : stT P T.u (pB b i) (.agg #[c_0]) w K = stN P b i [c_0] w K := kr
@[simp] theorem bvb : faT P T.u (pB B I) 0 W K = K (pB B I) W := kr
@[simp] theorem bwc (x0 : Int) (p1 : Option Addr) (l1 c1 : Nat) (w : World) (K : KV) : kg P T.a #[(0, (.int .i64 x0)), (7, (.slice p1 l1 c1))] w K = K (.agg #[(.int .i64 x0), u0, u0, u0, u0, u0, i0, bF, nS, (.slice p1 l1 c1), nS]) w := kr
@[simp] theorem bwn (v : Value) (w : World) (K : KV) : taT P (.iface T.n v) T.ar T.n true w K = K (.tuple #[v, .bool true]) w := kr
@[simp] theorem brg : alT P T.n W K = K (.pointer (some ⟨W.heap.size, 0, none⟩)) (W.alloc (.cells #[u0, u0, u0, bF, u0, u0, i0, bF] T.n)) := kr
@[simp] theorem bri (b i : Nat) (c_0 c_1 c_2 c_3 c_4 c_5 c_6 c_7 : Value) (w : World) (K : KV) : stT P T.n (pB b i) (.agg #[c_0, c_1, c_2, c_3, c_4, c_5, c_6, c_7]) w K = stN P b i [c_0, c_1, c_2, c_3, c_4, c_5, c_6, c_7] w K := kr
@[simp] theorem bvl : faT P T.n (pB B I) 0 W K = K (pB B I) W := kr
@[simp] theorem buw : faT P T.n (pB B I) 1 W K = K (.pointer (some ⟨B, I + 1, none⟩)) W := kr
@[simp] theorem bup : faT P T.n (pB B I) 2 W K = K (.pointer (some ⟨B, I + 3, none⟩)) W := kr
@[simp] theorem btm : faT P T.n (pB B I) 3 W K = K (.pointer (some ⟨B, I + 4, none⟩)) W := kr
@[simp] theorem btl : faT P T.n (pB B I) 4 W K = K (.pointer (some ⟨B, I + 6, none⟩)) W := kr
@[simp] theorem btp (x0 : Int) (x1 : Int) (c2_0 c2_1 : Value) (bo3 : Bool) (c4_0 c4_1 : Value) (x5 : Int) (w : World) (K : KV) : kg P T.a #[(0, (.int .i64 x0)), (1, (.int .u64 x1)), (2, (.agg #[c2_0, c2_1])), (5, (.bool bo3)), (3, (.agg #[c4_0, c4_1])), (4, (.int .i64 x5))] w K = K (.agg #[(.int .i64 x0), (.int .u64 x1), c2_0, c2_1, c4_0, c4_1, (.int .i64 x5), (.bool bo3), nS, nS, nS]) w := kr
@[simp] theorem btx : faT P T.n (pB B I) 5 W K = K (.pointer (some ⟨B, I + 7, none⟩)) W := kr
@[simp] theorem bve (v : Value) (w : World) (K : KV) : taT P (.iface T.z v) T.ar T.z true w K = K (.tuple #[v, .bool true]) w := kr
@[simp] theorem buj : alT P T.z W K = K (.pointer (some ⟨W.heap.size, 0, none⟩)) (W.alloc (.cells #[u0, i0] T.z)) := kr
@[simp] theorem bte (b i : Nat) (c_0 c_1 : Value) (w : World) (K : KV) : stT P T.z (pB b i) (.agg #[c_0, c_1]) w K = stN P b i [c_0, c_1] w K := kr
@[simp] theorem bvj : faT P T.z (pB B I) 0 W K = K (pB B I) W := kr
@[simp] theorem bxm : faT P T.z (pB B I) 1 W K = K (.pointer (some ⟨B, I + 1, none⟩)) W := kr
@[simp] theorem bti (x0 : Int) (x1 : Int) (x2 : Int) (w : World) (K : KV) : kg P T.a #[(0, (.int .i64 x0)), (1, (.int .u64 x1)), (4, (.int .i64 x2))] w K = K (.agg #[(.int .i64 x0), (.int .u64 x1), u0, u0, u0, u0, (.int .i64 x2), bF, nS, nS, nS]) w := kr
@[simp] theorem bxw (v : Value) (w : World) (K : KV) : taT P (.iface T.o v) T.ar T.o true w K = K (.tuple #[v, .bool true]) w := kr
@[simp] theorem bwq : faT P T.o (pB B I) 0 W K = K (pB B I) W := kr
@[simp] theorem bwr : faT P T.e (pB B I) 3 W K = K (.pointer (some ⟨B, I + 3, none⟩)) W := kr
@[simp] theorem bta (x0 : Int) (x1 : Int) (w : World) (K : KV) : bsT P T.ad 2 #[(0, (.int .i64 x0)), (1, (.int .i64 x1))] w K = K (.slice (some ⟨w.heap.size, 0, none⟩) 2 2) (w.alloc (.cells #[(.int .i64 x0), (.int .i64 x1)] T.c)) := kr
@[simp] theorem brv (rx ry : Operand)  (w : World) (K : KV) : ik P .eql T.bh rx ry nP nP w K = K bY w := kr
@[simp] theorem buh (rx ry : Operand) (a : Addr) (w : World) (K : KV) : ik P .eql T.bh rx ry (.pointer (some a)) nP w K = K bF w := kr
@[simp] theorem bsj (rx ry : Operand) (l c : Nat) (w : World) (K : KV) : ik P .eql T.k rx ry (.slice none l c) nS w K = K bY w := kr
@[simp] theorem bxt (rx ry : Operand) (a : Addr) (l c : Nat) (w : World) (K : KV) : ik P .eql T.k rx ry (.slice (some a) l c) nS w K = K bF w := kr
@[simp] theorem bxj : bsT P T.k 0 #[] W K = K (.slice (some ⟨W.heap.size, 0, none⟩) 0 0) (W.alloc (.cells #[] T.r)) := kr
@[simp] theorem buv (rx ry : Operand) (l c : Nat) (w : World) (K : KV) : ik P .eql T.f rx ry (.slice none l c) nS w K = K bY w := kr
@[simp] theorem btf (rx ry : Operand) (a : Addr) (l c : Nat) (w : World) (K : KV) : ik P .eql T.f rx ry (.slice (some a) l c) nS w K = K bF w := kr
@[simp] theorem bwd (x0 : Int) (p1 : Option Addr) (l1 c1 : Nat) (w : World) (K : KV) : kg P T.ae #[(1, (.int .i64 x0)), (2, (.slice p1 l1 c1))] w K = K (.agg #[i0, (.int .i64 x0), (.slice p1 l1 c1), i0]) w := kr
@[simp] theorem byc (rx ry : Operand)  (w : World) (K : KV) : ik P .neq T.aa rx ry nP nP w K = K bF w := kr
@[simp] theorem bsk (rx ry : Operand) (a : Addr) (w : World) (K : KV) : ik P .neq T.aa rx ry (.pointer (some a)) nP w K = K bY w := kr
@[simp] theorem bxv : faT P T.ah (pB B I) 0 W K = K (pB B I) W := kr
@[simp] theorem bxi : kg P T.ai #[] W K = K (.agg #[nS, nS]) W := kr
@[simp] theorem bwv : faT P T.e (pB B I) 4 W K = K (.pointer (some ⟨B, I + 4, none⟩)) W := kr
@[simp] theorem bre : ny P T.bg = true := kr
@[simp] theorem btk : szE P T.bg = 1 := kr
@[simp] theorem btq (x0 : Int) (x1 : Int) (w : World) (K : KV) : bsT P T.bg 2 #[(0, (.int .i64 x0)), (1, (.int .i64 x1))] w K = K (.slice (some ⟨w.heap.size, 0, none⟩) 2 2) (w.alloc (.cells #[(.int .i64 x0), (.int .i64 x1)] T.w)) := kr
@[simp] theorem bsc : faT P T.e (pB B I) 2 W K = K (.pointer (some ⟨B, I + 2, none⟩)) W := kr
@[simp] theorem bvs : alT P T.x W K = K (.pointer (some ⟨W.heap.size, 0, none⟩)) (W.alloc (.cells #[u0] T.x)) := kr
@[simp] theorem brw (b i : Nat) (x : Int) (w : World) (K : KV) : stT P T.x (pB b i) (.int .u64 x) w K = st1 P b i (.int .u64 x) w K := kr
theorem mt.ay : vp P T.ay .u64 T.au bF := vp.mk' (key := T.h) (by kernel_rfl) (by kernel_rfl) (by kernel_rfl)
@[simp] theorem bts : ny P T.az = true := kr
@[simp] theorem bub : szE P T.az = 1 := kr
theorem et.az : mi P T.az T.aw 1 4 := mi.mk' (by kernel_rfl) (by kernel_rfl) (by kernel_rfl)
@[simp] theorem bwp : ldT P T.aw (pB B I) W K = ld1 P B I W K := kr
@[simp] theorem brd : ldT P T.x (pB B I) W K = ld1 P B I W K := kr
@[simp] theorem bwi (x0 : Int) (w : World) (K : KV) : bsT P T.az 1 #[(0, (.int .i32 x0))] w K = K (.slice (some ⟨w.heap.size, 0, none⟩) 1 1) (w.alloc (.cells #[(.int .i32 x0)] T.aw)) := kr
end Go.Proofs.YtfnhoaemapheoaaGreat
