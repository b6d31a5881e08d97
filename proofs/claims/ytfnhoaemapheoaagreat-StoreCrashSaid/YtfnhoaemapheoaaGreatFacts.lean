/-
  Printed by wip/Shallow.lean: what the operations come to at this seat's types. No condition.
-/
import Derived.Test.YtfnhoaemapheoaaGreatN
import Derived.Test.YtfnhoaemapheoaaGreatZEng
set_option maxRecDepth 1000000
namespace Go.Proofs.YtfnhoaemapheoaaGreat
open Go.Eng
variable (B I : Nat) (W : World) (K : KV)
@[simp] theorem bza : ldT P T.ad (pB B I) W K = ld1 P B I W K := kr
@[simp] theorem byl : oe P T.ad = true := kr
@[simp] theorem cab : szE P T.ad = 1 := kr
theorem et.ad : mi P T.ad T.c 1 8 := mi.mk' (by kernel_rfl) (by kernel_rfl) (by kernel_rfl)
@[simp] theorem bzv : ldT P T.g (pB B I) W K = ld1 P B I W K := kr
@[simp] theorem bzf : ldT P T.q (pB B I) W K = ld1 P B I W K := kr
@[simp] theorem byp (x0 : Int) (x1 : Int) (w : World) (K : KV) : ki P T.d #[(0, (.int .u64 x0)), (1, (.int .u64 x1))] w K = K (.agg #[(.int .u64 x0), (.int .u64 x1)]) w := kr
@[simp] theorem bzu : alT P T.d W K = K (.pointer (some ⟨W.heap.size, 0, none⟩)) (W.alloc (.cells #[u0, u0] T.d)) := kr
@[simp] theorem byu (b i : Nat) (c_0 c_1 : Value) (w : World) (K : KV) : stT P T.d (pB b i) (.agg #[c_0, c_1]) w K = stN P b i [c_0, c_1] w K := kr
@[simp] theorem byz : ki P T.d #[] W K = K (.agg #[u0, u0]) W := kr
@[simp] theorem bzy : ldT P T.c (pB B I) W K = ld1 P B I W K := kr
@[simp] theorem byo : ldT P T.d (pB B I) W K = ldN P 2 B I W K := kr
@[simp] theorem bzh : alT P T.a W K = K (.pointer (some ⟨W.heap.size, 0, none⟩)) (W.alloc (.cells #[i0, u0, u0, u0, u0, u0, i0, bF, nS, nS, nS] T.a)) := kr
@[simp] theorem bzw (b i : Nat) (c_0 c_1 c_2 c_3 c_4 c_5 c_6 c_7 c_8 c_9 c_10 : Value) (w : World) (K : KV) : stT P T.a (pB b i) (.agg #[c_0, c_1, c_2, c_3, c_4, c_5, c_6, c_7, c_8, c_9, c_10]) w K = stN P b i [c_0, c_1, c_2, c_3, c_4, c_5, c_6, c_7, c_8, c_9, c_10] w K := kr
@[simp] theorem bzn : faT P T.a (pB B I) 5 W K = K (.pointer (some ⟨B, I + 7, none⟩)) W := kr
@[simp] theorem bzb : ldT P T.av (pB B I) W K = ld1 P B I W K := kr
@[simp] theorem bzl (b i : Nat) (bo : Bool) (w : World) (K : KV) : stT P T.av (pB b i) (.bool bo) w K = st1 P b i (.bool bo) w K := kr
@[simp] theorem byx : faT P T.a (pB B I) 4 W K = K (.pointer (some ⟨B, I + 6, none⟩)) W := kr
@[simp] theorem byn : faT P T.a (pB B I) 3 W K = K (.pointer (some ⟨B, I + 4, none⟩)) W := kr
@[simp] theorem bzk : ldT P T.ap (pB B I) W K = ld1 P B I W K := kr
@[simp] theorem bzi (x0 : Int) (x1 : Int) (c2_0 c2_1 : Value) (x3 : Int) (w : World) (K : KV) : ki P T.a #[(0, (.int .i64 x0)), (1, (.int .u64 x1)), (2, (.agg #[c2_0, c2_1])), (4, (.int .i64 x3))] w K = K (.agg #[(.int .i64 x0), (.int .u64 x1), c2_0, c2_1, u0, u0, (.int .i64 x3), bF, nS, nS, nS]) w := kr
@[simp] theorem bys : ldT P T.a (pB B I) W K = ldN P 11 B I W K := kr
@[simp] theorem byr : faT P T.a (pB B I) 2 W K = K (.pointer (some ⟨B, I + 2, none⟩)) W := kr
@[simp] theorem bzx : ki P T.a #[] W K = K (.agg #[i0, u0, u0, u0, u0, u0, i0, bF, nS, nS, nS]) W := kr
@[simp] theorem byq : faT P T.a (pB B I) 1 W K = K (.pointer (some ⟨B, I + 1, none⟩)) W := kr
@[simp] theorem bzs : faT P T.a (pB B I) 0 W K = K (pB B I) W := kr
@[simp] theorem bzc (rx ry : Operand) (a : Addr) (w : World) (K : KV) : ij P .eql T.ax rx ry (.pointer (some a)) nP w K = K bF w := kr
@[simp] theorem bzo : oe P T.b = true := kr
@[simp] theorem byw : szE P T.b = 8 := kr
theorem et.b : mi P T.b T.e 8 80 := mi.mk' (by kernel_rfl) (by kernel_rfl) (by kernel_rfl)
@[simp] theorem bzg : faT P T.a (pB B I) 6 W K = K (.pointer (some ⟨B, I + 8, none⟩)) W := kr
@[simp] theorem bzd : ldT P T.b (pB B I) W K = ld1 P B I W K := kr
@[simp] theorem bzq : ldT P T.e (pB B I) W K = ldN P 8 B I W K := kr
@[simp] theorem bzt : oe P T.ae = true := kr
@[simp] theorem bzp : szE P T.ae = 14 := kr
theorem et.ae : mi P T.ae T.aq 14 176 := mi.mk' (by kernel_rfl) (by kernel_rfl) (by kernel_rfl)
@[simp] theorem cac : faT P T.aq (pB B I) 0 W K = K (pB B I) W := kr
@[simp] theorem bze : faT P T.aq (pB B I) 2 W K = K (.pointer (some ⟨B, I + 2, none⟩)) W := kr
theorem et.i : mi P T.i T.ac 10 96 := mi.mk' (by kernel_rfl) (by kernel_rfl) (by kernel_rfl)
@[simp] theorem byv : faT P T.ac (pB B I) 1 W K = K (.pointer (some ⟨B, I + 2, none⟩)) W := kr
@[simp] theorem byy : bsT P T.i 0 #[] W K = K (.slice (some ⟨W.heap.size, 0, none⟩) 0 0) (W.alloc (.cells #[] T.ac)) := kr
@[simp] theorem bzz : oe P T.h = true := kr
@[simp] theorem caa : szE P T.h = 1 := kr
theorem et.h : mi P T.h T.g 1 8 := mi.mk' (by kernel_rfl) (by kernel_rfl) (by kernel_rfl)
@[simp] theorem bzj : faT P T.aq (pB B I) 1 W K = K (.pointer (some ⟨B, I + 1, none⟩)) W := kr
@[simp] theorem bzr : faT P T.aq (pB B I) 3 W K = K (.pointer (some ⟨B, I + 13, none⟩)) W := kr
@[simp] theorem bug (x0 : Int) (r1 : Option Nat) (w : World) (K : KV) : ki P T.ag #[(0, (.int .i64 x0)), (1, (.map r1))] w K = K (.agg #[(.int .i64 x0), (.map r1), i0, bF, bF]) w := kr
@[simp] theorem bwg : oe P T.m = true := kr
@[simp] theorem btg : szE P T.m = 1 := kr
theorem et.m : mi P T.m T.f 1 24 := mi.mk' (by kernel_rfl) (by kernel_rfl) (by kernel_rfl)
@[simp] theorem bxr : ldT P T.f (pB B I) W K = ld1 P B I W K := kr
@[simp] theorem bvc : faT P T.d (pB B I) 0 W K = K (pB B I) W := kr
@[simp] theorem bsb : faT P T.d (pB B I) 1 W K = K (.pointer (some ⟨B, I + 1, none⟩)) W := kr
@[simp] theorem bwu (rx ry : Operand) (a : Addr) (w : World) (K : KV) : ij P .eql T.ap rx ry (.pointer (some a)) nP w K = K bF w := kr
@[simp] theorem bxm : faT P T.ag (pB B I) 1 W K = K (.pointer (some ⟨B, I + 1, none⟩)) W := kr
@[simp] theorem brj : ldT P T.p (pB B I) W K = ld1 P B I W K := kr
theorem mt.p : vp P T.p .i64 T.bh nP := vp.mk' (key := T.c) (by kernel_rfl) (by kernel_rfl) (by kernel_rfl)
@[simp] theorem buh : faT P T.ai (pB B I) 1 W K = K (.pointer (some ⟨B, I + 1, none⟩)) W := kr
@[simp] theorem bve : oe P T.f = true := kr
@[simp] theorem brl : szE P T.f = 1 := kr
theorem et.f : mi P T.f T.ao 1 1 := mi.mk' (by kernel_rfl) (by kernel_rfl) (by kernel_rfl)
@[simp] theorem bwo : faT P T.ai (pB B I) 0 W K = K (pB B I) W := kr
@[simp] theorem bvd (p0 : Option Addr) (l0 c0 : Nat) (p1 : Option Addr) (l1 c1 : Nat) (w : World) (K : KV) : bsT P T.m 2 #[(0, (.slice p0 l0 c0)), (1, (.slice p1 l1 c1))] w K = K (.slice (some ⟨w.heap.size, 0, none⟩) 2 2) (w.alloc (.cells #[(.slice p0 l0 c0), (.slice p1 l1 c1)] T.f)) := kr
@[simp] theorem btc (b i : Nat) (p : Option Addr) (l c : Nat) (w : World) (K : KV) : stT P T.f (pB b i) (.slice p l c) w K = st1 P b i (.slice p l c) w K := kr
@[simp] theorem bum : faT P T.ag (pB B I) 3 W K = K (.pointer (some ⟨B, I + 3, none⟩)) W := kr
@[simp] theorem byf : faT P T.ag (pB B I) 4 W K = K (.pointer (some ⟨B, I + 4, none⟩)) W := kr
@[simp] theorem bwc (v : Value) (w : World) (K : KV) : taT P (.iface T.y v) T.au T.y true w K = K (.tuple #[v, .bool true]) w := kr
@[simp] theorem bwr : alT P T.y W K = K (.pointer (some ⟨W.heap.size, 0, none⟩)) (W.alloc (.cells #[u0, u0, u0, i0] T.y)) := kr
@[simp] theorem brv (b i : Nat) (c_0 c_1 c_2 c_3 : Value) (w : World) (K : KV) : stT P T.y (pB b i) (.agg #[c_0, c_1, c_2, c_3]) w K = stN P b i [c_0, c_1, c_2, c_3] w K := kr
@[simp] theorem bwt : faT P T.y (pB B I) 0 W K = K (pB B I) W := kr
@[simp] theorem buv : faT P T.y (pB B I) 1 W K = K (.pointer (some ⟨B, I + 1, none⟩)) W := kr
@[simp] theorem bxt : faT P T.y (pB B I) 2 W K = K (.pointer (some ⟨B, I + 3, none⟩)) W := kr
@[simp] theorem bsj (p0 : Option Addr) (l0 c0 : Nat) (w : World) (K : KV) : bsT P T.m 1 #[(0, (.slice p0 l0 c0))] w K = K (.slice (some ⟨w.heap.size, 0, none⟩) 1 1) (w.alloc (.cells #[(.slice p0 l0 c0)] T.f)) := kr
@[simp] theorem bro : faT P T.a (pB B I) 7 W K = K (.pointer (some ⟨B, I + 9, none⟩)) W := kr
@[simp] theorem bxj : ldT P T.k (pB B I) W K = ld1 P B I W K := kr
@[simp] theorem bsw : oe P T.k = true := kr
@[simp] theorem bto : szE P T.k = 3 := kr
theorem et.k : mi P T.k T.r 3 24 := mi.mk' (by kernel_rfl) (by kernel_rfl) (by kernel_rfl)
@[simp] theorem bva : faT P T.a (pB B I) 8 W K = K (.pointer (some ⟨B, I + 10, none⟩)) W := kr
@[simp] theorem bqr : ldT P T.h (pB B I) W K = ld1 P B I W K := kr
@[simp] theorem bvq : ldT P T.r (pB B I) W K = ldN P 3 B I W K := kr
@[simp] theorem bsk : ldT P T.bf (pB B I) W K = ld1 P B I W K := kr
@[simp] theorem bwd (rx ry : Operand) (a : Addr) (w : World) (K : KV) : ij P .neq T.ap rx ry (.pointer (some a)) nP w K = K bY w := kr
@[simp] theorem bvo : faT P T.ag (pB B I) 2 W K = K (.pointer (some ⟨B, I + 2, none⟩)) W := kr
@[simp] theorem btz (b i : Nat) (x : Int) (w : World) (K : KV) : stT P T.c (pB b i) (.int .i64 x) w K = st1 P b i (.int .i64 x) w K := kr
@[simp] theorem bxh : faT P T.e (pB B I) 6 W K = K (.pointer (some ⟨B, I + 6, none⟩)) W := kr
@[simp] theorem bth : ldT P T.ah (pB B I) W K = ld1 P B I W K := kr
@[simp] theorem byh : faT P T.e (pB B I) 5 W K = K (.pointer (some ⟨B, I + 5, none⟩)) W := kr
@[simp] theorem brw (x0 : Int) (x1 : Int) (s2 : ByteArray) (s3 : ByteArray) (w : World) (K : KV) : ki P T.e #[(0, (.int .u64 x0)), (1, (.int .u64 x1)), (5, (.string s2)), (6, (.string s3))] w K = K (.agg #[(.int .u64 x0), (.int .u64 x1), u0, u0, u0, (.string s2), (.string s3), bF]) w := kr
@[simp] theorem bxb (c0_0 c0_1 c0_2 c0_3 c0_4 c0_5 c0_6 c0_7 : Value) (c1_0 c1_1 c1_2 c1_3 c1_4 c1_5 c1_6 c1_7 : Value) (w : World) (K : KV) : bsT P T.b 2 #[(0, (.agg #[c0_0, c0_1, c0_2, c0_3, c0_4, c0_5, c0_6, c0_7])), (1, (.agg #[c1_0, c1_1, c1_2, c1_3, c1_4, c1_5, c1_6, c1_7]))] w K = K (.slice (some ⟨w.heap.size, 0, none⟩) 2 2) (w.alloc (.cells #[c0_0, c0_1, c0_2, c0_3, c0_4, c0_5, c0_6, c0_7, c1_0, c1_1, c1_2, c1_3, c1_4, c1_5, c1_6, c1_7] T.e)) := kr
@[simp] theorem bus (x0 : Int) (w : World) (K : KV) : ki P T.d #[(0, (.int .u64 x0))] w K = K (.agg #[(.int .u64 x0), u0]) w := kr
@[simp] theorem btw (x0 : Int) (x1 : Int) (c2_0 c2_1 : Value) (p3 : Option Addr) (l3 c3 : Nat) (w : World) (K : KV) : ki P T.a #[(0, (.int .i64 x0)), (1, (.int .u64 x1)), (2, (.agg #[c2_0, c2_1])), (6, (.slice p3 l3 c3))] w K = K (.agg #[(.int .i64 x0), (.int .u64 x1), c2_0, c2_1, u0, u0, i0, bF, (.slice p3 l3 c3), nS, nS]) w := kr
@[simp] theorem buz (rx ry : Operand) (a : Addr) (w : World) (K : KV) : ij P .neq T.ax rx ry (.pointer (some a)) nP w K = K bY w := kr
@[simp] theorem buu : faT P T.e (pB B I) 1 W K = K (.pointer (some ⟨B, I + 1, none⟩)) W := kr
@[simp] theorem bwv (p0 : Option Addr) (p1 : Option Addr) (r2 : Option Nat) (w : World) (K : KV) : ki P T.ak #[(0, (.pointer p0)), (1, (.pointer p1)), (2, (.map r2))] w K = K (.agg #[(.pointer p0), (.pointer p1), (.map r2), bF]) w := kr
@[simp] theorem bwe : alT P T.e W K = K (.pointer (some ⟨W.heap.size, 0, none⟩)) (W.alloc (.cells #[u0, u0, u0, u0, u0, (.string ⟨#[]⟩), (.string ⟨#[]⟩), bF] T.e)) := kr
@[simp] theorem bui (b i : Nat) (c_0 c_1 c_2 c_3 c_4 c_5 c_6 c_7 : Value) (w : World) (K : KV) : stT P T.e (pB b i) (.agg #[c_0, c_1, c_2, c_3, c_4, c_5, c_6, c_7]) w K = stN P b i [c_0, c_1, c_2, c_3, c_4, c_5, c_6, c_7] w K := kr
@[simp] theorem bsr (v : Value) (w : World) (K : KV) : taT P (.iface T.j v) T.au T.j true w K = K (.tuple #[v, .bool true]) w := kr
@[simp] theorem bri : alT P T.j W K = K (.pointer (some ⟨W.heap.size, 0, none⟩)) (W.alloc (.cells #[u0, u0, u0, nS] T.j)) := kr
@[simp] theorem brx (b i : Nat) (c_0 c_1 c_2 c_3 : Value) (w : World) (K : KV) : stT P T.j (pB b i) (.agg #[c_0, c_1, c_2, c_3]) w K = stN P b i [c_0, c_1, c_2, c_3] w K := kr
@[simp] theorem bwh : faT P T.ak (pB B I) 3 W K = K (.pointer (some ⟨B, I + 3, none⟩)) W := kr
@[simp] theorem btb : faT P T.ak (pB B I) 0 W K = K (pB B I) W := kr
@[simp] theorem bru : faT P T.j (pB B I) 2 W K = K (.pointer (some ⟨B, I + 3, none⟩)) W := kr
@[simp] theorem bvb : faT P T.j (pB B I) 1 W K = K (.pointer (some ⟨B, I + 1, none⟩)) W := kr
@[simp] theorem bxd : faT P T.j (pB B I) 0 W K = K (pB B I) W := kr
@[simp] theorem bur (x0 : Int) (w : World) (K : KV) : ki P T.o #[(0, (.int .u64 x0))] w K = K (.agg #[(.int .u64 x0), nS]) w := kr
@[simp] theorem bsu : alT P T.o W K = K (.pointer (some ⟨W.heap.size, 0, none⟩)) (W.alloc (.cells #[u0, nS] T.o)) := kr
@[simp] theorem bya (b i : Nat) (c_0 c_1 : Value) (w : World) (K : KV) : stT P T.o (pB b i) (.agg #[c_0, c_1]) w K = stN P b i [c_0, c_1] w K := kr
@[simp] theorem brf : faT P T.o (pB B I) 1 W K = K (.pointer (some ⟨B, I + 1, none⟩)) W := kr
@[simp] theorem bso (x0 : Int) (w : World) (K : KV) : bsT P T.h 1 #[(0, (.int .u64 x0))] w K = K (.slice (some ⟨w.heap.size, 0, none⟩) 1 1) (w.alloc (.cells #[(.int .u64 x0)] T.g)) := kr
@[simp] theorem brz (b i : Nat) (p : Option Addr) (l c : Nat) (w : World) (K : KV) : stT P T.h (pB b i) (.slice p l c) w K = st1 P b i (.slice p l c) w K := kr
@[simp] theorem bsd : ldT P T.o (pB B I) W K = ldN P 2 B I W K := kr
@[simp] theorem bwl (v : Value) (w : World) (K : KV) : vv P T.o v w K = K (.iface T.o v) w := kr
@[simp] theorem buj : faT P T.ak (pB B I) 2 W K = K (.pointer (some ⟨B, I + 2, none⟩)) W := kr
@[simp] theorem bsg : ldT P T.l (pB B I) W K = ld1 P B I W K := kr
theorem mt.l : vp P T.l .u64 T.bc nP := vp.mk' (key := T.g) (by kernel_rfl) (by kernel_rfl) (by kernel_rfl)
@[simp] theorem bvj (rx ry : Operand)  (w : World) (K : KV) : ij P .eql T.bc rx ry nP nP w K = K bY w := kr
@[simp] theorem bsh (rx ry : Operand) (a : Addr) (w : World) (K : KV) : ij P .eql T.bc rx ry (.pointer (some a)) nP w K = K bF w := kr
@[simp] theorem bsm : faT P T.ar (pB B I) 0 W K = K (pB B I) W := kr
@[simp] theorem bwp : ldT P T.t (pB B I) W K = ld1 P B I W K := kr
@[simp] theorem byj (c0_0 c0_1 : Value) (c1_0 c1_1 c1_2 c1_3 c1_4 c1_5 c1_6 c1_7 : Value) (w : World) (K : KV) : ki P T.ac #[(0, (.agg #[c0_0, c0_1])), (1, (.agg #[c1_0, c1_1, c1_2, c1_3, c1_4, c1_5, c1_6, c1_7]))] w K = K (.agg #[c0_0, c0_1, c1_0, c1_1, c1_2, c1_3, c1_4, c1_5, c1_6, c1_7]) w := kr
@[simp] theorem bry (c0_0 c0_1 c0_2 c0_3 c0_4 c0_5 c0_6 c0_7 c0_8 c0_9 : Value) (w : World) (K : KV) : bsT P T.i 1 #[(0, (.agg #[c0_0, c0_1, c0_2, c0_3, c0_4, c0_5, c0_6, c0_7, c0_8, c0_9]))] w K = K (.slice (some ⟨w.heap.size, 0, none⟩) 1 1) (w.alloc (.cells #[c0_0, c0_1, c0_2, c0_3, c0_4, c0_5, c0_6, c0_7, c0_8, c0_9] T.ac)) := kr
@[simp] theorem buy : bsT P T.h 0 #[] W K = K (.slice (some ⟨W.heap.size, 0, none⟩) 0 0) (W.alloc (.cells #[] T.g)) := kr
@[simp] theorem bxs (x0 : Int) (x1 : Int) (p2 : Option Addr) (l2 c2 : Nat) (w : World) (K : KV) : ki P T.a #[(0, (.int .i64 x0)), (1, (.int .u64 x1)), (8, (.slice p2 l2 c2))] w K = K (.agg #[(.int .i64 x0), (.int .u64 x1), u0, u0, u0, u0, i0, bF, nS, nS, (.slice p2 l2 c2)]) w := kr
@[simp] theorem btp : faT P T.ar (pB B I) 1 W K = K (.pointer (some ⟨B, I + 1, none⟩)) W := kr
@[simp] theorem bwq (p0 : Option Addr) (x1 : Int) (w : World) (K : KV) : ki P T.ab #[(0, (.pointer p0)), (1, (.int .i64 x1))] w K = K (.agg #[(.pointer p0), (.int .i64 x1), nS]) w := kr
@[simp] theorem bun (rx ry : Operand)  (w : World) (K : KV) : ij P .eql T.aa rx ry nP nP w K = K bY w := kr
@[simp] theorem brt (rx ry : Operand) (a : Addr) (w : World) (K : KV) : ij P .eql T.aa rx ry (.pointer (some a)) nP w K = K bF w := kr
@[simp] theorem bxi : faT P T.ab (pB B I) 2 W K = K (.pointer (some ⟨B, I + 2, none⟩)) W := kr
@[simp] theorem buw : ldT P T.v (pB B I) W K = ld1 P B I W K := kr
@[simp] theorem buf : oe P T.v = true := kr
@[simp] theorem bwm : szE P T.v = 1 := kr
theorem et.v : mi P T.v T.aa 1 8 := mi.mk' (by kernel_rfl) (by kernel_rfl) (by kernel_rfl)
@[simp] theorem bue : faT P T.af (pB B I) 1 W K = K (.pointer (some ⟨B, I + 1, none⟩)) W := kr
@[simp] theorem bsp (p0 : Option Addr) (w : World) (K : KV) : bsT P T.v 1 #[(0, (.pointer p0))] w K = K (.slice (some ⟨w.heap.size, 0, none⟩) 1 1) (w.alloc (.cells #[(.pointer p0)] T.aa)) := kr
@[simp] theorem bvw (b i : Nat) (p : Option Addr) (l c : Nat) (w : World) (K : KV) : stT P T.v (pB b i) (.slice p l c) w K = st1 P b i (.slice p l c) w K := kr
@[simp] theorem bsa (rx ry : Operand) (a : Addr) (w : World) (K : KV) : ij P .eql T.bf rx ry (.pointer (some a)) nP w K = K bF w := kr
@[simp] theorem bqu : ldT P T.aa (pB B I) W K = ld1 P B I W K := kr
@[simp] theorem brq : faT P T.af (pB B I) 2 W K = K (.pointer (some ⟨B, I + 2, none⟩)) W := kr
@[simp] theorem bwx : ldT P T.m (pB B I) W K = ld1 P B I W K := kr
@[simp] theorem brh (b i : Nat) (x : Int) (w : World) (K : KV) : stT P T.g (pB b i) (.int .u64 x) w K = st1 P b i (.int .u64 x) w K := kr
@[simp] theorem byc : ldT P T.ao (pB B I) W K = ld1 P B I W K := kr
@[simp] theorem bwa : faT P T.ab (pB B I) 0 W K = K (pB B I) W := kr
@[simp] theorem bsv : faT P T.af (pB B I) 0 W K = K (pB B I) W := kr
@[simp] theorem byb (v : Value) (w : World) (K : KV) : vv P T.ah v w K = K (.iface T.ah v) w := kr
@[simp] theorem btv (x0 : Int) (w : World) (K : KV) : bsT P T.f 1 #[(0, (.int .u8 x0))] w K = K (.slice (some ⟨w.heap.size, 0, none⟩) 1 1) (w.alloc (.cells #[(.int .u8 x0)] T.ao)) := kr
@[simp] theorem btf (b i : Nat) (x : Int) (w : World) (K : KV) : stT P T.q (pB b i) (.int .i64 x) w K = st1 P b i (.int .i64 x) w K := kr
@[simp] theorem bxo : faT P T.e (pB B I) 0 W K = K (pB B I) W := kr
@[simp] theorem bxn (c0_0 c0_1 c0_2 c0_3 c0_4 c0_5 c0_6 c0_7 : Value) (w : World) (K : KV) : bsT P T.b 1 #[(0, (.agg #[c0_0, c0_1, c0_2, c0_3, c0_4, c0_5, c0_6, c0_7]))] w K = K (.slice (some ⟨w.heap.size, 0, none⟩) 1 1) (w.alloc (.cells #[c0_0, c0_1, c0_2, c0_3, c0_4, c0_5, c0_6, c0_7] T.e)) := kr
@[simp] theorem bwy (r0 : Option Nat) (w : World) (K : KV) : ki P T.ar #[(0, (.map r0))] w K = K (.agg #[(.map r0), u0, u0]) w := kr
theorem mt.t : vp P T.t .u64 T.e (.agg #[u0, u0, u0, u0, u0, (.string ⟨#[]⟩), (.string ⟨#[]⟩), bF]) := vp.mk' (key := T.g) (by kernel_rfl) (by kernel_rfl) (by kernel_rfl)
theorem et.al : mi P T.al T.d 2 16 := mi.mk' (by kernel_rfl) (by kernel_rfl) (by kernel_rfl)
@[simp] theorem bwf (c0_0 c0_1 : Value) (c1_0 c1_1 : Value) (w : World) (K : KV) : bsT P T.al 2 #[(0, (.agg #[c0_0, c0_1])), (1, (.agg #[c1_0, c1_1]))] w K = K (.slice (some ⟨w.heap.size, 0, none⟩) 2 2) (w.alloc (.cells #[c0_0, c0_1, c1_0, c1_1] T.d)) := kr
@[simp] theorem bvy (rx ry : Operand) (l c : Nat) (w : World) (K : KV) : ij P .eql T.b rx ry (.slice none l c) nS w K = K bY w := kr
@[simp] theorem bqw (rx ry : Operand) (a : Addr) (l c : Nat) (w : World) (K : KV) : ij P .eql T.b rx ry (.slice (some a) l c) nS w K = K bF w := kr
@[simp] theorem btk : bsT P T.b 0 #[] W K = K (.slice (some ⟨W.heap.size, 0, none⟩) 0 0) (W.alloc (.cells #[] T.e)) := kr
@[simp] theorem btd : faT P T.ak (pB B I) 1 W K = K (.pointer (some ⟨B, I + 1, none⟩)) W := kr
@[simp] theorem btj : faT P T.ac (pB B I) 0 W K = K (pB B I) W := kr
@[simp] theorem bxp (c0_0 c0_1 : Value) (w : World) (K : KV) : bsT P T.al 1 #[(0, (.agg #[c0_0, c0_1]))] w K = K (.slice (some ⟨w.heap.size, 0, none⟩) 1 1) (w.alloc (.cells #[c0_0, c0_1] T.d)) := kr
@[simp] theorem bss : oe P T.bb = true := kr
@[simp] theorem bxf : szE P T.bb = 1 := kr
@[simp] theorem bxk (p0 : Option Addr) (l0 c0 : Nat) (p1 : Option Addr) (l1 c1 : Nat) (w : World) (K : KV) : bsT P T.bb 2 #[(0, (.slice p0 l0 c0)), (1, (.slice p1 l1 c1))] w K = K (.slice (some ⟨w.heap.size, 0, none⟩) 2 2) (w.alloc (.cells #[(.slice p0 l0 c0), (.slice p1 l1 c1)] T.ad)) := kr
@[simp] theorem bqt (x0 : Int) (x1 : Int) (p2 : Option Addr) (l2 c2 : Nat) (x3 : Int) (w : World) (K : KV) : ki P T.af #[(0, (.int .i64 x0)), (1, (.int .i64 x1)), (2, (.slice p2 l2 c2)), (3, (.int .i64 x3))] w K = K (.agg #[(.int .i64 x0), (.int .i64 x1), (.slice p2 l2 c2), (.int .i64 x3)]) w := kr
@[simp] theorem btm (rx ry : Operand) (l c : Nat) (w : World) (K : KV) : ij P .eql T.f rx ry (.slice none l c) nS w K = K bY w := kr
@[simp] theorem byd (rx ry : Operand) (a : Addr) (l c : Nat) (w : World) (K : KV) : ij P .eql T.f rx ry (.slice (some a) l c) nS w K = K bF w := kr
@[simp] theorem brb : bsT P T.f 0 #[] W K = K (.slice (some ⟨W.heap.size, 0, none⟩) 0 0) (W.alloc (.cells #[] T.ao)) := kr
@[simp] theorem bqs (x0 : Int) (bo1 : Bool) (p2 : Option Addr) (l2 c2 : Nat) (w : World) (K : KV) : ki P T.s #[(0, (.int .u64 x0)), (1, (.bool bo1)), (2, (.slice p2 l2 c2))] w K = K (.agg #[(.int .u64 x0), (.bool bo1), (.slice p2 l2 c2)]) w := kr
@[simp] theorem btl (v : Value) (w : World) (K : KV) : vv P T.s v w K = K (.iface T.s v) w := kr
@[simp] theorem bww (p0 : Option Addr) (l0 c0 : Nat) (w : World) (K : KV) : ki P T.u #[(0, (.slice p0 l0 c0))] w K = K (.agg #[(.slice p0 l0 c0)]) w := kr
@[simp] theorem bux (v : Value) (w : World) (K : KV) : vv P T.u v w K = K (.iface T.u v) w := kr
@[simp] theorem brg (x0 : Int) (c1_0 c1_1 : Value) (x2 : Int) (w : World) (K : KV) : ki P T.y #[(0, (.int .u64 x0)), (1, (.agg #[c1_0, c1_1])), (2, (.int .i64 x2))] w K = K (.agg #[(.int .u64 x0), c1_0, c1_1, (.int .i64 x2)]) w := kr
@[simp] theorem buo (v : Value) (w : World) (K : KV) : vv P T.y v w K = K (.iface T.y v) w := kr
@[simp] theorem bxc (x0 : Int) (c1_0 c1_1 : Value) (bo2 : Bool) (c3_0 c3_1 : Value) (x4 : Int) (bo5 : Bool) (w : World) (K : KV) : ki P T.n #[(0, (.int .u64 x0)), (1, (.agg #[c1_0, c1_1])), (2, (.bool bo2)), (3, (.agg #[c3_0, c3_1])), (4, (.int .i64 x4)), (5, (.bool bo5))] w K = K (.agg #[(.int .u64 x0), c1_0, c1_1, (.bool bo2), c3_0, c3_1, (.int .i64 x4), (.bool bo5)]) w := kr
@[simp] theorem bvx (v : Value) (w : World) (K : KV) : vv P T.n v w K = K (.iface T.n v) w := kr
@[simp] theorem but (x0 : Int) (x1 : Int) (w : World) (K : KV) : ki P T.z #[(0, (.int .u64 x0)), (1, (.int .i64 x1))] w K = K (.agg #[(.int .u64 x0), (.int .i64 x1)]) w := kr
@[simp] theorem bxu (v : Value) (w : World) (K : KV) : vv P T.z v w K = K (.iface T.z v) w := kr
@[simp] theorem brn (x0 : Int) (c1_0 c1_1 : Value) (p2 : Option Addr) (l2 c2 : Nat) (w : World) (K : KV) : ki P T.j #[(0, (.int .u64 x0)), (1, (.agg #[c1_0, c1_1])), (2, (.slice p2 l2 c2))] w K = K (.agg #[(.int .u64 x0), c1_0, c1_1, (.slice p2 l2 c2)]) w := kr
@[simp] theorem bqy (v : Value) (w : World) (K : KV) : vv P T.j v w K = K (.iface T.j v) w := kr
@[simp] theorem bul (x0 : Int) (p1 : Option Addr) (l1 c1 : Nat) (w : World) (K : KV) : ki P T.o #[(0, (.int .u64 x0)), (1, (.slice p1 l1 c1))] w K = K (.agg #[(.int .u64 x0), (.slice p1 l1 c1)]) w := kr
@[simp] theorem btn : faT P T.af (pB B I) 3 W K = K (.pointer (some ⟨B, I + 3, none⟩)) W := kr
@[simp] theorem bxw : faT P T.ab (pB B I) 1 W K = K (.pointer (some ⟨B, I + 1, none⟩)) W := kr
@[simp] theorem bvf (b i : Nat) (p : Option Addr) (l c : Nat) (w : World) (K : KV) : stT P T.m (pB b i) (.slice p l c) w K = st1 P b i (.slice p l c) w K := kr
@[simp] theorem bsy (x0 : Int) (x1 : Int) (w : World) (K : KV) : ki P T.a #[(0, (.int .i64 x0)), (1, (.int .u64 x1))] w K = K (.agg #[(.int .i64 x0), (.int .u64 x1), u0, u0, u0, u0, i0, bF, nS, nS, nS]) w := kr
@[simp] theorem bsi (b i : Nat) (p : Option Addr) (l c : Nat) (w : World) (K : KV) : stT P T.b (pB b i) (.slice p l c) w K = st1 P b i (.slice p l c) w K := kr
@[simp] theorem brr (b i : Nat) (p : Option Addr) (l c : Nat) (w : World) (K : KV) : stT P T.k (pB b i) (.slice p l c) w K = st1 P b i (.slice p l c) w K := kr
@[simp] theorem brk : alT P T.r W K = K (.pointer (some ⟨W.heap.size, 0, none⟩)) (W.alloc (.cells #[u0, u0, i0] T.r)) := kr
@[simp] theorem bxq (b i : Nat) (c_0 c_1 c_2 : Value) (w : World) (K : KV) : stT P T.r (pB b i) (.agg #[c_0, c_1, c_2]) w K = stN P b i [c_0, c_1, c_2] w K := kr
@[simp] theorem brp : faT P T.r (pB B I) 0 W K = K (pB B I) W := kr
@[simp] theorem bxv : faT P T.r (pB B I) 1 W K = K (.pointer (some ⟨B, I + 1, none⟩)) W := kr
@[simp] theorem bvp : faT P T.r (pB B I) 2 W K = K (.pointer (some ⟨B, I + 2, none⟩)) W := kr
@[simp] theorem bra (p0 : Option Addr) (l0 c0 : Nat) (w : World) (K : KV) : ki P T.aj #[(0, (.slice p0 l0 c0))] w K = K (.agg #[(.slice p0 l0 c0), i0]) w := kr
@[simp] theorem btu (x0 : Int) (x1 : Int) (x2 : Int) (x3 : Int) (x4 : Int) (w : World) (K : KV) : ki P T.e #[(0, (.int .u64 x0)), (1, (.int .u64 x1)), (2, (.int .u64 x2)), (3, (.int .u64 x3)), (4, (.int .u64 x4))] w K = K (.agg #[(.int .u64 x0), (.int .u64 x1), (.int .u64 x2), (.int .u64 x3), (.int .u64 x4), (.string ⟨#[]⟩), (.string ⟨#[]⟩), bF]) w := kr
@[simp] theorem bxe : faT P T.e (pB B I) 7 W K = K (.pointer (some ⟨B, I + 7, none⟩)) W := kr
@[simp] theorem bvt (b i : Nat) (s : ByteArray) (w : World) (K : KV) : stT P T.ah (pB b i) (.string s) w K = st1 P b i (.string s) w K := kr
@[simp] theorem bup : faT P T.aj (pB B I) 1 W K = K (.pointer (some ⟨B, I + 1, none⟩)) W := kr
@[simp] theorem byk : ldT P T.w (pB B I) W K = ld1 P B I W K := kr
@[simp] theorem bvn (b i : Nat) (x : Int) (w : World) (K : KV) : stT P T.w (pB b i) (.int .i64 x) w K = st1 P b i (.int .i64 x) w K := kr
@[simp] theorem bxz : ki P T.e #[] W K = K (.agg #[u0, u0, u0, u0, u0, (.string ⟨#[]⟩), (.string ⟨#[]⟩), bF]) W := kr
@[simp] theorem bvz : faT P T.aj (pB B I) 0 W K = K (pB B I) W := kr
@[simp] theorem brm (v : Value) (w : World) (K : KV) : taT P (.iface T.s v) T.au T.s true w K = K (.tuple #[v, .bool true]) w := kr
@[simp] theorem buk : alT P T.s W K = K (.pointer (some ⟨W.heap.size, 0, none⟩)) (W.alloc (.cells #[u0, bF, nS] T.s)) := kr
@[simp] theorem btt (b i : Nat) (c_0 c_1 c_2 : Value) (w : World) (K : KV) : stT P T.s (pB b i) (.agg #[c_0, c_1, c_2]) w K = stN P b i [c_0, c_1, c_2] w K := kr
@[simp] theorem bvk : faT P T.s (pB B I) 0 W K = K (pB B I) W := kr
@[simp] theorem bti : faT P T.s (pB B I) 2 W K = K (.pointer (some ⟨B, I + 2, none⟩)) W := kr
@[simp] theorem bvu (x0 : Int) (x1 : Int) (p2 : Option Addr) (l2 c2 : Nat) (w : World) (K : KV) : ki P T.a #[(0, (.int .i64 x0)), (1, (.int .u64 x1)), (6, (.slice p2 l2 c2))] w K = K (.agg #[(.int .i64 x0), (.int .u64 x1), u0, u0, u0, u0, i0, bF, (.slice p2 l2 c2), nS, nS]) w := kr
@[simp] theorem buc : faT P T.s (pB B I) 1 W K = K (.pointer (some ⟨B, I + 1, none⟩)) W := kr
@[simp] theorem bwj (v : Value) (w : World) (K : KV) : taT P (.iface T.u v) T.au T.u true w K = K (.tuple #[v, .bool true]) w := kr
@[simp] theorem byg : alT P T.u W K = K (.pointer (some ⟨W.heap.size, 0, none⟩)) (W.alloc (.cells #[nS] T.u)) := kr
@[simp] theorem bud (b i : Nat) (c_0 : Value) (w : World) (K : KV) : stT P T.u (pB b i) (.agg #[c_0]) w K = stN P b i [c_0] w K := kr
@[simp] theorem bsn : faT P T.u (pB B I) 0 W K = K (pB B I) W := kr
@[simp] theorem bvr (x0 : Int) (p1 : Option Addr) (l1 c1 : Nat) (w : World) (K : KV) : ki P T.a #[(0, (.int .i64 x0)), (7, (.slice p1 l1 c1))] w K = K (.agg #[(.int .i64 x0), u0, u0, u0, u0, u0, i0, bF, nS, (.slice p1 l1 c1), nS]) w := kr
@[simp] theorem btq (v : Value) (w : World) (K : KV) : taT P (.iface T.n v) T.au T.n true w K = K (.tuple #[v, .bool true]) w := kr
@[simp] theorem bxa : alT P T.n W K = K (.pointer (some ⟨W.heap.size, 0, none⟩)) (W.alloc (.cells #[u0, u0, u0, bF, u0, u0, i0, bF] T.n)) := kr
@[simp] theorem bye (b i : Nat) (c_0 c_1 c_2 c_3 c_4 c_5 c_6 c_7 : Value) (w : World) (K : KV) : stT P T.n (pB b i) (.agg #[c_0, c_1, c_2, c_3, c_4, c_5, c_6, c_7]) w K = stN P b i [c_0, c_1, c_2, c_3, c_4, c_5, c_6, c_7] w K := kr
@[simp] theorem bqq : faT P T.n (pB B I) 0 W K = K (pB B I) W := kr
@[simp] theorem bwk : faT P T.n (pB B I) 1 W K = K (.pointer (some ⟨B, I + 1, none⟩)) W := kr
@[simp] theorem bsf : faT P T.n (pB B I) 2 W K = K (.pointer (some ⟨B, I + 3, none⟩)) W := kr
@[simp] theorem brd : faT P T.n (pB B I) 3 W K = K (.pointer (some ⟨B, I + 4, none⟩)) W := kr
@[simp] theorem brc : faT P T.n (pB B I) 4 W K = K (.pointer (some ⟨B, I + 6, none⟩)) W := kr
@[simp] theorem bsc (x0 : Int) (x1 : Int) (c2_0 c2_1 : Value) (bo3 : Bool) (c4_0 c4_1 : Value) (x5 : Int) (w : World) (K : KV) : ki P T.a #[(0, (.int .i64 x0)), (1, (.int .u64 x1)), (2, (.agg #[c2_0, c2_1])), (5, (.bool bo3)), (3, (.agg #[c4_0, c4_1])), (4, (.int .i64 x5))] w K = K (.agg #[(.int .i64 x0), (.int .u64 x1), c2_0, c2_1, c4_0, c4_1, (.int .i64 x5), (.bool bo3), nS, nS, nS]) w := kr
@[simp] theorem bqx : faT P T.n (pB B I) 5 W K = K (.pointer (some ⟨B, I + 7, none⟩)) W := kr
@[simp] theorem bsq (v : Value) (w : World) (K : KV) : taT P (.iface T.z v) T.au T.z true w K = K (.tuple #[v, .bool true]) w := kr
@[simp] theorem btr : alT P T.z W K = K (.pointer (some ⟨W.heap.size, 0, none⟩)) (W.alloc (.cells #[u0, i0] T.z)) := kr
@[simp] theorem buq (b i : Nat) (c_0 c_1 : Value) (w : World) (K : KV) : stT P T.z (pB b i) (.agg #[c_0, c_1]) w K = stN P b i [c_0, c_1] w K := kr
@[simp] theorem bte : faT P T.z (pB B I) 0 W K = K (pB B I) W := kr
@[simp] theorem bse : faT P T.z (pB B I) 1 W K = K (.pointer (some ⟨B, I + 1, none⟩)) W := kr
@[simp] theorem brs (x0 : Int) (x1 : Int) (x2 : Int) (w : World) (K : KV) : ki P T.a #[(0, (.int .i64 x0)), (1, (.int .u64 x1)), (4, (.int .i64 x2))] w K = K (.agg #[(.int .i64 x0), (.int .u64 x1), u0, u0, u0, u0, (.int .i64 x2), bF, nS, nS, nS]) w := kr
@[simp] theorem byi (v : Value) (w : World) (K : KV) : taT P (.iface T.o v) T.au T.o true w K = K (.tuple #[v, .bool true]) w := kr
@[simp] theorem bub : faT P T.o (pB B I) 0 W K = K (pB B I) W := kr
@[simp] theorem bwz : faT P T.e (pB B I) 3 W K = K (.pointer (some ⟨B, I + 3, none⟩)) W := kr
@[simp] theorem bvl (x0 : Int) (x1 : Int) (w : World) (K : KV) : bsT P T.ad 2 #[(0, (.int .i64 x0)), (1, (.int .i64 x1))] w K = K (.slice (some ⟨w.heap.size, 0, none⟩) 2 2) (w.alloc (.cells #[(.int .i64 x0), (.int .i64 x1)] T.c)) := kr
@[simp] theorem bst (rx ry : Operand)  (w : World) (K : KV) : ij P .eql T.bh rx ry nP nP w K = K bY w := kr
@[simp] theorem bwb (rx ry : Operand) (a : Addr) (w : World) (K : KV) : ij P .eql T.bh rx ry (.pointer (some a)) nP w K = K bF w := kr
@[simp] theorem bre (rx ry : Operand) (l c : Nat) (w : World) (K : KV) : ij P .eql T.k rx ry (.slice none l c) nS w K = K bY w := kr
@[simp] theorem bvv (rx ry : Operand) (a : Addr) (l c : Nat) (w : World) (K : KV) : ij P .eql T.k rx ry (.slice (some a) l c) nS w K = K bF w := kr
@[simp] theorem bxg : bsT P T.k 0 #[] W K = K (.slice (some ⟨W.heap.size, 0, none⟩) 0 0) (W.alloc (.cells #[] T.r)) := kr
@[simp] theorem bty (rx ry : Operand) (l c : Nat) (w : World) (K : KV) : ij P .eql T.h rx ry (.slice none l c) nS w K = K bY w := kr
@[simp] theorem bqz (rx ry : Operand) (a : Addr) (l c : Nat) (w : World) (K : KV) : ij P .eql T.h rx ry (.slice (some a) l c) nS w K = K bF w := kr
@[simp] theorem btx (x0 : Int) (p1 : Option Addr) (l1 c1 : Nat) (w : World) (K : KV) : ki P T.af #[(1, (.int .i64 x0)), (2, (.slice p1 l1 c1))] w K = K (.agg #[i0, (.int .i64 x0), (.slice p1 l1 c1), i0]) w := kr
@[simp] theorem bvm (rx ry : Operand)  (w : World) (K : KV) : ij P .neq T.aa rx ry nP nP w K = K bF w := kr
@[simp] theorem bvi (rx ry : Operand) (a : Addr) (w : World) (K : KV) : ij P .neq T.aa rx ry (.pointer (some a)) nP w K = K bY w := kr
@[simp] theorem bqv : faT P T.ag (pB B I) 0 W K = K (pB B I) W := kr
@[simp] theorem bxy : ki P T.ai #[] W K = K (.agg #[nS, nS]) W := kr
@[simp] theorem bws : faT P T.e (pB B I) 4 W K = K (.pointer (some ⟨B, I + 4, none⟩)) W := kr
@[simp] theorem bta : oe P T.bg = true := kr
@[simp] theorem bvs : szE P T.bg = 1 := kr
@[simp] theorem bvh (x0 : Int) (x1 : Int) (w : World) (K : KV) : bsT P T.bg 2 #[(0, (.int .i64 x0)), (1, (.int .i64 x1))] w K = K (.slice (some ⟨w.heap.size, 0, none⟩) 2 2) (w.alloc (.cells #[(.int .i64 x0), (.int .i64 x1)] T.w)) := kr
@[simp] theorem bsl : faT P T.e (pB B I) 2 W K = K (.pointer (some ⟨B, I + 2, none⟩)) W := kr
@[simp] theorem bts : alT P T.x W K = K (.pointer (some ⟨W.heap.size, 0, none⟩)) (W.alloc (.cells #[u0] T.x)) := kr
@[simp] theorem bua (b i : Nat) (x : Int) (w : World) (K : KV) : stT P T.x (pB b i) (.int .u64 x) w K = st1 P b i (.int .u64 x) w K := kr
theorem mt.ay : vp P T.ay .u64 T.av bF := vp.mk' (key := T.g) (by kernel_rfl) (by kernel_rfl) (by kernel_rfl)
@[simp] theorem bsz : oe P T.az = true := kr
@[simp] theorem bxx : szE P T.az = 1 := kr
theorem et.az : mi P T.az T.aw 1 4 := mi.mk' (by kernel_rfl) (by kernel_rfl) (by kernel_rfl)
@[simp] theorem bxl : ldT P T.aw (pB B I) W K = ld1 P B I W K := kr
@[simp] theorem bsx : ldT P T.x (pB B I) W K = ld1 P B I W K := kr
@[simp] theorem bvg (x0 : Int) (w : World) (K : KV) : bsT P T.az 1 #[(0, (.int .i32 x0))] w K = K (.slice (some ⟨w.heap.size, 0, none⟩) 1 1) (w.alloc (.cells #[(.int .i32 x0)] T.aw)) := kr
end Go.Proofs.YtfnhoaemapheoaaGreat
