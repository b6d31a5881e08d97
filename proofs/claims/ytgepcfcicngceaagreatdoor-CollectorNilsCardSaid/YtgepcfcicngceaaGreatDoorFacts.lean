/-
  Printed by wip/Shallow.lean: what the operations come to at this seat's types. No condition.
-/
import Derived.Test.YtgepcfcicngceaaGreatDoorN
import Derived.Test.YtgepcfcicngceaaGreatDoorZEng
set_option maxRecDepth 1000000
namespace Go.Proofs.YtgepcfcicngceaaGreatDoor
open Go.Eng
variable (B I : Nat) (W : World) (K : KV)
@[simp] theorem cbb : nf P T.y = true := kr
@[simp] theorem caz : szE P T.y = 1 := kr
theorem et.y : lw P T.y T.bc 1 1 := lw.mk' (by kernel_rfl) (by kernel_rfl) (by kernel_rfl)
@[simp] theorem caw : ldT P T.c (pB B I) W K = ldN P 11 B I W K := kr
@[simp] theorem cbe : nf P T.ap = true := kr
@[simp] theorem cax : szE P T.ap = 13 := kr
theorem et.ap : lw P T.ap T.bm 13 152 := lw.mk' (by kernel_rfl) (by kernel_rfl) (by kernel_rfl)
@[simp] theorem cba : nf P T.bd = true := kr
theorem et.bd : lw P T.bd T.av 16 144 := lw.mk' (by kernel_rfl) (by kernel_rfl) (by kernel_rfl)
@[simp] theorem byg : nf P T.o = true := kr
@[simp] theorem cak : szE P T.o = 3 := kr
theorem et.o : lw P T.o T.m 3 24 := lw.mk' (by kernel_rfl) (by kernel_rfl) (by kernel_rfl)
@[simp] theorem bzo : nf P T.h = true := kr
@[simp] theorem bze : szE P T.h = 1 := kr
theorem et.h : lw P T.h T.a 1 8 := lw.mk' (by kernel_rfl) (by kernel_rfl) (by kernel_rfl)
@[simp] theorem bzk (rx ry : Operand)  (w : World) (K : KV) : iq P .eql T.ag rx ry nP nP w K = K bY w := kr
@[simp] theorem byn (rx ry : Operand) (a : Addr) (w : World) (K : KV) : iq P .eql T.ag rx ry (.pointer (some a)) nP w K = K bF w := kr
@[simp] theorem byl : ldT P T.y (pB B I) W K = ld1 P B I W K := kr
@[simp] theorem byq : alT P T.i W K = K (.pointer (some ⟨W.heap.size, 0, none⟩)) (W.alloc (.cells #[u0, u0, u0, u0, u0, (.string ⟨#[]⟩), (.string ⟨#[]⟩), bF] T.i)) := kr
@[simp] theorem caf (b i : Nat) (c_0 c_1 c_2 c_3 c_4 c_5 c_6 c_7 : Value) (w : World) (K : KV) : stT P T.i (pB b i) (.agg #[c_0, c_1, c_2, c_3, c_4, c_5, c_6, c_7]) w K = stN P b i [c_0, c_1, c_2, c_3, c_4, c_5, c_6, c_7] w K := kr
@[simp] theorem caq : ldT P T.d (pB B I) W K = ld1 P B I W K := kr
@[simp] theorem bzj : ldT P T.i (pB B I) W K = ldN P 8 B I W K := kr
@[simp] theorem byr : alT P T.p W K = K (.pointer (some ⟨W.heap.size, 0, none⟩)) (W.alloc (.cells #[u0, u0, nS, u0, i0, u0, u0, u0, u0, i0, i0, i0, (.string ⟨#[]⟩)] T.p)) := kr
@[simp] theorem byj (b i : Nat) (c_0 c_1 c_2 c_3 c_4 c_5 c_6 c_7 c_8 c_9 c_10 c_11 c_12 : Value) (w : World) (K : KV) : stT P T.p (pB b i) (.agg #[c_0, c_1, c_2, c_3, c_4, c_5, c_6, c_7, c_8, c_9, c_10, c_11, c_12]) w K = stN P b i [c_0, c_1, c_2, c_3, c_4, c_5, c_6, c_7, c_8, c_9, c_10, c_11, c_12] w K := kr
@[simp] theorem cas : faT P T.p (pB B I) 1 W K = K (.pointer (some ⟨B, I + 1, none⟩)) W := kr
@[simp] theorem cat (b i : Nat) (x : Int) (w : World) (K : KV) : stT P T.a (pB b i) (.int .u64 x) w K = st1 P b i (.int .u64 x) w K := kr
@[simp] theorem bzb (x0 : Int) (x1 : Int) (w : World) (K : KV) : jj P T.m #[(0, (.int .u64 x0)), (1, (.int .u64 x1))] w K = K (.agg #[(.int .u64 x0), (.int .u64 x1), i0]) w := kr
@[simp] theorem bzl (c0_0 c0_1 c0_2 : Value) (w : World) (K : KV) : bsT P T.o 1 #[(0, (.agg #[c0_0, c0_1, c0_2]))] w K = K (.slice (some ⟨w.heap.size, 0, none⟩) 1 1) (w.alloc (.cells #[c0_0, c0_1, c0_2] T.m)) := kr
@[simp] theorem bzy (x0 : Int) (p1 : Option Addr) (l1 c1 : Nat) (w : World) (K : KV) : jj P T.c #[(0, (.int .i64 x0)), (7, (.slice p1 l1 c1))] w K = K (.agg #[(.int .i64 x0), u0, u0, u0, u0, u0, i0, bF, nS, (.slice p1 l1 c1), nS]) w := kr
@[simp] theorem bzi : ldT P T.a (pB B I) W K = ld1 P B I W K := kr
@[simp] theorem byo : faT P T.bm (pB B I) 2 W K = K (.pointer (some ⟨B, I + 2, none⟩)) W := kr
@[simp] theorem cau : faT P T.c (pB B I) 0 W K = K (pB B I) W := kr
@[simp] theorem caa : faT P T.c (pB B I) 1 W K = K (.pointer (some ⟨B, I + 1, none⟩)) W := kr
@[simp] theorem bzp : faT P T.bm (pB B I) 1 W K = K (.pointer (some ⟨B, I + 1, none⟩)) W := kr
@[simp] theorem cao : nf P T.g = true := kr
@[simp] theorem byi : szE P T.g = 8 := kr
theorem et.g : lw P T.g T.i 8 80 := lw.mk' (by kernel_rfl) (by kernel_rfl) (by kernel_rfl)
@[simp] theorem cai : faT P T.c (pB B I) 6 W K = K (.pointer (some ⟨B, I + 8, none⟩)) W := kr
@[simp] theorem cal : ldT P T.g (pB B I) W K = ld1 P B I W K := kr
@[simp] theorem bzg : faT P T.p (pB B I) 9 W K = K (.pointer (some ⟨B, I + 9, none⟩)) W := kr
@[simp] theorem bzn (b i : Nat) (x : Int) (w : World) (K : KV) : stT P T.d (pB b i) (.int .i64 x) w K = st1 P b i (.int .i64 x) w K := kr
@[simp] theorem bzr : faT P T.p (pB B I) 12 W K = K (.pointer (some ⟨B, I + 12, none⟩)) W := kr
@[simp] theorem bys (b i : Nat) (s : ByteArray) (w : World) (K : KV) : stT P T.l (pB b i) (.string s) w K = st1 P b i (.string s) w K := kr
@[simp] theorem byy : faT P T.p (pB B I) 10 W K = K (.pointer (some ⟨B, I + 10, none⟩)) W := kr
@[simp] theorem byh : faT P T.i (pB B I) 0 W K = K (pB B I) W := kr
@[simp] theorem cah : faT P T.i (pB B I) 1 W K = K (.pointer (some ⟨B, I + 1, none⟩)) W := kr
@[simp] theorem cae : faT P T.c (pB B I) 2 W K = K (.pointer (some ⟨B, I + 2, none⟩)) W := kr
@[simp] theorem cav : ldT P T.e (pB B I) W K = ldN P 2 B I W K := kr
@[simp] theorem byk (x0 : Int) (x1 : Int) (c2_0 c2_1 : Value) (bo3 : Bool) (w : World) (K : KV) : jj P T.c #[(0, (.int .i64 x0)), (1, (.int .u64 x1)), (2, (.agg #[c2_0, c2_1])), (5, (.bool bo3))] w K = K (.agg #[(.int .i64 x0), (.int .u64 x1), c2_0, c2_1, u0, u0, i0, (.bool bo3), nS, nS, nS]) w := kr
@[simp] theorem bzs : faT P T.c (pB B I) 4 W K = K (.pointer (some ⟨B, I + 6, none⟩)) W := kr
@[simp] theorem byf : ldT P T.z (pB B I) W K = ld1 P B I W K := kr
@[simp] theorem bzm : faT P T.p (pB B I) 2 W K = K (.pointer (some ⟨B, I + 2, none⟩)) W := kr
@[simp] theorem bzq : ldT P T.h (pB B I) W K = ld1 P B I W K := kr
@[simp] theorem cam : ldT P T.l (pB B I) W K = ld1 P B I W K := kr
@[simp] theorem bzh : faT P T.c (pB B I) 7 W K = K (.pointer (some ⟨B, I + 9, none⟩)) W := kr
@[simp] theorem cad : ldT P T.o (pB B I) W K = ld1 P B I W K := kr
@[simp] theorem bzf : faT P T.c (pB B I) 8 W K = K (.pointer (some ⟨B, I + 10, none⟩)) W := kr
@[simp] theorem byu : faT P T.i (pB B I) 6 W K = K (.pointer (some ⟨B, I + 6, none⟩)) W := kr
@[simp] theorem bzx : faT P T.i (pB B I) 5 W K = K (.pointer (some ⟨B, I + 5, none⟩)) W := kr
@[simp] theorem cac (x0 : Int) (x1 : Int) (s2 : ByteArray) (s3 : ByteArray) (bo4 : Bool) (w : World) (K : KV) : jj P T.i #[(0, (.int .u64 x0)), (1, (.int .u64 x1)), (5, (.string s2)), (6, (.string s3)), (7, (.bool bo4))] w K = K (.agg #[(.int .u64 x0), (.int .u64 x1), u0, u0, u0, (.string s2), (.string s3), (.bool bo4)]) w := kr
@[simp] theorem bzu : alT P T.e W K = K (.pointer (some ⟨W.heap.size, 0, none⟩)) (W.alloc (.cells #[u0, u0] T.e)) := kr
@[simp] theorem bzt (b i : Nat) (c_0 c_1 : Value) (w : World) (K : KV) : stT P T.e (pB b i) (.agg #[c_0, c_1]) w K = stN P b i [c_0, c_1] w K := kr
@[simp] theorem bzv : faT P T.b (pB B I) 10 W K = K (.pointer (some ⟨B, I + 23, none⟩)) W := kr
@[simp] theorem bym : faT P T.b (pB B I) 2 W K = K (.pointer (some ⟨B, I + 14, none⟩)) W := kr
@[simp] theorem byw : ldT P T.bf (pB B I) W K = ld1 P B I W K := kr
@[simp] theorem byv : faT P T.b (pB B I) 3 W K = K (.pointer (some ⟨B, I + 15, none⟩)) W := kr
@[simp] theorem byx : ldT P T.ao (pB B I) W K = ld1 P B I W K := kr
@[simp] theorem bzz : faT P T.b (pB B I) 0 W K = K (pB B I) W := kr
@[simp] theorem cab : faT P T.f (pB B I) 0 W K = K (pB B I) W := kr
@[simp] theorem bzd : faT P T.b (pB B I) 5 W K = K (.pointer (some ⟨B, I + 17, none⟩)) W := kr
@[simp] theorem byp : ldT P T.w (pB B I) W K = ld1 P B I W K := kr
theorem mt.w : nj P T.w .u64 T.bj nP := nj.mk' (key := T.a) (by kernel_rfl) (by kernel_rfl) (by kernel_rfl)
@[simp] theorem bzw (rx ry : Operand)  (w : World) (K : KV) : iq P .eql T.bj rx ry nP nP w K = K bY w := kr
@[simp] theorem caj (rx ry : Operand) (a : Addr) (w : World) (K : KV) : iq P .eql T.bj rx ry (.pointer (some a)) nP w K = K bF w := kr
@[simp] theorem byz (x0 : Int) (x1 : Int) (p2 : Option Addr) (l2 c2 : Nat) (w : World) (K : KV) : jj P T.c #[(0, (.int .i64 x0)), (1, (.int .u64 x1)), (6, (.slice p2 l2 c2))] w K = K (.agg #[(.int .i64 x0), (.int .u64 x1), u0, u0, u0, u0, i0, bF, (.slice p2 l2 c2), nS, nS]) w := kr
@[simp] theorem bzc (x0 : Int) (w : World) (K : KV) : bsT P T.h 1 #[(0, (.int .u64 x0))] w K = K (.slice (some ⟨w.heap.size, 0, none⟩) 1 1) (w.alloc (.cells #[(.int .u64 x0)] T.a)) := kr
@[simp] theorem bza : faT P T.b (pB B I) 9 W K = K (.pointer (some ⟨B, I + 22, none⟩)) W := kr
@[simp] theorem cag : faT P T.f (pB B I) 8 W K = K (.pointer (some ⟨B, I + 8, none⟩)) W := kr
@[simp] theorem bub : faT P T.b (pB B I) 7 W K = K (.pointer (some ⟨B, I + 19, none⟩)) W := kr
@[simp] theorem buq : ldT P T.u (pB B I) W K = ld1 P B I W K := kr
theorem mt.u : nj P T.u .u64 T.g nS := nj.mk' (key := T.a) (by kernel_rfl) (by kernel_rfl) (by kernel_rfl)
@[simp] theorem bty (rx ry : Operand)  (w : World) (K : KV) : iq P .neq T.ag rx ry nP nP w K = K bF w := kr
@[simp] theorem bwf : faT P T.b (pB B I) 13 W K = K (.pointer (some ⟨B, I + 26, none⟩)) W := kr
@[simp] theorem bvo : faT P T.b (pB B I) 14 W K = K (.pointer (some ⟨B, I + 27, none⟩)) W := kr
@[simp] theorem bva (x0 : Int) (x1 : Int) (c2_0 c2_1 c2_2 c2_3 c2_4 c2_5 c2_6 c2_7 : Value) (w : World) (K : KV) : jj P T.av #[(0, (.int .i64 x0)), (3, (.int .u64 x1)), (6, (.agg #[c2_0, c2_1, c2_2, c2_3, c2_4, c2_5, c2_6, c2_7]))] w K = K (.agg #[(.int .i64 x0), u0, u0, (.int .u64 x1), u0, u0, i0, c2_0, c2_1, c2_2, c2_3, c2_4, c2_5, c2_6, c2_7, i0]) w := kr
@[simp] theorem brw : alT P T.av W K = K (.pointer (some ⟨W.heap.size, 0, none⟩)) (W.alloc (.cells #[i0, u0, u0, u0, u0, u0, i0, u0, u0, u0, u0, u0, (.string ⟨#[]⟩), (.string ⟨#[]⟩), bF, i0] T.av)) := kr
@[simp] theorem bru (b i : Nat) (c_0 c_1 c_2 c_3 c_4 c_5 c_6 c_7 c_8 c_9 c_10 c_11 c_12 c_13 c_14 c_15 : Value) (w : World) (K : KV) : stT P T.av (pB b i) (.agg #[c_0, c_1, c_2, c_3, c_4, c_5, c_6, c_7, c_8, c_9, c_10, c_11, c_12, c_13, c_14, c_15]) w K = stN P b i [c_0, c_1, c_2, c_3, c_4, c_5, c_6, c_7, c_8, c_9, c_10, c_11, c_12, c_13, c_14, c_15] w K := kr
@[simp] theorem bta : faT P T.b (pB B I) 4 W K = K (.pointer (some ⟨B, I + 16, none⟩)) W := kr
@[simp] theorem bpc : ldT P T.bl (pB B I) W K = ld1 P B I W K := kr
@[simp] theorem bst : ldT P T.av (pB B I) W K = ldN P 16 B I W K := kr
@[simp] theorem bnl (c0_0 c0_1 c0_2 c0_3 c0_4 c0_5 c0_6 c0_7 : Value) (w : World) (K : KV) : bsT P T.g 1 #[(0, (.agg #[c0_0, c0_1, c0_2, c0_3, c0_4, c0_5, c0_6, c0_7]))] w K = K (.slice (some ⟨w.heap.size, 0, none⟩) 1 1) (w.alloc (.cells #[c0_0, c0_1, c0_2, c0_3, c0_4, c0_5, c0_6, c0_7] T.i)) := kr
@[simp] theorem btk (x0 : Int) (x1 : Int) (c2_0 c2_1 c2_2 c2_3 c2_4 c2_5 c2_6 c2_7 : Value) (x3 : Int) (w : World) (K : KV) : jj P T.av #[(0, (.int .i64 x0)), (3, (.int .u64 x1)), (6, (.agg #[c2_0, c2_1, c2_2, c2_3, c2_4, c2_5, c2_6, c2_7])), (7, (.int .i64 x3))] w K = K (.agg #[(.int .i64 x0), u0, u0, (.int .u64 x1), u0, u0, i0, c2_0, c2_1, c2_2, c2_3, c2_4, c2_5, c2_6, c2_7, (.int .i64 x3)]) w := kr
@[simp] theorem bvc (v : Value) (w : World) (K : KV) : taT P (.iface T.x v) T.bg T.x true w K = K (.tuple #[v, .bool true]) w := kr
@[simp] theorem boy : alT P T.x W K = K (.pointer (some ⟨W.heap.size, 0, none⟩)) (W.alloc (.cells #[u0, bF, nS] T.x)) := kr
@[simp] theorem buw (b i : Nat) (c_0 c_1 c_2 : Value) (w : World) (K : KV) : stT P T.x (pB b i) (.agg #[c_0, c_1, c_2]) w K = stN P b i [c_0, c_1, c_2] w K := kr
@[simp] theorem bxa : faT P T.x (pB B I) 2 W K = K (.pointer (some ⟨B, I + 2, none⟩)) W := kr
@[simp] theorem btb (v : Value) (w : World) (K : KV) : taT P (.iface T.v v) T.bg T.v true w K = K (.tuple #[v, .bool true]) w := kr
@[simp] theorem bwi : alT P T.v W K = K (.pointer (some ⟨W.heap.size, 0, none⟩)) (W.alloc (.cells #[nS] T.v)) := kr
@[simp] theorem bvr (b i : Nat) (c_0 : Value) (w : World) (K : KV) : stT P T.v (pB b i) (.agg #[c_0]) w K = stN P b i [c_0] w K := kr
@[simp] theorem bog : faT P T.v (pB B I) 0 W K = K (pB B I) W := kr
@[simp] theorem bwy (v : Value) (w : World) (K : KV) : taT P (.iface T.k v) T.bg T.k true w K = K (.tuple #[v, .bool true]) w := kr
@[simp] theorem bnu : alT P T.k W K = K (.pointer (some ⟨W.heap.size, 0, none⟩)) (W.alloc (.cells #[u0, u0, u0, bF, u0, u0, i0, bF] T.k)) := kr
@[simp] theorem bxs (b i : Nat) (c_0 c_1 c_2 c_3 c_4 c_5 c_6 c_7 : Value) (w : World) (K : KV) : stT P T.k (pB b i) (.agg #[c_0, c_1, c_2, c_3, c_4, c_5, c_6, c_7]) w K = stN P b i [c_0, c_1, c_2, c_3, c_4, c_5, c_6, c_7] w K := kr
@[simp] theorem buo (v : Value) (w : World) (K : KV) : taT P (.iface T.af v) T.bg T.af true w K = K (.tuple #[v, .bool true]) w := kr
@[simp] theorem bye : alT P T.af W K = K (.pointer (some ⟨W.heap.size, 0, none⟩)) (W.alloc (.cells #[u0, i0] T.af)) := kr
@[simp] theorem bua (b i : Nat) (c_0 c_1 : Value) (w : World) (K : KV) : stT P T.af (pB b i) (.agg #[c_0, c_1]) w K = stN P b i [c_0, c_1] w K := kr
@[simp] theorem bnk : faT P T.af (pB B I) 0 W K = K (pB B I) W := kr
@[simp] theorem bpd : faT P T.af (pB B I) 1 W K = K (.pointer (some ⟨B, I + 1, none⟩)) W := kr
@[simp] theorem brg (v : Value) (w : World) (K : KV) : taT P (.iface T.aa v) T.bg T.aa true w K = K (.tuple #[v, .bool true]) w := kr
@[simp] theorem bwx : alT P T.aa W K = K (.pointer (some ⟨W.heap.size, 0, none⟩)) (W.alloc (.cells #[u0, nS] T.aa)) := kr
@[simp] theorem bnx (b i : Nat) (c_0 c_1 : Value) (w : World) (K : KV) : stT P T.aa (pB b i) (.agg #[c_0, c_1]) w K = stN P b i [c_0, c_1] w K := kr
@[simp] theorem btl : ldT P T.aa (pB B I) W K = ldN P 2 B I W K := kr
@[simp] theorem bqo : faT P T.b (pB B I) 11 W K = K (.pointer (some ⟨B, I + 24, none⟩)) W := kr
@[simp] theorem bnq : ldT P T.ap (pB B I) W K = ld1 P B I W K := kr
@[simp] theorem brv (b i : Nat) (p : Option Addr) (l c : Nat) (w : World) (K : KV) : stT P T.ap (pB b i) (.slice p l c) w K = st1 P b i (.slice p l c) w K := kr
@[simp] theorem bwd : faT P T.b (pB B I) 12 W K = K (.pointer (some ⟨B, I + 25, none⟩)) W := kr
@[simp] theorem bte : ldT P T.bd (pB B I) W K = ld1 P B I W K := kr
@[simp] theorem bsd (b i : Nat) (p : Option Addr) (l c : Nat) (w : World) (K : KV) : stT P T.bd (pB b i) (.slice p l c) w K = st1 P b i (.slice p l c) w K := kr
@[simp] theorem bph : faT P T.f (pB B I) 4 W K = K (.pointer (some ⟨B, I + 4, none⟩)) W := kr
@[simp] theorem bqk : ldT P T.f (pB B I) W K = ldN P 13 B I W K := kr
@[simp] theorem boc (c0_0 c0_1 c0_2 c0_3 c0_4 c0_5 c0_6 c0_7 c0_8 c0_9 c0_10 c0_11 c0_12 : Value) (x1 : Int) (x2 : Int) (r3 : Option Nat) (r4 : Option Nat) (r5 : Option Nat) (w : World) (K : KV) : jj P T.b #[(0, (.agg #[c0_0, c0_1, c0_2, c0_3, c0_4, c0_5, c0_6, c0_7, c0_8, c0_9, c0_10, c0_11, c0_12])), (10, (.int .u64 x1)), (9, (.int .u64 x2)), (5, (.map r3)), (6, (.map r4)), (7, (.map r5))] w K = K (.agg #[c0_0, c0_1, c0_2, c0_3, c0_4, c0_5, c0_6, c0_7, c0_8, c0_9, c0_10, c0_11, c0_12, nS, nP, nP, nP, (.map r3), (.map r4), (.map r5), u0, u0, (.int .u64 x2), (.int .u64 x1), nS, nS, u0, u0]) w := kr
@[simp] theorem bve : faT P T.f (pB B I) 2 W K = K (.pointer (some ⟨B, I + 2, none⟩)) W := kr
@[simp] theorem bro (b i : Nat) (p : Option Addr) (l c : Nat) (w : World) (K : KV) : stT P T.h (pB b i) (.slice p l c) w K = st1 P b i (.slice p l c) w K := kr
@[simp] theorem boo : faT P T.f (pB B I) 12 W K = K (.pointer (some ⟨B, I + 12, none⟩)) W := kr
@[simp] theorem bwn : faT P T.b (pB B I) 1 W K = K (.pointer (some ⟨B, I + 13, none⟩)) W := kr
@[simp] theorem bnt (b i : Nat) (p : Option Addr) (l c : Nat) (w : World) (K : KV) : stT P T.ad (pB b i) (.slice p l c) w K = st1 P b i (.slice p l c) w K := kr
@[simp] theorem bsf : faT P T.f (pB B I) 1 W K = K (.pointer (some ⟨B, I + 1, none⟩)) W := kr
@[simp] theorem bxu : faT P T.f (pB B I) 5 W K = K (.pointer (some ⟨B, I + 5, none⟩)) W := kr
@[simp] theorem bop : faT P T.f (pB B I) 6 W K = K (.pointer (some ⟨B, I + 6, none⟩)) W := kr
@[simp] theorem bqp (b i : Nat) (p : Option Addr) (w : World) (K : KV) : stT P T.bf (pB b i) (.pointer p) w K = st1 P b i (.pointer p) w K := kr
@[simp] theorem bud : faT P T.f (pB B I) 9 W K = K (.pointer (some ⟨B, I + 9, none⟩)) W := kr
@[simp] theorem bvl : faT P T.f (pB B I) 10 W K = K (.pointer (some ⟨B, I + 10, none⟩)) W := kr
@[simp] theorem bsr : faT P T.f (pB B I) 7 W K = K (.pointer (some ⟨B, I + 7, none⟩)) W := kr
@[simp] theorem bwv (b i : Nat) (p : Option Addr) (w : World) (K : KV) : stT P T.ao (pB b i) (.pointer p) w K = st1 P b i (.pointer p) w K := kr
@[simp] theorem bup : faT P T.f (pB B I) 11 W K = K (.pointer (some ⟨B, I + 11, none⟩)) W := kr
@[simp] theorem bpx (b i : Nat) (p : Option Addr) (w : World) (K : KV) : stT P T.bl (pB b i) (.pointer p) w K = st1 P b i (.pointer p) w K := kr
@[simp] theorem bwp : alT P T.f W K = K (.pointer (some ⟨W.heap.size, 0, none⟩)) (W.alloc (.cells #[u0, u0, nS, u0, i0, u0, u0, u0, u0, i0, i0, i0, (.string ⟨#[]⟩)] T.f)) := kr
@[simp] theorem bvq : faT P T.p (pB B I) 0 W K = K (pB B I) W := kr
@[simp] theorem bqt : faT P T.p (pB B I) 3 W K = K (.pointer (some ⟨B, I + 3, none⟩)) W := kr
@[simp] theorem bux : faT P T.p (pB B I) 4 W K = K (.pointer (some ⟨B, I + 4, none⟩)) W := kr
@[simp] theorem btg : faT P T.p (pB B I) 5 W K = K (.pointer (some ⟨B, I + 5, none⟩)) W := kr
@[simp] theorem bnp : faT P T.p (pB B I) 6 W K = K (.pointer (some ⟨B, I + 6, none⟩)) W := kr
@[simp] theorem bqb : faT P T.p (pB B I) 7 W K = K (.pointer (some ⟨B, I + 7, none⟩)) W := kr
@[simp] theorem brl : faT P T.p (pB B I) 8 W K = K (.pointer (some ⟨B, I + 8, none⟩)) W := kr
@[simp] theorem bwa : faT P T.p (pB B I) 11 W K = K (.pointer (some ⟨B, I + 11, none⟩)) W := kr
@[simp] theorem bqy (x0 : Int) (x1 : Int) (p2 : Option Addr) (l2 c2 : Nat) (x3 : Int) (x4 : Int) (x5 : Int) (x6 : Int) (x7 : Int) (x8 : Int) (x9 : Int) (x10 : Int) (x11 : Int) (s12 : ByteArray) (w : World) (K : KV) : jj P T.f #[(0, (.int .u64 x0)), (1, (.int .u64 x1)), (2, (.slice p2 l2 c2)), (3, (.int .u64 x3)), (4, (.int .i64 x4)), (5, (.int .u64 x5)), (6, (.int .u64 x6)), (7, (.int .u64 x7)), (8, (.int .u64 x8)), (9, (.int .i64 x9)), (10, (.int .i64 x10)), (11, (.int .i64 x11)), (12, (.string s12))] w K = K (.agg #[(.int .u64 x0), (.int .u64 x1), (.slice p2 l2 c2), (.int .u64 x3), (.int .i64 x4), (.int .u64 x5), (.int .u64 x6), (.int .u64 x7), (.int .u64 x8), (.int .i64 x9), (.int .i64 x10), (.int .i64 x11), (.string s12)]) w := kr
@[simp] theorem bpm (b i : Nat) (c_0 c_1 c_2 c_3 c_4 c_5 c_6 c_7 c_8 c_9 c_10 c_11 c_12 : Value) (w : World) (K : KV) : stT P T.f (pB b i) (.agg #[c_0, c_1, c_2, c_3, c_4, c_5, c_6, c_7, c_8, c_9, c_10, c_11, c_12]) w K = stN P b i [c_0, c_1, c_2, c_3, c_4, c_5, c_6, c_7, c_8, c_9, c_10, c_11, c_12] w K := kr
@[simp] theorem bob (x0 : Int) (x1 : Int) (p2 : Option Addr) (l2 c2 : Nat) (x3 : Int) (x4 : Int) (x5 : Int) (x6 : Int) (x7 : Int) (x8 : Int) (x9 : Int) (x10 : Int) (x11 : Int) (s12 : ByteArray) (w : World) (K : KV) : jj P T.p #[(0, (.int .u64 x0)), (1, (.int .u64 x1)), (2, (.slice p2 l2 c2)), (3, (.int .u64 x3)), (4, (.int .i64 x4)), (5, (.int .u64 x5)), (6, (.int .u64 x6)), (7, (.int .u64 x7)), (8, (.int .u64 x8)), (9, (.int .i64 x9)), (10, (.int .i64 x10)), (11, (.int .i64 x11)), (12, (.string s12))] w K = K (.agg #[(.int .u64 x0), (.int .u64 x1), (.slice p2 l2 c2), (.int .u64 x3), (.int .i64 x4), (.int .u64 x5), (.int .u64 x6), (.int .u64 x7), (.int .u64 x8), (.int .i64 x9), (.int .i64 x10), (.int .i64 x11), (.string s12)]) w := kr
@[simp] theorem bts : jj P T.i #[] W K = K (.agg #[u0, u0, u0, u0, u0, (.string ⟨#[]⟩), (.string ⟨#[]⟩), bF]) W := kr
@[simp] theorem bpb : ldT P T.bc (pB B I) W K = ld1 P B I W K := kr
@[simp] theorem bvh : faT P T.c (pB B I) 3 W K = K (.pointer (some ⟨B, I + 4, none⟩)) W := kr
@[simp] theorem bqh : jj P T.e #[] W K = K (.agg #[u0, u0]) W := kr
@[simp] theorem btr : faT P T.e (pB B I) 0 W K = K (pB B I) W := kr
@[simp] theorem btm : faT P T.c (pB B I) 5 W K = K (.pointer (some ⟨B, I + 7, none⟩)) W := kr
@[simp] theorem bqc : ldT P T.bp (pB B I) W K = ld1 P B I W K := kr
@[simp] theorem bpi : nf P T.bh = true := kr
@[simp] theorem bvj : szE P T.bh = 1 := kr
@[simp] theorem bnz : faT P T.i (pB B I) 3 W K = K (.pointer (some ⟨B, I + 3, none⟩)) W := kr
@[simp] theorem bsq : faT P T.i (pB B I) 4 W K = K (.pointer (some ⟨B, I + 4, none⟩)) W := kr
@[simp] theorem bxp : bsT P T.y 0 #[] W K = K (.slice (some ⟨W.heap.size, 0, none⟩) 0 0) (W.alloc (.cells #[] T.bc)) := kr
@[simp] theorem bri : faT P T.i (pB B I) 2 W K = K (.pointer (some ⟨B, I + 2, none⟩)) W := kr
@[simp] theorem bss (x0 : Int) (x1 : Int) (x2 : Int) (x3 : Int) (x4 : Int) (w : World) (K : KV) : bsT P T.h 5 #[(0, (.int .u64 x0)), (1, (.int .u64 x1)), (2, (.int .u64 x2)), (3, (.int .u64 x3)), (4, (.int .u64 x4))] w K = K (.slice (some ⟨w.heap.size, 0, none⟩) 5 5) (w.alloc (.cells #[(.int .u64 x0), (.int .u64 x1), (.int .u64 x2), (.int .u64 x3), (.int .u64 x4)] T.a)) := kr
@[simp] theorem bxm : faT P T.i (pB B I) 7 W K = K (.pointer (some ⟨B, I + 7, none⟩)) W := kr
@[simp] theorem buj (x0 : Int) (w : World) (K : KV) : bsT P T.y 1 #[(0, (.int .u8 x0))] w K = K (.slice (some ⟨w.heap.size, 0, none⟩) 1 1) (w.alloc (.cells #[(.int .u8 x0)] T.bc)) := kr
@[simp] theorem bni : faT P T.f (pB B I) 3 W K = K (.pointer (some ⟨B, I + 3, none⟩)) W := kr
@[simp] theorem bns (rx ry : Operand) (a : Addr) (w : World) (K : KV) : iq P .eql T.bf rx ry (.pointer (some a)) nP w K = K bF w := kr
@[simp] theorem bor : faT P T.ai (pB B I) 3 W K = K (.pointer (some ⟨B, I + 3, none⟩)) W := kr
@[simp] theorem btc : faT P T.ai (pB B I) 4 W K = K (.pointer (some ⟨B, I + 4, none⟩)) W := kr
@[simp] theorem bvv : faT P T.ai (pB B I) 1 W K = K (.pointer (some ⟨B, I + 1, none⟩)) W := kr
@[simp] theorem bqf : faT P T.ai (pB B I) 6 W K = K (.pointer (some ⟨B, I + 6, none⟩)) W := kr
@[simp] theorem bre : ldT P T.m (pB B I) W K = ldN P 3 B I W K := kr
@[simp] theorem bwe : alT P T.m W K = K (.pointer (some ⟨W.heap.size, 0, none⟩)) (W.alloc (.cells #[u0, u0, i0] T.m)) := kr
@[simp] theorem bxo (b i : Nat) (c_0 c_1 c_2 : Value) (w : World) (K : KV) : stT P T.m (pB b i) (.agg #[c_0, c_1, c_2]) w K = stN P b i [c_0, c_1, c_2] w K := kr
@[simp] theorem bxf : faT P T.m (pB B I) 0 W K = K (pB B I) W := kr
@[simp] theorem btw : faT P T.ai (pB B I) 0 W K = K (pB B I) W := kr
@[simp] theorem bpt : faT P T.m (pB B I) 2 W K = K (.pointer (some ⟨B, I + 2, none⟩)) W := kr
@[simp] theorem bqa (x0 : Int) (x1 : Int) (c2_0 c2_1 c2_2 c2_3 c2_4 c2_5 c2_6 c2_7 c2_8 c2_9 c2_10 : Value) (w : World) (K : KV) : jj P T.bm #[(0, (.int .u64 x0)), (1, (.int .u64 x1)), (2, (.agg #[c2_0, c2_1, c2_2, c2_3, c2_4, c2_5, c2_6, c2_7, c2_8, c2_9, c2_10]))] w K = K (.agg #[(.int .u64 x0), (.int .u64 x1), c2_0, c2_1, c2_2, c2_3, c2_4, c2_5, c2_6, c2_7, c2_8, c2_9, c2_10]) w := kr
@[simp] theorem bxv (c0_0 c0_1 c0_2 c0_3 c0_4 c0_5 c0_6 c0_7 c0_8 c0_9 c0_10 c0_11 c0_12 : Value) (w : World) (K : KV) : bsT P T.ap 1 #[(0, (.agg #[c0_0, c0_1, c0_2, c0_3, c0_4, c0_5, c0_6, c0_7, c0_8, c0_9, c0_10, c0_11, c0_12]))] w K = K (.slice (some ⟨w.heap.size, 0, none⟩) 1 1) (w.alloc (.cells #[c0_0, c0_1, c0_2, c0_3, c0_4, c0_5, c0_6, c0_7, c0_8, c0_9, c0_10, c0_11, c0_12] T.bm)) := kr
@[simp] theorem bpa (rx ry : Operand) (a : Addr) (w : World) (K : KV) : iq P .eql T.ao rx ry (.pointer (some a)) nP w K = K bF w := kr
@[simp] theorem bpf : faT P T.an (pB B I) 4 W K = K (.pointer (some ⟨B, I + 5, none⟩)) W := kr
@[simp] theorem bui : ldT P T.j (pB B I) W K = ld1 P B I W K := kr
theorem mt.j : nj P T.j .u64 T.bo nP := nj.mk' (key := T.a) (by kernel_rfl) (by kernel_rfl) (by kernel_rfl)
@[simp] theorem bwj (rx ry : Operand)  (w : World) (K : KV) : iq P .eql T.bo rx ry nP nP w K = K bY w := kr
@[simp] theorem bxk (rx ry : Operand) (a : Addr) (w : World) (K : KV) : iq P .eql T.bo rx ry (.pointer (some a)) nP w K = K bF w := kr
@[simp] theorem brq : faT P T.az (pB B I) 0 W K = K (pB B I) W := kr
@[simp] theorem bsh : faT P T.an (pB B I) 0 W K = K (pB B I) W := kr
theorem mt.ba : nj P T.ba .u64 T.a u0 := nj.mk' (key := T.a) (by kernel_rfl) (by kernel_rfl) (by kernel_rfl)
@[simp] theorem bqm : faT P T.b (pB B I) 6 W K = K (.pointer (some ⟨B, I + 18, none⟩)) W := kr
@[simp] theorem btu : ldT P T.t (pB B I) W K = ld1 P B I W K := kr
theorem mt.t : nj P T.t .u64 T.e (.agg #[u0, u0]) := nj.mk' (key := T.a) (by kernel_rfl) (by kernel_rfl) (by kernel_rfl)
@[simp] theorem bpz (x0 : Int) (x1 : Int) (w : World) (K : KV) : jj P T.e #[(0, (.int .u64 x0)), (1, (.int .u64 x1))] w K = K (.agg #[(.int .u64 x0), (.int .u64 x1)]) w := kr
@[simp] theorem brs (x0 : Int) (x1 : Int) (c2_0 c2_1 : Value) (p3 : Option Addr) (l3 c3 : Nat) (w : World) (K : KV) : jj P T.c #[(0, (.int .i64 x0)), (1, (.int .u64 x1)), (2, (.agg #[c2_0, c2_1])), (6, (.slice p3 l3 c3))] w K = K (.agg #[(.int .i64 x0), (.int .u64 x1), c2_0, c2_1, u0, u0, i0, bF, (.slice p3 l3 c3), nS, nS]) w := kr
@[simp] theorem bpj (b i : Nat) (bo : Bool) (w : World) (K : KV) : stT P T.bp (pB b i) (.bool bo) w K = st1 P b i (.bool bo) w K := kr
@[simp] theorem byb (p0 : Option Addr) (l0 c0 : Nat) (w : World) (K : KV) : jj P T.aw #[(0, (.slice p0 l0 c0))] w K = K (.agg #[(.slice p0 l0 c0), i0]) w := kr
@[simp] theorem bxt (x0 : Int) (x1 : Int) (x2 : Int) (x3 : Int) (x4 : Int) (w : World) (K : KV) : jj P T.i #[(0, (.int .u64 x0)), (1, (.int .u64 x1)), (2, (.int .u64 x2)), (3, (.int .u64 x3)), (4, (.int .u64 x4))] w K = K (.agg #[(.int .u64 x0), (.int .u64 x1), (.int .u64 x2), (.int .u64 x3), (.int .u64 x4), (.string ⟨#[]⟩), (.string ⟨#[]⟩), bF]) w := kr
@[simp] theorem bsx : faT P T.aw (pB B I) 1 W K = K (.pointer (some ⟨B, I + 1, none⟩)) W := kr
@[simp] theorem bqv : ldT P T.ac (pB B I) W K = ld1 P B I W K := kr
@[simp] theorem brc (b i : Nat) (x : Int) (w : World) (K : KV) : stT P T.ac (pB b i) (.int .i64 x) w K = st1 P b i (.int .i64 x) w K := kr
@[simp] theorem bqu : faT P T.aw (pB B I) 0 W K = K (pB B I) W := kr
@[simp] theorem byc (rx ry : Operand) (a : Addr) (w : World) (K : KV) : iq P .eql T.bl rx ry (.pointer (some a)) nP w K = K bF w := kr
@[simp] theorem bnm : faT P T.au (pB B I) 3 W K = K (.pointer (some ⟨B, I + 66, none⟩)) W := kr
@[simp] theorem bsy : ldT P T.ak (pB B I) W K = ld1 P B I W K := kr
theorem mt.ak : nj P T.ak .u64 T.z i0 := nj.mk' (key := T.a) (by kernel_rfl) (by kernel_rfl) (by kernel_rfl)
@[simp] theorem bpu : faT P T.av (pB B I) 1 W K = K (.pointer (some ⟨B, I + 1, none⟩)) W := kr
@[simp] theorem brk : faT P T.av (pB B I) 2 W K = K (.pointer (some ⟨B, I + 2, none⟩)) W := kr
@[simp] theorem buc (c0_0 c0_1 c0_2 c0_3 c0_4 c0_5 c0_6 c0_7 c0_8 c0_9 c0_10 c0_11 c0_12 c0_13 c0_14 c0_15 : Value) (w : World) (K : KV) : bsT P T.bd 1 #[(0, (.agg #[c0_0, c0_1, c0_2, c0_3, c0_4, c0_5, c0_6, c0_7, c0_8, c0_9, c0_10, c0_11, c0_12, c0_13, c0_14, c0_15]))] w K = K (.slice (some ⟨w.heap.size, 0, none⟩) 1 1) (w.alloc (.cells #[c0_0, c0_1, c0_2, c0_3, c0_4, c0_5, c0_6, c0_7, c0_8, c0_9, c0_10, c0_11, c0_12, c0_13, c0_14, c0_15] T.av)) := kr
@[simp] theorem bsk : faT P T.an (pB B I) 1 W K = K (.pointer (some ⟨B, I + 2, none⟩)) W := kr
@[simp] theorem bxl : jj P T.az #[] W K = K (.agg #[nS, bF]) W := kr
@[simp] theorem bqd : faT P T.an (pB B I) 3 W K = K (.pointer (some ⟨B, I + 4, none⟩)) W := kr
@[simp] theorem bto : faT P T.an (pB B I) 2 W K = K (.pointer (some ⟨B, I + 3, none⟩)) W := kr
@[simp] theorem boe : faT P T.az (pB B I) 1 W K = K (.pointer (some ⟨B, I + 1, none⟩)) W := kr
@[simp] theorem bxg (b i : Nat) (p : Option Addr) (l c : Nat) (w : World) (K : KV) : stT P T.g (pB b i) (.slice p l c) w K = st1 P b i (.slice p l c) w K := kr
@[simp] theorem bww : faT P T.ai (pB B I) 7 W K = K (.pointer (some ⟨B, I + 7, none⟩)) W := kr
@[simp] theorem bug : ldT P T.ba (pB B I) W K = ld1 P B I W K := kr
@[simp] theorem brt : faT P T.m (pB B I) 1 W K = K (.pointer (some ⟨B, I + 1, none⟩)) W := kr
@[simp] theorem bws (x0 : Int) (x1 : Int) (x2 : Int) (w : World) (K : KV) : jj P T.c #[(0, (.int .i64 x0)), (1, (.int .u64 x1)), (4, (.int .i64 x2))] w K = K (.agg #[(.int .i64 x0), (.int .u64 x1), u0, u0, u0, u0, (.int .i64 x2), bF, nS, nS, nS]) w := kr
@[simp] theorem bsp : alT P T.c W K = K (.pointer (some ⟨W.heap.size, 0, none⟩)) (W.alloc (.cells #[i0, u0, u0, u0, u0, u0, i0, bF, nS, nS, nS] T.c)) := kr
@[simp] theorem bsz (b i : Nat) (c_0 c_1 c_2 c_3 c_4 c_5 c_6 c_7 c_8 c_9 c_10 : Value) (w : World) (K : KV) : stT P T.c (pB b i) (.agg #[c_0, c_1, c_2, c_3, c_4, c_5, c_6, c_7, c_8, c_9, c_10]) w K = stN P b i [c_0, c_1, c_2, c_3, c_4, c_5, c_6, c_7, c_8, c_9, c_10] w K := kr
@[simp] theorem bqq (x0 : Int) (x1 : Int) (x2 : Int) (w : World) (K : KV) : jj P T.av #[(0, (.int .i64 x0)), (3, (.int .u64 x1)), (5, (.int .i64 x2))] w K = K (.agg #[(.int .i64 x0), u0, u0, (.int .u64 x1), u0, u0, (.int .i64 x2), u0, u0, u0, u0, u0, (.string ⟨#[]⟩), (.string ⟨#[]⟩), bF, i0]) w := kr
@[simp] theorem bpk : faT P T.aa (pB B I) 0 W K = K (pB B I) W := kr
@[simp] theorem brd (x0 : Int) (x1 : Int) (w : World) (K : KV) : jj P T.aq #[(0, (.int .u64 x0)), (1, (.int .u64 x1))] w K = K (.agg #[(.int .u64 x0), (.int .u64 x1)]) w := kr
@[simp] theorem brb : nf P T.am = true := kr
@[simp] theorem bwh : szE P T.am = 2 := kr
theorem et.am : lw P T.am T.aq 2 16 := lw.mk' (by kernel_rfl) (by kernel_rfl) (by kernel_rfl)
@[simp] theorem buf (rx ry : Operand) (l c : Nat) (w : World) (K : KV) : iq P .eql T.h rx ry (.slice none l c) nS w K = K bY w := kr
@[simp] theorem bpy (rx ry : Operand) (a : Addr) (l c : Nat) (w : World) (K : KV) : iq P .eql T.h rx ry (.slice (some a) l c) nS w K = K bF w := kr
@[simp] theorem bou : bsT P T.h 0 #[] W K = K (.slice (some ⟨W.heap.size, 0, none⟩) 0 0) (W.alloc (.cells #[] T.a)) := kr
@[simp] theorem bqz : alT P T.ad W K = K (.pointer (some ⟨W.heap.size, 0, none⟩)) (W.alloc (.cells #[nS] T.ad)) := kr
@[simp] theorem bra : alT P T.ac W K = K (.pointer (some ⟨W.heap.size, 0, none⟩)) (W.alloc (.cells #[i0] T.ac)) := kr
@[simp] theorem brh : alT P T.q W K = K (.pointer (some ⟨W.heap.size, 0, none⟩)) (W.alloc (.cells #[bF, (.string ⟨#[]⟩), u0, (.string ⟨#[]⟩)] T.q)) := kr
@[simp] theorem bsg (b i : Nat) (c_0 c_1 c_2 c_3 : Value) (w : World) (K : KV) : stT P T.q (pB b i) (.agg #[c_0, c_1, c_2, c_3]) w K = stN P b i [c_0, c_1, c_2, c_3] w K := kr
@[simp] theorem bur : ldT P T.ad (pB B I) W K = ld1 P B I W K := kr
@[simp] theorem brm : ldT P T.q (pB B I) W K = ldN P 4 B I W K := kr
@[simp] theorem btq : nf P T.ad = true := kr
@[simp] theorem bvm : szE P T.ad = 4 := kr
theorem et.ad : lw P T.ad T.q 4 48 := lw.mk' (by kernel_rfl) (by kernel_rfl) (by kernel_rfl)
@[simp] theorem btd (c0_0 c0_1 c0_2 c0_3 : Value) (w : World) (K : KV) : bsT P T.ad 1 #[(0, (.agg #[c0_0, c0_1, c0_2, c0_3]))] w K = K (.slice (some ⟨w.heap.size, 0, none⟩) 1 1) (w.alloc (.cells #[c0_0, c0_1, c0_2, c0_3] T.q)) := kr
@[simp] theorem brj (x0 : Int) (x1 : Int) (x2 : Int) (x3 : Int) (x4 : Int) (p5 : Option Addr) (l5 c5 : Nat) (r6 : Option Nat) (w : World) (K : KV) : jj P T.ai #[(0, (.int .u64 x0)), (1, (.int .u64 x1)), (2, (.int .u64 x2)), (3, (.int .u64 x3)), (4, (.int .u64 x4)), (6, (.slice p5 l5 c5)), (7, (.map r6))] w K = K (.agg #[(.int .u64 x0), (.int .u64 x1), (.int .u64 x2), (.int .u64 x3), (.int .u64 x4), bF, (.slice p5 l5 c5), (.map r6)]) w := kr
@[simp] theorem bsl (x0 : Int) (x1 : Int) (x2 : Int) (r3 : Option Nat) (w : World) (K : KV) : jj P T.an #[(1, (.int .i64 x0)), (2, (.int .i64 x1)), (3, (.int .u64 x2)), (4, (.map r3))] w K = K (.agg #[nS, (.map none), (.int .i64 x0), (.int .i64 x1), (.int .u64 x2), (.map r3)]) w := kr
@[simp] theorem bvu (x0 : Int) (r1 : Option Nat) (w : World) (K : KV) : jj P T.au #[(2, (.int .i64 x0)), (3, (.map r1))] w K = K (.agg #[u0, u0, u0, u0, u0, u0, u0, u0, u0, u0, u0, u0, u0, u0, u0, u0, u0, u0, u0, u0, u0, u0, u0, u0, u0, u0, u0, u0, u0, u0, u0, u0, u0, u0, u0, u0, u0, u0, u0, u0, u0, u0, u0, u0, u0, u0, u0, u0, u0, u0, u0, u0, u0, u0, u0, u0, u0, u0, u0, u0, u0, u0, u0, u0, i0, (.int .i64 x0), (.map r1)]) w := kr
@[simp] theorem bov (b i : Nat) (x : Int) (w : World) (K : KV) : stT P T.z (pB b i) (.int .i64 x) w K = st1 P b i (.int .i64 x) w K := kr
@[simp] theorem btv : nf P T.bq = true := kr
@[simp] theorem bul : szE P T.bq = 1 := kr
theorem et.bq : lw P T.bq T.bi 1 4 := lw.mk' (by kernel_rfl) (by kernel_rfl) (by kernel_rfl)
@[simp] theorem bwu : ldT P T.bi (pB B I) W K = ld1 P B I W K := kr
@[simp] theorem bqx : faT P T.ai (pB B I) 2 W K = K (.pointer (some ⟨B, I + 2, none⟩)) W := kr
@[simp] theorem bpr (rx ry : Operand) (l c : Nat) (w : World) (K : KV) : iq P .eql T.o rx ry (.slice none l c) nS w K = K bY w := kr
@[simp] theorem buz (rx ry : Operand) (a : Addr) (l c : Nat) (w : World) (K : KV) : iq P .eql T.o rx ry (.slice (some a) l c) nS w K = K bF w := kr
@[simp] theorem btt : bsT P T.o 0 #[] W K = K (.slice (some ⟨W.heap.size, 0, none⟩) 0 0) (W.alloc (.cells #[] T.m)) := kr
@[simp] theorem bpn (rx ry : Operand) (a : Addr) (w : World) (K : KV) : iq P .eql T.bt rx ry (.pointer (some a)) nP w K = K bF w := kr
@[simp] theorem bxc : faT P T.be (pB B I) 1 W K = K (.pointer (some ⟨B, I + 1, none⟩)) W := kr
@[simp] theorem bvd : ldT P T.n (pB B I) W K = ld1 P B I W K := kr
theorem mt.n : nj P T.n .u64 T.ab nP := nj.mk' (key := T.a) (by kernel_rfl) (by kernel_rfl) (by kernel_rfl)
@[simp] theorem bpl (rx ry : Operand)  (w : World) (K : KV) : iq P .eql T.ab rx ry nP nP w K = K bY w := kr
@[simp] theorem bol (rx ry : Operand) (a : Addr) (w : World) (K : KV) : iq P .eql T.ab rx ry (.pointer (some a)) nP w K = K bF w := kr
@[simp] theorem bvt : faT P T.be (pB B I) 0 W K = K (pB B I) W := kr
@[simp] theorem bso (v : Value) (w : World) (K : KV) : ro P T.bb v w K = K (.iface T.bb v) w := kr
@[simp] theorem bqj : abt P T.bb "Len" F.fi false = true := kr
@[simp] theorem brp : abt P T.bb "Less" F.dk false = true := kr
@[simp] theorem bon : abt P T.bb "Pop" F.es true = true := kr
@[simp] theorem bpp : abt P T.bb "Push" F.ej true = true := kr
@[simp] theorem buh : abt P T.bb "Swap" F.dl false = true := kr
@[simp] theorem bqg : faT P T.ar (pB B I) 2 W K = K (.pointer (some ⟨B, I + 2, none⟩)) W := kr
@[simp] theorem bsv : faT P T.ar (pB B I) 1 W K = K (.pointer (some ⟨B, I + 1, none⟩)) W := kr
@[simp] theorem bxx (rx ry : Operand)  (w : World) (K : KV) : iq P .eql T.n rx ry (.map none) (.map none) w K = K bY w := kr
@[simp] theorem bse (rx ry : Operand) (r : Nat) (w : World) (K : KV) : iq P .eql T.n rx ry (.map (some r)) (.map none) w K = K bF w := kr
@[simp] theorem bos (b i : Nat) (r : Option Nat) (w : World) (K : KV) : stT P T.n (pB b i) (.map r) w K = st1 P b i (.map r) w K := kr
@[simp] theorem buk (x0 : Int) (x1 : Int) (w : World) (K : KV) : jj P T.ar #[(0, (.int .u64 x0)), (1, (.int .u64 x1))] w K = K (.agg #[(.int .u64 x0), (.int .u64 x1), i0]) w := kr
@[simp] theorem btp (v : Value) (w : World) (K : KV) : ro P T.ab v w K = K (.iface T.ab v) w := kr
@[simp] theorem bxi : faT P T.b (pB B I) 8 W K = K (.pointer (some ⟨B, I + 20, none⟩)) W := kr
@[simp] theorem btf : faT P T.r (pB B I) 4 W K = K (.pointer (some ⟨B, I + 5, none⟩)) W := kr
@[simp] theorem bwz : faT P T.r (pB B I) 7 W K = K (.pointer (some ⟨B, I + 9, none⟩)) W := kr
@[simp] theorem btj : jj P T.c #[] W K = K (.agg #[i0, u0, u0, u0, u0, u0, i0, bF, nS, nS, nS]) W := kr
@[simp] theorem boq : faT P T.r (pB B I) 0 W K = K (pB B I) W := kr
@[simp] theorem bql : faT P T.r (pB B I) 1 W K = K (.pointer (some ⟨B, I + 1, none⟩)) W := kr
@[simp] theorem bno (x0 : Int) (x1 : Int) (c2_0 c2_1 : Value) (w : World) (K : KV) : jj P T.c #[(0, (.int .i64 x0)), (1, (.int .u64 x1)), (2, (.agg #[c2_0, c2_1]))] w K = K (.agg #[(.int .i64 x0), (.int .u64 x1), c2_0, c2_1, u0, u0, i0, bF, nS, nS, nS]) w := kr
@[simp] theorem bwl : faT P T.r (pB B I) 2 W K = K (.pointer (some ⟨B, I + 3, none⟩)) W := kr
@[simp] theorem bnj : faT P T.r (pB B I) 3 W K = K (.pointer (some ⟨B, I + 4, none⟩)) W := kr
@[simp] theorem bnv : faT P T.r (pB B I) 5 W K = K (.pointer (some ⟨B, I + 6, none⟩)) W := kr
@[simp] theorem bus : ldT P T.al (pB B I) W K = ld1 P B I W K := kr
theorem mt.al : nj P T.al .u64 T.bp bF := nj.mk' (key := T.a) (by kernel_rfl) (by kernel_rfl) (by kernel_rfl)
@[simp] theorem bwk (rx ry : Operand) (l c : Nat) (w : World) (K : KV) : iq P .eql T.g rx ry (.slice none l c) nS w K = K bY w := kr
@[simp] theorem bvy (rx ry : Operand) (a : Addr) (l c : Nat) (w : World) (K : KV) : iq P .eql T.g rx ry (.slice (some a) l c) nS w K = K bF w := kr
@[simp] theorem bof : bsT P T.g 0 #[] W K = K (.slice (some ⟨W.heap.size, 0, none⟩) 0 0) (W.alloc (.cells #[] T.i)) := kr
@[simp] theorem bps : nf P T.bu = true := kr
@[simp] theorem bnh : szE P T.bu = 1 := kr
@[simp] theorem bow (x0 : Int) (x1 : Int) (w : World) (K : KV) : bsT P T.bu 2 #[(0, (.int .i64 x0)), (1, (.int .i64 x1))] w K = K (.slice (some ⟨w.heap.size, 0, none⟩) 2 2) (w.alloc (.cells #[(.int .i64 x0), (.int .i64 x1)] T.ac)) := kr
@[simp] theorem brx (rx ry : Operand) (l c : Nat) (w : World) (K : KV) : iq P .eql T.y rx ry (.slice none l c) nS w K = K bY w := kr
@[simp] theorem bsm (rx ry : Operand) (a : Addr) (l c : Nat) (w : World) (K : KV) : iq P .eql T.y rx ry (.slice (some a) l c) nS w K = K bF w := kr
@[simp] theorem bqr : nf P T.bk = true := kr
@[simp] theorem brf : szE P T.bk = 1 := kr
@[simp] theorem boh (p0 : Option Addr) (l0 c0 : Nat) (p1 : Option Addr) (l1 c1 : Nat) (w : World) (K : KV) : bsT P T.bk 2 #[(0, (.slice p0 l0 c0)), (1, (.slice p1 l1 c1))] w K = K (.slice (some ⟨w.heap.size, 0, none⟩) 2 2) (w.alloc (.cells #[(.slice p0 l0 c0), (.slice p1 l1 c1)] T.g)) := kr
@[simp] theorem boa (x0 : Int) (x1 : Int) (x2 : Int) (c3_0 c3_1 c3_2 c3_3 c3_4 c3_5 c3_6 c3_7 : Value) (w : World) (K : KV) : jj P T.av #[(0, (.int .i64 x0)), (3, (.int .u64 x1)), (5, (.int .i64 x2)), (6, (.agg #[c3_0, c3_1, c3_2, c3_3, c3_4, c3_5, c3_6, c3_7]))] w K = K (.agg #[(.int .i64 x0), u0, u0, (.int .u64 x1), u0, u0, (.int .i64 x2), c3_0, c3_1, c3_2, c3_3, c3_4, c3_5, c3_6, c3_7, i0]) w := kr
@[simp] theorem bwo (rx ry : Operand) (ti : TypeId) (v : Value) (w : World) (K : KV) : iq P .eql T.bg rx ry (.iface ti v) .nilIface w K = K bF w := kr
@[simp] theorem bwt (x0 : Int) (bo1 : Bool) (p2 : Option Addr) (l2 c2 : Nat) (w : World) (K : KV) : jj P T.x #[(0, (.int .u64 x0)), (1, (.bool bo1)), (2, (.slice p2 l2 c2))] w K = K (.agg #[(.int .u64 x0), (.bool bo1), (.slice p2 l2 c2)]) w := kr
@[simp] theorem bvw (v : Value) (w : World) (K : KV) : ro P T.x v w K = K (.iface T.x v) w := kr
@[simp] theorem bsj (p0 : Option Addr) (l0 c0 : Nat) (w : World) (K : KV) : jj P T.v #[(0, (.slice p0 l0 c0))] w K = K (.agg #[(.slice p0 l0 c0)]) w := kr
@[simp] theorem bny (v : Value) (w : World) (K : KV) : ro P T.v v w K = K (.iface T.v v) w := kr
@[simp] theorem bqi (x0 : Int) (c1_0 c1_1 : Value) (x2 : Int) (w : World) (K : KV) : jj P T.aj #[(0, (.int .u64 x0)), (1, (.agg #[c1_0, c1_1])), (2, (.int .i64 x2))] w K = K (.agg #[(.int .u64 x0), c1_0, c1_1, (.int .i64 x2)]) w := kr
@[simp] theorem bsu (v : Value) (w : World) (K : KV) : ro P T.aj v w K = K (.iface T.aj v) w := kr
@[simp] theorem bxj (x0 : Int) (c1_0 c1_1 : Value) (bo2 : Bool) (c3_0 c3_1 : Value) (x4 : Int) (bo5 : Bool) (w : World) (K : KV) : jj P T.k #[(0, (.int .u64 x0)), (1, (.agg #[c1_0, c1_1])), (2, (.bool bo2)), (3, (.agg #[c3_0, c3_1])), (4, (.int .i64 x4)), (5, (.bool bo5))] w K = K (.agg #[(.int .u64 x0), c1_0, c1_1, (.bool bo2), c3_0, c3_1, (.int .i64 x4), (.bool bo5)]) w := kr
@[simp] theorem bxn (v : Value) (w : World) (K : KV) : ro P T.k v w K = K (.iface T.k v) w := kr
@[simp] theorem bsw (x0 : Int) (x1 : Int) (w : World) (K : KV) : jj P T.af #[(0, (.int .u64 x0)), (1, (.int .i64 x1))] w K = K (.agg #[(.int .u64 x0), (.int .i64 x1)]) w := kr
@[simp] theorem bvn (v : Value) (w : World) (K : KV) : ro P T.af v w K = K (.iface T.af v) w := kr
@[simp] theorem brr (x0 : Int) (c1_0 c1_1 : Value) (p2 : Option Addr) (l2 c2 : Nat) (w : World) (K : KV) : jj P T.s #[(0, (.int .u64 x0)), (1, (.agg #[c1_0, c1_1])), (2, (.slice p2 l2 c2))] w K = K (.agg #[(.int .u64 x0), c1_0, c1_1, (.slice p2 l2 c2)]) w := kr
@[simp] theorem bot (v : Value) (w : World) (K : KV) : ro P T.s v w K = K (.iface T.s v) w := kr
@[simp] theorem buv (x0 : Int) (p1 : Option Addr) (l1 c1 : Nat) (w : World) (K : KV) : jj P T.aa #[(0, (.int .u64 x0)), (1, (.slice p1 l1 c1))] w K = K (.agg #[(.int .u64 x0), (.slice p1 l1 c1)]) w := kr
@[simp] theorem bxy (v : Value) (w : World) (K : KV) : ro P T.aa v w K = K (.iface T.aa v) w := kr
@[simp] theorem bqe : ldT P T.k (pB B I) W K = ldN P 8 B I W K := kr
@[simp] theorem bsi : faT P T.k (pB B I) 2 W K = K (.pointer (some ⟨B, I + 3, none⟩)) W := kr
@[simp] theorem brn : faT P T.k (pB B I) 3 W K = K (.pointer (some ⟨B, I + 4, none⟩)) W := kr
@[simp] theorem bng : faT P T.k (pB B I) 4 W K = K (.pointer (some ⟨B, I + 6, none⟩)) W := kr
@[simp] theorem bvs : faT P T.r (pB B I) 6 W K = K (.pointer (some ⟨B, I + 7, none⟩)) W := kr
@[simp] theorem bnr : ldT P T.ag (pB B I) W K = ld1 P B I W K := kr
@[simp] theorem bxb : faT P T.au (pB B I) 2 W K = K (.pointer (some ⟨B, I + 65, none⟩)) W := kr
@[simp] theorem bpe : faT P T.au (pB B I) 0 W K = K (pB B I) W := kr
@[simp] theorem boi : faT P T.au (pB B I) 1 W K = K (.pointer (some ⟨B, I + 64, none⟩)) W := kr
@[simp] theorem bpv : faT P T.aa (pB B I) 1 W K = K (.pointer (some ⟨B, I + 1, none⟩)) W := kr
@[simp] theorem bnw : faT P T.aq (pB B I) 0 W K = K (pB B I) W := kr
@[simp] theorem bvp : faT P T.aq (pB B I) 1 W K = K (.pointer (some ⟨B, I + 1, none⟩)) W := kr
@[simp] theorem byd : nf P T.bw = true := kr
@[simp] theorem bwq : szE P T.bw = 1 := kr
@[simp] theorem boz (x0 : Int) (x1 : Int) (w : World) (K : KV) : bsT P T.bw 2 #[(0, (.int .i64 x0)), (1, (.int .i64 x1))] w K = K (.slice (some ⟨w.heap.size, 0, none⟩) 2 2) (w.alloc (.cells #[(.int .i64 x0), (.int .i64 x1)] T.d)) := kr
@[simp] theorem bry : jj P T.q #[] W K = K (.agg #[bF, (.string ⟨#[]⟩), u0, (.string ⟨#[]⟩)]) W := kr
@[simp] theorem bok (bo0 : Bool) (s1 : ByteArray) (w : World) (K : KV) : jj P T.q #[(0, (.bool bo0)), (1, (.string s1))] w K = K (.agg #[(.bool bo0), (.string s1), u0, (.string ⟨#[]⟩)]) w := kr
@[simp] theorem btx : faT P T.q (pB B I) 1 W K = K (.pointer (some ⟨B, I + 1, none⟩)) W := kr
@[simp] theorem bvg : faT P T.q (pB B I) 2 W K = K (.pointer (some ⟨B, I + 2, none⟩)) W := kr
@[simp] theorem boj : faT P T.q (pB B I) 3 W K = K (.pointer (some ⟨B, I + 3, none⟩)) W := kr
@[simp] theorem but (x0 : Int) (w : World) (K : KV) : bsT P T.bq 1 #[(0, (.int .i32 x0))] w K = K (.slice (some ⟨w.heap.size, 0, none⟩) 1 1) (w.alloc (.cells #[(.int .i32 x0)] T.bi)) := kr
@[simp] theorem bxr : ldT P T.ae (pB B I) W K = ld1 P B I W K := kr
@[simp] theorem bum : nf P T.ae = true := kr
@[simp] theorem bwg : szE P T.ae = 1 := kr
theorem et.ae : lw P T.ae T.ab 1 8 := lw.mk' (by kernel_rfl) (by kernel_rfl) (by kernel_rfl)
@[simp] theorem bqs : ldT P T.ab (pB B I) W K = ld1 P B I W K := kr
@[simp] theorem brz : faT P T.ar (pB B I) 0 W K = K (pB B I) W := kr
@[simp] theorem bwc : faT P T.q (pB B I) 0 W K = K (pB B I) W := kr
@[simp] theorem btn (x0 : Int) (c1_0 c1_1 : Value) (x2 : Int) (p3 : Option Addr) (l3 c3 : Nat) (r4 : Option Nat) (w : World) (K : KV) : jj P T.r #[(0, (.int .u64 x0)), (1, (.agg #[c1_0, c1_1])), (2, (.int .i64 x2)), (3, (.slice p3 l3 c3)), (5, (.map r4))] w K = K (.agg #[(.int .u64 x0), c1_0, c1_1, (.int .i64 x2), (.slice p3 l3 c3), i0, (.map r4), u0, u0, u0, u0]) w := kr
@[simp] theorem bxz (b i : Nat) (p : Option Addr) (l c : Nat) (w : World) (K : KV) : stT P T.y (pB b i) (.slice p l c) w K = st1 P b i (.slice p l c) w K := kr
@[simp] theorem bpq (v : Value) (w : World) (K : KV) : ro P T.l v w K = K (.iface T.l v) w := kr
@[simp] theorem bsb : faT P T.x (pB B I) 0 W K = K (pB B I) W := kr
@[simp] theorem bvk (v : Value) (w : World) (K : KV) : taT P (.iface T.aj v) T.bg T.aj true w K = K (.tuple #[v, .bool true]) w := kr
@[simp] theorem bqw : alT P T.aj W K = K (.pointer (some ⟨W.heap.size, 0, none⟩)) (W.alloc (.cells #[u0, u0, u0, i0] T.aj)) := kr
@[simp] theorem bnn (b i : Nat) (c_0 c_1 c_2 c_3 : Value) (w : World) (K : KV) : stT P T.aj (pB b i) (.agg #[c_0, c_1, c_2, c_3]) w K = stN P b i [c_0, c_1, c_2, c_3] w K := kr
@[simp] theorem bvx : faT P T.aj (pB B I) 0 W K = K (pB B I) W := kr
@[simp] theorem bxw : faT P T.aj (pB B I) 1 W K = K (.pointer (some ⟨B, I + 1, none⟩)) W := kr
@[simp] theorem bvb : faT P T.aj (pB B I) 2 W K = K (.pointer (some ⟨B, I + 3, none⟩)) W := kr
@[simp] theorem bpg : faT P T.k (pB B I) 0 W K = K (pB B I) W := kr
@[simp] theorem bvi : faT P T.k (pB B I) 1 W K = K (.pointer (some ⟨B, I + 1, none⟩)) W := kr
@[simp] theorem bya : faT P T.k (pB B I) 5 W K = K (.pointer (some ⟨B, I + 7, none⟩)) W := kr
@[simp] theorem bqn (v : Value) (w : World) (K : KV) : taT P (.iface T.s v) T.bg T.s true w K = K (.tuple #[v, .bool true]) w := kr
@[simp] theorem bth : alT P T.s W K = K (.pointer (some ⟨W.heap.size, 0, none⟩)) (W.alloc (.cells #[u0, u0, u0, nS] T.s)) := kr
@[simp] theorem bue (b i : Nat) (c_0 c_1 c_2 c_3 : Value) (w : World) (K : KV) : stT P T.s (pB b i) (.agg #[c_0, c_1, c_2, c_3]) w K = stN P b i [c_0, c_1, c_2, c_3] w K := kr
@[simp] theorem bwb : faT P T.s (pB B I) 0 W K = K (pB B I) W := kr
@[simp] theorem bsc : faT P T.s (pB B I) 1 W K = K (.pointer (some ⟨B, I + 1, none⟩)) W := kr
@[simp] theorem bvz : faT P T.s (pB B I) 2 W K = K (.pointer (some ⟨B, I + 3, none⟩)) W := kr
@[simp] theorem bvf : faT P T.x (pB B I) 1 W K = K (.pointer (some ⟨B, I + 1, none⟩)) W := kr
@[simp] theorem bwr (x0 : Int) (x1 : Int) (c2_0 c2_1 : Value) (x3 : Int) (w : World) (K : KV) : jj P T.c #[(0, (.int .i64 x0)), (1, (.int .u64 x1)), (2, (.agg #[c2_0, c2_1])), (4, (.int .i64 x3))] w K = K (.agg #[(.int .i64 x0), (.int .u64 x1), c2_0, c2_1, u0, u0, (.int .i64 x3), bF, nS, nS, nS]) w := kr
@[simp] theorem bom (x0 : Int) (x1 : Int) (c2_0 c2_1 : Value) (bo3 : Bool) (c4_0 c4_1 : Value) (x5 : Int) (w : World) (K : KV) : jj P T.c #[(0, (.int .i64 x0)), (1, (.int .u64 x1)), (2, (.agg #[c2_0, c2_1])), (5, (.bool bo3)), (3, (.agg #[c4_0, c4_1])), (4, (.int .i64 x5))] w K = K (.agg #[(.int .i64 x0), (.int .u64 x1), c2_0, c2_1, c4_0, c4_1, (.int .i64 x5), (.bool bo3), nS, nS, nS]) w := kr
@[simp] theorem btz (x0 : Int) (x1 : Int) (p2 : Option Addr) (l2 c2 : Nat) (w : World) (K : KV) : jj P T.c #[(0, (.int .i64 x0)), (1, (.int .u64 x1)), (8, (.slice p2 l2 c2))] w K = K (.agg #[(.int .i64 x0), (.int .u64 x1), u0, u0, u0, u0, i0, bF, nS, nS, (.slice p2 l2 c2)]) w := kr
@[simp] theorem buu : ldT P T.aq (pB B I) W K = ldN P 2 B I W K := kr
@[simp] theorem bxh : faT P T.e (pB B I) 1 W K = K (.pointer (some ⟨B, I + 1, none⟩)) W := kr
@[simp] theorem bxq : alT P T.ah W K = K (.pointer (some ⟨W.heap.size, 0, none⟩)) (W.alloc (.cells #[u0] T.ah)) := kr
@[simp] theorem bpo (b i : Nat) (x : Int) (w : World) (K : KV) : stT P T.ah (pB b i) (.int .u64 x) w K = st1 P b i (.int .u64 x) w K := kr
@[simp] theorem bwm (b i : Nat) (c_0 c_1 : Value) (w : World) (K : KV) : stT P T.aq (pB b i) (.agg #[c_0, c_1]) w K = stN P b i [c_0, c_1] w K := kr
@[simp] theorem bpw : ldT P T.ah (pB B I) W K = ld1 P B I W K := kr
@[simp] theorem bsa (b i : Nat) (p : Option Addr) (w : World) (K : KV) : stT P T.ab (pB b i) (.pointer p) w K = st1 P b i (.pointer p) w K := kr
@[simp] theorem bti (b i : Nat) (p : Option Addr) (l c : Nat) (w : World) (K : KV) : stT P T.ae (pB b i) (.slice p l c) w K = st1 P b i (.slice p l c) w K := kr
@[simp] theorem bun (v : Value) (w : World) (K : KV) : taT P (.iface T.ab v) T.bg T.ab false w K = K v w := kr
@[simp] theorem buy (p0 : Option Addr) (w : World) (K : KV) : bsT P T.ae 1 #[(0, (.pointer p0))] w K = K (.slice (some ⟨w.heap.size, 0, none⟩) 1 1) (w.alloc (.cells #[(.pointer p0)] T.ab)) := kr
end Go.Proofs.YtgepcfcicngceaaGreatDoor
