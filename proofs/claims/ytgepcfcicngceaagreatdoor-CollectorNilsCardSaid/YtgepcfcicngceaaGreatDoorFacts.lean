/-
  Printed by wip/Shallow.lean: what the operations come to at this seat's types. No condition.
-/
import Derived.Test.YtgepcfcicngceaaGreatDoorN
import Derived.Test.YtgepcfcicngceaaGreatDoorZEng
set_option maxRecDepth 1000000
namespace Go.Proofs.YtgepcfcicngceaaGreatDoor
open Go.Eng
variable (B I : Nat) (W : World) (K : KV)
@[simp] theorem cav : nf P T.y = true := kr
@[simp] theorem cbc : szE P T.y = 1 := kr
theorem et.y:lw P T.y T.bc 1 1:=lw.mk' (by kernel_rfl) (by kernel_rfl) (by kernel_rfl)
@[simp] theorem cbd : ldT P T.c (pB B I) W K = ldN P 11 B I W K := kr
@[simp] theorem caz : nf P T.ap = true := kr
@[simp] theorem caw : szE P T.ap = 13 := kr
theorem et.ap:lw P T.ap T.bm 13 152:=lw.mk' (by kernel_rfl) (by kernel_rfl) (by kernel_rfl)
@[simp] theorem cay : nf P T.bd = true := kr
theorem et.bd:lw P T.bd T.av 16 144:=lw.mk' (by kernel_rfl) (by kernel_rfl) (by kernel_rfl)
@[simp] theorem byk : nf P T.o = true := kr
@[simp] theorem car : szE P T.o = 3 := kr
theorem et.o:lw P T.o T.m 3 24:=lw.mk' (by kernel_rfl) (by kernel_rfl) (by kernel_rfl)
@[simp] theorem bys : nf P T.h = true := kr
@[simp] theorem bzb : szE P T.h = 1 := kr
theorem et.h:lw P T.h T.a 1 8:=lw.mk' (by kernel_rfl) (by kernel_rfl) (by kernel_rfl)
@[simp] theorem bzp (rx ry : Operand)  (w : World) (K : KV) : iq P .eql T.ag rx ry nP nP w K = K bY w := kr
@[simp] theorem bzy (rx ry : Operand) (a : Addr) (w : World) (K : KV) : iq P .eql T.ag rx ry (.pointer (some a)) nP w K = K bF w := kr
@[simp] theorem bzx : ldT P T.y (pB B I) W K = ld1 P B I W K := kr
@[simp] theorem byn : alT P T.i W K = K (.pointer (some ⟨W.heap.size, 0, none⟩)) (W.alloc (.cells #[u0, u0, u0, u0, u0, (.string ⟨#[]⟩), (.string ⟨#[]⟩), bF] T.i)) := kr
@[simp] theorem byo (b i : Nat) (c_0 c_1 c_2 c_3 c_4 c_5 c_6 c_7 : Value) (w : World) (K : KV) : stT P T.i (pB b i) (.agg #[c_0, c_1, c_2, c_3, c_4, c_5, c_6, c_7]) w K = stN P b i [c_0, c_1, c_2, c_3, c_4, c_5, c_6, c_7] w K := kr
@[simp] theorem caf : ldT P T.d (pB B I) W K = ld1 P B I W K := kr
@[simp] theorem cai : ldT P T.i (pB B I) W K = ldN P 8 B I W K := kr
@[simp] theorem bzn : alT P T.p W K = K (.pointer (some ⟨W.heap.size, 0, none⟩)) (W.alloc (.cells #[u0, u0, nS, u0, i0, u0, u0, u0, u0, i0, i0, i0, (.string ⟨#[]⟩)] T.p)) := kr
@[simp] theorem bzl (b i : Nat) (c_0 c_1 c_2 c_3 c_4 c_5 c_6 c_7 c_8 c_9 c_10 c_11 c_12 : Value) (w : World) (K : KV) : stT P T.p (pB b i) (.agg #[c_0, c_1, c_2, c_3, c_4, c_5, c_6, c_7, c_8, c_9, c_10, c_11, c_12]) w K = stN P b i [c_0, c_1, c_2, c_3, c_4, c_5, c_6, c_7, c_8, c_9, c_10, c_11, c_12] w K := kr
@[simp] theorem byq : faT P T.p (pB B I) 1 W K = K (.pointer (some ⟨B, I + 1, none⟩)) W := kr
@[simp] theorem cao (b i : Nat) (x : Int) (w : World) (K : KV) : stT P T.a (pB b i) (.int .u64 x) w K = st1 P b i (.int .u64 x) w K := kr
@[simp] theorem bze (x0 : Int) (x1 : Int) (w : World) (K : KV) : jj P T.m #[(0, (.int .u64 x0)), (1, (.int .u64 x1))] w K = K (.agg #[(.int .u64 x0), (.int .u64 x1), i0]) w := kr
@[simp] theorem bzo (c0_0 c0_1 c0_2 : Value) (w : World) (K : KV) : bsT P T.o 1 #[(0, (.agg #[c0_0, c0_1, c0_2]))] w K = K (.slice (some ⟨w.heap.size, 0, none⟩) 1 1) (w.alloc (.cells #[c0_0, c0_1, c0_2] T.m)) := kr
@[simp] theorem byv (x0 : Int) (p1 : Option Addr) (l1 c1 : Nat) (w : World) (K : KV) : jj P T.c #[(0, (.int .i64 x0)), (7, (.slice p1 l1 c1))] w K = K (.agg #[(.int .i64 x0), u0, u0, u0, u0, u0, i0, bF, nS, (.slice p1 l1 c1), nS]) w := kr
@[simp] theorem cau : ldT P T.a (pB B I) W K = ld1 P B I W K := kr
@[simp] theorem bzv : faT P T.bm (pB B I) 2 W K = K (.pointer (some ⟨B, I + 2, none⟩)) W := kr
@[simp] theorem bzz : faT P T.c (pB B I) 0 W K = K (pB B I) W := kr
@[simp] theorem bzg : faT P T.c (pB B I) 1 W K = K (.pointer (some ⟨B, I + 1, none⟩)) W := kr
@[simp] theorem cag : faT P T.bm (pB B I) 1 W K = K (.pointer (some ⟨B, I + 1, none⟩)) W := kr
@[simp] theorem bzh : nf P T.g = true := kr
@[simp] theorem bzt : szE P T.g = 8 := kr
theorem et.g:lw P T.g T.i 8 80:=lw.mk' (by kernel_rfl) (by kernel_rfl) (by kernel_rfl)
@[simp] theorem bzq : faT P T.c (pB B I) 6 W K = K (.pointer (some ⟨B, I + 8, none⟩)) W := kr
@[simp] theorem byu : ldT P T.g (pB B I) W K = ld1 P B I W K := kr
@[simp] theorem bza : faT P T.p (pB B I) 9 W K = K (.pointer (some ⟨B, I + 9, none⟩)) W := kr
@[simp] theorem cas (b i : Nat) (x : Int) (w : World) (K : KV) : stT P T.d (pB b i) (.int .i64 x) w K = st1 P b i (.int .i64 x) w K := kr
@[simp] theorem caa : faT P T.p (pB B I) 12 W K = K (.pointer (some ⟨B, I + 12, none⟩)) W := kr
@[simp] theorem bzw (b i : Nat) (s : ByteArray) (w : World) (K : KV) : stT P T.l (pB b i) (.string s) w K = st1 P b i (.string s) w K := kr
@[simp] theorem cae : faT P T.p (pB B I) 10 W K = K (.pointer (some ⟨B, I + 10, none⟩)) W := kr
@[simp] theorem bzj : faT P T.i (pB B I) 0 W K = K (pB B I) W := kr
@[simp] theorem byj : faT P T.i (pB B I) 1 W K = K (.pointer (some ⟨B, I + 1, none⟩)) W := kr
@[simp] theorem bzd : faT P T.c (pB B I) 2 W K = K (.pointer (some ⟨B, I + 2, none⟩)) W := kr
@[simp] theorem byf : ldT P T.e (pB B I) W K = ldN P 2 B I W K := kr
@[simp] theorem bym (x0 : Int) (x1 : Int) (c2_0 c2_1 : Value) (bo3 : Bool) (w : World) (K : KV) : jj P T.c #[(0, (.int .i64 x0)), (1, (.int .u64 x1)), (2, (.agg #[c2_0, c2_1])), (5, (.bool bo3))] w K = K (.agg #[(.int .i64 x0), (.int .u64 x1), c2_0, c2_1, u0, u0, i0, (.bool bo3), nS, nS, nS]) w := kr
@[simp] theorem bzk : faT P T.c (pB B I) 4 W K = K (.pointer (some ⟨B, I + 6, none⟩)) W := kr
@[simp] theorem byw : ldT P T.z (pB B I) W K = ld1 P B I W K := kr
@[simp] theorem cam : faT P T.p (pB B I) 2 W K = K (.pointer (some ⟨B, I + 2, none⟩)) W := kr
@[simp] theorem byl : ldT P T.h (pB B I) W K = ld1 P B I W K := kr
@[simp] theorem cab : ldT P T.l (pB B I) W K = ld1 P B I W K := kr
@[simp] theorem bzi : faT P T.c (pB B I) 7 W K = K (.pointer (some ⟨B, I + 9, none⟩)) W := kr
@[simp] theorem caj : ldT P T.o (pB B I) W K = ld1 P B I W K := kr
@[simp] theorem byh : faT P T.c (pB B I) 8 W K = K (.pointer (some ⟨B, I + 10, none⟩)) W := kr
@[simp] theorem bzs : faT P T.i (pB B I) 6 W K = K (.pointer (some ⟨B, I + 6, none⟩)) W := kr
@[simp] theorem byx : faT P T.i (pB B I) 5 W K = K (.pointer (some ⟨B, I + 5, none⟩)) W := kr
@[simp] theorem byp (x0 : Int) (x1 : Int) (s2 : ByteArray) (s3 : ByteArray) (bo4 : Bool) (w : World) (K : KV) : jj P T.i #[(0, (.int .u64 x0)), (1, (.int .u64 x1)), (5, (.string s2)), (6, (.string s3)), (7, (.bool bo4))] w K = K (.agg #[(.int .u64 x0), (.int .u64 x1), u0, u0, u0, (.string s2), (.string s3), (.bool bo4)]) w := kr
@[simp] theorem byy : alT P T.e W K = K (.pointer (some ⟨W.heap.size, 0, none⟩)) (W.alloc (.cells #[u0, u0] T.e)) := kr
@[simp] theorem cat (b i : Nat) (c_0 c_1 : Value) (w : World) (K : KV) : stT P T.e (pB b i) (.agg #[c_0, c_1]) w K = stN P b i [c_0, c_1] w K := kr
@[simp] theorem bye : faT P T.b (pB B I) 10 W K = K (.pointer (some ⟨B, I + 23, none⟩)) W := kr
@[simp] theorem byg : faT P T.b (pB B I) 2 W K = K (.pointer (some ⟨B, I + 14, none⟩)) W := kr
@[simp] theorem cal : ldT P T.bf (pB B I) W K = ld1 P B I W K := kr
@[simp] theorem byi : faT P T.b (pB B I) 3 W K = K (.pointer (some ⟨B, I + 15, none⟩)) W := kr
@[simp] theorem bzu : ldT P T.ao (pB B I) W K = ld1 P B I W K := kr
@[simp] theorem cac : faT P T.b (pB B I) 0 W K = K (pB B I) W := kr
@[simp] theorem bzc : faT P T.f (pB B I) 0 W K = K (pB B I) W := kr
@[simp] theorem byr : faT P T.b (pB B I) 5 W K = K (.pointer (some ⟨B, I + 17, none⟩)) W := kr
@[simp] theorem byz : ldT P T.w (pB B I) W K = ld1 P B I W K := kr
theorem mt.w:nj P T.w .u64 T.bj nP:=nj.mk' (key:=T.a) (by kernel_rfl) (by kernel_rfl) (by kernel_rfl)
@[simp] theorem bzr (rx ry : Operand)  (w : World) (K : KV) : iq P .eql T.bj rx ry nP nP w K = K bY w := kr
@[simp] theorem caq (rx ry : Operand) (a : Addr) (w : World) (K : KV) : iq P .eql T.bj rx ry (.pointer (some a)) nP w K = K bF w := kr
@[simp] theorem bzm (x0 : Int) (x1 : Int) (p2 : Option Addr) (l2 c2 : Nat) (w : World) (K : KV) : jj P T.c #[(0, (.int .i64 x0)), (1, (.int .u64 x1)), (6, (.slice p2 l2 c2))] w K = K (.agg #[(.int .i64 x0), (.int .u64 x1), u0, u0, u0, u0, i0, bF, (.slice p2 l2 c2), nS, nS]) w := kr
@[simp] theorem cak (x0 : Int) (w : World) (K : KV) : bsT P T.h 1 #[(0, (.int .u64 x0))] w K = K (.slice (some ⟨w.heap.size, 0, none⟩) 1 1) (w.alloc (.cells #[(.int .u64 x0)] T.a)) := kr
@[simp] theorem cad : faT P T.b (pB B I) 9 W K = K (.pointer (some ⟨B, I + 22, none⟩)) W := kr
@[simp] theorem cah : faT P T.f (pB B I) 8 W K = K (.pointer (some ⟨B, I + 8, none⟩)) W := kr
@[simp] theorem bwe : faT P T.b (pB B I) 7 W K = K (.pointer (some ⟨B, I + 19, none⟩)) W := kr
@[simp] theorem bnz : ldT P T.u (pB B I) W K = ld1 P B I W K := kr
theorem mt.u:nj P T.u .u64 T.g nS:=nj.mk' (key:=T.a) (by kernel_rfl) (by kernel_rfl) (by kernel_rfl)
@[simp] theorem bxp (rx ry : Operand)  (w : World) (K : KV) : iq P .neq T.ag rx ry nP nP w K = K bF w := kr
@[simp] theorem btb : faT P T.b (pB B I) 13 W K = K (.pointer (some ⟨B, I + 26, none⟩)) W := kr
@[simp] theorem btp : faT P T.b (pB B I) 14 W K = K (.pointer (some ⟨B, I + 27, none⟩)) W := kr
@[simp] theorem bwi (x0 : Int) (x1 : Int) (c2_0 c2_1 c2_2 c2_3 c2_4 c2_5 c2_6 c2_7 : Value) (w : World) (K : KV) : jj P T.av #[(0, (.int .i64 x0)), (3, (.int .u64 x1)), (6, (.agg #[c2_0, c2_1, c2_2, c2_3, c2_4, c2_5, c2_6, c2_7]))] w K = K (.agg #[(.int .i64 x0), u0, u0, (.int .u64 x1), u0, u0, i0, c2_0, c2_1, c2_2, c2_3, c2_4, c2_5, c2_6, c2_7, i0]) w := kr
@[simp] theorem brs : alT P T.av W K = K (.pointer (some ⟨W.heap.size, 0, none⟩)) (W.alloc (.cells #[i0, u0, u0, u0, u0, u0, i0, u0, u0, u0, u0, u0, (.string ⟨#[]⟩), (.string ⟨#[]⟩), bF, i0] T.av)) := kr
@[simp] theorem bub (b i : Nat) (c_0 c_1 c_2 c_3 c_4 c_5 c_6 c_7 c_8 c_9 c_10 c_11 c_12 c_13 c_14 c_15 : Value) (w : World) (K : KV) : stT P T.av (pB b i) (.agg #[c_0, c_1, c_2, c_3, c_4, c_5, c_6, c_7, c_8, c_9, c_10, c_11, c_12, c_13, c_14, c_15]) w K = stN P b i [c_0, c_1, c_2, c_3, c_4, c_5, c_6, c_7, c_8, c_9, c_10, c_11, c_12, c_13, c_14, c_15] w K := kr
@[simp] theorem bvd : faT P T.b (pB B I) 4 W K = K (.pointer (some ⟨B, I + 16, none⟩)) W := kr
@[simp] theorem bnt : ldT P T.bl (pB B I) W K = ld1 P B I W K := kr
@[simp] theorem boh : ldT P T.av (pB B I) W K = ldN P 16 B I W K := kr
@[simp] theorem bqa (c0_0 c0_1 c0_2 c0_3 c0_4 c0_5 c0_6 c0_7 : Value) (w : World) (K : KV) : bsT P T.g 1 #[(0, (.agg #[c0_0, c0_1, c0_2, c0_3, c0_4, c0_5, c0_6, c0_7]))] w K = K (.slice (some ⟨w.heap.size, 0, none⟩) 1 1) (w.alloc (.cells #[c0_0, c0_1, c0_2, c0_3, c0_4, c0_5, c0_6, c0_7] T.i)) := kr
@[simp] theorem bpo (x0 : Int) (x1 : Int) (c2_0 c2_1 c2_2 c2_3 c2_4 c2_5 c2_6 c2_7 : Value) (x3 : Int) (w : World) (K : KV) : jj P T.av #[(0, (.int .i64 x0)), (3, (.int .u64 x1)), (6, (.agg #[c2_0, c2_1, c2_2, c2_3, c2_4, c2_5, c2_6, c2_7])), (7, (.int .i64 x3))] w K = K (.agg #[(.int .i64 x0), u0, u0, (.int .u64 x1), u0, u0, i0, c2_0, c2_1, c2_2, c2_3, c2_4, c2_5, c2_6, c2_7, (.int .i64 x3)]) w := kr
@[simp] theorem bsa (v : Value) (w : World) (K : KV) : taT P (.iface T.x v) T.bg T.x true w K = K (.tuple #[v, .bool true]) w := kr
@[simp] theorem bwu : alT P T.x W K = K (.pointer (some ⟨W.heap.size, 0, none⟩)) (W.alloc (.cells #[u0, bF, nS] T.x)) := kr
@[simp] theorem bsc (b i : Nat) (c_0 c_1 c_2 : Value) (w : World) (K : KV) : stT P T.x (pB b i) (.agg #[c_0, c_1, c_2]) w K = stN P b i [c_0, c_1, c_2] w K := kr
@[simp] theorem bsj : faT P T.x (pB B I) 2 W K = K (.pointer (some ⟨B, I + 2, none⟩)) W := kr
@[simp] theorem brj (v : Value) (w : World) (K : KV) : taT P (.iface T.v v) T.bg T.v true w K = K (.tuple #[v, .bool true]) w := kr
@[simp] theorem brd : alT P T.v W K = K (.pointer (some ⟨W.heap.size, 0, none⟩)) (W.alloc (.cells #[nS] T.v)) := kr
@[simp] theorem brx (b i : Nat) (c_0 : Value) (w : World) (K : KV) : stT P T.v (pB b i) (.agg #[c_0]) w K = stN P b i [c_0] w K := kr
@[simp] theorem bnl : faT P T.v (pB B I) 0 W K = K (pB B I) W := kr
@[simp] theorem bui (v : Value) (w : World) (K : KV) : taT P (.iface T.k v) T.bg T.k true w K = K (.tuple #[v, .bool true]) w := kr
@[simp] theorem bug : alT P T.k W K = K (.pointer (some ⟨W.heap.size, 0, none⟩)) (W.alloc (.cells #[u0, u0, u0, bF, u0, u0, i0, bF] T.k)) := kr
@[simp] theorem bsd (b i : Nat) (c_0 c_1 c_2 c_3 c_4 c_5 c_6 c_7 : Value) (w : World) (K : KV) : stT P T.k (pB b i) (.agg #[c_0, c_1, c_2, c_3, c_4, c_5, c_6, c_7]) w K = stN P b i [c_0, c_1, c_2, c_3, c_4, c_5, c_6, c_7] w K := kr
@[simp] theorem bns (v : Value) (w : World) (K : KV) : taT P (.iface T.af v) T.bg T.af true w K = K (.tuple #[v, .bool true]) w := kr
@[simp] theorem bop : alT P T.af W K = K (.pointer (some ⟨W.heap.size, 0, none⟩)) (W.alloc (.cells #[u0, i0] T.af)) := kr
@[simp] theorem boy (b i : Nat) (c_0 c_1 : Value) (w : World) (K : KV) : stT P T.af (pB b i) (.agg #[c_0, c_1]) w K = stN P b i [c_0, c_1] w K := kr
@[simp] theorem btt : faT P T.af (pB B I) 0 W K = K (pB B I) W := kr
@[simp] theorem brt : faT P T.af (pB B I) 1 W K = K (.pointer (some ⟨B, I + 1, none⟩)) W := kr
@[simp] theorem bxq (v : Value) (w : World) (K : KV) : taT P (.iface T.aa v) T.bg T.aa true w K = K (.tuple #[v, .bool true]) w := kr
@[simp] theorem bss : alT P T.aa W K = K (.pointer (some ⟨W.heap.size, 0, none⟩)) (W.alloc (.cells #[u0, nS] T.aa)) := kr
@[simp] theorem boq (b i : Nat) (c_0 c_1 : Value) (w : World) (K : KV) : stT P T.aa (pB b i) (.agg #[c_0, c_1]) w K = stN P b i [c_0, c_1] w K := kr
@[simp] theorem buv : ldT P T.aa (pB B I) W K = ldN P 2 B I W K := kr
@[simp] theorem btv : faT P T.b (pB B I) 11 W K = K (.pointer (some ⟨B, I + 24, none⟩)) W := kr
@[simp] theorem bry : ldT P T.ap (pB B I) W K = ld1 P B I W K := kr
@[simp] theorem bnr (b i : Nat) (p : Option Addr) (l c : Nat) (w : World) (K : KV) : stT P T.ap (pB b i) (.slice p l c) w K = st1 P b i (.slice p l c) w K := kr
@[simp] theorem bru : faT P T.b (pB B I) 12 W K = K (.pointer (some ⟨B, I + 25, none⟩)) W := kr
@[simp] theorem buk : ldT P T.bd (pB B I) W K = ld1 P B I W K := kr
@[simp] theorem bsf (b i : Nat) (p : Option Addr) (l c : Nat) (w : World) (K : KV) : stT P T.bd (pB b i) (.slice p l c) w K = st1 P b i (.slice p l c) w K := kr
@[simp] theorem bsl : faT P T.f (pB B I) 4 W K = K (.pointer (some ⟨B, I + 4, none⟩)) W := kr
@[simp] theorem bqi : ldT P T.f (pB B I) W K = ldN P 13 B I W K := kr
@[simp] theorem bpp (c0_0 c0_1 c0_2 c0_3 c0_4 c0_5 c0_6 c0_7 c0_8 c0_9 c0_10 c0_11 c0_12 : Value) (x1 : Int) (x2 : Int) (r3 : Option Nat) (r4 : Option Nat) (r5 : Option Nat) (w : World) (K : KV) : jj P T.b #[(0, (.agg #[c0_0, c0_1, c0_2, c0_3, c0_4, c0_5, c0_6, c0_7, c0_8, c0_9, c0_10, c0_11, c0_12])), (10, (.int .u64 x1)), (9, (.int .u64 x2)), (5, (.map r3)), (6, (.map r4)), (7, (.map r5))] w K = K (.agg #[c0_0, c0_1, c0_2, c0_3, c0_4, c0_5, c0_6, c0_7, c0_8, c0_9, c0_10, c0_11, c0_12, nS, nP, nP, nP, (.map r3), (.map r4), (.map r5), u0, u0, (.int .u64 x2), (.int .u64 x1), nS, nS, u0, u0]) w := kr
@[simp] theorem bvi : faT P T.f (pB B I) 2 W K = K (.pointer (some ⟨B, I + 2, none⟩)) W := kr
@[simp] theorem bsz (b i : Nat) (p : Option Addr) (l c : Nat) (w : World) (K : KV) : stT P T.h (pB b i) (.slice p l c) w K = st1 P b i (.slice p l c) w K := kr
@[simp] theorem bwc : faT P T.f (pB B I) 12 W K = K (.pointer (some ⟨B, I + 12, none⟩)) W := kr
@[simp] theorem bpb : faT P T.b (pB B I) 1 W K = K (.pointer (some ⟨B, I + 13, none⟩)) W := kr
@[simp] theorem bww (b i : Nat) (p : Option Addr) (l c : Nat) (w : World) (K : KV) : stT P T.ad (pB b i) (.slice p l c) w K = st1 P b i (.slice p l c) w K := kr
@[simp] theorem bqh : faT P T.f (pB B I) 1 W K = K (.pointer (some ⟨B, I + 1, none⟩)) W := kr
@[simp] theorem bnm : faT P T.f (pB B I) 5 W K = K (.pointer (some ⟨B, I + 5, none⟩)) W := kr
@[simp] theorem bxv : faT P T.f (pB B I) 6 W K = K (.pointer (some ⟨B, I + 6, none⟩)) W := kr
@[simp] theorem bwl (b i : Nat) (p : Option Addr) (w : World) (K : KV) : stT P T.bf (pB b i) (.pointer p) w K = st1 P b i (.pointer p) w K := kr
@[simp] theorem bwd : faT P T.f (pB B I) 9 W K = K (.pointer (some ⟨B, I + 9, none⟩)) W := kr
@[simp] theorem bsn : faT P T.f (pB B I) 10 W K = K (.pointer (some ⟨B, I + 10, none⟩)) W := kr
@[simp] theorem bsq : faT P T.f (pB B I) 7 W K = K (.pointer (some ⟨B, I + 7, none⟩)) W := kr
@[simp] theorem bpz (b i : Nat) (p : Option Addr) (w : World) (K : KV) : stT P T.ao (pB b i) (.pointer p) w K = st1 P b i (.pointer p) w K := kr
@[simp] theorem bqr : faT P T.f (pB B I) 11 W K = K (.pointer (some ⟨B, I + 11, none⟩)) W := kr
@[simp] theorem bty (b i : Nat) (p : Option Addr) (w : World) (K : KV) : stT P T.bl (pB b i) (.pointer p) w K = st1 P b i (.pointer p) w K := kr
@[simp] theorem bpy : alT P T.f W K = K (.pointer (some ⟨W.heap.size, 0, none⟩)) (W.alloc (.cells #[u0, u0, nS, u0, i0, u0, u0, u0, u0, i0, i0, i0, (.string ⟨#[]⟩)] T.f)) := kr
@[simp] theorem bsu : faT P T.p (pB B I) 0 W K = K (pB B I) W := kr
@[simp] theorem bvv : faT P T.p (pB B I) 3 W K = K (.pointer (some ⟨B, I + 3, none⟩)) W := kr
@[simp] theorem bxx : faT P T.p (pB B I) 4 W K = K (.pointer (some ⟨B, I + 4, none⟩)) W := kr
@[simp] theorem bvh : faT P T.p (pB B I) 5 W K = K (.pointer (some ⟨B, I + 5, none⟩)) W := kr
@[simp] theorem bpj : faT P T.p (pB B I) 6 W K = K (.pointer (some ⟨B, I + 6, none⟩)) W := kr
@[simp] theorem bve : faT P T.p (pB B I) 7 W K = K (.pointer (some ⟨B, I + 7, none⟩)) W := kr
@[simp] theorem btk : faT P T.p (pB B I) 8 W K = K (.pointer (some ⟨B, I + 8, none⟩)) W := kr
@[simp] theorem brl : faT P T.p (pB B I) 11 W K = K (.pointer (some ⟨B, I + 11, none⟩)) W := kr
@[simp] theorem bvf (x0 : Int) (x1 : Int) (p2 : Option Addr) (l2 c2 : Nat) (x3 : Int) (x4 : Int) (x5 : Int) (x6 : Int) (x7 : Int) (x8 : Int) (x9 : Int) (x10 : Int) (x11 : Int) (s12 : ByteArray) (w : World) (K : KV) : jj P T.f #[(0, (.int .u64 x0)), (1, (.int .u64 x1)), (2, (.slice p2 l2 c2)), (3, (.int .u64 x3)), (4, (.int .i64 x4)), (5, (.int .u64 x5)), (6, (.int .u64 x6)), (7, (.int .u64 x7)), (8, (.int .u64 x8)), (9, (.int .i64 x9)), (10, (.int .i64 x10)), (11, (.int .i64 x11)), (12, (.string s12))] w K = K (.agg #[(.int .u64 x0), (.int .u64 x1), (.slice p2 l2 c2), (.int .u64 x3), (.int .i64 x4), (.int .u64 x5), (.int .u64 x6), (.int .u64 x7), (.int .u64 x8), (.int .i64 x9), (.int .i64 x10), (.int .i64 x11), (.string s12)]) w := kr
@[simp] theorem bsm (b i : Nat) (c_0 c_1 c_2 c_3 c_4 c_5 c_6 c_7 c_8 c_9 c_10 c_11 c_12 : Value) (w : World) (K : KV) : stT P T.f (pB b i) (.agg #[c_0, c_1, c_2, c_3, c_4, c_5, c_6, c_7, c_8, c_9, c_10, c_11, c_12]) w K = stN P b i [c_0, c_1, c_2, c_3, c_4, c_5, c_6, c_7, c_8, c_9, c_10, c_11, c_12] w K := kr
@[simp] theorem bng (x0 : Int) (x1 : Int) (p2 : Option Addr) (l2 c2 : Nat) (x3 : Int) (x4 : Int) (x5 : Int) (x6 : Int) (x7 : Int) (x8 : Int) (x9 : Int) (x10 : Int) (x11 : Int) (s12 : ByteArray) (w : World) (K : KV) : jj P T.p #[(0, (.int .u64 x0)), (1, (.int .u64 x1)), (2, (.slice p2 l2 c2)), (3, (.int .u64 x3)), (4, (.int .i64 x4)), (5, (.int .u64 x5)), (6, (.int .u64 x6)), (7, (.int .u64 x7)), (8, (.int .u64 x8)), (9, (.int .i64 x9)), (10, (.int .i64 x10)), (11, (.int .i64 x11)), (12, (.string s12))] w K = K (.agg #[(.int .u64 x0), (.int .u64 x1), (.slice p2 l2 c2), (.int .u64 x3), (.int .i64 x4), (.int .u64 x5), (.int .u64 x6), (.int .u64 x7), (.int .u64 x8), (.int .i64 x9), (.int .i64 x10), (.int .i64 x11), (.string s12)]) w := kr
@[simp] theorem bvq : jj P T.i #[] W K = K (.agg #[u0, u0, u0, u0, u0, (.string ⟨#[]⟩), (.string ⟨#[]⟩), bF]) W := kr
@[simp] theorem bpa : ldT P T.bc (pB B I) W K = ld1 P B I W K := kr
@[simp] theorem byd : faT P T.c (pB B I) 3 W K = K (.pointer (some ⟨B, I + 4, none⟩)) W := kr
@[simp] theorem bwp : jj P T.e #[] W K = K (.agg #[u0, u0]) W := kr
@[simp] theorem brw : faT P T.e (pB B I) 0 W K = K (pB B I) W := kr
@[simp] theorem bpm : faT P T.c (pB B I) 5 W K = K (.pointer (some ⟨B, I + 7, none⟩)) W := kr
@[simp] theorem bus : ldT P T.bp (pB B I) W K = ld1 P B I W K := kr
@[simp] theorem btj : nf P T.bh = true := kr
@[simp] theorem bro : szE P T.bh = 1 := kr
@[simp] theorem bxy : faT P T.i (pB B I) 3 W K = K (.pointer (some ⟨B, I + 3, none⟩)) W := kr
@[simp] theorem bwz : faT P T.i (pB B I) 4 W K = K (.pointer (some ⟨B, I + 4, none⟩)) W := kr
@[simp] theorem bqx : bsT P T.y 0 #[] W K = K (.slice (some ⟨W.heap.size, 0, none⟩) 0 0) (W.alloc (.cells #[] T.bc)) := kr
@[simp] theorem bwk : faT P T.i (pB B I) 2 W K = K (.pointer (some ⟨B, I + 2, none⟩)) W := kr
@[simp] theorem bxw (x0 : Int) (x1 : Int) (x2 : Int) (x3 : Int) (x4 : Int) (w : World) (K : KV) : bsT P T.h 5 #[(0, (.int .u64 x0)), (1, (.int .u64 x1)), (2, (.int .u64 x2)), (3, (.int .u64 x3)), (4, (.int .u64 x4))] w K = K (.slice (some ⟨w.heap.size, 0, none⟩) 5 5) (w.alloc (.cells #[(.int .u64 x0), (.int .u64 x1), (.int .u64 x2), (.int .u64 x3), (.int .u64 x4)] T.a)) := kr
@[simp] theorem bql : faT P T.i (pB B I) 7 W K = K (.pointer (some ⟨B, I + 7, none⟩)) W := kr
@[simp] theorem btd (x0 : Int) (w : World) (K : KV) : bsT P T.y 1 #[(0, (.int .u8 x0))] w K = K (.slice (some ⟨w.heap.size, 0, none⟩) 1 1) (w.alloc (.cells #[(.int .u8 x0)] T.bc)) := kr
@[simp] theorem brg : faT P T.f (pB B I) 3 W K = K (.pointer (some ⟨B, I + 3, none⟩)) W := kr
@[simp] theorem byb (rx ry : Operand) (a : Addr) (w : World) (K : KV) : iq P .eql T.bf rx ry (.pointer (some a)) nP w K = K bF w := kr
@[simp] theorem bsv : faT P T.ai (pB B I) 3 W K = K (.pointer (some ⟨B, I + 3, none⟩)) W := kr
@[simp] theorem bts : faT P T.ai (pB B I) 4 W K = K (.pointer (some ⟨B, I + 4, none⟩)) W := kr
@[simp] theorem btn : faT P T.ai (pB B I) 1 W K = K (.pointer (some ⟨B, I + 1, none⟩)) W := kr
@[simp] theorem bxt : faT P T.ai (pB B I) 6 W K = K (.pointer (some ⟨B, I + 6, none⟩)) W := kr
@[simp] theorem bra : ldT P T.m (pB B I) W K = ldN P 3 B I W K := kr
@[simp] theorem bwa : alT P T.m W K = K (.pointer (some ⟨W.heap.size, 0, none⟩)) (W.alloc (.cells #[u0, u0, i0] T.m)) := kr
@[simp] theorem bnj (b i : Nat) (c_0 c_1 c_2 : Value) (w : World) (K : KV) : stT P T.m (pB b i) (.agg #[c_0, c_1, c_2]) w K = stN P b i [c_0, c_1, c_2] w K := kr
@[simp] theorem bvt : faT P T.m (pB B I) 0 W K = K (pB B I) W := kr
@[simp] theorem bvm : faT P T.ai (pB B I) 0 W K = K (pB B I) W := kr
@[simp] theorem brz : faT P T.m (pB B I) 2 W K = K (.pointer (some ⟨B, I + 2, none⟩)) W := kr
@[simp] theorem bya (x0 : Int) (x1 : Int) (c2_0 c2_1 c2_2 c2_3 c2_4 c2_5 c2_6 c2_7 c2_8 c2_9 c2_10 : Value) (w : World) (K : KV) : jj P T.bm #[(0, (.int .u64 x0)), (1, (.int .u64 x1)), (2, (.agg #[c2_0, c2_1, c2_2, c2_3, c2_4, c2_5, c2_6, c2_7, c2_8, c2_9, c2_10]))] w K = K (.agg #[(.int .u64 x0), (.int .u64 x1), c2_0, c2_1, c2_2, c2_3, c2_4, c2_5, c2_6, c2_7, c2_8, c2_9, c2_10]) w := kr
@[simp] theorem bpv (c0_0 c0_1 c0_2 c0_3 c0_4 c0_5 c0_6 c0_7 c0_8 c0_9 c0_10 c0_11 c0_12 : Value) (w : World) (K : KV) : bsT P T.ap 1 #[(0, (.agg #[c0_0, c0_1, c0_2, c0_3, c0_4, c0_5, c0_6, c0_7, c0_8, c0_9, c0_10, c0_11, c0_12]))] w K = K (.slice (some ⟨w.heap.size, 0, none⟩) 1 1) (w.alloc (.cells #[c0_0, c0_1, c0_2, c0_3, c0_4, c0_5, c0_6, c0_7, c0_8, c0_9, c0_10, c0_11, c0_12] T.bm)) := kr
@[simp] theorem bxo (rx ry : Operand) (a : Addr) (w : World) (K : KV) : iq P .eql T.ao rx ry (.pointer (some a)) nP w K = K bF w := kr
@[simp] theorem bod : faT P T.an (pB B I) 4 W K = K (.pointer (some ⟨B, I + 5, none⟩)) W := kr
@[simp] theorem bun : ldT P T.j (pB B I) W K = ld1 P B I W K := kr
theorem mt.j:nj P T.j .u64 T.bo nP:=nj.mk' (key:=T.a) (by kernel_rfl) (by kernel_rfl) (by kernel_rfl)
@[simp] theorem bpi (rx ry : Operand)  (w : World) (K : KV) : iq P .eql T.bo rx ry nP nP w K = K bY w := kr
@[simp] theorem bxg (rx ry : Operand) (a : Addr) (w : World) (K : KV) : iq P .eql T.bo rx ry (.pointer (some a)) nP w K = K bF w := kr
@[simp] theorem bvc : faT P T.az (pB B I) 0 W K = K (pB B I) W := kr
@[simp] theorem buu : faT P T.an (pB B I) 0 W K = K (pB B I) W := kr
theorem mt.ba:nj P T.ba .u64 T.a u0:=nj.mk' (key:=T.a) (by kernel_rfl) (by kernel_rfl) (by kernel_rfl)
@[simp] theorem bwb : faT P T.b (pB B I) 6 W K = K (.pointer (some ⟨B, I + 18, none⟩)) W := kr
@[simp] theorem bxe : ldT P T.t (pB B I) W K = ld1 P B I W K := kr
theorem mt.t:nj P T.t .u64 T.e (.agg #[u0,u0]):=nj.mk' (key:=T.a) (by kernel_rfl) (by kernel_rfl) (by kernel_rfl)
@[simp] theorem btq (x0 : Int) (x1 : Int) (w : World) (K : KV) : jj P T.e #[(0, (.int .u64 x0)), (1, (.int .u64 x1))] w K = K (.agg #[(.int .u64 x0), (.int .u64 x1)]) w := kr
@[simp] theorem buq (x0 : Int) (x1 : Int) (c2_0 c2_1 : Value) (p3 : Option Addr) (l3 c3 : Nat) (w : World) (K : KV) : jj P T.c #[(0, (.int .i64 x0)), (1, (.int .u64 x1)), (2, (.agg #[c2_0, c2_1])), (6, (.slice p3 l3 c3))] w K = K (.agg #[(.int .i64 x0), (.int .u64 x1), c2_0, c2_1, u0, u0, i0, bF, (.slice p3 l3 c3), nS, nS]) w := kr
@[simp] theorem bud (b i : Nat) (bo : Bool) (w : World) (K : KV) : stT P T.bp (pB b i) (.bool bo) w K = st1 P b i (.bool bo) w K := kr
@[simp] theorem buz (p0 : Option Addr) (l0 c0 : Nat) (w : World) (K : KV) : jj P T.aw #[(0, (.slice p0 l0 c0))] w K = K (.agg #[(.slice p0 l0 c0), i0]) w := kr
@[simp] theorem bwx (x0 : Int) (x1 : Int) (x2 : Int) (x3 : Int) (x4 : Int) (w : World) (K : KV) : jj P T.i #[(0, (.int .u64 x0)), (1, (.int .u64 x1)), (2, (.int .u64 x2)), (3, (.int .u64 x3)), (4, (.int .u64 x4))] w K = K (.agg #[(.int .u64 x0), (.int .u64 x1), (.int .u64 x2), (.int .u64 x3), (.int .u64 x4), (.string ⟨#[]⟩), (.string ⟨#[]⟩), bF]) w := kr
@[simp] theorem bsb : faT P T.aw (pB B I) 1 W K = K (.pointer (some ⟨B, I + 1, none⟩)) W := kr
@[simp] theorem bnn : ldT P T.ac (pB B I) W K = ld1 P B I W K := kr
@[simp] theorem bvb (b i : Nat) (x : Int) (w : World) (K : KV) : stT P T.ac (pB b i) (.int .i64 x) w K = st1 P b i (.int .i64 x) w K := kr
@[simp] theorem bpr : faT P T.aw (pB B I) 0 W K = K (pB B I) W := kr
@[simp] theorem bsk (rx ry : Operand) (a : Addr) (w : World) (K : KV) : iq P .eql T.bl rx ry (.pointer (some a)) nP w K = K bF w := kr
@[simp] theorem bnk : faT P T.au (pB B I) 3 W K = K (.pointer (some ⟨B, I + 66, none⟩)) W := kr
@[simp] theorem boj : ldT P T.ak (pB B I) W K = ld1 P B I W K := kr
theorem mt.ak:nj P T.ak .u64 T.z i0:=nj.mk' (key:=T.a) (by kernel_rfl) (by kernel_rfl) (by kernel_rfl)
@[simp] theorem bom : faT P T.av (pB B I) 1 W K = K (.pointer (some ⟨B, I + 1, none⟩)) W := kr
@[simp] theorem bpw : faT P T.av (pB B I) 2 W K = K (.pointer (some ⟨B, I + 2, none⟩)) W := kr
@[simp] theorem bqd (c0_0 c0_1 c0_2 c0_3 c0_4 c0_5 c0_6 c0_7 c0_8 c0_9 c0_10 c0_11 c0_12 c0_13 c0_14 c0_15 : Value) (w : World) (K : KV) : bsT P T.bd 1 #[(0, (.agg #[c0_0, c0_1, c0_2, c0_3, c0_4, c0_5, c0_6, c0_7, c0_8, c0_9, c0_10, c0_11, c0_12, c0_13, c0_14, c0_15]))] w K = K (.slice (some ⟨w.heap.size, 0, none⟩) 1 1) (w.alloc (.cells #[c0_0, c0_1, c0_2, c0_3, c0_4, c0_5, c0_6, c0_7, c0_8, c0_9, c0_10, c0_11, c0_12, c0_13, c0_14, c0_15] T.av)) := kr
@[simp] theorem bvk : faT P T.an (pB B I) 1 W K = K (.pointer (some ⟨B, I + 2, none⟩)) W := kr
@[simp] theorem bni : jj P T.az #[] W K = K (.agg #[nS, bF]) W := kr
@[simp] theorem bxk : faT P T.an (pB B I) 3 W K = K (.pointer (some ⟨B, I + 4, none⟩)) W := kr
@[simp] theorem brf : faT P T.an (pB B I) 2 W K = K (.pointer (some ⟨B, I + 3, none⟩)) W := kr
@[simp] theorem bpq : faT P T.az (pB B I) 1 W K = K (.pointer (some ⟨B, I + 1, none⟩)) W := kr
@[simp] theorem bua (b i : Nat) (p : Option Addr) (l c : Nat) (w : World) (K : KV) : stT P T.g (pB b i) (.slice p l c) w K = st1 P b i (.slice p l c) w K := kr
@[simp] theorem bth : faT P T.ai (pB B I) 7 W K = K (.pointer (some ⟨B, I + 7, none⟩)) W := kr
@[simp] theorem bwq : ldT P T.ba (pB B I) W K = ld1 P B I W K := kr
@[simp] theorem brn : faT P T.m (pB B I) 1 W K = K (.pointer (some ⟨B, I + 1, none⟩)) W := kr
@[simp] theorem bxc (x0 : Int) (x1 : Int) (x2 : Int) (w : World) (K : KV) : jj P T.c #[(0, (.int .i64 x0)), (1, (.int .u64 x1)), (4, (.int .i64 x2))] w K = K (.agg #[(.int .i64 x0), (.int .u64 x1), u0, u0, u0, u0, (.int .i64 x2), bF, nS, nS, nS]) w := kr
@[simp] theorem bse : alT P T.c W K = K (.pointer (some ⟨W.heap.size, 0, none⟩)) (W.alloc (.cells #[i0, u0, u0, u0, u0, u0, i0, bF, nS, nS, nS] T.c)) := kr
@[simp] theorem bnf (b i : Nat) (c_0 c_1 c_2 c_3 c_4 c_5 c_6 c_7 c_8 c_9 c_10 : Value) (w : World) (K : KV) : stT P T.c (pB b i) (.agg #[c_0, c_1, c_2, c_3, c_4, c_5, c_6, c_7, c_8, c_9, c_10]) w K = stN P b i [c_0, c_1, c_2, c_3, c_4, c_5, c_6, c_7, c_8, c_9, c_10] w K := kr
@[simp] theorem bnp (x0 : Int) (x1 : Int) (x2 : Int) (w : World) (K : KV) : jj P T.av #[(0, (.int .i64 x0)), (3, (.int .u64 x1)), (5, (.int .i64 x2))] w K = K (.agg #[(.int .i64 x0), u0, u0, (.int .u64 x1), u0, u0, (.int .i64 x2), u0, u0, u0, u0, u0, (.string ⟨#[]⟩), (.string ⟨#[]⟩), bF, i0]) w := kr
@[simp] theorem bxa : faT P T.aa (pB B I) 0 W K = K (pB B I) W := kr
@[simp] theorem buy (x0 : Int) (x1 : Int) (w : World) (K : KV) : jj P T.aq #[(0, (.int .u64 x0)), (1, (.int .u64 x1))] w K = K (.agg #[(.int .u64 x0), (.int .u64 x1)]) w := kr
@[simp] theorem bnx : nf P T.am = true := kr
@[simp] theorem bvl : szE P T.am = 2 := kr
theorem et.am:lw P T.am T.aq 2 16:=lw.mk' (by kernel_rfl) (by kernel_rfl) (by kernel_rfl)
@[simp] theorem bor (rx ry : Operand) (l c : Nat) (w : World) (K : KV) : iq P .eql T.h rx ry (.slice none l c) nS w K = K bY w := kr
@[simp] theorem bou (rx ry : Operand) (a : Addr) (l c : Nat) (w : World) (K : KV) : iq P .eql T.h rx ry (.slice (some a) l c) nS w K = K bF w := kr
@[simp] theorem bsg : bsT P T.h 0 #[] W K = K (.slice (some ⟨W.heap.size, 0, none⟩) 0 0) (W.alloc (.cells #[] T.a)) := kr
@[simp] theorem bqw : alT P T.ad W K = K (.pointer (some ⟨W.heap.size, 0, none⟩)) (W.alloc (.cells #[nS] T.ad)) := kr
@[simp] theorem bws : alT P T.ac W K = K (.pointer (some ⟨W.heap.size, 0, none⟩)) (W.alloc (.cells #[i0] T.ac)) := kr
@[simp] theorem bxs : alT P T.q W K = K (.pointer (some ⟨W.heap.size, 0, none⟩)) (W.alloc (.cells #[bF, (.string ⟨#[]⟩), u0, (.string ⟨#[]⟩)] T.q)) := kr
@[simp] theorem bsr (b i : Nat) (c_0 c_1 c_2 c_3 : Value) (w : World) (K : KV) : stT P T.q (pB b i) (.agg #[c_0, c_1, c_2, c_3]) w K = stN P b i [c_0, c_1, c_2, c_3] w K := kr
@[simp] theorem brv : ldT P T.ad (pB B I) W K = ld1 P B I W K := kr
@[simp] theorem boi : ldT P T.q (pB B I) W K = ldN P 4 B I W K := kr
@[simp] theorem bos : nf P T.ad = true := kr
@[simp] theorem bny : szE P T.ad = 4 := kr
theorem et.ad:lw P T.ad T.q 4 48:=lw.mk' (by kernel_rfl) (by kernel_rfl) (by kernel_rfl)
@[simp] theorem btu (c0_0 c0_1 c0_2 c0_3 : Value) (w : World) (K : KV) : bsT P T.ad 1 #[(0, (.agg #[c0_0, c0_1, c0_2, c0_3]))] w K = K (.slice (some ⟨w.heap.size, 0, none⟩) 1 1) (w.alloc (.cells #[c0_0, c0_1, c0_2, c0_3] T.q)) := kr
@[simp] theorem brh (x0 : Int) (x1 : Int) (x2 : Int) (x3 : Int) (x4 : Int) (p5 : Option Addr) (l5 c5 : Nat) (r6 : Option Nat) (w : World) (K : KV) : jj P T.ai #[(0, (.int .u64 x0)), (1, (.int .u64 x1)), (2, (.int .u64 x2)), (3, (.int .u64 x3)), (4, (.int .u64 x4)), (6, (.slice p5 l5 c5)), (7, (.map r6))] w K = K (.agg #[(.int .u64 x0), (.int .u64 x1), (.int .u64 x2), (.int .u64 x3), (.int .u64 x4), bF, (.slice p5 l5 c5), (.map r6)]) w := kr
@[simp] theorem boa (x0 : Int) (x1 : Int) (x2 : Int) (r3 : Option Nat) (w : World) (K : KV) : jj P T.an #[(1, (.int .i64 x0)), (2, (.int .i64 x1)), (3, (.int .u64 x2)), (4, (.map r3))] w K = K (.agg #[nS, (.map none), (.int .i64 x0), (.int .i64 x1), (.int .u64 x2), (.map r3)]) w := kr
@[simp] theorem btl (x0 : Int) (r1 : Option Nat) (w : World) (K : KV) : jj P T.au #[(2, (.int .i64 x0)), (3, (.map r1))] w K = K (.agg #[u0, u0, u0, u0, u0, u0, u0, u0, u0, u0, u0, u0, u0, u0, u0, u0, u0, u0, u0, u0, u0, u0, u0, u0, u0, u0, u0, u0, u0, u0, u0, u0, u0, u0, u0, u0, u0, u0, u0, u0, u0, u0, u0, u0, u0, u0, u0, u0, u0, u0, u0, u0, u0, u0, u0, u0, u0, u0, u0, u0, u0, u0, u0, u0, i0, (.int .i64 x0), (.map r1)]) w := kr
@[simp] theorem bxr (b i : Nat) (x : Int) (w : World) (K : KV) : stT P T.z (pB b i) (.int .i64 x) w K = st1 P b i (.int .i64 x) w K := kr
@[simp] theorem bqt : nf P T.bq = true := kr
@[simp] theorem bps : szE P T.bq = 1 := kr
theorem et.bq:lw P T.bq T.bi 1 4:=lw.mk' (by kernel_rfl) (by kernel_rfl) (by kernel_rfl)
@[simp] theorem brp : ldT P T.bi (pB B I) W K = ld1 P B I W K := kr
@[simp] theorem bvj : faT P T.ai (pB B I) 2 W K = K (.pointer (some ⟨B, I + 2, none⟩)) W := kr
@[simp] theorem btf (rx ry : Operand) (l c : Nat) (w : World) (K : KV) : iq P .eql T.o rx ry (.slice none l c) nS w K = K bY w := kr
@[simp] theorem bnw (rx ry : Operand) (a : Addr) (l c : Nat) (w : World) (K : KV) : iq P .eql T.o rx ry (.slice (some a) l c) nS w K = K bF w := kr
@[simp] theorem bwj : bsT P T.o 0 #[] W K = K (.slice (some ⟨W.heap.size, 0, none⟩) 0 0) (W.alloc (.cells #[] T.m)) := kr
@[simp] theorem bti (rx ry : Operand) (a : Addr) (w : World) (K : KV) : iq P .eql T.bt rx ry (.pointer (some a)) nP w K = K bF w := kr
@[simp] theorem bpt : faT P T.be (pB B I) 1 W K = K (.pointer (some ⟨B, I + 1, none⟩)) W := kr
@[simp] theorem bvx : ldT P T.n (pB B I) W K = ld1 P B I W K := kr
theorem mt.n:nj P T.n .u64 T.ab nP:=nj.mk' (key:=T.a) (by kernel_rfl) (by kernel_rfl) (by kernel_rfl)
@[simp] theorem bnu (rx ry : Operand)  (w : World) (K : KV) : iq P .eql T.ab rx ry nP nP w K = K bY w := kr
@[simp] theorem bqq (rx ry : Operand) (a : Addr) (w : World) (K : KV) : iq P .eql T.ab rx ry (.pointer (some a)) nP w K = K bF w := kr
@[simp] theorem bpn : faT P T.be (pB B I) 0 W K = K (pB B I) W := kr
@[simp] theorem bxb (v : Value) (w : World) (K : KV) : rq P T.bb v w K = K (.iface T.bb v) w := kr
@[simp] theorem bxj : abu P T.bb "Len" F.fi false = true := kr
@[simp] theorem buo : abu P T.bb "Less" F.dk false = true := kr
@[simp] theorem bqp : abu P T.bb "Pop" F.es true = true := kr
@[simp] theorem btg : abu P T.bb "Push" F.ej true = true := kr
@[simp] theorem bno : abu P T.bb "Swap" F.dl false = true := kr
@[simp] theorem bnv : faT P T.ar (pB B I) 2 W K = K (.pointer (some ⟨B, I + 2, none⟩)) W := kr
@[simp] theorem bqj : faT P T.ar (pB B I) 1 W K = K (.pointer (some ⟨B, I + 1, none⟩)) W := kr
@[simp] theorem btw (rx ry : Operand)  (w : World) (K : KV) : iq P .eql T.n rx ry (.map none) (.map none) w K = K bY w := kr
@[simp] theorem bqn (rx ry : Operand) (r : Nat) (w : World) (K : KV) : iq P .eql T.n rx ry (.map (some r)) (.map none) w K = K bF w := kr
@[simp] theorem brq (b i : Nat) (r : Option Nat) (w : World) (K : KV) : stT P T.n (pB b i) (.map r) w K = st1 P b i (.map r) w K := kr
@[simp] theorem boe (x0 : Int) (x1 : Int) (w : World) (K : KV) : jj P T.ar #[(0, (.int .u64 x0)), (1, (.int .u64 x1))] w K = K (.agg #[(.int .u64 x0), (.int .u64 x1), i0]) w := kr
@[simp] theorem bpf (v : Value) (w : World) (K : KV) : rq P T.ab v w K = K (.iface T.ab v) w := kr
@[simp] theorem bon : faT P T.b (pB B I) 8 W K = K (.pointer (some ⟨B, I + 20, none⟩)) W := kr
@[simp] theorem bof : faT P T.r (pB B I) 4 W K = K (.pointer (some ⟨B, I + 5, none⟩)) W := kr
@[simp] theorem bwm : faT P T.r (pB B I) 7 W K = K (.pointer (some ⟨B, I + 9, none⟩)) W := kr
@[simp] theorem bpc : jj P T.c #[] W K = K (.agg #[i0, u0, u0, u0, u0, u0, i0, bF, nS, nS, nS]) W := kr
@[simp] theorem bqs : faT P T.r (pB B I) 0 W K = K (pB B I) W := kr
@[simp] theorem bsx : faT P T.r (pB B I) 1 W K = K (.pointer (some ⟨B, I + 1, none⟩)) W := kr
@[simp] theorem brk (x0 : Int) (x1 : Int) (c2_0 c2_1 : Value) (w : World) (K : KV) : jj P T.c #[(0, (.int .i64 x0)), (1, (.int .u64 x1)), (2, (.agg #[c2_0, c2_1]))] w K = K (.agg #[(.int .i64 x0), (.int .u64 x1), c2_0, c2_1, u0, u0, i0, bF, nS, nS, nS]) w := kr
@[simp] theorem boc : faT P T.r (pB B I) 2 W K = K (.pointer (some ⟨B, I + 3, none⟩)) W := kr
@[simp] theorem buf : faT P T.r (pB B I) 3 W K = K (.pointer (some ⟨B, I + 4, none⟩)) W := kr
@[simp] theorem bnq : faT P T.r (pB B I) 5 W K = K (.pointer (some ⟨B, I + 6, none⟩)) W := kr
@[simp] theorem bpl : ldT P T.al (pB B I) W K = ld1 P B I W K := kr
theorem mt.al:nj P T.al .u64 T.bp bF:=nj.mk' (key:=T.a) (by kernel_rfl) (by kernel_rfl) (by kernel_rfl)
@[simp] theorem bok (rx ry : Operand) (l c : Nat) (w : World) (K : KV) : iq P .eql T.g rx ry (.slice none l c) nS w K = K bY w := kr
@[simp] theorem bqf (rx ry : Operand) (a : Addr) (l c : Nat) (w : World) (K : KV) : iq P .eql T.g rx ry (.slice (some a) l c) nS w K = K bF w := kr
@[simp] theorem btc : bsT P T.g 0 #[] W K = K (.slice (some ⟨W.heap.size, 0, none⟩) 0 0) (W.alloc (.cells #[] T.i)) := kr
@[simp] theorem bsy : nf P T.bu = true := kr
@[simp] theorem bvo : szE P T.bu = 1 := kr
@[simp] theorem btx (x0 : Int) (x1 : Int) (w : World) (K : KV) : bsT P T.bu 2 #[(0, (.int .i64 x0)), (1, (.int .i64 x1))] w K = K (.slice (some ⟨w.heap.size, 0, none⟩) 2 2) (w.alloc (.cells #[(.int .i64 x0), (.int .i64 x1)] T.ac)) := kr
@[simp] theorem bwy (rx ry : Operand) (l c : Nat) (w : World) (K : KV) : iq P .eql T.y rx ry (.slice none l c) nS w K = K bY w := kr
@[simp] theorem bst (rx ry : Operand) (a : Addr) (l c : Nat) (w : World) (K : KV) : iq P .eql T.y rx ry (.slice (some a) l c) nS w K = K bF w := kr
@[simp] theorem bvr : nf P T.bk = true := kr
@[simp] theorem bwg : szE P T.bk = 1 := kr
@[simp] theorem bsw (p0 : Option Addr) (l0 c0 : Nat) (p1 : Option Addr) (l1 c1 : Nat) (w : World) (K : KV) : bsT P T.bk 2 #[(0, (.slice p0 l0 c0)), (1, (.slice p1 l1 c1))] w K = K (.slice (some ⟨w.heap.size, 0, none⟩) 2 2) (w.alloc (.cells #[(.slice p0 l0 c0), (.slice p1 l1 c1)] T.g)) := kr
@[simp] theorem bwv (x0 : Int) (x1 : Int) (x2 : Int) (c3_0 c3_1 c3_2 c3_3 c3_4 c3_5 c3_6 c3_7 : Value) (w : World) (K : KV) : jj P T.av #[(0, (.int .i64 x0)), (3, (.int .u64 x1)), (5, (.int .i64 x2)), (6, (.agg #[c3_0, c3_1, c3_2, c3_3, c3_4, c3_5, c3_6, c3_7]))] w K = K (.agg #[(.int .i64 x0), u0, u0, (.int .u64 x1), u0, u0, (.int .i64 x2), c3_0, c3_1, c3_2, c3_3, c3_4, c3_5, c3_6, c3_7, i0]) w := kr
@[simp] theorem bxz (rx ry : Operand) (ti : TypeId) (v : Value) (w : World) (K : KV) : iq P .eql T.bg rx ry (.iface ti v) .nilIface w K = K bF w := kr
@[simp] theorem bov (x0 : Int) (bo1 : Bool) (p2 : Option Addr) (l2 c2 : Nat) (w : World) (K : KV) : jj P T.x #[(0, (.int .u64 x0)), (1, (.bool bo1)), (2, (.slice p2 l2 c2))] w K = K (.agg #[(.int .u64 x0), (.bool bo1), (.slice p2 l2 c2)]) w := kr
@[simp] theorem bsp (v : Value) (w : World) (K : KV) : rq P T.x v w K = K (.iface T.x v) w := kr
@[simp] theorem bvs (p0 : Option Addr) (l0 c0 : Nat) (w : World) (K : KV) : jj P T.v #[(0, (.slice p0 l0 c0))] w K = K (.agg #[(.slice p0 l0 c0)]) w := kr
@[simp] theorem bpu (v : Value) (w : World) (K : KV) : rq P T.v v w K = K (.iface T.v v) w := kr
@[simp] theorem boo (x0 : Int) (c1_0 c1_1 : Value) (x2 : Int) (w : World) (K : KV) : jj P T.aj #[(0, (.int .u64 x0)), (1, (.agg #[c1_0, c1_1])), (2, (.int .i64 x2))] w K = K (.agg #[(.int .u64 x0), c1_0, c1_1, (.int .i64 x2)]) w := kr
@[simp] theorem bum (v : Value) (w : World) (K : KV) : rq P T.aj v w K = K (.iface T.aj v) w := kr
@[simp] theorem bwf (x0 : Int) (c1_0 c1_1 : Value) (bo2 : Bool) (c3_0 c3_1 : Value) (x4 : Int) (bo5 : Bool) (w : World) (K : KV) : jj P T.k #[(0, (.int .u64 x0)), (1, (.agg #[c1_0, c1_1])), (2, (.bool bo2)), (3, (.agg #[c3_0, c3_1])), (4, (.int .i64 x4)), (5, (.bool bo5))] w K = K (.agg #[(.int .u64 x0), c1_0, c1_1, (.bool bo2), c3_0, c3_1, (.int .i64 x4), (.bool bo5)]) w := kr
@[simp] theorem bpg (v : Value) (w : World) (K : KV) : rq P T.k v w K = K (.iface T.k v) w := kr
@[simp] theorem bqu (x0 : Int) (x1 : Int) (w : World) (K : KV) : jj P T.af #[(0, (.int .u64 x0)), (1, (.int .i64 x1))] w K = K (.agg #[(.int .u64 x0), (.int .i64 x1)]) w := kr
@[simp] theorem bue (v : Value) (w : World) (K : KV) : rq P T.af v w K = K (.iface T.af v) w := kr
@[simp] theorem bux (x0 : Int) (c1_0 c1_1 : Value) (p2 : Option Addr) (l2 c2 : Nat) (w : World) (K : KV) : jj P T.s #[(0, (.int .u64 x0)), (1, (.agg #[c1_0, c1_1])), (2, (.slice p2 l2 c2))] w K = K (.agg #[(.int .u64 x0), c1_0, c1_1, (.slice p2 l2 c2)]) w := kr
@[simp] theorem bqk (v : Value) (w : World) (K : KV) : rq P T.s v w K = K (.iface T.s v) w := kr
@[simp] theorem bri (x0 : Int) (p1 : Option Addr) (l1 c1 : Nat) (w : World) (K : KV) : jj P T.aa #[(0, (.int .u64 x0)), (1, (.slice p1 l1 c1))] w K = K (.agg #[(.int .u64 x0), (.slice p1 l1 c1)]) w := kr
@[simp] theorem bow (v : Value) (w : World) (K : KV) : rq P T.aa v w K = K (.iface T.aa v) w := kr
@[simp] theorem bvw : ldT P T.k (pB B I) W K = ldN P 8 B I W K := kr
@[simp] theorem bvz : faT P T.k (pB B I) 2 W K = K (.pointer (some ⟨B, I + 3, none⟩)) W := kr
@[simp] theorem bvy : faT P T.k (pB B I) 3 W K = K (.pointer (some ⟨B, I + 4, none⟩)) W := kr
@[simp] theorem bwt : faT P T.k (pB B I) 4 W K = K (.pointer (some ⟨B, I + 6, none⟩)) W := kr
@[simp] theorem bob : faT P T.r (pB B I) 6 W K = K (.pointer (some ⟨B, I + 7, none⟩)) W := kr
@[simp] theorem bqz : ldT P T.ag (pB B I) W K = ld1 P B I W K := kr
@[simp] theorem bso : faT P T.au (pB B I) 2 W K = K (.pointer (some ⟨B, I + 65, none⟩)) W := kr
@[simp] theorem brb : faT P T.au (pB B I) 0 W K = K (pB B I) W := kr
@[simp] theorem btz : faT P T.au (pB B I) 1 W K = K (.pointer (some ⟨B, I + 64, none⟩)) W := kr
@[simp] theorem bxd : faT P T.aa (pB B I) 1 W K = K (.pointer (some ⟨B, I + 1, none⟩)) W := kr
@[simp] theorem bta : faT P T.aq (pB B I) 0 W K = K (pB B I) W := kr
@[simp] theorem bup : faT P T.aq (pB B I) 1 W K = K (.pointer (some ⟨B, I + 1, none⟩)) W := kr
@[simp] theorem bsi : nf P T.bw = true := kr
@[simp] theorem bur : szE P T.bw = 1 := kr
@[simp] theorem bxn (x0 : Int) (x1 : Int) (w : World) (K : KV) : bsT P T.bw 2 #[(0, (.int .i64 x0)), (1, (.int .i64 x1))] w K = K (.slice (some ⟨w.heap.size, 0, none⟩) 2 2) (w.alloc (.cells #[(.int .i64 x0), (.int .i64 x1)] T.d)) := kr
@[simp] theorem buh : jj P T.q #[] W K = K (.agg #[bF, (.string ⟨#[]⟩), u0, (.string ⟨#[]⟩)]) W := kr
@[simp] theorem bpd (bo0 : Bool) (s1 : ByteArray) (w : World) (K : KV) : jj P T.q #[(0, (.bool bo0)), (1, (.string s1))] w K = K (.agg #[(.bool bo0), (.string s1), u0, (.string ⟨#[]⟩)]) w := kr
@[simp] theorem bwo : faT P T.q (pB B I) 1 W K = K (.pointer (some ⟨B, I + 1, none⟩)) W := kr
@[simp] theorem boz : faT P T.q (pB B I) 2 W K = K (.pointer (some ⟨B, I + 2, none⟩)) W := kr
@[simp] theorem btm : faT P T.q (pB B I) 3 W K = K (.pointer (some ⟨B, I + 3, none⟩)) W := kr
@[simp] theorem bot (x0 : Int) (w : World) (K : KV) : bsT P T.bq 1 #[(0, (.int .i32 x0))] w K = K (.slice (some ⟨w.heap.size, 0, none⟩) 1 1) (w.alloc (.cells #[(.int .i32 x0)] T.bi)) := kr
@[simp] theorem bre : ldT P T.ae (pB B I) W K = ld1 P B I W K := kr
@[simp] theorem brm : nf P T.ae = true := kr
@[simp] theorem bva : szE P T.ae = 1 := kr
theorem et.ae:lw P T.ae T.ab 1 8:=lw.mk' (by kernel_rfl) (by kernel_rfl) (by kernel_rfl)
@[simp] theorem bul : ldT P T.ab (pB B I) W K = ld1 P B I W K := kr
@[simp] theorem bvu : faT P T.ar (pB B I) 0 W K = K (pB B I) W := kr
@[simp] theorem bol : faT P T.q (pB B I) 0 W K = K (pB B I) W := kr
@[simp] theorem bvp (x0 : Int) (c1_0 c1_1 : Value) (x2 : Int) (p3 : Option Addr) (l3 c3 : Nat) (r4 : Option Nat) (w : World) (K : KV) : jj P T.r #[(0, (.int .u64 x0)), (1, (.agg #[c1_0, c1_1])), (2, (.int .i64 x2)), (3, (.slice p3 l3 c3)), (5, (.map r4))] w K = K (.agg #[(.int .u64 x0), c1_0, c1_1, (.int .i64 x2), (.slice p3 l3 c3), i0, (.map r4), u0, u0, u0, u0]) w := kr
@[simp] theorem bnh (b i : Nat) (p : Option Addr) (l c : Nat) (w : World) (K : KV) : stT P T.y (pB b i) (.slice p l c) w K = st1 P b i (.slice p l c) w K := kr
@[simp] theorem brc (v : Value) (w : World) (K : KV) : rq P T.l v w K = K (.iface T.l v) w := kr
@[simp] theorem bxu : faT P T.x (pB B I) 0 W K = K (pB B I) W := kr
@[simp] theorem buw (v : Value) (w : World) (K : KV) : taT P (.iface T.aj v) T.bg T.aj true w K = K (.tuple #[v, .bool true]) w := kr
@[simp] theorem bsh : alT P T.aj W K = K (.pointer (some ⟨W.heap.size, 0, none⟩)) (W.alloc (.cells #[u0, u0, u0, i0] T.aj)) := kr
@[simp] theorem bqv (b i : Nat) (c_0 c_1 c_2 c_3 : Value) (w : World) (K : KV) : stT P T.aj (pB b i) (.agg #[c_0, c_1, c_2, c_3]) w K = stN P b i [c_0, c_1, c_2, c_3] w K := kr
@[simp] theorem bte : faT P T.aj (pB B I) 0 W K = K (pB B I) W := kr
@[simp] theorem bxf : faT P T.aj (pB B I) 1 W K = K (.pointer (some ⟨B, I + 1, none⟩)) W := kr
@[simp] theorem bvn : faT P T.aj (pB B I) 2 W K = K (.pointer (some ⟨B, I + 3, none⟩)) W := kr
@[simp] theorem bxl : faT P T.k (pB B I) 0 W K = K (pB B I) W := kr
@[simp] theorem bwn : faT P T.k (pB B I) 1 W K = K (.pointer (some ⟨B, I + 1, none⟩)) W := kr
@[simp] theorem but : faT P T.k (pB B I) 5 W K = K (.pointer (some ⟨B, I + 7, none⟩)) W := kr
@[simp] theorem btr (v : Value) (w : World) (K : KV) : taT P (.iface T.s v) T.bg T.s true w K = K (.tuple #[v, .bool true]) w := kr
@[simp] theorem bpk : alT P T.s W K = K (.pointer (some ⟨W.heap.size, 0, none⟩)) (W.alloc (.cells #[u0, u0, u0, nS] T.s)) := kr
@[simp] theorem bqm (b i : Nat) (c_0 c_1 c_2 c_3 : Value) (w : World) (K : KV) : stT P T.s (pB b i) (.agg #[c_0, c_1, c_2, c_3]) w K = stN P b i [c_0, c_1, c_2, c_3] w K := kr
@[simp] theorem buj : faT P T.s (pB B I) 0 W K = K (pB B I) W := kr
@[simp] theorem bqe : faT P T.s (pB B I) 1 W K = K (.pointer (some ⟨B, I + 1, none⟩)) W := kr
@[simp] theorem byc : faT P T.s (pB B I) 2 W K = K (.pointer (some ⟨B, I + 3, none⟩)) W := kr
@[simp] theorem bqg : faT P T.x (pB B I) 1 W K = K (.pointer (some ⟨B, I + 1, none⟩)) W := kr
@[simp] theorem bog (x0 : Int) (x1 : Int) (c2_0 c2_1 : Value) (x3 : Int) (w : World) (K : KV) : jj P T.c #[(0, (.int .i64 x0)), (1, (.int .u64 x1)), (2, (.agg #[c2_0, c2_1])), (4, (.int .i64 x3))] w K = K (.agg #[(.int .i64 x0), (.int .u64 x1), c2_0, c2_1, u0, u0, (.int .i64 x3), bF, nS, nS, nS]) w := kr
@[simp] theorem bwh (x0 : Int) (x1 : Int) (c2_0 c2_1 : Value) (bo3 : Bool) (c4_0 c4_1 : Value) (x5 : Int) (w : World) (K : KV) : jj P T.c #[(0, (.int .i64 x0)), (1, (.int .u64 x1)), (2, (.agg #[c2_0, c2_1])), (5, (.bool bo3)), (3, (.agg #[c4_0, c4_1])), (4, (.int .i64 x5))] w K = K (.agg #[(.int .i64 x0), (.int .u64 x1), c2_0, c2_1, c4_0, c4_1, (.int .i64 x5), (.bool bo3), nS, nS, nS]) w := kr
@[simp] theorem bpx (x0 : Int) (x1 : Int) (p2 : Option Addr) (l2 c2 : Nat) (w : World) (K : KV) : jj P T.c #[(0, (.int .i64 x0)), (1, (.int .u64 x1)), (8, (.slice p2 l2 c2))] w K = K (.agg #[(.int .i64 x0), (.int .u64 x1), u0, u0, u0, u0, i0, bF, nS, nS, (.slice p2 l2 c2)]) w := kr
@[simp] theorem bqb : ldT P T.aq (pB B I) W K = ldN P 2 B I W K := kr
@[simp] theorem bxi : faT P T.e (pB B I) 1 W K = K (.pointer (some ⟨B, I + 1, none⟩)) W := kr
@[simp] theorem bxm : alT P T.ah W K = K (.pointer (some ⟨W.heap.size, 0, none⟩)) (W.alloc (.cells #[u0] T.ah)) := kr
@[simp] theorem bqc (b i : Nat) (x : Int) (w : World) (K : KV) : stT P T.ah (pB b i) (.int .u64 x) w K = st1 P b i (.int .u64 x) w K := kr
@[simp] theorem bvg (b i : Nat) (c_0 c_1 : Value) (w : World) (K : KV) : stT P T.aq (pB b i) (.agg #[c_0, c_1]) w K = stN P b i [c_0, c_1] w K := kr
@[simp] theorem bwr : ldT P T.ah (pB B I) W K = ld1 P B I W K := kr
@[simp] theorem bph (b i : Nat) (p : Option Addr) (w : World) (K : KV) : stT P T.ab (pB b i) (.pointer p) w K = st1 P b i (.pointer p) w K := kr
@[simp] theorem bpe (b i : Nat) (p : Option Addr) (l c : Nat) (w : World) (K : KV) : stT P T.ae (pB b i) (.slice p l c) w K = st1 P b i (.slice p l c) w K := kr
@[simp] theorem bto (v : Value) (w : World) (K : KV) : taT P (.iface T.ab v) T.bg T.ab false w K = K v w := kr
@[simp] theorem bxh (p0 : Option Addr) (w : World) (K : KV) : bsT P T.ae 1 #[(0, (.pointer p0))] w K = K (.slice (some ⟨w.heap.size, 0, none⟩) 1 1) (w.alloc (.cells #[(.pointer p0)] T.ab)) := kr
end Go.Proofs.YtgepcfcicngceaaGreatDoor
