/-
  Printed by wip/Shallow.lean: what the operations come to at this seat's types. No condition.
-/
import Derived.Test.YtgepcfcicngceaaGreatDoorN
import Derived.Test.YtgepcfcicngceaaGreatDoorZEng
set_option maxRecDepth 1000000
namespace Go.Proofs.YtgepcfcicngceaaGreatDoor
open Go.Eng
variable (B I : Nat) (W : World) (K : KV)
@[simp] theorem cbo : ni P T.q = true := kr
@[simp] theorem cbm : szE P T.q = 1 := kr
theorem et.q:me P T.q T.ba 1 1:=me.mk' (by kernel_rfl) (by kernel_rfl) (by kernel_rfl)
@[simp] theorem cbp : ldT P T.c (pB B I) W K = ldN P 11 B I W K := kr
@[simp] theorem cbn : ni P T.ap = true := kr
@[simp] theorem cbl : szE P T.ap = 13 := kr
theorem et.ap:me P T.ap T.bm 13 152:=me.mk' (by kernel_rfl) (by kernel_rfl) (by kernel_rfl)
theorem et.bh:me P T.bh T.av 16 144:=me.mk' (by kernel_rfl) (by kernel_rfl) (by kernel_rfl)
@[simp] theorem cah : ni P T.s = true := kr
@[simp] theorem caa : szE P T.s = 3 := kr
theorem et.s:me P T.s T.n 3 24:=me.mk' (by kernel_rfl) (by kernel_rfl) (by kernel_rfl)
@[simp] theorem cbc : ni P T.g = true := kr
@[simp] theorem bzd : szE P T.g = 1 := kr
theorem et.g:me P T.g T.a 1 8:=me.mk' (by kernel_rfl) (by kernel_rfl) (by kernel_rfl)
@[simp] theorem cab : ni P T.bp = true := kr
@[simp] theorem bzb : szE P T.bp = 1 := kr
@[simp] theorem bzo (rx ry : Operand) (a : Addr) (w : World) (K : KV) : ip P .eql T.an rx ry (.pointer (some a)) nP w K = K bF w := kr
@[simp] theorem bze : ldT P T.q (pB B I) W K = ld1 P B I W K := kr
@[simp] theorem bzw : alT P T.i W K = K (.pointer (some ⟨W.heap.size, 0, none⟩)) (W.alloc (.cells #[u0, u0, u0, u0, u0, (.string ⟨#[]⟩), (.string ⟨#[]⟩), bF] T.i)) := kr
@[simp] theorem cad (b i : Nat) (c_0 c_1 c_2 c_3 c_4 c_5 c_6 c_7 : Value) (w : World) (K : KV) : stT P T.i (pB b i) (.agg #[c_0, c_1, c_2, c_3, c_4, c_5, c_6, c_7]) w K = stN P b i [c_0, c_1, c_2, c_3, c_4, c_5, c_6, c_7] w K := kr
@[simp] theorem cay : ldT P T.d (pB B I) W K = ld1 P B I W K := kr
@[simp] theorem caq : ldT P T.i (pB B I) W K = ldN P 8 B I W K := kr
@[simp] theorem bzk : alT P T.m W K = K (.pointer (some ⟨W.heap.size, 0, none⟩)) (W.alloc (.cells #[u0, u0, nS, u0, i0, u0, u0, u0, u0, i0, i0, i0, (.string ⟨#[]⟩)] T.m)) := kr
@[simp] theorem bzl (b i : Nat) (c_0 c_1 c_2 c_3 c_4 c_5 c_6 c_7 c_8 c_9 c_10 c_11 c_12 : Value) (w : World) (K : KV) : stT P T.m (pB b i) (.agg #[c_0, c_1, c_2, c_3, c_4, c_5, c_6, c_7, c_8, c_9, c_10, c_11, c_12]) w K = stN P b i [c_0, c_1, c_2, c_3, c_4, c_5, c_6, c_7, c_8, c_9, c_10, c_11, c_12] w K := kr
@[simp] theorem cbb : faT P T.m (pB B I) 1 W K = K (.pointer (some ⟨B, I + 1, none⟩)) W := kr
@[simp] theorem bzc (b i : Nat) (x : Int) (w : World) (K : KV) : stT P T.a (pB b i) (.int .u64 x) w K = st1 P b i (.int .u64 x) w K := kr
@[simp] theorem bzn : ldT P T.m (pB B I) W K = ldN P 13 B I W K := kr
@[simp] theorem cag (x0 : Int) (x1 : Int) (w : World) (K : KV) : jj P T.n #[(0, (.int .u64 x0)), (1, (.int .u64 x1))] w K = K (.agg #[(.int .u64 x0), (.int .u64 x1), i0]) w := kr
@[simp] theorem bzs (c0_0 c0_1 c0_2 : Value) (w : World) (K : KV) : bsT P T.s 1 #[(0, (.agg #[c0_0, c0_1, c0_2]))] w K = K (.slice (some ⟨w.heap.size, 0, none⟩) 1 1) (w.alloc (.cells #[c0_0, c0_1, c0_2] T.n)) := kr
@[simp] theorem cac (x0 : Int) (p1 : Option Addr) (l1 c1 : Nat) (w : World) (K : KV) : jj P T.c #[(0, (.int .i64 x0)), (7, (.slice p1 l1 c1))] w K = K (.agg #[(.int .i64 x0), u0, u0, u0, u0, u0, i0, bF, nS, (.slice p1 l1 c1), nS]) w := kr
@[simp] theorem cax : ldT P T.a (pB B I) W K = ld1 P B I W K := kr
@[simp] theorem cau : faT P T.bm (pB B I) 2 W K = K (.pointer (some ⟨B, I + 2, none⟩)) W := kr
@[simp] theorem caz : faT P T.c (pB B I) 0 W K = K (pB B I) W := kr
@[simp] theorem car : faT P T.c (pB B I) 1 W K = K (.pointer (some ⟨B, I + 1, none⟩)) W := kr
@[simp] theorem cao : faT P T.bm (pB B I) 1 W K = K (.pointer (some ⟨B, I + 1, none⟩)) W := kr
@[simp] theorem caf : ni P T.h = true := kr
@[simp] theorem bzh : szE P T.h = 8 := kr
theorem et.h:me P T.h T.i 8 80:=me.mk' (by kernel_rfl) (by kernel_rfl) (by kernel_rfl)
@[simp] theorem bzx : faT P T.c (pB B I) 6 W K = K (.pointer (some ⟨B, I + 8, none⟩)) W := kr
@[simp] theorem bzv : ldT P T.h (pB B I) W K = ld1 P B I W K := kr
@[simp] theorem bzi : faT P T.m (pB B I) 9 W K = K (.pointer (some ⟨B, I + 9, none⟩)) W := kr
@[simp] theorem bzz (b i : Nat) (x : Int) (w : World) (K : KV) : stT P T.d (pB b i) (.int .i64 x) w K = st1 P b i (.int .i64 x) w K := kr
@[simp] theorem byw : faT P T.m (pB B I) 12 W K = K (.pointer (some ⟨B, I + 12, none⟩)) W := kr
@[simp] theorem byr (b i : Nat) (s : ByteArray) (w : World) (K : KV) : stT P T.l (pB b i) (.string s) w K = st1 P b i (.string s) w K := kr
@[simp] theorem cbg : faT P T.m (pB B I) 10 W K = K (.pointer (some ⟨B, I + 10, none⟩)) W := kr
@[simp] theorem bzp : faT P T.i (pB B I) 0 W K = K (pB B I) W := kr
@[simp] theorem byp : faT P T.i (pB B I) 1 W K = K (.pointer (some ⟨B, I + 1, none⟩)) W := kr
@[simp] theorem byq : faT P T.c (pB B I) 2 W K = K (.pointer (some ⟨B, I + 2, none⟩)) W := kr
@[simp] theorem byy : ldT P T.e (pB B I) W K = ldN P 2 B I W K := kr
@[simp] theorem cbf (x0 : Int) (x1 : Int) (c2_0 c2_1 : Value) (bo3 : Bool) (w : World) (K : KV) : jj P T.c #[(0, (.int .i64 x0)), (1, (.int .u64 x1)), (2, (.agg #[c2_0, c2_1])), (5, (.bool bo3))] w K = K (.agg #[(.int .i64 x0), (.int .u64 x1), c2_0, c2_1, u0, u0, i0, (.bool bo3), nS, nS, nS]) w := kr
@[simp] theorem cas : faT P T.c (pB B I) 4 W K = K (.pointer (some ⟨B, I + 6, none⟩)) W := kr
@[simp] theorem cai : ldT P T.ad (pB B I) W K = ld1 P B I W K := kr
@[simp] theorem caj : faT P T.m (pB B I) 2 W K = K (.pointer (some ⟨B, I + 2, none⟩)) W := kr
@[simp] theorem bzq : ldT P T.g (pB B I) W K = ld1 P B I W K := kr
@[simp] theorem bzf : ldT P T.l (pB B I) W K = ld1 P B I W K := kr
@[simp] theorem byu : faT P T.c (pB B I) 7 W K = K (.pointer (some ⟨B, I + 9, none⟩)) W := kr
@[simp] theorem bys : ldT P T.s (pB B I) W K = ld1 P B I W K := kr
@[simp] theorem cam : faT P T.c (pB B I) 8 W K = K (.pointer (some ⟨B, I + 10, none⟩)) W := kr
@[simp] theorem bzr : faT P T.i (pB B I) 6 W K = K (.pointer (some ⟨B, I + 6, none⟩)) W := kr
@[simp] theorem bzu : faT P T.i (pB B I) 5 W K = K (.pointer (some ⟨B, I + 5, none⟩)) W := kr
@[simp] theorem cbd (x0 : Int) (x1 : Int) (s2 : ByteArray) (s3 : ByteArray) (bo4 : Bool) (w : World) (K : KV) : jj P T.i #[(0, (.int .u64 x0)), (1, (.int .u64 x1)), (5, (.string s2)), (6, (.string s3)), (7, (.bool bo4))] w K = K (.agg #[(.int .u64 x0), (.int .u64 x1), u0, u0, u0, (.string s2), (.string s3), (.bool bo4)]) w := kr
@[simp] theorem byz : alT P T.e W K = K (.pointer (some ⟨W.heap.size, 0, none⟩)) (W.alloc (.cells #[u0, u0] T.e)) := kr
@[simp] theorem bzg (b i : Nat) (c_0 c_1 : Value) (w : World) (K : KV) : stT P T.e (pB b i) (.agg #[c_0, c_1]) w K = stN P b i [c_0, c_1] w K := kr
@[simp] theorem bzj : faT P T.b (pB B I) 10 W K = K (.pointer (some ⟨B, I + 23, none⟩)) W := kr
@[simp] theorem byv : faT P T.b (pB B I) 2 W K = K (.pointer (some ⟨B, I + 14, none⟩)) W := kr
@[simp] theorem bzy : ldT P T.bg (pB B I) W K = ld1 P B I W K := kr
@[simp] theorem cat : faT P T.b (pB B I) 3 W K = K (.pointer (some ⟨B, I + 15, none⟩)) W := kr
@[simp] theorem bza : ldT P T.ao (pB B I) W K = ld1 P B I W K := kr
@[simp] theorem cav : faT P T.b (pB B I) 0 W K = K (pB B I) W := kr
@[simp] theorem cbe : faT P T.f (pB B I) 0 W K = K (pB B I) W := kr
@[simp] theorem caw : faT P T.b (pB B I) 5 W K = K (.pointer (some ⟨B, I + 17, none⟩)) W := kr
@[simp] theorem cae : ldT P T.x (pB B I) W K = ld1 P B I W K := kr
theorem mt.x:nn P T.x .u64 T.bj nP:=nn.mk' (key:=T.a) (by kernel_rfl) (by kernel_rfl) (by kernel_rfl)
@[simp] theorem byx (rx ry : Operand)  (w : World) (K : KV) : ip P .eql T.bj rx ry nP nP w K = K bY w := kr
@[simp] theorem bzt (rx ry : Operand) (a : Addr) (w : World) (K : KV) : ip P .eql T.bj rx ry (.pointer (some a)) nP w K = K bF w := kr
@[simp] theorem cba (x0 : Int) (x1 : Int) (p2 : Option Addr) (l2 c2 : Nat) (w : World) (K : KV) : jj P T.c #[(0, (.int .i64 x0)), (1, (.int .u64 x1)), (6, (.slice p2 l2 c2))] w K = K (.agg #[(.int .i64 x0), (.int .u64 x1), u0, u0, u0, u0, i0, bF, (.slice p2 l2 c2), nS, nS]) w := kr
@[simp] theorem cal (x0 : Int) (w : World) (K : KV) : bsT P T.g 1 #[(0, (.int .u64 x0))] w K = K (.slice (some ⟨w.heap.size, 0, none⟩) 1 1) (w.alloc (.cells #[(.int .u64 x0)] T.a)) := kr
@[simp] theorem cbh : faT P T.b (pB B I) 9 W K = K (.pointer (some ⟨B, I + 22, none⟩)) W := kr
@[simp] theorem cak : faT P T.f (pB B I) 8 W K = K (.pointer (some ⟨B, I + 8, none⟩)) W := kr
@[simp] theorem byj : faT P T.b (pB B I) 7 W K = K (.pointer (some ⟨B, I + 19, none⟩)) W := kr
@[simp] theorem bsj : ldT P T.v (pB B I) W K = ld1 P B I W K := kr
theorem mt.v:nn P T.v .u64 T.h nS:=nn.mk' (key:=T.a) (by kernel_rfl) (by kernel_rfl) (by kernel_rfl)
@[simp] theorem bsy : faT P T.b (pB B I) 13 W K = K (.pointer (some ⟨B, I + 26, none⟩)) W := kr
@[simp] theorem bpx : faT P T.b (pB B I) 14 W K = K (.pointer (some ⟨B, I + 27, none⟩)) W := kr
@[simp] theorem bop (x0 : Int) (x1 : Int) (c2_0 c2_1 c2_2 c2_3 c2_4 c2_5 c2_6 c2_7 : Value) (w : World) (K : KV) : jj P T.av #[(0, (.int .i64 x0)), (3, (.int .u64 x1)), (6, (.agg #[c2_0, c2_1, c2_2, c2_3, c2_4, c2_5, c2_6, c2_7]))] w K = K (.agg #[(.int .i64 x0), u0, u0, (.int .u64 x1), u0, u0, i0, c2_0, c2_1, c2_2, c2_3, c2_4, c2_5, c2_6, c2_7, i0]) w := kr
@[simp] theorem bwf : alT P T.av W K = K (.pointer (some ⟨W.heap.size, 0, none⟩)) (W.alloc (.cells #[i0, u0, u0, u0, u0, u0, i0, u0, u0, u0, u0, u0, (.string ⟨#[]⟩), (.string ⟨#[]⟩), bF, i0] T.av)) := kr
@[simp] theorem buo (b i : Nat) (c_0 c_1 c_2 c_3 c_4 c_5 c_6 c_7 c_8 c_9 c_10 c_11 c_12 c_13 c_14 c_15 : Value) (w : World) (K : KV) : stT P T.av (pB b i) (.agg #[c_0, c_1, c_2, c_3, c_4, c_5, c_6, c_7, c_8, c_9, c_10, c_11, c_12, c_13, c_14, c_15]) w K = stN P b i [c_0, c_1, c_2, c_3, c_4, c_5, c_6, c_7, c_8, c_9, c_10, c_11, c_12, c_13, c_14, c_15] w K := kr
@[simp] theorem bwm : faT P T.b (pB B I) 4 W K = K (.pointer (some ⟨B, I + 16, none⟩)) W := kr
@[simp] theorem brg : ldT P T.bl (pB B I) W K = ld1 P B I W K := kr
@[simp] theorem bqb : ldT P T.av (pB B I) W K = ldN P 16 B I W K := kr
@[simp] theorem bol (c0_0 c0_1 c0_2 c0_3 c0_4 c0_5 c0_6 c0_7 : Value) (w : World) (K : KV) : bsT P T.h 1 #[(0, (.agg #[c0_0, c0_1, c0_2, c0_3, c0_4, c0_5, c0_6, c0_7]))] w K = K (.slice (some ⟨w.heap.size, 0, none⟩) 1 1) (w.alloc (.cells #[c0_0, c0_1, c0_2, c0_3, c0_4, c0_5, c0_6, c0_7] T.i)) := kr
@[simp] theorem bwk (x0 : Int) (x1 : Int) (c2_0 c2_1 c2_2 c2_3 c2_4 c2_5 c2_6 c2_7 : Value) (x3 : Int) (w : World) (K : KV) : jj P T.av #[(0, (.int .i64 x0)), (3, (.int .u64 x1)), (6, (.agg #[c2_0, c2_1, c2_2, c2_3, c2_4, c2_5, c2_6, c2_7])), (7, (.int .i64 x3))] w K = K (.agg #[(.int .i64 x0), u0, u0, (.int .u64 x1), u0, u0, i0, c2_0, c2_1, c2_2, c2_3, c2_4, c2_5, c2_6, c2_7, (.int .i64 x3)]) w := kr
@[simp] theorem buv (v : Value) (w : World) (K : KV) : taT P (.iface T.y v) T.be T.y true w K = K (.tuple #[v, .bool true]) w := kr
@[simp] theorem btz : alT P T.y W K = K (.pointer (some ⟨W.heap.size, 0, none⟩)) (W.alloc (.cells #[u0, bF, nS] T.y)) := kr
@[simp] theorem bvg (b i : Nat) (c_0 c_1 c_2 : Value) (w : World) (K : KV) : stT P T.y (pB b i) (.agg #[c_0, c_1, c_2]) w K = stN P b i [c_0, c_1, c_2] w K := kr
@[simp] theorem bwv : faT P T.y (pB B I) 2 W K = K (.pointer (some ⟨B, I + 2, none⟩)) W := kr
@[simp] theorem btu (v : Value) (w : World) (K : KV) : taT P (.iface T.w v) T.be T.w true w K = K (.tuple #[v, .bool true]) w := kr
@[simp] theorem bym : alT P T.w W K = K (.pointer (some ⟨W.heap.size, 0, none⟩)) (W.alloc (.cells #[nS] T.w)) := kr
@[simp] theorem bux (b i : Nat) (c_0 : Value) (w : World) (K : KV) : stT P T.w (pB b i) (.agg #[c_0]) w K = stN P b i [c_0] w K := kr
@[simp] theorem bsr : faT P T.w (pB B I) 0 W K = K (pB B I) W := kr
@[simp] theorem bpz (v : Value) (w : World) (K : KV) : taT P (.iface T.k v) T.be T.k true w K = K (.tuple #[v, .bool true]) w := kr
@[simp] theorem bpt : alT P T.k W K = K (.pointer (some ⟨W.heap.size, 0, none⟩)) (W.alloc (.cells #[u0, u0, u0, bF, u0, u0, i0, bF] T.k)) := kr
@[simp] theorem bty (b i : Nat) (c_0 c_1 c_2 c_3 c_4 c_5 c_6 c_7 : Value) (w : World) (K : KV) : stT P T.k (pB b i) (.agg #[c_0, c_1, c_2, c_3, c_4, c_5, c_6, c_7]) w K = stN P b i [c_0, c_1, c_2, c_3, c_4, c_5, c_6, c_7] w K := kr
@[simp] theorem bon (v : Value) (w : World) (K : KV) : taT P (.iface T.af v) T.be T.af true w K = K (.tuple #[v, .bool true]) w := kr
@[simp] theorem bpc : alT P T.af W K = K (.pointer (some ⟨W.heap.size, 0, none⟩)) (W.alloc (.cells #[u0, i0] T.af)) := kr
@[simp] theorem brz (b i : Nat) (c_0 c_1 : Value) (w : World) (K : KV) : stT P T.af (pB b i) (.agg #[c_0, c_1]) w K = stN P b i [c_0, c_1] w K := kr
@[simp] theorem btl : faT P T.af (pB B I) 0 W K = K (pB B I) W := kr
@[simp] theorem bwr : faT P T.af (pB B I) 1 W K = K (.pointer (some ⟨B, I + 1, none⟩)) W := kr
@[simp] theorem buu (v : Value) (w : World) (K : KV) : taT P (.iface T.z v) T.be T.z true w K = K (.tuple #[v, .bool true]) w := kr
@[simp] theorem boa : alT P T.z W K = K (.pointer (some ⟨W.heap.size, 0, none⟩)) (W.alloc (.cells #[u0, nS] T.z)) := kr
@[simp] theorem bnu (b i : Nat) (c_0 c_1 : Value) (w : World) (K : KV) : stT P T.z (pB b i) (.agg #[c_0, c_1]) w K = stN P b i [c_0, c_1] w K := kr
@[simp] theorem bod : ldT P T.z (pB B I) W K = ldN P 2 B I W K := kr
@[simp] theorem bso : faT P T.b (pB B I) 11 W K = K (.pointer (some ⟨B, I + 24, none⟩)) W := kr
@[simp] theorem bxm : ldT P T.ap (pB B I) W K = ld1 P B I W K := kr
@[simp] theorem bpj (b i : Nat) (p : Option Addr) (l c : Nat) (w : World) (K : KV) : stT P T.ap (pB b i) (.slice p l c) w K = st1 P b i (.slice p l c) w K := kr
@[simp] theorem bxh : faT P T.b (pB B I) 12 W K = K (.pointer (some ⟨B, I + 25, none⟩)) W := kr
@[simp] theorem bpu : ldT P T.bh (pB B I) W K = ld1 P B I W K := kr
@[simp] theorem boi (b i : Nat) (p : Option Addr) (l c : Nat) (w : World) (K : KV) : stT P T.bh (pB b i) (.slice p l c) w K = st1 P b i (.slice p l c) w K := kr
@[simp] theorem byi : faT P T.f (pB B I) 4 W K = K (.pointer (some ⟨B, I + 4, none⟩)) W := kr
@[simp] theorem btr : ldT P T.f (pB B I) W K = ldN P 13 B I W K := kr
@[simp] theorem bpk (c0_0 c0_1 c0_2 c0_3 c0_4 c0_5 c0_6 c0_7 c0_8 c0_9 c0_10 c0_11 c0_12 : Value) (x1 : Int) (x2 : Int) (r3 : Option Nat) (r4 : Option Nat) (r5 : Option Nat) (w : World) (K : KV) : jj P T.b #[(0, (.agg #[c0_0, c0_1, c0_2, c0_3, c0_4, c0_5, c0_6, c0_7, c0_8, c0_9, c0_10, c0_11, c0_12])), (10, (.int .u64 x1)), (9, (.int .u64 x2)), (5, (.map r3)), (6, (.map r4)), (7, (.map r5))] w K = K (.agg #[c0_0, c0_1, c0_2, c0_3, c0_4, c0_5, c0_6, c0_7, c0_8, c0_9, c0_10, c0_11, c0_12, nS, nP, nP, nP, (.map r3), (.map r4), (.map r5), u0, u0, (.int .u64 x2), (.int .u64 x1), nS, nS, u0, u0]) w := kr
@[simp] theorem brr : faT P T.f (pB B I) 2 W K = K (.pointer (some ⟨B, I + 2, none⟩)) W := kr
@[simp] theorem buy (b i : Nat) (p : Option Addr) (l c : Nat) (w : World) (K : KV) : stT P T.g (pB b i) (.slice p l c) w K = st1 P b i (.slice p l c) w K := kr
@[simp] theorem bsf : faT P T.f (pB B I) 12 W K = K (.pointer (some ⟨B, I + 12, none⟩)) W := kr
@[simp] theorem bvh : faT P T.b (pB B I) 1 W K = K (.pointer (some ⟨B, I + 13, none⟩)) W := kr
@[simp] theorem bsb (b i : Nat) (p : Option Addr) (l c : Nat) (w : World) (K : KV) : stT P T.ab (pB b i) (.slice p l c) w K = st1 P b i (.slice p l c) w K := kr
@[simp] theorem bwd : faT P T.f (pB B I) 1 W K = K (.pointer (some ⟨B, I + 1, none⟩)) W := kr
@[simp] theorem boy : faT P T.f (pB B I) 5 W K = K (.pointer (some ⟨B, I + 5, none⟩)) W := kr
@[simp] theorem bts : faT P T.f (pB B I) 6 W K = K (.pointer (some ⟨B, I + 6, none⟩)) W := kr
@[simp] theorem bsh (b i : Nat) (p : Option Addr) (w : World) (K : KV) : stT P T.bg (pB b i) (.pointer p) w K = st1 P b i (.pointer p) w K := kr
@[simp] theorem btj : faT P T.f (pB B I) 9 W K = K (.pointer (some ⟨B, I + 9, none⟩)) W := kr
@[simp] theorem bre : faT P T.f (pB B I) 10 W K = K (.pointer (some ⟨B, I + 10, none⟩)) W := kr
@[simp] theorem bvf : faT P T.f (pB B I) 7 W K = K (.pointer (some ⟨B, I + 7, none⟩)) W := kr
@[simp] theorem bxp (b i : Nat) (p : Option Addr) (w : World) (K : KV) : stT P T.ao (pB b i) (.pointer p) w K = st1 P b i (.pointer p) w K := kr
@[simp] theorem bok : faT P T.f (pB B I) 11 W K = K (.pointer (some ⟨B, I + 11, none⟩)) W := kr
@[simp] theorem bns (b i : Nat) (p : Option Addr) (w : World) (K : KV) : stT P T.bl (pB b i) (.pointer p) w K = st1 P b i (.pointer p) w K := kr
@[simp] theorem brw : alT P T.f W K = K (.pointer (some ⟨W.heap.size, 0, none⟩)) (W.alloc (.cells #[u0, u0, nS, u0, i0, u0, u0, u0, u0, i0, i0, i0, (.string ⟨#[]⟩)] T.f)) := kr
@[simp] theorem bxk : faT P T.m (pB B I) 0 W K = K (pB B I) W := kr
@[simp] theorem bpr : faT P T.m (pB B I) 3 W K = K (.pointer (some ⟨B, I + 3, none⟩)) W := kr
@[simp] theorem bpb : faT P T.m (pB B I) 4 W K = K (.pointer (some ⟨B, I + 4, none⟩)) W := kr
@[simp] theorem bog : faT P T.m (pB B I) 5 W K = K (.pointer (some ⟨B, I + 5, none⟩)) W := kr
@[simp] theorem brd : faT P T.m (pB B I) 6 W K = K (.pointer (some ⟨B, I + 6, none⟩)) W := kr
@[simp] theorem bug : faT P T.m (pB B I) 7 W K = K (.pointer (some ⟨B, I + 7, none⟩)) W := kr
@[simp] theorem bte : faT P T.m (pB B I) 8 W K = K (.pointer (some ⟨B, I + 8, none⟩)) W := kr
@[simp] theorem bpg : faT P T.m (pB B I) 11 W K = K (.pointer (some ⟨B, I + 11, none⟩)) W := kr
@[simp] theorem bwx (x0 : Int) (x1 : Int) (p2 : Option Addr) (l2 c2 : Nat) (x3 : Int) (x4 : Int) (x5 : Int) (x6 : Int) (x7 : Int) (x8 : Int) (x9 : Int) (x10 : Int) (x11 : Int) (s12 : ByteArray) (w : World) (K : KV) : jj P T.f #[(0, (.int .u64 x0)), (1, (.int .u64 x1)), (2, (.slice p2 l2 c2)), (3, (.int .u64 x3)), (4, (.int .i64 x4)), (5, (.int .u64 x5)), (6, (.int .u64 x6)), (7, (.int .u64 x7)), (8, (.int .u64 x8)), (9, (.int .i64 x9)), (10, (.int .i64 x10)), (11, (.int .i64 x11)), (12, (.string s12))] w K = K (.agg #[(.int .u64 x0), (.int .u64 x1), (.slice p2 l2 c2), (.int .u64 x3), (.int .i64 x4), (.int .u64 x5), (.int .u64 x6), (.int .u64 x7), (.int .u64 x8), (.int .i64 x9), (.int .i64 x10), (.int .i64 x11), (.string s12)]) w := kr
@[simp] theorem bvv (b i : Nat) (c_0 c_1 c_2 c_3 c_4 c_5 c_6 c_7 c_8 c_9 c_10 c_11 c_12 : Value) (w : World) (K : KV) : stT P T.f (pB b i) (.agg #[c_0, c_1, c_2, c_3, c_4, c_5, c_6, c_7, c_8, c_9, c_10, c_11, c_12]) w K = stN P b i [c_0, c_1, c_2, c_3, c_4, c_5, c_6, c_7, c_8, c_9, c_10, c_11, c_12] w K := kr
@[simp] theorem bxr (x0 : Int) (x1 : Int) (p2 : Option Addr) (l2 c2 : Nat) (x3 : Int) (x4 : Int) (x5 : Int) (x6 : Int) (x7 : Int) (x8 : Int) (x9 : Int) (x10 : Int) (x11 : Int) (s12 : ByteArray) (w : World) (K : KV) : jj P T.m #[(0, (.int .u64 x0)), (1, (.int .u64 x1)), (2, (.slice p2 l2 c2)), (3, (.int .u64 x3)), (4, (.int .i64 x4)), (5, (.int .u64 x5)), (6, (.int .u64 x6)), (7, (.int .u64 x7)), (8, (.int .u64 x8)), (9, (.int .i64 x9)), (10, (.int .i64 x10)), (11, (.int .i64 x11)), (12, (.string s12))] w K = K (.agg #[(.int .u64 x0), (.int .u64 x1), (.slice p2 l2 c2), (.int .u64 x3), (.int .i64 x4), (.int .u64 x5), (.int .u64 x6), (.int .u64 x7), (.int .u64 x8), (.int .i64 x9), (.int .i64 x10), (.int .i64 x11), (.string s12)]) w := kr
@[simp] theorem byl : jj P T.i #[] W K = K (.agg #[u0, u0, u0, u0, u0, (.string ⟨#[]⟩), (.string ⟨#[]⟩), bF]) W := kr
@[simp] theorem bpq : ldT P T.ba (pB B I) W K = ld1 P B I W K := kr
@[simp] theorem bwq : faT P T.c (pB B I) 3 W K = K (.pointer (some ⟨B, I + 4, none⟩)) W := kr
@[simp] theorem bow : jj P T.e #[] W K = K (.agg #[u0, u0]) W := kr
@[simp] theorem bqr : faT P T.e (pB B I) 0 W K = K (pB B I) W := kr
@[simp] theorem bxg : faT P T.c (pB B I) 5 W K = K (.pointer (some ⟨B, I + 7, none⟩)) W := kr
@[simp] theorem buf : ldT P T.br (pB B I) W K = ld1 P B I W K := kr
@[simp] theorem byn : ni P T.bf = true := kr
@[simp] theorem btd : szE P T.bf = 1 := kr
@[simp] theorem btx : faT P T.i (pB B I) 3 W K = K (.pointer (some ⟨B, I + 3, none⟩)) W := kr
@[simp] theorem bra : faT P T.i (pB B I) 4 W K = K (.pointer (some ⟨B, I + 4, none⟩)) W := kr
@[simp] theorem bqk : bsT P T.q 0 #[] W K = K (.slice (some ⟨W.heap.size, 0, none⟩) 0 0) (W.alloc (.cells #[] T.ba)) := kr
@[simp] theorem btv : faT P T.i (pB B I) 2 W K = K (.pointer (some ⟨B, I + 2, none⟩)) W := kr
@[simp] theorem bwa (x0 : Int) (x1 : Int) (x2 : Int) (x3 : Int) (x4 : Int) (w : World) (K : KV) : bsT P T.g 5 #[(0, (.int .u64 x0)), (1, (.int .u64 x1)), (2, (.int .u64 x2)), (3, (.int .u64 x3)), (4, (.int .u64 x4))] w K = K (.slice (some ⟨w.heap.size, 0, none⟩) 5 5) (w.alloc (.cells #[(.int .u64 x0), (.int .u64 x1), (.int .u64 x2), (.int .u64 x3), (.int .u64 x4)] T.a)) := kr
@[simp] theorem bxi : faT P T.i (pB B I) 7 W K = K (.pointer (some ⟨B, I + 7, none⟩)) W := kr
@[simp] theorem bpy (x0 : Int) (w : World) (K : KV) : bsT P T.q 1 #[(0, (.int .u8 x0))] w K = K (.slice (some ⟨w.heap.size, 0, none⟩) 1 1) (w.alloc (.cells #[(.int .u8 x0)] T.ba)) := kr
@[simp] theorem bot : faT P T.f (pB B I) 3 W K = K (.pointer (some ⟨B, I + 3, none⟩)) W := kr
@[simp] theorem bsk (rx ry : Operand) (a : Addr) (w : World) (K : KV) : ip P .eql T.bg rx ry (.pointer (some a)) nP w K = K bF w := kr
@[simp] theorem bpo : faT P T.ah (pB B I) 3 W K = K (.pointer (some ⟨B, I + 3, none⟩)) W := kr
@[simp] theorem bqm : faT P T.ah (pB B I) 4 W K = K (.pointer (some ⟨B, I + 4, none⟩)) W := kr
@[simp] theorem bxu : faT P T.ah (pB B I) 1 W K = K (.pointer (some ⟨B, I + 1, none⟩)) W := kr
@[simp] theorem bvj : faT P T.ah (pB B I) 6 W K = K (.pointer (some ⟨B, I + 6, none⟩)) W := kr
@[simp] theorem btp : ldT P T.n (pB B I) W K = ldN P 3 B I W K := kr
@[simp] theorem btc : alT P T.n W K = K (.pointer (some ⟨W.heap.size, 0, none⟩)) (W.alloc (.cells #[u0, u0, i0] T.n)) := kr
@[simp] theorem bqs (b i : Nat) (c_0 c_1 c_2 : Value) (w : World) (K : KV) : stT P T.n (pB b i) (.agg #[c_0, c_1, c_2]) w K = stN P b i [c_0, c_1, c_2] w K := kr
@[simp] theorem bxn : faT P T.n (pB B I) 0 W K = K (pB B I) W := kr
@[simp] theorem bxe : faT P T.ah (pB B I) 0 W K = K (pB B I) W := kr
@[simp] theorem bvo : faT P T.n (pB B I) 2 W K = K (.pointer (some ⟨B, I + 2, none⟩)) W := kr
@[simp] theorem boc (x0 : Int) (x1 : Int) (c2_0 c2_1 c2_2 c2_3 c2_4 c2_5 c2_6 c2_7 c2_8 c2_9 c2_10 : Value) (w : World) (K : KV) : jj P T.bm #[(0, (.int .u64 x0)), (1, (.int .u64 x1)), (2, (.agg #[c2_0, c2_1, c2_2, c2_3, c2_4, c2_5, c2_6, c2_7, c2_8, c2_9, c2_10]))] w K = K (.agg #[(.int .u64 x0), (.int .u64 x1), c2_0, c2_1, c2_2, c2_3, c2_4, c2_5, c2_6, c2_7, c2_8, c2_9, c2_10]) w := kr
@[simp] theorem bnv (c0_0 c0_1 c0_2 c0_3 c0_4 c0_5 c0_6 c0_7 c0_8 c0_9 c0_10 c0_11 c0_12 : Value) (w : World) (K : KV) : bsT P T.ap 1 #[(0, (.agg #[c0_0, c0_1, c0_2, c0_3, c0_4, c0_5, c0_6, c0_7, c0_8, c0_9, c0_10, c0_11, c0_12]))] w K = K (.slice (some ⟨w.heap.size, 0, none⟩) 1 1) (w.alloc (.cells #[c0_0, c0_1, c0_2, c0_3, c0_4, c0_5, c0_6, c0_7, c0_8, c0_9, c0_10, c0_11, c0_12] T.bm)) := kr
@[simp] theorem buh (rx ry : Operand) (a : Addr) (w : World) (K : KV) : ip P .eql T.ao rx ry (.pointer (some a)) nP w K = K bF w := kr
@[simp] theorem bve : faT P T.am (pB B I) 4 W K = K (.pointer (some ⟨B, I + 5, none⟩)) W := kr
@[simp] theorem bur : ldT P T.j (pB B I) W K = ld1 P B I W K := kr
theorem mt.j:nn P T.j .u64 T.bo nP:=nn.mk' (key:=T.a) (by kernel_rfl) (by kernel_rfl) (by kernel_rfl)
@[simp] theorem bvp (rx ry : Operand)  (w : World) (K : KV) : ip P .eql T.bo rx ry nP nP w K = K bY w := kr
@[simp] theorem bwl (rx ry : Operand) (a : Addr) (w : World) (K : KV) : ip P .eql T.bo rx ry (.pointer (some a)) nP w K = K bF w := kr
@[simp] theorem bqp : faT P T.az (pB B I) 0 W K = K (pB B I) W := kr
@[simp] theorem bpp : faT P T.am (pB B I) 0 W K = K (pB B I) W := kr
theorem mt.bb:nn P T.bb .u64 T.a u0:=nn.mk' (key:=T.a) (by kernel_rfl) (by kernel_rfl) (by kernel_rfl)
@[simp] theorem bsm : faT P T.b (pB B I) 6 W K = K (.pointer (some ⟨B, I + 18, none⟩)) W := kr
@[simp] theorem bnz : ldT P T.u (pB B I) W K = ld1 P B I W K := kr
theorem mt.u:nn P T.u .u64 T.e (.agg #[u0,u0]):=nn.mk' (key:=T.a) (by kernel_rfl) (by kernel_rfl) (by kernel_rfl)
@[simp] theorem buj (x0 : Int) (x1 : Int) (w : World) (K : KV) : jj P T.e #[(0, (.int .u64 x0)), (1, (.int .u64 x1))] w K = K (.agg #[(.int .u64 x0), (.int .u64 x1)]) w := kr
@[simp] theorem bru (x0 : Int) (x1 : Int) (c2_0 c2_1 : Value) (p3 : Option Addr) (l3 c3 : Nat) (w : World) (K : KV) : jj P T.c #[(0, (.int .i64 x0)), (1, (.int .u64 x1)), (2, (.agg #[c2_0, c2_1])), (6, (.slice p3 l3 c3))] w K = K (.agg #[(.int .i64 x0), (.int .u64 x1), c2_0, c2_1, u0, u0, i0, bF, (.slice p3 l3 c3), nS, nS]) w := kr
@[simp] theorem bsu (b i : Nat) (bo : Bool) (w : World) (K : KV) : stT P T.br (pB b i) (.bool bo) w K = st1 P b i (.bool bo) w K := kr
@[simp] theorem bpn (p0 : Option Addr) (l0 c0 : Nat) (w : World) (K : KV) : jj P T.ar #[(0, (.slice p0 l0 c0))] w K = K (.agg #[(.slice p0 l0 c0), i0]) w := kr
@[simp] theorem bov (x0 : Int) (x1 : Int) (x2 : Int) (x3 : Int) (x4 : Int) (w : World) (K : KV) : jj P T.i #[(0, (.int .u64 x0)), (1, (.int .u64 x1)), (2, (.int .u64 x2)), (3, (.int .u64 x3)), (4, (.int .u64 x4))] w K = K (.agg #[(.int .u64 x0), (.int .u64 x1), (.int .u64 x2), (.int .u64 x3), (.int .u64 x4), (.string ⟨#[]⟩), (.string ⟨#[]⟩), bF]) w := kr
@[simp] theorem brn : faT P T.ar (pB B I) 1 W K = K (.pointer (some ⟨B, I + 1, none⟩)) W := kr
@[simp] theorem btw : ldT P T.ac (pB B I) W K = ld1 P B I W K := kr
@[simp] theorem bqg (b i : Nat) (x : Int) (w : World) (K : KV) : stT P T.ac (pB b i) (.int .i64 x) w K = st1 P b i (.int .i64 x) w K := kr
@[simp] theorem bxw : faT P T.ar (pB B I) 0 W K = K (pB B I) W := kr
@[simp] theorem bqf (rx ry : Operand) (a : Addr) (w : World) (K : KV) : ip P .eql T.bl rx ry (.pointer (some a)) nP w K = K bF w := kr
@[simp] theorem bqi : faT P T.aw (pB B I) 3 W K = K (.pointer (some ⟨B, I + 66, none⟩)) W := kr
@[simp] theorem bye : ldT P T.aj (pB B I) W K = ld1 P B I W K := kr
theorem mt.aj:nn P T.aj .u64 T.ad i0:=nn.mk' (key:=T.a) (by kernel_rfl) (by kernel_rfl) (by kernel_rfl)
@[simp] theorem bxx : faT P T.av (pB B I) 1 W K = K (.pointer (some ⟨B, I + 1, none⟩)) W := kr
@[simp] theorem bqw : faT P T.av (pB B I) 2 W K = K (.pointer (some ⟨B, I + 2, none⟩)) W := kr
@[simp] theorem bwg (c0_0 c0_1 c0_2 c0_3 c0_4 c0_5 c0_6 c0_7 c0_8 c0_9 c0_10 c0_11 c0_12 c0_13 c0_14 c0_15 : Value) (w : World) (K : KV) : bsT P T.bh 1 #[(0, (.agg #[c0_0, c0_1, c0_2, c0_3, c0_4, c0_5, c0_6, c0_7, c0_8, c0_9, c0_10, c0_11, c0_12, c0_13, c0_14, c0_15]))] w K = K (.slice (some ⟨w.heap.size, 0, none⟩) 1 1) (w.alloc (.cells #[c0_0, c0_1, c0_2, c0_3, c0_4, c0_5, c0_6, c0_7, c0_8, c0_9, c0_10, c0_11, c0_12, c0_13, c0_14, c0_15] T.av)) := kr
@[simp] theorem brf : faT P T.am (pB B I) 1 W K = K (.pointer (some ⟨B, I + 2, none⟩)) W := kr
@[simp] theorem boo : jj P T.az #[] W K = K (.agg #[nS, bF]) W := kr
@[simp] theorem bsv : faT P T.am (pB B I) 3 W K = K (.pointer (some ⟨B, I + 4, none⟩)) W := kr
@[simp] theorem bvu : faT P T.am (pB B I) 2 W K = K (.pointer (some ⟨B, I + 3, none⟩)) W := kr
@[simp] theorem bub : faT P T.az (pB B I) 1 W K = K (.pointer (some ⟨B, I + 1, none⟩)) W := kr
@[simp] theorem boj (b i : Nat) (p : Option Addr) (l c : Nat) (w : World) (K : KV) : stT P T.h (pB b i) (.slice p l c) w K = st1 P b i (.slice p l c) w K := kr
@[simp] theorem bya : faT P T.ah (pB B I) 7 W K = K (.pointer (some ⟨B, I + 7, none⟩)) W := kr
@[simp] theorem buq : ldT P T.bb (pB B I) W K = ld1 P B I W K := kr
@[simp] theorem brt : faT P T.n (pB B I) 1 W K = K (.pointer (some ⟨B, I + 1, none⟩)) W := kr
@[simp] theorem bse (x0 : Int) (x1 : Int) (x2 : Int) (w : World) (K : KV) : jj P T.c #[(0, (.int .i64 x0)), (1, (.int .u64 x1)), (4, (.int .i64 x2))] w K = K (.agg #[(.int .i64 x0), (.int .u64 x1), u0, u0, u0, u0, (.int .i64 x2), bF, nS, nS, nS]) w := kr
@[simp] theorem btf : alT P T.c W K = K (.pointer (some ⟨W.heap.size, 0, none⟩)) (W.alloc (.cells #[i0, u0, u0, u0, u0, u0, i0, bF, nS, nS, nS] T.c)) := kr
@[simp] theorem bom (b i : Nat) (c_0 c_1 c_2 c_3 c_4 c_5 c_6 c_7 c_8 c_9 c_10 : Value) (w : World) (K : KV) : stT P T.c (pB b i) (.agg #[c_0, c_1, c_2, c_3, c_4, c_5, c_6, c_7, c_8, c_9, c_10]) w K = stN P b i [c_0, c_1, c_2, c_3, c_4, c_5, c_6, c_7, c_8, c_9, c_10] w K := kr
@[simp] theorem bwc (x0 : Int) (x1 : Int) (x2 : Int) (w : World) (K : KV) : jj P T.av #[(0, (.int .i64 x0)), (3, (.int .u64 x1)), (5, (.int .i64 x2))] w K = K (.agg #[(.int .i64 x0), u0, u0, (.int .u64 x1), u0, u0, (.int .i64 x2), u0, u0, u0, u0, u0, (.string ⟨#[]⟩), (.string ⟨#[]⟩), bF, i0]) w := kr
@[simp] theorem bxj : faT P T.z (pB B I) 0 W K = K (pB B I) W := kr
@[simp] theorem bvb (x0 : Int) (x1 : Int) (w : World) (K : KV) : jj P T.aq #[(0, (.int .u64 x0)), (1, (.int .u64 x1))] w K = K (.agg #[(.int .u64 x0), (.int .u64 x1)]) w := kr
@[simp] theorem bws : ni P T.al = true := kr
@[simp] theorem buk : szE P T.al = 2 := kr
theorem et.al:me P T.al T.aq 2 16:=me.mk' (by kernel_rfl) (by kernel_rfl) (by kernel_rfl)
@[simp] theorem bsc (rx ry : Operand) (l c : Nat) (w : World) (K : KV) : ip P .eql T.g rx ry (.slice none l c) nS w K = K bY w := kr
@[simp] theorem bnx (rx ry : Operand) (a : Addr) (l c : Nat) (w : World) (K : KV) : ip P .eql T.g rx ry (.slice (some a) l c) nS w K = K bF w := kr
@[simp] theorem bus : bsT P T.g 0 #[] W K = K (.slice (some ⟨W.heap.size, 0, none⟩) 0 0) (W.alloc (.cells #[] T.a)) := kr
@[simp] theorem bue : alT P T.ab W K = K (.pointer (some ⟨W.heap.size, 0, none⟩)) (W.alloc (.cells #[nS] T.ab)) := kr
@[simp] theorem bta : alT P T.ac W K = K (.pointer (some ⟨W.heap.size, 0, none⟩)) (W.alloc (.cells #[i0] T.ac)) := kr
@[simp] theorem bwb : alT P T.p W K = K (.pointer (some ⟨W.heap.size, 0, none⟩)) (W.alloc (.cells #[bF, (.string ⟨#[]⟩), u0, (.string ⟨#[]⟩)] T.p)) := kr
@[simp] theorem btb (b i : Nat) (c_0 c_1 c_2 c_3 : Value) (w : World) (K : KV) : stT P T.p (pB b i) (.agg #[c_0, c_1, c_2, c_3]) w K = stN P b i [c_0, c_1, c_2, c_3] w K := kr
@[simp] theorem byc : ldT P T.ab (pB B I) W K = ld1 P B I W K := kr
@[simp] theorem brq : ldT P T.p (pB B I) W K = ldN P 4 B I W K := kr
@[simp] theorem bsl : ni P T.ab = true := kr
@[simp] theorem bvy : szE P T.ab = 4 := kr
theorem et.ab:me P T.ab T.p 4 48:=me.mk' (by kernel_rfl) (by kernel_rfl) (by kernel_rfl)
@[simp] theorem bqa (c0_0 c0_1 c0_2 c0_3 : Value) (w : World) (K : KV) : bsT P T.ab 1 #[(0, (.agg #[c0_0, c0_1, c0_2, c0_3]))] w K = K (.slice (some ⟨w.heap.size, 0, none⟩) 1 1) (w.alloc (.cells #[c0_0, c0_1, c0_2, c0_3] T.p)) := kr
@[simp] theorem bqt (x0 : Int) (x1 : Int) (x2 : Int) (x3 : Int) (x4 : Int) (p5 : Option Addr) (l5 c5 : Nat) (r6 : Option Nat) (w : World) (K : KV) : jj P T.ah #[(0, (.int .u64 x0)), (1, (.int .u64 x1)), (2, (.int .u64 x2)), (3, (.int .u64 x3)), (4, (.int .u64 x4)), (6, (.slice p5 l5 c5)), (7, (.map r6))] w K = K (.agg #[(.int .u64 x0), (.int .u64 x1), (.int .u64 x2), (.int .u64 x3), (.int .u64 x4), bF, (.slice p5 l5 c5), (.map r6)]) w := kr
@[simp] theorem bti (x0 : Int) (x1 : Int) (x2 : Int) (r3 : Option Nat) (w : World) (K : KV) : jj P T.am #[(1, (.int .i64 x0)), (2, (.int .i64 x1)), (3, (.int .u64 x2)), (4, (.map r3))] w K = K (.agg #[nS, (.map none), (.int .i64 x0), (.int .i64 x1), (.int .u64 x2), (.map r3)]) w := kr
@[simp] theorem bxa (x0 : Int) (r1 : Option Nat) (w : World) (K : KV) : jj P T.aw #[(2, (.int .i64 x0)), (3, (.map r1))] w K = K (.agg #[u0, u0, u0, u0, u0, u0, u0, u0, u0, u0, u0, u0, u0, u0, u0, u0, u0, u0, u0, u0, u0, u0, u0, u0, u0, u0, u0, u0, u0, u0, u0, u0, u0, u0, u0, u0, u0, u0, u0, u0, u0, u0, u0, u0, u0, u0, u0, u0, u0, u0, u0, u0, u0, u0, u0, u0, u0, u0, u0, u0, u0, u0, u0, u0, i0, (.int .i64 x0), (.map r1)]) w := kr
@[simp] theorem bth (b i : Nat) (x : Int) (w : World) (K : KV) : stT P T.ad (pB b i) (.int .i64 x) w K = st1 P b i (.int .i64 x) w K := kr
@[simp] theorem boq : ni P T.bq = true := kr
@[simp] theorem buw : szE P T.bq = 1 := kr
theorem et.bq:me P T.bq T.bi 1 4:=me.mk' (by kernel_rfl) (by kernel_rfl) (by kernel_rfl)
@[simp] theorem btm : ldT P T.bi (pB B I) W K = ld1 P B I W K := kr
@[simp] theorem bpw : faT P T.ah (pB B I) 2 W K = K (.pointer (some ⟨B, I + 2, none⟩)) W := kr
@[simp] theorem bwo (rx ry : Operand) (l c : Nat) (w : World) (K : KV) : ip P .eql T.s rx ry (.slice none l c) nS w K = K bY w := kr
@[simp] theorem bvx (rx ry : Operand) (a : Addr) (l c : Nat) (w : World) (K : KV) : ip P .eql T.s rx ry (.slice (some a) l c) nS w K = K bF w := kr
@[simp] theorem boh : bsT P T.s 0 #[] W K = K (.slice (some ⟨W.heap.size, 0, none⟩) 0 0) (W.alloc (.cells #[] T.n)) := kr
@[simp] theorem bps (rx ry : Operand) (a : Addr) (w : World) (K : KV) : ip P .eql T.bu rx ry (.pointer (some a)) nP w K = K bF w := kr
@[simp] theorem bsa : faT P T.bd (pB B I) 1 W K = K (.pointer (some ⟨B, I + 1, none⟩)) W := kr
@[simp] theorem bwt : ldT P T.o (pB B I) W K = ld1 P B I W K := kr
theorem mt.o:nn P T.o .u64 T.aa nP:=nn.mk' (key:=T.a) (by kernel_rfl) (by kernel_rfl) (by kernel_rfl)
@[simp] theorem bqo (rx ry : Operand)  (w : World) (K : KV) : ip P .eql T.aa rx ry nP nP w K = K bY w := kr
@[simp] theorem bsd (rx ry : Operand) (a : Addr) (w : World) (K : KV) : ip P .eql T.aa rx ry (.pointer (some a)) nP w K = K bF w := kr
@[simp] theorem bvm : faT P T.bd (pB B I) 0 W K = K (pB B I) W := kr
@[simp] theorem bqh (v : Value) (w : World) (K : KV) : rt P T.bc v w K = K (.iface T.bc v) w := kr
@[simp] theorem bqj : acm P T.bc "Len" F.fe false = true := kr
@[simp] theorem bxy : acm P T.bc "Less" F.dh false = true := kr
@[simp] theorem btg : acm P T.bc "Pop" F.en true = true := kr
@[simp] theorem bqv : acm P T.bc "Push" F.ef true = true := kr
@[simp] theorem bsx : acm P T.bc "Swap" F.di false = true := kr
@[simp] theorem bvn : faT P T.au (pB B I) 2 W K = K (.pointer (some ⟨B, I + 2, none⟩)) W := kr
@[simp] theorem boz : faT P T.au (pB B I) 1 W K = K (.pointer (some ⟨B, I + 1, none⟩)) W := kr
@[simp] theorem bri (rx ry : Operand)  (w : World) (K : KV) : ip P .eql T.o rx ry (.map none) (.map none) w K = K bY w := kr
@[simp] theorem bqz (rx ry : Operand) (r : Nat) (w : World) (K : KV) : ip P .eql T.o rx ry (.map (some r)) (.map none) w K = K bF w := kr
@[simp] theorem bwz (b i : Nat) (r : Option Nat) (w : World) (K : KV) : stT P T.o (pB b i) (.map r) w K = st1 P b i (.map r) w K := kr
@[simp] theorem bsn (x0 : Int) (x1 : Int) (w : World) (K : KV) : jj P T.au #[(0, (.int .u64 x0)), (1, (.int .u64 x1))] w K = K (.agg #[(.int .u64 x0), (.int .u64 x1), i0]) w := kr
@[simp] theorem bxq (v : Value) (w : World) (K : KV) : rt P T.aa v w K = K (.iface T.aa v) w := kr
@[simp] theorem bvw : faT P T.b (pB B I) 8 W K = K (.pointer (some ⟨B, I + 20, none⟩)) W := kr
@[simp] theorem bxf : faT P T.r (pB B I) 4 W K = K (.pointer (some ⟨B, I + 5, none⟩)) W := kr
@[simp] theorem bvc : faT P T.r (pB B I) 7 W K = K (.pointer (some ⟨B, I + 9, none⟩)) W := kr
@[simp] theorem bvi : jj P T.c #[] W K = K (.agg #[i0, u0, u0, u0, u0, u0, i0, bF, nS, nS, nS]) W := kr
@[simp] theorem byk : faT P T.r (pB B I) 0 W K = K (pB B I) W := kr
@[simp] theorem bpf : faT P T.r (pB B I) 1 W K = K (.pointer (some ⟨B, I + 1, none⟩)) W := kr
@[simp] theorem brm (x0 : Int) (x1 : Int) (c2_0 c2_1 : Value) (w : World) (K : KV) : jj P T.c #[(0, (.int .i64 x0)), (1, (.int .u64 x1)), (2, (.agg #[c2_0, c2_1]))] w K = K (.agg #[(.int .i64 x0), (.int .u64 x1), c2_0, c2_1, u0, u0, i0, bF, nS, nS, nS]) w := kr
@[simp] theorem bqe : faT P T.r (pB B I) 2 W K = K (.pointer (some ⟨B, I + 3, none⟩)) W := kr
@[simp] theorem bxv : faT P T.r (pB B I) 3 W K = K (.pointer (some ⟨B, I + 4, none⟩)) W := kr
@[simp] theorem bnw : faT P T.r (pB B I) 5 W K = K (.pointer (some ⟨B, I + 6, none⟩)) W := kr
@[simp] theorem bry : ldT P T.ak (pB B I) W K = ld1 P B I W K := kr
theorem mt.ak:nn P T.ak .u64 T.br bF:=nn.mk' (key:=T.a) (by kernel_rfl) (by kernel_rfl) (by kernel_rfl)
@[simp] theorem bqy (rx ry : Operand) (l c : Nat) (w : World) (K : KV) : ip P .eql T.h rx ry (.slice none l c) nS w K = K bY w := kr
@[simp] theorem brl (rx ry : Operand) (a : Addr) (l c : Nat) (w : World) (K : KV) : ip P .eql T.h rx ry (.slice (some a) l c) nS w K = K bF w := kr
@[simp] theorem bpe : bsT P T.h 0 #[] W K = K (.slice (some ⟨W.heap.size, 0, none⟩) 0 0) (W.alloc (.cells #[] T.i)) := kr
@[simp] theorem bxo : ni P T.bv = true := kr
@[simp] theorem bof : szE P T.bv = 1 := kr
@[simp] theorem bvs (x0 : Int) (x1 : Int) (w : World) (K : KV) : bsT P T.bv 2 #[(0, (.int .i64 x0)), (1, (.int .i64 x1))] w K = K (.slice (some ⟨w.heap.size, 0, none⟩) 2 2) (w.alloc (.cells #[(.int .i64 x0), (.int .i64 x1)] T.ac)) := kr
@[simp] theorem boe (rx ry : Operand) (l c : Nat) (w : World) (K : KV) : ip P .eql T.q rx ry (.slice none l c) nS w K = K bY w := kr
@[simp] theorem but (rx ry : Operand) (a : Addr) (l c : Nat) (w : World) (K : KV) : ip P .eql T.q rx ry (.slice (some a) l c) nS w K = K bF w := kr
@[simp] theorem bww : ni P T.bk = true := kr
@[simp] theorem bvk : szE P T.bk = 1 := kr
@[simp] theorem bwy (p0 : Option Addr) (l0 c0 : Nat) (p1 : Option Addr) (l1 c1 : Nat) (w : World) (K : KV) : bsT P T.bk 2 #[(0, (.slice p0 l0 c0)), (1, (.slice p1 l1 c1))] w K = K (.slice (some ⟨w.heap.size, 0, none⟩) 2 2) (w.alloc (.cells #[(.slice p0 l0 c0), (.slice p1 l1 c1)] T.h)) := kr
@[simp] theorem bsq (x0 : Int) (x1 : Int) (x2 : Int) (c3_0 c3_1 c3_2 c3_3 c3_4 c3_5 c3_6 c3_7 : Value) (w : World) (K : KV) : jj P T.av #[(0, (.int .i64 x0)), (3, (.int .u64 x1)), (5, (.int .i64 x2)), (6, (.agg #[c3_0, c3_1, c3_2, c3_3, c3_4, c3_5, c3_6, c3_7]))] w K = K (.agg #[(.int .i64 x0), u0, u0, (.int .u64 x1), u0, u0, (.int .i64 x2), c3_0, c3_1, c3_2, c3_3, c3_4, c3_5, c3_6, c3_7, i0]) w := kr
@[simp] theorem bud (rx ry : Operand) (ti : TypeId) (v : Value) (w : World) (K : KV) : ip P .eql T.be rx ry (.iface ti v) .nilIface w K = K bF w := kr
@[simp] theorem byf (x0 : Int) (bo1 : Bool) (p2 : Option Addr) (l2 c2 : Nat) (w : World) (K : KV) : jj P T.y #[(0, (.int .u64 x0)), (1, (.bool bo1)), (2, (.slice p2 l2 c2))] w K = K (.agg #[(.int .u64 x0), (.bool bo1), (.slice p2 l2 c2)]) w := kr
@[simp] theorem bwu (v : Value) (w : World) (K : KV) : rt P T.y v w K = K (.iface T.y v) w := kr
@[simp] theorem buc (p0 : Option Addr) (l0 c0 : Nat) (w : World) (K : KV) : jj P T.w #[(0, (.slice p0 l0 c0))] w K = K (.agg #[(.slice p0 l0 c0)]) w := kr
@[simp] theorem bor (v : Value) (w : World) (K : KV) : rt P T.w v w K = K (.iface T.w v) w := kr
@[simp] theorem bob (x0 : Int) (c1_0 c1_1 : Value) (x2 : Int) (w : World) (K : KV) : jj P T.ai #[(0, (.int .u64 x0)), (1, (.agg #[c1_0, c1_1])), (2, (.int .i64 x2))] w K = K (.agg #[(.int .u64 x0), c1_0, c1_1, (.int .i64 x2)]) w := kr
@[simp] theorem brk (v : Value) (w : World) (K : KV) : rt P T.ai v w K = K (.iface T.ai v) w := kr
@[simp] theorem btn (x0 : Int) (c1_0 c1_1 : Value) (bo2 : Bool) (c3_0 c3_1 : Value) (x4 : Int) (bo5 : Bool) (w : World) (K : KV) : jj P T.k #[(0, (.int .u64 x0)), (1, (.agg #[c1_0, c1_1])), (2, (.bool bo2)), (3, (.agg #[c3_0, c3_1])), (4, (.int .i64 x4)), (5, (.bool bo5))] w K = K (.agg #[(.int .u64 x0), c1_0, c1_1, (.bool bo2), c3_0, c3_1, (.int .i64 x4), (.bool bo5)]) w := kr
@[simp] theorem bwh (v : Value) (w : World) (K : KV) : rt P T.k v w K = K (.iface T.k v) w := kr
@[simp] theorem bsp (x0 : Int) (x1 : Int) (w : World) (K : KV) : jj P T.af #[(0, (.int .u64 x0)), (1, (.int .i64 x1))] w K = K (.agg #[(.int .u64 x0), (.int .i64 x1)]) w := kr
@[simp] theorem bwi (v : Value) (w : World) (K : KV) : rt P T.af v w K = K (.iface T.af v) w := kr
@[simp] theorem bvq (x0 : Int) (c1_0 c1_1 : Value) (p2 : Option Addr) (l2 c2 : Nat) (w : World) (K : KV) : jj P T.t #[(0, (.int .u64 x0)), (1, (.agg #[c1_0, c1_1])), (2, (.slice p2 l2 c2))] w K = K (.agg #[(.int .u64 x0), c1_0, c1_1, (.slice p2 l2 c2)]) w := kr
@[simp] theorem bph (v : Value) (w : World) (K : KV) : rt P T.t v w K = K (.iface T.t v) w := kr
@[simp] theorem brs (x0 : Int) (p1 : Option Addr) (l1 c1 : Nat) (w : World) (K : KV) : jj P T.z #[(0, (.int .u64 x0)), (1, (.slice p1 l1 c1))] w K = K (.agg #[(.int .u64 x0), (.slice p1 l1 c1)]) w := kr
@[simp] theorem btt (v : Value) (w : World) (K : KV) : rt P T.z v w K = K (.iface T.z v) w := kr
@[simp] theorem bvd : ldT P T.k (pB B I) W K = ldN P 8 B I W K := kr
@[simp] theorem brj : faT P T.k (pB B I) 2 W K = K (.pointer (some ⟨B, I + 3, none⟩)) W := kr
@[simp] theorem bui : faT P T.k (pB B I) 3 W K = K (.pointer (some ⟨B, I + 4, none⟩)) W := kr
@[simp] theorem bpl : faT P T.k (pB B I) 4 W K = K (.pointer (some ⟨B, I + 6, none⟩)) W := kr
@[simp] theorem brp : faT P T.r (pB B I) 6 W K = K (.pointer (some ⟨B, I + 7, none⟩)) W := kr
@[simp] theorem bnr : ldT P T.an (pB B I) W K = ld1 P B I W K := kr
@[simp] theorem bny : faT P T.aw (pB B I) 2 W K = K (.pointer (some ⟨B, I + 65, none⟩)) W := kr
@[simp] theorem btq : faT P T.aw (pB B I) 0 W K = K (pB B I) W := kr
@[simp] theorem bpa : faT P T.aw (pB B I) 1 W K = K (.pointer (some ⟨B, I + 64, none⟩)) W := kr
@[simp] theorem byb : faT P T.z (pB B I) 1 W K = K (.pointer (some ⟨B, I + 1, none⟩)) W := kr
@[simp] theorem bql : faT P T.aq (pB B I) 0 W K = K (pB B I) W := kr
@[simp] theorem bqq : faT P T.aq (pB B I) 1 W K = K (.pointer (some ⟨B, I + 1, none⟩)) W := kr
@[simp] theorem bqx : ni P T.bx = true := kr
@[simp] theorem bul : szE P T.bx = 1 := kr
@[simp] theorem bvr (x0 : Int) (x1 : Int) (w : World) (K : KV) : bsT P T.bx 2 #[(0, (.int .i64 x0)), (1, (.int .i64 x1))] w K = K (.slice (some ⟨w.heap.size, 0, none⟩) 2 2) (w.alloc (.cells #[(.int .i64 x0), (.int .i64 x1)] T.d)) := kr
@[simp] theorem bua : jj P T.p #[] W K = K (.agg #[bF, (.string ⟨#[]⟩), u0, (.string ⟨#[]⟩)]) W := kr
@[simp] theorem buz (bo0 : Bool) (s1 : ByteArray) (w : World) (K : KV) : jj P T.p #[(0, (.bool bo0)), (1, (.string s1))] w K = K (.agg #[(.bool bo0), (.string s1), u0, (.string ⟨#[]⟩)]) w := kr
@[simp] theorem bvz : faT P T.p (pB B I) 1 W K = K (.pointer (some ⟨B, I + 1, none⟩)) W := kr
@[simp] theorem bum : faT P T.p (pB B I) 2 W K = K (.pointer (some ⟨B, I + 2, none⟩)) W := kr
@[simp] theorem brv : faT P T.p (pB B I) 3 W K = K (.pointer (some ⟨B, I + 3, none⟩)) W := kr
@[simp] theorem bos (x0 : Int) (w : World) (K : KV) : bsT P T.bq 1 #[(0, (.int .i32 x0))] w K = K (.slice (some ⟨w.heap.size, 0, none⟩) 1 1) (w.alloc (.cells #[(.int .i32 x0)] T.bi)) := kr
@[simp] theorem brc : ldT P T.ae (pB B I) W K = ld1 P B I W K := kr
@[simp] theorem bwn : ni P T.ae = true := kr
@[simp] theorem bsw : szE P T.ae = 1 := kr
theorem et.ae:me P T.ae T.aa 1 8:=me.mk' (by kernel_rfl) (by kernel_rfl) (by kernel_rfl)
@[simp] theorem btk : ldT P T.aa (pB B I) W K = ld1 P B I W K := kr
@[simp] theorem bwj : faT P T.au (pB B I) 0 W K = K (pB B I) W := kr
@[simp] theorem bva : faT P T.p (pB B I) 0 W K = K (pB B I) W := kr
@[simp] theorem byg (x0 : Int) (c1_0 c1_1 : Value) (x2 : Int) (p3 : Option Addr) (l3 c3 : Nat) (r4 : Option Nat) (w : World) (K : KV) : jj P T.r #[(0, (.int .u64 x0)), (1, (.agg #[c1_0, c1_1])), (2, (.int .i64 x2)), (3, (.slice p3 l3 c3)), (5, (.map r4))] w K = K (.agg #[(.int .u64 x0), c1_0, c1_1, (.int .i64 x2), (.slice p3 l3 c3), i0, (.map r4), u0, u0, u0, u0]) w := kr
@[simp] theorem bxc (b i : Nat) (p : Option Addr) (l c : Nat) (w : World) (K : KV) : stT P T.q (pB b i) (.slice p l c) w K = st1 P b i (.slice p l c) w K := kr
@[simp] theorem bvt (v : Value) (w : World) (K : KV) : rt P T.l v w K = K (.iface T.l v) w := kr
@[simp] theorem bst : faT P T.y (pB B I) 0 W K = K (pB B I) W := kr
@[simp] theorem bto (v : Value) (w : World) (K : KV) : taT P (.iface T.ai v) T.be T.ai true w K = K (.tuple #[v, .bool true]) w := kr
@[simp] theorem bxl : alT P T.ai W K = K (.pointer (some ⟨W.heap.size, 0, none⟩)) (W.alloc (.cells #[u0, u0, u0, i0] T.ai)) := kr
@[simp] theorem bsg (b i : Nat) (c_0 c_1 c_2 c_3 : Value) (w : World) (K : KV) : stT P T.ai (pB b i) (.agg #[c_0, c_1, c_2, c_3]) w K = stN P b i [c_0, c_1, c_2, c_3] w K := kr
@[simp] theorem bvl : faT P T.ai (pB B I) 0 W K = K (pB B I) W := kr
@[simp] theorem byh : faT P T.ai (pB B I) 1 W K = K (.pointer (some ⟨B, I + 1, none⟩)) W := kr
@[simp] theorem brx : faT P T.ai (pB B I) 2 W K = K (.pointer (some ⟨B, I + 3, none⟩)) W := kr
@[simp] theorem bpi : faT P T.k (pB B I) 0 W K = K (pB B I) W := kr
@[simp] theorem bro : faT P T.k (pB B I) 1 W K = K (.pointer (some ⟨B, I + 1, none⟩)) W := kr
@[simp] theorem bpm : faT P T.k (pB B I) 5 W K = K (.pointer (some ⟨B, I + 7, none⟩)) W := kr
@[simp] theorem bwp (v : Value) (w : World) (K : KV) : taT P (.iface T.t v) T.be T.t true w K = K (.tuple #[v, .bool true]) w := kr
@[simp] theorem bpv : alT P T.t W K = K (.pointer (some ⟨W.heap.size, 0, none⟩)) (W.alloc (.cells #[u0, u0, u0, nS] T.t)) := kr
@[simp] theorem bqd (b i : Nat) (c_0 c_1 c_2 c_3 : Value) (w : World) (K : KV) : stT P T.t (pB b i) (.agg #[c_0, c_1, c_2, c_3]) w K = stN P b i [c_0, c_1, c_2, c_3] w K := kr
@[simp] theorem bxb : faT P T.t (pB B I) 0 W K = K (pB B I) W := kr
@[simp] theorem bxz : faT P T.t (pB B I) 1 W K = K (.pointer (some ⟨B, I + 1, none⟩)) W := kr
@[simp] theorem byd : faT P T.t (pB B I) 2 W K = K (.pointer (some ⟨B, I + 3, none⟩)) W := kr
@[simp] theorem bsz : faT P T.y (pB B I) 1 W K = K (.pointer (some ⟨B, I + 1, none⟩)) W := kr
@[simp] theorem bqu (x0 : Int) (x1 : Int) (c2_0 c2_1 : Value) (x3 : Int) (w : World) (K : KV) : jj P T.c #[(0, (.int .i64 x0)), (1, (.int .u64 x1)), (2, (.agg #[c2_0, c2_1])), (4, (.int .i64 x3))] w K = K (.agg #[(.int .i64 x0), (.int .u64 x1), c2_0, c2_1, u0, u0, (.int .i64 x3), bF, nS, nS, nS]) w := kr
@[simp] theorem brb (x0 : Int) (x1 : Int) (c2_0 c2_1 : Value) (bo3 : Bool) (c4_0 c4_1 : Value) (x5 : Int) (w : World) (K : KV) : jj P T.c #[(0, (.int .i64 x0)), (1, (.int .u64 x1)), (2, (.agg #[c2_0, c2_1])), (5, (.bool bo3)), (3, (.agg #[c4_0, c4_1])), (4, (.int .i64 x5))] w K = K (.agg #[(.int .i64 x0), (.int .u64 x1), c2_0, c2_1, c4_0, c4_1, (.int .i64 x5), (.bool bo3), nS, nS, nS]) w := kr
@[simp] theorem bqn (x0 : Int) (x1 : Int) (p2 : Option Addr) (l2 c2 : Nat) (w : World) (K : KV) : jj P T.c #[(0, (.int .i64 x0)), (1, (.int .u64 x1)), (8, (.slice p2 l2 c2))] w K = K (.agg #[(.int .i64 x0), (.int .u64 x1), u0, u0, u0, u0, i0, bF, nS, nS, (.slice p2 l2 c2)]) w := kr
@[simp] theorem bsi : ldT P T.aq (pB B I) W K = ldN P 2 B I W K := kr
@[simp] theorem bwe : faT P T.e (pB B I) 1 W K = K (.pointer (some ⟨B, I + 1, none⟩)) W := kr
@[simp] theorem bqc : alT P T.ag W K = K (.pointer (some ⟨W.heap.size, 0, none⟩)) (W.alloc (.cells #[u0] T.ag)) := kr
@[simp] theorem brh (b i : Nat) (x : Int) (w : World) (K : KV) : stT P T.ag (pB b i) (.int .u64 x) w K = st1 P b i (.int .u64 x) w K := kr
@[simp] theorem bxt (b i : Nat) (c_0 c_1 : Value) (w : World) (K : KV) : stT P T.aq (pB b i) (.agg #[c_0, c_1]) w K = stN P b i [c_0, c_1] w K := kr
@[simp] theorem bnt : ldT P T.ag (pB B I) W K = ld1 P B I W K := kr
@[simp] theorem bun (b i : Nat) (p : Option Addr) (w : World) (K : KV) : stT P T.aa (pB b i) (.pointer p) w K = st1 P b i (.pointer p) w K := kr
@[simp] theorem byo (b i : Nat) (p : Option Addr) (l c : Nat) (w : World) (K : KV) : stT P T.ae (pB b i) (.slice p l c) w K = st1 P b i (.slice p l c) w K := kr
@[simp] theorem bss (v : Value) (w : World) (K : KV) : taT P (.iface T.aa v) T.be T.aa false w K = K v w := kr
@[simp] theorem bup (p0 : Option Addr) (w : World) (K : KV) : bsT P T.ae 1 #[(0, (.pointer p0))] w K = K (.slice (some ⟨w.heap.size, 0, none⟩) 1 1) (w.alloc (.cells #[(.pointer p0)] T.aa)) := kr
end Go.Proofs.YtgepcfcicngceaaGreatDoor
