/-
  Printed by wip/Shallow.lean: what the operations come to at this seat's types. No condition.
-/
import Derived.Test.YtgepcfcicngceaaGreatDoorN
import Derived.Test.YtgepcfcicngceaaGreatDoorZEng
set_option maxRecDepth 1000000
namespace Go.Proofs.YtgepcfcicngceaaGreatDoor
open Go.Eng
variable (B I : Nat) (W : World) (K : KV)
@[simp] theorem ccj : nl P T.g = true := kr
@[simp] theorem ccb : szE P T.g = 1 := kr
theorem et.g:mj P T.g T.ac 1 1:=mj.mk' (by kernel_rfl) (by kernel_rfl) (by kernel_rfl)
@[simp] theorem ccf : ldT P T.c (pB B I) W K = ldN P 11 B I W K := kr
@[simp] theorem ccc : nl P T.ar = true := kr
@[simp] theorem ccd : szE P T.ar = 13 := kr
theorem et.ar:mj P T.ar T.bm 13 152:=mj.mk' (by kernel_rfl) (by kernel_rfl) (by kernel_rfl)
@[simp] theorem cca : nl P T.ax = true := kr
@[simp] theorem cci : szE P T.ax = 16 := kr
theorem et.ax:mj P T.ax T.ap 16 144:=mj.mk' (by kernel_rfl) (by kernel_rfl) (by kernel_rfl)
@[simp] theorem bzp : nl P T.s = true := kr
@[simp] theorem cam : szE P T.s = 3 := kr
theorem et.s:mj P T.s T.n 3 24:=mj.mk' (by kernel_rfl) (by kernel_rfl) (by kernel_rfl)
@[simp] theorem cah : nl P T.i = true := kr
@[simp] theorem bzx : szE P T.i = 1 := kr
theorem et.i:mj P T.i T.a 1 8:=mj.mk' (by kernel_rfl) (by kernel_rfl) (by kernel_rfl)
@[simp] theorem cbu : nl P T.bp = true := kr
@[simp] theorem bzr : szE P T.bp = 1 := kr
@[simp] theorem bzg (rx ry : Operand) (a : Addr) (w : World) (K : KV) : iq P .eql T.ak rx ry (.pointer (some a)) nP w K = K bF w := kr
@[simp] theorem caw : ldT P T.g (pB B I) W K = ld1 P B I W K := kr
@[simp] theorem bzl : alT P T.f W K = K (.pointer (some ⟨W.heap.size, 0, none⟩)) (W.alloc (.cells #[u0, u0, u0, u0, u0, (.string ⟨#[]⟩), (.string ⟨#[]⟩), bF] T.f)) := kr
@[simp] theorem cbd (b i : Nat) (c_0 c_1 c_2 c_3 c_4 c_5 c_6 c_7 : Value) (w : World) (K : KV) : stT P T.f (pB b i) (.agg #[c_0, c_1, c_2, c_3, c_4, c_5, c_6, c_7]) w K = stN P b i [c_0, c_1, c_2, c_3, c_4, c_5, c_6, c_7] w K := kr
@[simp] theorem cbs : faT P T.ap (pB B I) 0 W K = K (pB B I) W := kr
@[simp] theorem bzt : ldT P T.d (pB B I) W K = ld1 P B I W K := kr
@[simp] theorem cac : faT P T.ap (pB B I) 6 W K = K (.pointer (some ⟨B, I + 7, none⟩)) W := kr
@[simp] theorem bzj : ldT P T.f (pB B I) W K = ldN P 8 B I W K := kr
@[simp] theorem caj : alT P T.p W K = K (.pointer (some ⟨W.heap.size, 0, none⟩)) (W.alloc (.cells #[u0, u0, nS, u0, i0, u0, u0, u0, u0, i0, i0, i0, (.string ⟨#[]⟩)] T.p)) := kr
@[simp] theorem cbk (b i : Nat) (c_0 c_1 c_2 c_3 c_4 c_5 c_6 c_7 c_8 c_9 c_10 c_11 c_12 : Value) (w : World) (K : KV) : stT P T.p (pB b i) (.agg #[c_0, c_1, c_2, c_3, c_4, c_5, c_6, c_7, c_8, c_9, c_10, c_11, c_12]) w K = stN P b i [c_0, c_1, c_2, c_3, c_4, c_5, c_6, c_7, c_8, c_9, c_10, c_11, c_12] w K := kr
@[simp] theorem cbb : faT P T.p (pB B I) 1 W K = K (.pointer (some ⟨B, I + 1, none⟩)) W := kr
@[simp] theorem cau (b i : Nat) (x : Int) (w : World) (K : KV) : stT P T.a (pB b i) (.int .u64 x) w K = st1 P b i (.int .u64 x) w K := kr
@[simp] theorem bzo (x0 : Int) (x1 : Int) (w : World) (K : KV) : jg P T.n #[(0, (.int .u64 x0)), (1, (.int .u64 x1))] w K = K (.agg #[(.int .u64 x0), (.int .u64 x1), i0]) w := kr
@[simp] theorem caf (c0_0 c0_1 c0_2 : Value) (w : World) (K : KV) : bsT P T.s 1 #[(0, (.agg #[c0_0, c0_1, c0_2]))] w K = K (.slice (some ⟨w.heap.size, 0, none⟩) 1 1) (w.alloc (.cells #[c0_0, c0_1, c0_2] T.n)) := kr
@[simp] theorem cbr (x0 : Int) (p1 : Option Addr) (l1 c1 : Nat) (w : World) (K : KV) : jg P T.c #[(0, (.int .i64 x0)), (7, (.slice p1 l1 c1))] w K = K (.agg #[(.int .i64 x0), u0, u0, u0, u0, u0, i0, bF, nS, (.slice p1 l1 c1), nS]) w := kr
@[simp] theorem cab : ldT P T.a (pB B I) W K = ld1 P B I W K := kr
@[simp] theorem bzq : faT P T.bm (pB B I) 2 W K = K (.pointer (some ⟨B, I + 2, none⟩)) W := kr
@[simp] theorem cas : faT P T.c (pB B I) 0 W K = K (pB B I) W := kr
@[simp] theorem cae : faT P T.c (pB B I) 1 W K = K (.pointer (some ⟨B, I + 1, none⟩)) W := kr
@[simp] theorem cai : faT P T.bm (pB B I) 1 W K = K (.pointer (some ⟨B, I + 1, none⟩)) W := kr
@[simp] theorem car : nl P T.j = true := kr
@[simp] theorem cav : szE P T.j = 8 := kr
theorem et.j:mj P T.j T.f 8 80:=mj.mk' (by kernel_rfl) (by kernel_rfl) (by kernel_rfl)
@[simp] theorem bzw : faT P T.c (pB B I) 6 W K = K (.pointer (some ⟨B, I + 8, none⟩)) W := kr
@[simp] theorem bzn : ldT P T.j (pB B I) W K = ld1 P B I W K := kr
@[simp] theorem cby : faT P T.p (pB B I) 9 W K = K (.pointer (some ⟨B, I + 9, none⟩)) W := kr
@[simp] theorem bzm (b i : Nat) (x : Int) (w : World) (K : KV) : stT P T.d (pB b i) (.int .i64 x) w K = st1 P b i (.int .i64 x) w K := kr
@[simp] theorem cat : faT P T.p (pB B I) 12 W K = K (.pointer (some ⟨B, I + 12, none⟩)) W := kr
@[simp] theorem cag (b i : Nat) (s : ByteArray) (w : World) (K : KV) : stT P T.m (pB b i) (.string s) w K = st1 P b i (.string s) w K := kr
@[simp] theorem caa : faT P T.p (pB B I) 10 W K = K (.pointer (some ⟨B, I + 10, none⟩)) W := kr
@[simp] theorem cbx : faT P T.f (pB B I) 0 W K = K (pB B I) W := kr
@[simp] theorem bzi : faT P T.f (pB B I) 1 W K = K (.pointer (some ⟨B, I + 1, none⟩)) W := kr
@[simp] theorem cbj : faT P T.c (pB B I) 2 W K = K (.pointer (some ⟨B, I + 2, none⟩)) W := kr
@[simp] theorem bzs : ldT P T.e (pB B I) W K = ldN P 2 B I W K := kr
@[simp] theorem cbg (x0 : Int) (x1 : Int) (c2_0 c2_1 : Value) (bo3 : Bool) (w : World) (K : KV) : jg P T.c #[(0, (.int .i64 x0)), (1, (.int .u64 x1)), (2, (.agg #[c2_0, c2_1])), (5, (.bool bo3))] w K = K (.agg #[(.int .i64 x0), (.int .u64 x1), c2_0, c2_1, u0, u0, i0, (.bool bo3), nS, nS, nS]) w := kr
@[simp] theorem cbc : faT P T.c (pB B I) 4 W K = K (.pointer (some ⟨B, I + 6, none⟩)) W := kr
@[simp] theorem cbt : ldT P T.ae (pB B I) W K = ld1 P B I W K := kr
@[simp] theorem cbo : faT P T.p (pB B I) 2 W K = K (.pointer (some ⟨B, I + 2, none⟩)) W := kr
@[simp] theorem bzk : ldT P T.i (pB B I) W K = ld1 P B I W K := kr
@[simp] theorem cbn : ldT P T.m (pB B I) W K = ld1 P B I W K := kr
@[simp] theorem caq : faT P T.c (pB B I) 7 W K = K (.pointer (some ⟨B, I + 9, none⟩)) W := kr
@[simp] theorem cbf : ldT P T.s (pB B I) W K = ld1 P B I W K := kr
@[simp] theorem bzh : faT P T.c (pB B I) 8 W K = K (.pointer (some ⟨B, I + 10, none⟩)) W := kr
@[simp] theorem cad : faT P T.f (pB B I) 6 W K = K (.pointer (some ⟨B, I + 6, none⟩)) W := kr
@[simp] theorem cbm : faT P T.f (pB B I) 5 W K = K (.pointer (some ⟨B, I + 5, none⟩)) W := kr
@[simp] theorem cbq (x0 : Int) (x1 : Int) (s2 : ByteArray) (s3 : ByteArray) (bo4 : Bool) (w : World) (K : KV) : jg P T.f #[(0, (.int .u64 x0)), (1, (.int .u64 x1)), (5, (.string s2)), (6, (.string s3)), (7, (.bool bo4))] w K = K (.agg #[(.int .u64 x0), (.int .u64 x1), u0, u0, u0, (.string s2), (.string s3), (.bool bo4)]) w := kr
@[simp] theorem cay : alT P T.e W K = K (.pointer (some ⟨W.heap.size, 0, none⟩)) (W.alloc (.cells #[u0, u0] T.e)) := kr
@[simp] theorem cal (b i : Nat) (c_0 c_1 : Value) (w : World) (K : KV) : stT P T.e (pB b i) (.agg #[c_0, c_1]) w K = stN P b i [c_0, c_1] w K := kr
@[simp] theorem cbw : faT P T.b (pB B I) 10 W K = K (.pointer (some ⟨B, I + 23, none⟩)) W := kr
@[simp] theorem bzz : faT P T.b (pB B I) 2 W K = K (.pointer (some ⟨B, I + 14, none⟩)) W := kr
@[simp] theorem cak : ldT P T.bh (pB B I) W K = ld1 P B I W K := kr
@[simp] theorem cbp : faT P T.b (pB B I) 3 W K = K (.pointer (some ⟨B, I + 15, none⟩)) W := kr
@[simp] theorem cbi : ldT P T.aq (pB B I) W K = ld1 P B I W K := kr
@[simp] theorem cax : faT P T.b (pB B I) 0 W K = K (pB B I) W := kr
@[simp] theorem caz : faT P T.h (pB B I) 0 W K = K (pB B I) W := kr
@[simp] theorem bzy : faT P T.b (pB B I) 5 W K = K (.pointer (some ⟨B, I + 17, none⟩)) W := kr
@[simp] theorem cao : ldT P T.x (pB B I) W K = ld1 P B I W K := kr
theorem mt.x:oc P T.x .u64 T.bj nP:=oc.mk' (key:=T.a) (by kernel_rfl) (by kernel_rfl) (by kernel_rfl)
@[simp] theorem cbe (rx ry : Operand)  (w : World) (K : KV) : iq P .eql T.bj rx ry nP nP w K = K bY w := kr
@[simp] theorem bzv (rx ry : Operand) (a : Addr) (w : World) (K : KV) : iq P .eql T.bj rx ry (.pointer (some a)) nP w K = K bF w := kr
@[simp] theorem cbh (x0 : Int) (x1 : Int) (p2 : Option Addr) (l2 c2 : Nat) (w : World) (K : KV) : jg P T.c #[(0, (.int .i64 x0)), (1, (.int .u64 x1)), (6, (.slice p2 l2 c2))] w K = K (.agg #[(.int .i64 x0), (.int .u64 x1), u0, u0, u0, u0, i0, bF, (.slice p2 l2 c2), nS, nS]) w := kr
@[simp] theorem cba (x0 : Int) (w : World) (K : KV) : bsT P T.i 1 #[(0, (.int .u64 x0))] w K = K (.slice (some ⟨w.heap.size, 0, none⟩) 1 1) (w.alloc (.cells #[(.int .u64 x0)] T.a)) := kr
@[simp] theorem cbl : faT P T.b (pB B I) 9 W K = K (.pointer (some ⟨B, I + 22, none⟩)) W := kr
@[simp] theorem bzu : faT P T.h (pB B I) 8 W K = K (.pointer (some ⟨B, I + 8, none⟩)) W := kr
@[simp] theorem bur : faT P T.b (pB B I) 7 W K = K (.pointer (some ⟨B, I + 19, none⟩)) W := kr
@[simp] theorem byd : ldT P T.v (pB B I) W K = ld1 P B I W K := kr
theorem mt.v:oc P T.v .u64 T.j nS:=oc.mk' (key:=T.a) (by kernel_rfl) (by kernel_rfl) (by kernel_rfl)
@[simp] theorem bqv : faT P T.b (pB B I) 13 W K = K (.pointer (some ⟨B, I + 26, none⟩)) W := kr
@[simp] theorem bpm : faT P T.b (pB B I) 14 W K = K (.pointer (some ⟨B, I + 27, none⟩)) W := kr
@[simp] theorem boh (x0 : Int) (x1 : Int) (c2_0 c2_1 c2_2 c2_3 c2_4 c2_5 c2_6 c2_7 : Value) (w : World) (K : KV) : jg P T.ap #[(0, (.int .i64 x0)), (3, (.int .u64 x1)), (6, (.agg #[c2_0, c2_1, c2_2, c2_3, c2_4, c2_5, c2_6, c2_7]))] w K = K (.agg #[(.int .i64 x0), u0, u0, (.int .u64 x1), u0, u0, i0, c2_0, c2_1, c2_2, c2_3, c2_4, c2_5, c2_6, c2_7, i0]) w := kr
@[simp] theorem bsw : alT P T.ap W K = K (.pointer (some ⟨W.heap.size, 0, none⟩)) (W.alloc (.cells #[i0, u0, u0, u0, u0, u0, i0, u0, u0, u0, u0, u0, (.string ⟨#[]⟩), (.string ⟨#[]⟩), bF, i0] T.ap)) := kr
@[simp] theorem byy (b i : Nat) (c_0 c_1 c_2 c_3 c_4 c_5 c_6 c_7 c_8 c_9 c_10 c_11 c_12 c_13 c_14 c_15 : Value) (w : World) (K : KV) : stT P T.ap (pB b i) (.agg #[c_0, c_1, c_2, c_3, c_4, c_5, c_6, c_7, c_8, c_9, c_10, c_11, c_12, c_13, c_14, c_15]) w K = stN P b i [c_0, c_1, c_2, c_3, c_4, c_5, c_6, c_7, c_8, c_9, c_10, c_11, c_12, c_13, c_14, c_15] w K := kr
@[simp] theorem bov : faT P T.b (pB B I) 4 W K = K (.pointer (some ⟨B, I + 16, none⟩)) W := kr
@[simp] theorem byz : ldT P T.bl (pB B I) W K = ld1 P B I W K := kr
@[simp] theorem bwj : ldT P T.ap (pB B I) W K = ldN P 16 B I W K := kr
@[simp] theorem bxy (c0_0 c0_1 c0_2 c0_3 c0_4 c0_5 c0_6 c0_7 : Value) (w : World) (K : KV) : bsT P T.j 1 #[(0, (.agg #[c0_0, c0_1, c0_2, c0_3, c0_4, c0_5, c0_6, c0_7]))] w K = K (.slice (some ⟨w.heap.size, 0, none⟩) 1 1) (w.alloc (.cells #[c0_0, c0_1, c0_2, c0_3, c0_4, c0_5, c0_6, c0_7] T.f)) := kr
@[simp] theorem brr (x0 : Int) (x1 : Int) (c2_0 c2_1 c2_2 c2_3 c2_4 c2_5 c2_6 c2_7 : Value) (x3 : Int) (w : World) (K : KV) : jg P T.ap #[(0, (.int .i64 x0)), (3, (.int .u64 x1)), (6, (.agg #[c2_0, c2_1, c2_2, c2_3, c2_4, c2_5, c2_6, c2_7])), (7, (.int .i64 x3))] w K = K (.agg #[(.int .i64 x0), u0, u0, (.int .u64 x1), u0, u0, i0, c2_0, c2_1, c2_2, c2_3, c2_4, c2_5, c2_6, c2_7, (.int .i64 x3)]) w := kr
@[simp] theorem btc (v : Value) (w : World) (K : KV) : taT P (.iface T.y v) T.bf T.y true w K = K (.tuple #[v, .bool true]) w := kr
@[simp] theorem bth : alT P T.y W K = K (.pointer (some ⟨W.heap.size, 0, none⟩)) (W.alloc (.cells #[u0, bF, nS] T.y)) := kr
@[simp] theorem bos (b i : Nat) (c_0 c_1 c_2 : Value) (w : World) (K : KV) : stT P T.y (pB b i) (.agg #[c_0, c_1, c_2]) w K = stN P b i [c_0, c_1, c_2] w K := kr
@[simp] theorem bvm : faT P T.y (pB B I) 2 W K = K (.pointer (some ⟨B, I + 2, none⟩)) W := kr
@[simp] theorem bui (v : Value) (w : World) (K : KV) : taT P (.iface T.w v) T.bf T.w true w K = K (.tuple #[v, .bool true]) w := kr
@[simp] theorem bot : alT P T.w W K = K (.pointer (some ⟨W.heap.size, 0, none⟩)) (W.alloc (.cells #[nS] T.w)) := kr
@[simp] theorem byw (b i : Nat) (c_0 : Value) (w : World) (K : KV) : stT P T.w (pB b i) (.agg #[c_0]) w K = stN P b i [c_0] w K := kr
@[simp] theorem bqn : faT P T.w (pB B I) 0 W K = K (pB B I) W := kr
@[simp] theorem brn (v : Value) (w : World) (K : KV) : taT P (.iface T.l v) T.bf T.l true w K = K (.tuple #[v, .bool true]) w := kr
@[simp] theorem bsf : alT P T.l W K = K (.pointer (some ⟨W.heap.size, 0, none⟩)) (W.alloc (.cells #[u0, u0, u0, bF, u0, u0, i0, bF] T.l)) := kr
@[simp] theorem bru (b i : Nat) (c_0 c_1 c_2 c_3 c_4 c_5 c_6 c_7 : Value) (w : World) (K : KV) : stT P T.l (pB b i) (.agg #[c_0, c_1, c_2, c_3, c_4, c_5, c_6, c_7]) w K = stN P b i [c_0, c_1, c_2, c_3, c_4, c_5, c_6, c_7] w K := kr
@[simp] theorem bvw (v : Value) (w : World) (K : KV) : taT P (.iface T.ag v) T.bf T.ag true w K = K (.tuple #[v, .bool true]) w := kr
@[simp] theorem bpq : alT P T.ag W K = K (.pointer (some ⟨W.heap.size, 0, none⟩)) (W.alloc (.cells #[u0, i0] T.ag)) := kr
@[simp] theorem bwd (b i : Nat) (c_0 c_1 : Value) (w : World) (K : KV) : stT P T.ag (pB b i) (.agg #[c_0, c_1]) w K = stN P b i [c_0, c_1] w K := kr
@[simp] theorem byc : faT P T.ag (pB B I) 0 W K = K (pB B I) W := kr
@[simp] theorem byv : faT P T.ag (pB B I) 1 W K = K (.pointer (some ⟨B, I + 1, none⟩)) W := kr
@[simp] theorem buw (v : Value) (w : World) (K : KV) : taT P (.iface T.aa v) T.bf T.aa true w K = K (.tuple #[v, .bool true]) w := kr
@[simp] theorem bvl : alT P T.aa W K = K (.pointer (some ⟨W.heap.size, 0, none⟩)) (W.alloc (.cells #[u0, nS] T.aa)) := kr
@[simp] theorem bwv (b i : Nat) (c_0 c_1 : Value) (w : World) (K : KV) : stT P T.aa (pB b i) (.agg #[c_0, c_1]) w K = stN P b i [c_0, c_1] w K := kr
@[simp] theorem bva : ldT P T.aa (pB B I) W K = ldN P 2 B I W K := kr
@[simp] theorem btm : faT P T.b (pB B I) 11 W K = K (.pointer (some ⟨B, I + 24, none⟩)) W := kr
@[simp] theorem buz : ldT P T.ar (pB B I) W K = ld1 P B I W K := kr
@[simp] theorem buc (b i : Nat) (p : Option Addr) (l c : Nat) (w : World) (K : KV) : stT P T.ar (pB b i) (.slice p l c) w K = st1 P b i (.slice p l c) w K := kr
@[simp] theorem bor : faT P T.b (pB B I) 12 W K = K (.pointer (some ⟨B, I + 25, none⟩)) W := kr
@[simp] theorem btx : ldT P T.ax (pB B I) W K = ld1 P B I W K := kr
@[simp] theorem bwt (b i : Nat) (p : Option Addr) (l c : Nat) (w : World) (K : KV) : stT P T.ax (pB b i) (.slice p l c) w K = st1 P b i (.slice p l c) w K := kr
@[simp] theorem brp : faT P T.h (pB B I) 4 W K = K (.pointer (some ⟨B, I + 4, none⟩)) W := kr
@[simp] theorem bqh : ldT P T.h (pB B I) W K = ldN P 13 B I W K := kr
@[simp] theorem bwy (c0_0 c0_1 c0_2 c0_3 c0_4 c0_5 c0_6 c0_7 c0_8 c0_9 c0_10 c0_11 c0_12 : Value) (x1 : Int) (x2 : Int) (r3 : Option Nat) (r4 : Option Nat) (r5 : Option Nat) (w : World) (K : KV) : jg P T.b #[(0, (.agg #[c0_0, c0_1, c0_2, c0_3, c0_4, c0_5, c0_6, c0_7, c0_8, c0_9, c0_10, c0_11, c0_12])), (10, (.int .u64 x1)), (9, (.int .u64 x2)), (5, (.map r3)), (6, (.map r4)), (7, (.map r5))] w K = K (.agg #[c0_0, c0_1, c0_2, c0_3, c0_4, c0_5, c0_6, c0_7, c0_8, c0_9, c0_10, c0_11, c0_12, nS, nP, nP, nP, (.map r3), (.map r4), (.map r5), u0, u0, (.int .u64 x2), (.int .u64 x1), nS, nS, u0, u0]) w := kr
@[simp] theorem bsk : faT P T.h (pB B I) 2 W K = K (.pointer (some ⟨B, I + 2, none⟩)) W := kr
@[simp] theorem boy (b i : Nat) (p : Option Addr) (l c : Nat) (w : World) (K : KV) : stT P T.i (pB b i) (.slice p l c) w K = st1 P b i (.slice p l c) w K := kr
@[simp] theorem bxh : faT P T.h (pB B I) 12 W K = K (.pointer (some ⟨B, I + 12, none⟩)) W := kr
@[simp] theorem bxw : faT P T.b (pB B I) 1 W K = K (.pointer (some ⟨B, I + 13, none⟩)) W := kr
@[simp] theorem bqq (b i : Nat) (p : Option Addr) (l c : Nat) (w : World) (K : KV) : stT P T.ad (pB b i) (.slice p l c) w K = st1 P b i (.slice p l c) w K := kr
@[simp] theorem bug : faT P T.h (pB B I) 1 W K = K (.pointer (some ⟨B, I + 1, none⟩)) W := kr
@[simp] theorem bsx : faT P T.h (pB B I) 5 W K = K (.pointer (some ⟨B, I + 5, none⟩)) W := kr
@[simp] theorem brg : faT P T.h (pB B I) 6 W K = K (.pointer (some ⟨B, I + 6, none⟩)) W := kr
@[simp] theorem bxv (b i : Nat) (p : Option Addr) (w : World) (K : KV) : stT P T.bh (pB b i) (.pointer p) w K = st1 P b i (.pointer p) w K := kr
@[simp] theorem bra : faT P T.h (pB B I) 9 W K = K (.pointer (some ⟨B, I + 9, none⟩)) W := kr
@[simp] theorem bwf : faT P T.h (pB B I) 10 W K = K (.pointer (some ⟨B, I + 10, none⟩)) W := kr
@[simp] theorem brx : faT P T.h (pB B I) 7 W K = K (.pointer (some ⟨B, I + 7, none⟩)) W := kr
@[simp] theorem bro (b i : Nat) (p : Option Addr) (w : World) (K : KV) : stT P T.aq (pB b i) (.pointer p) w K = st1 P b i (.pointer p) w K := kr
@[simp] theorem bqt : faT P T.h (pB B I) 11 W K = K (.pointer (some ⟨B, I + 11, none⟩)) W := kr
@[simp] theorem byu (b i : Nat) (p : Option Addr) (w : World) (K : KV) : stT P T.bl (pB b i) (.pointer p) w K = st1 P b i (.pointer p) w K := kr
@[simp] theorem bsq : alT P T.h W K = K (.pointer (some ⟨W.heap.size, 0, none⟩)) (W.alloc (.cells #[u0, u0, nS, u0, i0, u0, u0, u0, u0, i0, i0, i0, (.string ⟨#[]⟩)] T.h)) := kr
@[simp] theorem bpt : faT P T.p (pB B I) 0 W K = K (pB B I) W := kr
@[simp] theorem bvn : faT P T.p (pB B I) 3 W K = K (.pointer (some ⟨B, I + 3, none⟩)) W := kr
@[simp] theorem bte : faT P T.p (pB B I) 4 W K = K (.pointer (some ⟨B, I + 4, none⟩)) W := kr
@[simp] theorem bpb : faT P T.p (pB B I) 5 W K = K (.pointer (some ⟨B, I + 5, none⟩)) W := kr
@[simp] theorem bvc : faT P T.p (pB B I) 6 W K = K (.pointer (some ⟨B, I + 6, none⟩)) W := kr
@[simp] theorem bre : faT P T.p (pB B I) 7 W K = K (.pointer (some ⟨B, I + 7, none⟩)) W := kr
@[simp] theorem bpc : faT P T.p (pB B I) 8 W K = K (.pointer (some ⟨B, I + 8, none⟩)) W := kr
@[simp] theorem bpx : faT P T.p (pB B I) 11 W K = K (.pointer (some ⟨B, I + 11, none⟩)) W := kr
@[simp] theorem bym (x0 : Int) (x1 : Int) (p2 : Option Addr) (l2 c2 : Nat) (x3 : Int) (x4 : Int) (x5 : Int) (x6 : Int) (x7 : Int) (x8 : Int) (x9 : Int) (x10 : Int) (x11 : Int) (s12 : ByteArray) (w : World) (K : KV) : jg P T.h #[(0, (.int .u64 x0)), (1, (.int .u64 x1)), (2, (.slice p2 l2 c2)), (3, (.int .u64 x3)), (4, (.int .i64 x4)), (5, (.int .u64 x5)), (6, (.int .u64 x6)), (7, (.int .u64 x7)), (8, (.int .u64 x8)), (9, (.int .i64 x9)), (10, (.int .i64 x10)), (11, (.int .i64 x11)), (12, (.string s12))] w K = K (.agg #[(.int .u64 x0), (.int .u64 x1), (.slice p2 l2 c2), (.int .u64 x3), (.int .i64 x4), (.int .u64 x5), (.int .u64 x6), (.int .u64 x7), (.int .u64 x8), (.int .i64 x9), (.int .i64 x10), (.int .i64 x11), (.string s12)]) w := kr
@[simp] theorem bog (b i : Nat) (c_0 c_1 c_2 c_3 c_4 c_5 c_6 c_7 c_8 c_9 c_10 c_11 c_12 : Value) (w : World) (K : KV) : stT P T.h (pB b i) (.agg #[c_0, c_1, c_2, c_3, c_4, c_5, c_6, c_7, c_8, c_9, c_10, c_11, c_12]) w K = stN P b i [c_0, c_1, c_2, c_3, c_4, c_5, c_6, c_7, c_8, c_9, c_10, c_11, c_12] w K := kr
@[simp] theorem bul (x0 : Int) (x1 : Int) (p2 : Option Addr) (l2 c2 : Nat) (x3 : Int) (x4 : Int) (x5 : Int) (x6 : Int) (x7 : Int) (x8 : Int) (x9 : Int) (x10 : Int) (x11 : Int) (s12 : ByteArray) (w : World) (K : KV) : jg P T.p #[(0, (.int .u64 x0)), (1, (.int .u64 x1)), (2, (.slice p2 l2 c2)), (3, (.int .u64 x3)), (4, (.int .i64 x4)), (5, (.int .u64 x5)), (6, (.int .u64 x6)), (7, (.int .u64 x7)), (8, (.int .u64 x8)), (9, (.int .i64 x9)), (10, (.int .i64 x10)), (11, (.int .i64 x11)), (12, (.string s12))] w K = K (.agg #[(.int .u64 x0), (.int .u64 x1), (.slice p2 l2 c2), (.int .u64 x3), (.int .i64 x4), (.int .u64 x5), (.int .u64 x6), (.int .u64 x7), (.int .u64 x8), (.int .i64 x9), (.int .i64 x10), (.int .i64 x11), (.string s12)]) w := kr
@[simp] theorem bpj : jg P T.f #[] W K = K (.agg #[u0, u0, u0, u0, u0, (.string ⟨#[]⟩), (.string ⟨#[]⟩), bF]) W := kr
@[simp] theorem buy : ldT P T.ac (pB B I) W K = ld1 P B I W K := kr
@[simp] theorem bxg (x0 : Int) (x1 : Int) (x2 : Int) (x3 : Int) (x4 : Int) (bo5 : Bool) (w : World) (K : KV) : jg P T.f #[(0, (.int .u64 x0)), (1, (.int .u64 x1)), (2, (.int .u64 x2)), (3, (.int .u64 x3)), (4, (.int .u64 x4)), (7, (.bool bo5))] w K = K (.agg #[(.int .u64 x0), (.int .u64 x1), (.int .u64 x2), (.int .u64 x3), (.int .u64 x4), (.string ⟨#[]⟩), (.string ⟨#[]⟩), (.bool bo5)]) w := kr
@[simp] theorem bwr : faT P T.c (pB B I) 3 W K = K (.pointer (some ⟨B, I + 4, none⟩)) W := kr
@[simp] theorem bsg : jg P T.e #[] W K = K (.agg #[u0, u0]) W := kr
@[simp] theorem bta : faT P T.e (pB B I) 0 W K = K (pB B I) W := kr
@[simp] theorem btf : faT P T.c (pB B I) 5 W K = K (.pointer (some ⟨B, I + 7, none⟩)) W := kr
@[simp] theorem bsj : ldT P T.br (pB B I) W K = ld1 P B I W K := kr
@[simp] theorem btu : nl P T.bg = true := kr
@[simp] theorem buf : szE P T.bg = 1 := kr
@[simp] theorem bti : faT P T.f (pB B I) 3 W K = K (.pointer (some ⟨B, I + 3, none⟩)) W := kr
@[simp] theorem buh : faT P T.f (pB B I) 4 W K = K (.pointer (some ⟨B, I + 4, none⟩)) W := kr
@[simp] theorem bup : bsT P T.g 0 #[] W K = K (.slice (some ⟨W.heap.size, 0, none⟩) 0 0) (W.alloc (.cells #[] T.ac)) := kr
@[simp] theorem bpo : faT P T.f (pB B I) 2 W K = K (.pointer (some ⟨B, I + 2, none⟩)) W := kr
@[simp] theorem bqi (x0 : Int) (x1 : Int) (x2 : Int) (x3 : Int) (x4 : Int) (w : World) (K : KV) : bsT P T.i 5 #[(0, (.int .u64 x0)), (1, (.int .u64 x1)), (2, (.int .u64 x2)), (3, (.int .u64 x3)), (4, (.int .u64 x4))] w K = K (.slice (some ⟨w.heap.size, 0, none⟩) 5 5) (w.alloc (.cells #[(.int .u64 x0), (.int .u64 x1), (.int .u64 x2), (.int .u64 x3), (.int .u64 x4)] T.a)) := kr
@[simp] theorem bzf : faT P T.f (pB B I) 7 W K = K (.pointer (some ⟨B, I + 7, none⟩)) W := kr
@[simp] theorem bwi (x0 : Int) (w : World) (K : KV) : bsT P T.g 1 #[(0, (.int .u8 x0))] w K = K (.slice (some ⟨w.heap.size, 0, none⟩) 1 1) (w.alloc (.cells #[(.int .u8 x0)] T.ac)) := kr
@[simp] theorem bus : faT P T.h (pB B I) 3 W K = K (.pointer (some ⟨B, I + 3, none⟩)) W := kr
@[simp] theorem byx (rx ry : Operand) (a : Addr) (w : World) (K : KV) : iq P .eql T.bh rx ry (.pointer (some a)) nP w K = K bF w := kr
@[simp] theorem bwp : faT P T.ai (pB B I) 3 W K = K (.pointer (some ⟨B, I + 3, none⟩)) W := kr
@[simp] theorem btg : faT P T.ai (pB B I) 4 W K = K (.pointer (some ⟨B, I + 4, none⟩)) W := kr
@[simp] theorem bxm : faT P T.ai (pB B I) 1 W K = K (.pointer (some ⟨B, I + 1, none⟩)) W := kr
@[simp] theorem bop : faT P T.ai (pB B I) 6 W K = K (.pointer (some ⟨B, I + 6, none⟩)) W := kr
@[simp] theorem bxs : ldT P T.n (pB B I) W K = ldN P 3 B I W K := kr
@[simp] theorem bqa : alT P T.n W K = K (.pointer (some ⟨W.heap.size, 0, none⟩)) (W.alloc (.cells #[u0, u0, i0] T.n)) := kr
@[simp] theorem but (b i : Nat) (c_0 c_1 c_2 : Value) (w : World) (K : KV) : stT P T.n (pB b i) (.agg #[c_0, c_1, c_2]) w K = stN P b i [c_0, c_1, c_2] w K := kr
@[simp] theorem bsb : faT P T.n (pB B I) 0 W K = K (pB B I) W := kr
@[simp] theorem byj : faT P T.ai (pB B I) 0 W K = K (pB B I) W := kr
@[simp] theorem bpr : faT P T.n (pB B I) 2 W K = K (.pointer (some ⟨B, I + 2, none⟩)) W := kr
@[simp] theorem bqf (x0 : Int) (x1 : Int) (c2_0 c2_1 c2_2 c2_3 c2_4 c2_5 c2_6 c2_7 c2_8 c2_9 c2_10 : Value) (w : World) (K : KV) : jg P T.bm #[(0, (.int .u64 x0)), (1, (.int .u64 x1)), (2, (.agg #[c2_0, c2_1, c2_2, c2_3, c2_4, c2_5, c2_6, c2_7, c2_8, c2_9, c2_10]))] w K = K (.agg #[(.int .u64 x0), (.int .u64 x1), c2_0, c2_1, c2_2, c2_3, c2_4, c2_5, c2_6, c2_7, c2_8, c2_9, c2_10]) w := kr
@[simp] theorem byq (c0_0 c0_1 c0_2 c0_3 c0_4 c0_5 c0_6 c0_7 c0_8 c0_9 c0_10 c0_11 c0_12 : Value) (w : World) (K : KV) : bsT P T.ar 1 #[(0, (.agg #[c0_0, c0_1, c0_2, c0_3, c0_4, c0_5, c0_6, c0_7, c0_8, c0_9, c0_10, c0_11, c0_12]))] w K = K (.slice (some ⟨w.heap.size, 0, none⟩) 1 1) (w.alloc (.cells #[c0_0, c0_1, c0_2, c0_3, c0_4, c0_5, c0_6, c0_7, c0_8, c0_9, c0_10, c0_11, c0_12] T.bm)) := kr
@[simp] theorem buj (rx ry : Operand) (a : Addr) (w : World) (K : KV) : iq P .eql T.aq rx ry (.pointer (some a)) nP w K = K bF w := kr
@[simp] theorem bqx : faT P T.ao (pB B I) 4 W K = K (.pointer (some ⟨B, I + 5, none⟩)) W := kr
@[simp] theorem bvv : ldT P T.k (pB B I) W K = ld1 P B I W K := kr
theorem mt.k:oc P T.k .u64 T.bo nP:=oc.mk' (key:=T.a) (by kernel_rfl) (by kernel_rfl) (by kernel_rfl)
@[simp] theorem byf (rx ry : Operand)  (w : World) (K : KV) : iq P .eql T.bo rx ry nP nP w K = K bY w := kr
@[simp] theorem bqm (rx ry : Operand) (a : Addr) (w : World) (K : KV) : iq P .eql T.bo rx ry (.pointer (some a)) nP w K = K bF w := kr
@[simp] theorem bza : faT P T.bb (pB B I) 0 W K = K (pB B I) W := kr
@[simp] theorem bok : faT P T.ao (pB B I) 0 W K = K (pB B I) W := kr
theorem mt.bc:oc P T.bc .u64 T.a u0:=oc.mk' (key:=T.a) (by kernel_rfl) (by kernel_rfl) (by kernel_rfl)
@[simp] theorem bve : faT P T.b (pB B I) 6 W K = K (.pointer (some ⟨B, I + 18, none⟩)) W := kr
@[simp] theorem bsn : ldT P T.u (pB B I) W K = ld1 P B I W K := kr
theorem mt.u:oc P T.u .u64 T.e (.agg #[u0,u0]):=oc.mk' (key:=T.a) (by kernel_rfl) (by kernel_rfl) (by kernel_rfl)
@[simp] theorem bzc (x0 : Int) (x1 : Int) (w : World) (K : KV) : jg P T.e #[(0, (.int .u64 x0)), (1, (.int .u64 x1))] w K = K (.agg #[(.int .u64 x0), (.int .u64 x1)]) w := kr
@[simp] theorem buo (x0 : Int) (x1 : Int) (c2_0 c2_1 : Value) (p3 : Option Addr) (l3 c3 : Nat) (w : World) (K : KV) : jg P T.c #[(0, (.int .i64 x0)), (1, (.int .u64 x1)), (2, (.agg #[c2_0, c2_1])), (6, (.slice p3 l3 c3))] w K = K (.agg #[(.int .i64 x0), (.int .u64 x1), c2_0, c2_1, u0, u0, i0, bF, (.slice p3 l3 c3), nS, nS]) w := kr
@[simp] theorem bzb (b i : Nat) (bo : Bool) (w : World) (K : KV) : stT P T.br (pB b i) (.bool bo) w K = st1 P b i (.bool bo) w K := kr
@[simp] theorem bsr (p0 : Option Addr) (l0 c0 : Nat) (w : World) (K : KV) : jg P T.av #[(0, (.slice p0 l0 c0))] w K = K (.agg #[(.slice p0 l0 c0), i0]) w := kr
@[simp] theorem bxf (x0 : Int) (x1 : Int) (x2 : Int) (x3 : Int) (x4 : Int) (w : World) (K : KV) : jg P T.f #[(0, (.int .u64 x0)), (1, (.int .u64 x1)), (2, (.int .u64 x2)), (3, (.int .u64 x3)), (4, (.int .u64 x4))] w K = K (.agg #[(.int .u64 x0), (.int .u64 x1), (.int .u64 x2), (.int .u64 x3), (.int .u64 x4), (.string ⟨#[]⟩), (.string ⟨#[]⟩), bF]) w := kr
@[simp] theorem bvr : faT P T.av (pB B I) 1 W K = K (.pointer (some ⟨B, I + 1, none⟩)) W := kr
@[simp] theorem bvx : ldT P T.z (pB B I) W K = ld1 P B I W K := kr
@[simp] theorem bpn (b i : Nat) (x : Int) (w : World) (K : KV) : stT P T.z (pB b i) (.int .i64 x) w K = st1 P b i (.int .i64 x) w K := kr
@[simp] theorem btz : faT P T.av (pB B I) 0 W K = K (pB B I) W := kr
@[simp] theorem bol (rx ry : Operand) (a : Addr) (w : World) (K : KV) : iq P .eql T.bl rx ry (.pointer (some a)) nP w K = K bF w := kr
@[simp] theorem boq : faT P T.ay (pB B I) 3 W K = K (.pointer (some ⟨B, I + 66, none⟩)) W := kr
@[simp] theorem bxi : ldT P T.al (pB B I) W K = ld1 P B I W K := kr
theorem mt.al:oc P T.al .u64 T.ae i0:=oc.mk' (key:=T.a) (by kernel_rfl) (by kernel_rfl) (by kernel_rfl)
@[simp] theorem brw : faT P T.ap (pB B I) 1 W K = K (.pointer (some ⟨B, I + 1, none⟩)) W := kr
@[simp] theorem bqj : faT P T.ap (pB B I) 2 W K = K (.pointer (some ⟨B, I + 2, none⟩)) W := kr
@[simp] theorem bwk (c0_0 c0_1 c0_2 c0_3 c0_4 c0_5 c0_6 c0_7 c0_8 c0_9 c0_10 c0_11 c0_12 c0_13 c0_14 c0_15 : Value) (w : World) (K : KV) : bsT P T.ax 1 #[(0, (.agg #[c0_0, c0_1, c0_2, c0_3, c0_4, c0_5, c0_6, c0_7, c0_8, c0_9, c0_10, c0_11, c0_12, c0_13, c0_14, c0_15]))] w K = K (.slice (some ⟨w.heap.size, 0, none⟩) 1 1) (w.alloc (.cells #[c0_0, c0_1, c0_2, c0_3, c0_4, c0_5, c0_6, c0_7, c0_8, c0_9, c0_10, c0_11, c0_12, c0_13, c0_14, c0_15] T.ap)) := kr
@[simp] theorem buv : faT P T.ao (pB B I) 1 W K = K (.pointer (some ⟨B, I + 2, none⟩)) W := kr
@[simp] theorem bqy : jg P T.bb #[] W K = K (.agg #[nS, bF]) W := kr
@[simp] theorem bwq : faT P T.ao (pB B I) 3 W K = K (.pointer (some ⟨B, I + 4, none⟩)) W := kr
@[simp] theorem bwb : faT P T.ao (pB B I) 2 W K = K (.pointer (some ⟨B, I + 3, none⟩)) W := kr
@[simp] theorem bqp : faT P T.bb (pB B I) 1 W K = K (.pointer (some ⟨B, I + 1, none⟩)) W := kr
@[simp] theorem brm (b i : Nat) (p : Option Addr) (l c : Nat) (w : World) (K : KV) : stT P T.j (pB b i) (.slice p l c) w K = st1 P b i (.slice p l c) w K := kr
@[simp] theorem buu : faT P T.ai (pB B I) 7 W K = K (.pointer (some ⟨B, I + 7, none⟩)) W := kr
@[simp] theorem buk : ldT P T.bc (pB B I) W K = ld1 P B I W K := kr
@[simp] theorem bwc : faT P T.n (pB B I) 1 W K = K (.pointer (some ⟨B, I + 1, none⟩)) W := kr
@[simp] theorem buq (x0 : Int) (x1 : Int) (x2 : Int) (w : World) (K : KV) : jg P T.c #[(0, (.int .i64 x0)), (1, (.int .u64 x1)), (4, (.int .i64 x2))] w K = K (.agg #[(.int .i64 x0), (.int .u64 x1), u0, u0, u0, u0, (.int .i64 x2), bF, nS, nS, nS]) w := kr
@[simp] theorem bvs : alT P T.c W K = K (.pointer (some ⟨W.heap.size, 0, none⟩)) (W.alloc (.cells #[i0, u0, u0, u0, u0, u0, i0, bF, nS, nS, nS] T.c)) := kr
@[simp] theorem bum (b i : Nat) (c_0 c_1 c_2 c_3 c_4 c_5 c_6 c_7 c_8 c_9 c_10 : Value) (w : World) (K : KV) : stT P T.c (pB b i) (.agg #[c_0, c_1, c_2, c_3, c_4, c_5, c_6, c_7, c_8, c_9, c_10]) w K = stN P b i [c_0, c_1, c_2, c_3, c_4, c_5, c_6, c_7, c_8, c_9, c_10] w K := kr
@[simp] theorem bvh (x0 : Int) (x1 : Int) (x2 : Int) (w : World) (K : KV) : jg P T.ap #[(0, (.int .i64 x0)), (3, (.int .u64 x1)), (5, (.int .i64 x2))] w K = K (.agg #[(.int .i64 x0), u0, u0, (.int .u64 x1), u0, u0, (.int .i64 x2), u0, u0, u0, u0, u0, (.string ⟨#[]⟩), (.string ⟨#[]⟩), bF, i0]) w := kr
@[simp] theorem bwe : faT P T.aa (pB B I) 0 W K = K (pB B I) W := kr
@[simp] theorem bsz (x0 : Int) (x1 : Int) (w : World) (K : KV) : jg P T.au #[(0, (.int .u64 x0)), (1, (.int .u64 x1))] w K = K (.agg #[(.int .u64 x0), (.int .u64 x1)]) w := kr
@[simp] theorem bxo : nl P T.an = true := kr
@[simp] theorem bpp : szE P T.an = 2 := kr
theorem et.an:mj P T.an T.au 2 16:=mj.mk' (by kernel_rfl) (by kernel_rfl) (by kernel_rfl)
@[simp] theorem bso (rx ry : Operand) (l c : Nat) (w : World) (K : KV) : iq P .eql T.i rx ry (.slice none l c) nS w K = K bY w := kr
@[simp] theorem brc (rx ry : Operand) (a : Addr) (l c : Nat) (w : World) (K : KV) : iq P .eql T.i rx ry (.slice (some a) l c) nS w K = K bF w := kr
@[simp] theorem bxl : bsT P T.i 0 #[] W K = K (.slice (some ⟨W.heap.size, 0, none⟩) 0 0) (W.alloc (.cells #[] T.a)) := kr
@[simp] theorem boj : alT P T.ad W K = K (.pointer (some ⟨W.heap.size, 0, none⟩)) (W.alloc (.cells #[nS] T.ad)) := kr
@[simp] theorem bvb : alT P T.z W K = K (.pointer (some ⟨W.heap.size, 0, none⟩)) (W.alloc (.cells #[i0] T.z)) := kr
@[simp] theorem btp : alT P T.q W K = K (.pointer (some ⟨W.heap.size, 0, none⟩)) (W.alloc (.cells #[bF, (.string ⟨#[]⟩), u0, (.string ⟨#[]⟩)] T.q)) := kr
@[simp] theorem btj (b i : Nat) (c_0 c_1 c_2 c_3 : Value) (w : World) (K : KV) : stT P T.q (pB b i) (.agg #[c_0, c_1, c_2, c_3]) w K = stN P b i [c_0, c_1, c_2, c_3] w K := kr
@[simp] theorem bph : ldT P T.ad (pB B I) W K = ld1 P B I W K := kr
@[simp] theorem btd : ldT P T.q (pB B I) W K = ldN P 4 B I W K := kr
@[simp] theorem bsc : nl P T.ad = true := kr
@[simp] theorem bwa : szE P T.ad = 4 := kr
theorem et.ad:mj P T.ad T.q 4 48:=mj.mk' (by kernel_rfl) (by kernel_rfl) (by kernel_rfl)
@[simp] theorem bto (c0_0 c0_1 c0_2 c0_3 : Value) (w : World) (K : KV) : bsT P T.ad 1 #[(0, (.agg #[c0_0, c0_1, c0_2, c0_3]))] w K = K (.slice (some ⟨w.heap.size, 0, none⟩) 1 1) (w.alloc (.cells #[c0_0, c0_1, c0_2, c0_3] T.q)) := kr
@[simp] theorem btq (x0 : Int) (x1 : Int) (x2 : Int) (x3 : Int) (x4 : Int) (p5 : Option Addr) (l5 c5 : Nat) (r6 : Option Nat) (w : World) (K : KV) : jg P T.ai #[(0, (.int .u64 x0)), (1, (.int .u64 x1)), (2, (.int .u64 x2)), (3, (.int .u64 x3)), (4, (.int .u64 x4)), (6, (.slice p5 l5 c5)), (7, (.map r6))] w K = K (.agg #[(.int .u64 x0), (.int .u64 x1), (.int .u64 x2), (.int .u64 x3), (.int .u64 x4), bF, (.slice p5 l5 c5), (.map r6)]) w := kr
@[simp] theorem btt (x0 : Int) (x1 : Int) (x2 : Int) (r3 : Option Nat) (w : World) (K : KV) : jg P T.ao #[(1, (.int .i64 x0)), (2, (.int .i64 x1)), (3, (.int .u64 x2)), (4, (.map r3))] w K = K (.agg #[nS, (.map none), (.int .i64 x0), (.int .i64 x1), (.int .u64 x2), (.map r3)]) w := kr
@[simp] theorem bpv (x0 : Int) (r1 : Option Nat) (w : World) (K : KV) : jg P T.ay #[(2, (.int .i64 x0)), (3, (.map r1))] w K = K (.agg #[u0, u0, u0, u0, u0, u0, u0, u0, u0, u0, u0, u0, u0, u0, u0, u0, u0, u0, u0, u0, u0, u0, u0, u0, u0, u0, u0, u0, u0, u0, u0, u0, u0, u0, u0, u0, u0, u0, u0, u0, u0, u0, u0, u0, u0, u0, u0, u0, u0, u0, u0, u0, u0, u0, u0, u0, u0, u0, u0, u0, u0, u0, u0, u0, i0, (.int .i64 x0), (.map r1)]) w := kr
@[simp] theorem bvy (b i : Nat) (x : Int) (w : World) (K : KV) : stT P T.ae (pB b i) (.int .i64 x) w K = st1 P b i (.int .i64 x) w K := kr
@[simp] theorem bpk : nl P T.bq = true := kr
@[simp] theorem brt : szE P T.bq = 1 := kr
theorem et.bq:mj P T.bq T.bi 1 4:=mj.mk' (by kernel_rfl) (by kernel_rfl) (by kernel_rfl)
@[simp] theorem bsi : ldT P T.bi (pB B I) W K = ld1 P B I W K := kr
@[simp] theorem brq : faT P T.ai (pB B I) 2 W K = K (.pointer (some ⟨B, I + 2, none⟩)) W := kr
@[simp] theorem bvj (rx ry : Operand) (l c : Nat) (w : World) (K : KV) : iq P .eql T.s rx ry (.slice none l c) nS w K = K bY w := kr
@[simp] theorem bsl (rx ry : Operand) (a : Addr) (l c : Nat) (w : World) (K : KV) : iq P .eql T.s rx ry (.slice (some a) l c) nS w K = K bF w := kr
@[simp] theorem btv : bsT P T.s 0 #[] W K = K (.slice (some ⟨W.heap.size, 0, none⟩) 0 0) (W.alloc (.cells #[] T.n)) := kr
@[simp] theorem bow (rx ry : Operand) (a : Addr) (w : World) (K : KV) : iq P .eql T.bu rx ry (.pointer (some a)) nP w K = K bF w := kr
@[simp] theorem brs : faT P T.be (pB B I) 1 W K = K (.pointer (some ⟨B, I + 1, none⟩)) W := kr
@[simp] theorem bxj : ldT P T.o (pB B I) W K = ld1 P B I W K := kr
theorem mt.o:oc P T.o .u64 T.ab nP:=oc.mk' (key:=T.a) (by kernel_rfl) (by kernel_rfl) (by kernel_rfl)
@[simp] theorem bri (rx ry : Operand)  (w : World) (K : KV) : iq P .eql T.ab rx ry nP nP w K = K bY w := kr
@[simp] theorem btl (rx ry : Operand) (a : Addr) (w : World) (K : KV) : iq P .eql T.ab rx ry (.pointer (some a)) nP w K = K bF w := kr
@[simp] theorem bqk : faT P T.be (pB B I) 0 W K = K (pB B I) W := kr
@[simp] theorem bue (v : Value) (w : World) (K : KV) : sx P T.bd v w K = K (.iface T.bd v) w := kr
@[simp] theorem bwz : acs P T.bd "Len" F.fk false = true := kr
@[simp] theorem byk : acs P T.bd "Less" F.dn false = true := kr
@[simp] theorem bsa : acs P T.bd "Pop" F.et true = true := kr
@[simp] theorem bom : acs P T.bd "Push" F.ek true = true := kr
@[simp] theorem bua : acs P T.bd "Swap" F.dp false = true := kr
@[simp] theorem byh : faT P T.aw (pB B I) 2 W K = K (.pointer (some ⟨B, I + 2, none⟩)) W := kr
@[simp] theorem bub : faT P T.aw (pB B I) 1 W K = K (.pointer (some ⟨B, I + 1, none⟩)) W := kr
@[simp] theorem bpu (rx ry : Operand)  (w : World) (K : KV) : iq P .eql T.o rx ry (.map none) (.map none) w K = K bY w := kr
@[simp] theorem byo (rx ry : Operand) (r : Nat) (w : World) (K : KV) : iq P .eql T.o rx ry (.map (some r)) (.map none) w K = K bF w := kr
@[simp] theorem bpg (b i : Nat) (r : Option Nat) (w : World) (K : KV) : stT P T.o (pB b i) (.map r) w K = st1 P b i (.map r) w K := kr
@[simp] theorem bwl (x0 : Int) (x1 : Int) (w : World) (K : KV) : jg P T.aw #[(0, (.int .u64 x0)), (1, (.int .u64 x1))] w K = K (.agg #[(.int .u64 x0), (.int .u64 x1), i0]) w := kr
@[simp] theorem boi (v : Value) (w : World) (K : KV) : sx P T.ab v w K = K (.iface T.ab v) w := kr
@[simp] theorem bvg : faT P T.b (pB B I) 8 W K = K (.pointer (some ⟨B, I + 20, none⟩)) W := kr
@[simp] theorem bze : faT P T.r (pB B I) 4 W K = K (.pointer (some ⟨B, I + 5, none⟩)) W := kr
@[simp] theorem bqs : faT P T.r (pB B I) 7 W K = K (.pointer (some ⟨B, I + 9, none⟩)) W := kr
@[simp] theorem bpw : jg P T.c #[] W K = K (.agg #[i0, u0, u0, u0, u0, u0, i0, bF, nS, nS, nS]) W := kr
@[simp] theorem btk : faT P T.r (pB B I) 0 W K = K (pB B I) W := kr
@[simp] theorem bxz : faT P T.r (pB B I) 1 W K = K (.pointer (some ⟨B, I + 1, none⟩)) W := kr
@[simp] theorem brd (x0 : Int) (x1 : Int) (c2_0 c2_1 : Value) (w : World) (K : KV) : jg P T.c #[(0, (.int .i64 x0)), (1, (.int .u64 x1)), (2, (.agg #[c2_0, c2_1]))] w K = K (.agg #[(.int .i64 x0), (.int .u64 x1), c2_0, c2_1, u0, u0, i0, bF, nS, nS, nS]) w := kr
@[simp] theorem bql : faT P T.r (pB B I) 2 W K = K (.pointer (some ⟨B, I + 3, none⟩)) W := kr
@[simp] theorem bqe : faT P T.r (pB B I) 3 W K = K (.pointer (some ⟨B, I + 4, none⟩)) W := kr
@[simp] theorem bwh : faT P T.r (pB B I) 5 W K = K (.pointer (some ⟨B, I + 6, none⟩)) W := kr
@[simp] theorem bws : ldT P T.am (pB B I) W K = ld1 P B I W K := kr
theorem mt.am:oc P T.am .u64 T.br bF:=oc.mk' (key:=T.a) (by kernel_rfl) (by kernel_rfl) (by kernel_rfl)
@[simp] theorem bpy (rx ry : Operand) (l c : Nat) (w : World) (K : KV) : iq P .eql T.j rx ry (.slice none l c) nS w K = K bY w := kr
@[simp] theorem bpd (rx ry : Operand) (a : Addr) (l c : Nat) (w : World) (K : KV) : iq P .eql T.j rx ry (.slice (some a) l c) nS w K = K bF w := kr
@[simp] theorem bvd : bsT P T.j 0 #[] W K = K (.slice (some ⟨W.heap.size, 0, none⟩) 0 0) (W.alloc (.cells #[] T.f)) := kr
@[simp] theorem bxq : nl P T.bv = true := kr
@[simp] theorem bya : szE P T.bv = 1 := kr
@[simp] theorem bsd (x0 : Int) (x1 : Int) (w : World) (K : KV) : bsT P T.bv 2 #[(0, (.int .i64 x0)), (1, (.int .i64 x1))] w K = K (.slice (some ⟨w.heap.size, 0, none⟩) 2 2) (w.alloc (.cells #[(.int .i64 x0), (.int .i64 x1)] T.z)) := kr
@[simp] theorem bxx (rx ry : Operand) (l c : Nat) (w : World) (K : KV) : iq P .eql T.g rx ry (.slice none l c) nS w K = K bY w := kr
@[simp] theorem bpl (rx ry : Operand) (a : Addr) (l c : Nat) (w : World) (K : KV) : iq P .eql T.g rx ry (.slice (some a) l c) nS w K = K bF w := kr
@[simp] theorem bpz : nl P T.bk = true := kr
@[simp] theorem brz : szE P T.bk = 1 := kr
@[simp] theorem bxn (p0 : Option Addr) (l0 c0 : Nat) (p1 : Option Addr) (l1 c1 : Nat) (w : World) (K : KV) : bsT P T.bk 2 #[(0, (.slice p0 l0 c0)), (1, (.slice p1 l1 c1))] w K = K (.slice (some ⟨w.heap.size, 0, none⟩) 2 2) (w.alloc (.cells #[(.slice p0 l0 c0), (.slice p1 l1 c1)] T.j)) := kr
@[simp] theorem bwu (x0 : Int) (x1 : Int) (x2 : Int) (c3_0 c3_1 c3_2 c3_3 c3_4 c3_5 c3_6 c3_7 : Value) (w : World) (K : KV) : jg P T.ap #[(0, (.int .i64 x0)), (3, (.int .u64 x1)), (5, (.int .i64 x2)), (6, (.agg #[c3_0, c3_1, c3_2, c3_3, c3_4, c3_5, c3_6, c3_7]))] w K = K (.agg #[(.int .i64 x0), u0, u0, (.int .u64 x1), u0, u0, (.int .i64 x2), c3_0, c3_1, c3_2, c3_3, c3_4, c3_5, c3_6, c3_7, i0]) w := kr
@[simp] theorem bxe (rx ry : Operand) (ti : TypeId) (v : Value) (w : World) (K : KV) : iq P .eql T.bf rx ry (.iface ti v) .nilIface w K = K bF w := kr
@[simp] theorem bse (x0 : Int) (bo1 : Bool) (p2 : Option Addr) (l2 c2 : Nat) (w : World) (K : KV) : jg P T.y #[(0, (.int .u64 x0)), (1, (.bool bo1)), (2, (.slice p2 l2 c2))] w K = K (.agg #[(.int .u64 x0), (.bool bo1), (.slice p2 l2 c2)]) w := kr
@[simp] theorem boo (v : Value) (w : World) (K : KV) : sx P T.y v w K = K (.iface T.y v) w := kr
@[simp] theorem bwx (p0 : Option Addr) (l0 c0 : Nat) (w : World) (K : KV) : jg P T.w #[(0, (.slice p0 l0 c0))] w K = K (.agg #[(.slice p0 l0 c0)]) w := kr
@[simp] theorem bqg (v : Value) (w : World) (K : KV) : sx P T.w v w K = K (.iface T.w v) w := kr
@[simp] theorem bvu (x0 : Int) (c1_0 c1_1 : Value) (x2 : Int) (w : World) (K : KV) : jg P T.aj #[(0, (.int .u64 x0)), (1, (.agg #[c1_0, c1_1])), (2, (.int .i64 x2))] w K = K (.agg #[(.int .u64 x0), c1_0, c1_1, (.int .i64 x2)]) w := kr
@[simp] theorem bzd (v : Value) (w : World) (K : KV) : sx P T.aj v w K = K (.iface T.aj v) w := kr
@[simp] theorem bst (x0 : Int) (c1_0 c1_1 : Value) (bo2 : Bool) (c3_0 c3_1 : Value) (x4 : Int) (bo5 : Bool) (w : World) (K : KV) : jg P T.l #[(0, (.int .u64 x0)), (1, (.agg #[c1_0, c1_1])), (2, (.bool bo2)), (3, (.agg #[c3_0, c3_1])), (4, (.int .i64 x4)), (5, (.bool bo5))] w K = K (.agg #[(.int .u64 x0), c1_0, c1_1, (.bool bo2), c3_0, c3_1, (.int .i64 x4), (.bool bo5)]) w := kr
@[simp] theorem byg (v : Value) (w : World) (K : KV) : sx P T.l v w K = K (.iface T.l v) w := kr
@[simp] theorem byn (x0 : Int) (x1 : Int) (w : World) (K : KV) : jg P T.ag #[(0, (.int .u64 x0)), (1, (.int .i64 x1))] w K = K (.agg #[(.int .u64 x0), (.int .i64 x1)]) w := kr
@[simp] theorem brk (v : Value) (w : World) (K : KV) : sx P T.ag v w K = K (.iface T.ag v) w := kr
@[simp] theorem bvz (x0 : Int) (c1_0 c1_1 : Value) (p2 : Option Addr) (l2 c2 : Nat) (w : World) (K : KV) : jg P T.t #[(0, (.int .u64 x0)), (1, (.agg #[c1_0, c1_1])), (2, (.slice p2 l2 c2))] w K = K (.agg #[(.int .u64 x0), c1_0, c1_1, (.slice p2 l2 c2)]) w := kr
@[simp] theorem bwg (v : Value) (w : World) (K : KV) : sx P T.t v w K = K (.iface T.t v) w := kr
@[simp] theorem bxp (x0 : Int) (p1 : Option Addr) (l1 c1 : Nat) (w : World) (K : KV) : jg P T.aa #[(0, (.int .u64 x0)), (1, (.slice p1 l1 c1))] w K = K (.agg #[(.int .u64 x0), (.slice p1 l1 c1)]) w := kr
@[simp] theorem bxk (v : Value) (w : World) (K : KV) : sx P T.aa v w K = K (.iface T.aa v) w := kr
@[simp] theorem bqu : ldT P T.l (pB B I) W K = ldN P 8 B I W K := kr
@[simp] theorem brh : faT P T.l (pB B I) 2 W K = K (.pointer (some ⟨B, I + 3, none⟩)) W := kr
@[simp] theorem byp : faT P T.l (pB B I) 3 W K = K (.pointer (some ⟨B, I + 4, none⟩)) W := kr
@[simp] theorem brv : faT P T.l (pB B I) 4 W K = K (.pointer (some ⟨B, I + 6, none⟩)) W := kr
@[simp] theorem bxr : faT P T.r (pB B I) 6 W K = K (.pointer (some ⟨B, I + 7, none⟩)) W := kr
@[simp] theorem bxc : ldT P T.ak (pB B I) W K = ld1 P B I W K := kr
@[simp] theorem bpi : faT P T.ay (pB B I) 2 W K = K (.pointer (some ⟨B, I + 65, none⟩)) W := kr
@[simp] theorem bqd : faT P T.ay (pB B I) 0 W K = K (pB B I) W := kr
@[simp] theorem bvo : faT P T.ay (pB B I) 1 W K = K (.pointer (some ⟨B, I + 64, none⟩)) W := kr
@[simp] theorem btw : faT P T.aa (pB B I) 1 W K = K (.pointer (some ⟨B, I + 1, none⟩)) W := kr
@[simp] theorem bys : faT P T.au (pB B I) 0 W K = K (pB B I) W := kr
@[simp] theorem bss : faT P T.au (pB B I) 1 W K = K (.pointer (some ⟨B, I + 1, none⟩)) W := kr
@[simp] theorem boz : nl P T.bx = true := kr
@[simp] theorem bye : szE P T.bx = 1 := kr
@[simp] theorem bps (x0 : Int) (x1 : Int) (w : World) (K : KV) : bsT P T.bx 2 #[(0, (.int .i64 x0)), (1, (.int .i64 x1))] w K = K (.slice (some ⟨w.heap.size, 0, none⟩) 2 2) (w.alloc (.cells #[(.int .i64 x0), (.int .i64 x1)] T.d)) := kr
@[simp] theorem bsu : jg P T.q #[] W K = K (.agg #[bF, (.string ⟨#[]⟩), u0, (.string ⟨#[]⟩)]) W := kr
@[simp] theorem bwo (bo0 : Bool) (s1 : ByteArray) (w : World) (K : KV) : jg P T.q #[(0, (.bool bo0)), (1, (.string s1))] w K = K (.agg #[(.bool bo0), (.string s1), u0, (.string ⟨#[]⟩)]) w := kr
@[simp] theorem bry : faT P T.q (pB B I) 1 W K = K (.pointer (some ⟨B, I + 1, none⟩)) W := kr
@[simp] theorem byl : faT P T.q (pB B I) 2 W K = K (.pointer (some ⟨B, I + 2, none⟩)) W := kr
@[simp] theorem brl : faT P T.q (pB B I) 3 W K = K (.pointer (some ⟨B, I + 3, none⟩)) W := kr
@[simp] theorem bqo (x0 : Int) (w : World) (K : KV) : bsT P T.bq 1 #[(0, (.int .i32 x0))] w K = K (.slice (some ⟨w.heap.size, 0, none⟩) 1 1) (w.alloc (.cells #[(.int .i32 x0)] T.bi)) := kr
@[simp] theorem bxu : ldT P T.af (pB B I) W K = ld1 P B I W K := kr
@[simp] theorem bvq : nl P T.af = true := kr
@[simp] theorem bxd : szE P T.af = 1 := kr
theorem et.af:mj P T.af T.ab 1 8:=mj.mk' (by kernel_rfl) (by kernel_rfl) (by kernel_rfl)
@[simp] theorem bqr : ldT P T.ab (pB B I) W K = ld1 P B I W K := kr
@[simp] theorem bpa : faT P T.aw (pB B I) 0 W K = K (pB B I) W := kr
@[simp] theorem bsh : faT P T.q (pB B I) 0 W K = K (pB B I) W := kr
@[simp] theorem btn (x0 : Int) (c1_0 c1_1 : Value) (x2 : Int) (p3 : Option Addr) (l3 c3 : Nat) (r4 : Option Nat) (w : World) (K : KV) : jg P T.r #[(0, (.int .u64 x0)), (1, (.agg #[c1_0, c1_1])), (2, (.int .i64 x2)), (3, (.slice p3 l3 c3)), (5, (.map r4))] w K = K (.agg #[(.int .u64 x0), c1_0, c1_1, (.int .i64 x2), (.slice p3 l3 c3), i0, (.map r4), u0, u0, u0, u0]) w := kr
@[simp] theorem bvt (b i : Nat) (p : Option Addr) (l c : Nat) (w : World) (K : KV) : stT P T.g (pB b i) (.slice p l c) w K = st1 P b i (.slice p l c) w K := kr
@[simp] theorem bty (v : Value) (w : World) (K : KV) : sx P T.m v w K = K (.iface T.m v) w := kr
@[simp] theorem bww : faT P T.y (pB B I) 0 W K = K (pB B I) W := kr
@[simp] theorem bxa (v : Value) (w : World) (K : KV) : taT P (.iface T.aj v) T.bf T.aj true w K = K (.tuple #[v, .bool true]) w := kr
@[simp] theorem bwm : alT P T.aj W K = K (.pointer (some ⟨W.heap.size, 0, none⟩)) (W.alloc (.cells #[u0, u0, u0, i0] T.aj)) := kr
@[simp] theorem bvf (b i : Nat) (c_0 c_1 c_2 c_3 : Value) (w : World) (K : KV) : stT P T.aj (pB b i) (.agg #[c_0, c_1, c_2, c_3]) w K = stN P b i [c_0, c_1, c_2, c_3] w K := kr
@[simp] theorem bts : faT P T.aj (pB B I) 0 W K = K (pB B I) W := kr
@[simp] theorem bon : faT P T.aj (pB B I) 1 W K = K (.pointer (some ⟨B, I + 1, none⟩)) W := kr
@[simp] theorem bqw : faT P T.aj (pB B I) 2 W K = K (.pointer (some ⟨B, I + 3, none⟩)) W := kr
@[simp] theorem bvk : faT P T.l (pB B I) 0 W K = K (pB B I) W := kr
@[simp] theorem bpf : faT P T.l (pB B I) 1 W K = K (.pointer (some ⟨B, I + 1, none⟩)) W := kr
@[simp] theorem bou : faT P T.l (pB B I) 5 W K = K (.pointer (some ⟨B, I + 7, none⟩)) W := kr
@[simp] theorem brj (v : Value) (w : World) (K : KV) : taT P (.iface T.t v) T.bf T.t true w K = K (.tuple #[v, .bool true]) w := kr
@[simp] theorem btr : alT P T.t W K = K (.pointer (some ⟨W.heap.size, 0, none⟩)) (W.alloc (.cells #[u0, u0, u0, nS] T.t)) := kr
@[simp] theorem bud (b i : Nat) (c_0 c_1 c_2 c_3 : Value) (w : World) (K : KV) : stT P T.t (pB b i) (.agg #[c_0, c_1, c_2, c_3]) w K = stN P b i [c_0, c_1, c_2, c_3] w K := kr
@[simp] theorem byi : faT P T.t (pB B I) 0 W K = K (pB B I) W := kr
@[simp] theorem bpe : faT P T.t (pB B I) 1 W K = K (.pointer (some ⟨B, I + 1, none⟩)) W := kr
@[simp] theorem byr : faT P T.t (pB B I) 2 W K = K (.pointer (some ⟨B, I + 3, none⟩)) W := kr
@[simp] theorem bsm : faT P T.y (pB B I) 1 W K = K (.pointer (some ⟨B, I + 1, none⟩)) W := kr
@[simp] theorem bun (x0 : Int) (x1 : Int) (c2_0 c2_1 : Value) (x3 : Int) (w : World) (K : KV) : jg P T.c #[(0, (.int .i64 x0)), (1, (.int .u64 x1)), (2, (.agg #[c2_0, c2_1])), (4, (.int .i64 x3))] w K = K (.agg #[(.int .i64 x0), (.int .u64 x1), c2_0, c2_1, u0, u0, (.int .i64 x3), bF, nS, nS, nS]) w := kr
@[simp] theorem bsy (x0 : Int) (x1 : Int) (c2_0 c2_1 : Value) (bo3 : Bool) (c4_0 c4_1 : Value) (x5 : Int) (w : World) (K : KV) : jg P T.c #[(0, (.int .i64 x0)), (1, (.int .u64 x1)), (2, (.agg #[c2_0, c2_1])), (5, (.bool bo3)), (3, (.agg #[c4_0, c4_1])), (4, (.int .i64 x5))] w K = K (.agg #[(.int .i64 x0), (.int .u64 x1), c2_0, c2_1, c4_0, c4_1, (.int .i64 x5), (.bool bo3), nS, nS, nS]) w := kr
@[simp] theorem bxb (x0 : Int) (x1 : Int) (p2 : Option Addr) (l2 c2 : Nat) (w : World) (K : KV) : jg P T.c #[(0, (.int .i64 x0)), (1, (.int .u64 x1)), (8, (.slice p2 l2 c2))] w K = K (.agg #[(.int .i64 x0), (.int .u64 x1), u0, u0, u0, u0, i0, bF, nS, nS, (.slice p2 l2 c2)]) w := kr
@[simp] theorem brb : ldT P T.au (pB B I) W K = ldN P 2 B I W K := kr
@[simp] theorem bqc : faT P T.e (pB B I) 1 W K = K (.pointer (some ⟨B, I + 1, none⟩)) W := kr
@[simp] theorem bvi : alT P T.ah W K = K (.pointer (some ⟨W.heap.size, 0, none⟩)) (W.alloc (.cells #[u0] T.ah)) := kr
@[simp] theorem bsv (b i : Nat) (x : Int) (w : World) (K : KV) : stT P T.ah (pB b i) (.int .u64 x) w K = st1 P b i (.int .u64 x) w K := kr
@[simp] theorem bvp (b i : Nat) (c_0 c_1 : Value) (w : World) (K : KV) : stT P T.au (pB b i) (.agg #[c_0, c_1]) w K = stN P b i [c_0, c_1] w K := kr
@[simp] theorem byb : ldT P T.ah (pB B I) W K = ld1 P B I W K := kr
@[simp] theorem bqz (b i : Nat) (p : Option Addr) (w : World) (K : KV) : stT P T.ab (pB b i) (.pointer p) w K = st1 P b i (.pointer p) w K := kr
@[simp] theorem bqb (b i : Nat) (p : Option Addr) (l c : Nat) (w : World) (K : KV) : stT P T.af (pB b i) (.slice p l c) w K = st1 P b i (.slice p l c) w K := kr
@[simp] theorem bsp (v : Value) (w : World) (K : KV) : taT P (.iface T.ab v) T.bf T.ab false w K = K v w := kr
@[simp] theorem brf (p0 : Option Addr) (w : World) (K : KV) : bsT P T.af 1 #[(0, (.pointer p0))] w K = K (.slice (some ⟨w.heap.size, 0, none⟩) 1 1) (w.alloc (.cells #[(.pointer p0)] T.ab)) := kr
end Go.Proofs.YtgepcfcicngceaaGreatDoor
