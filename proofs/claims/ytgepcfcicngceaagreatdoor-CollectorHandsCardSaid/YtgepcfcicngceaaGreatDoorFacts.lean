/-
  Printed by wip/Shallow.lean: what the operations come to at this seat's types. No condition.
-/
import Derived.Test.YtgepcfcicngceaaGreatDoorN
import Derived.Test.YtgepcfcicngceaaGreatDoorZEng
set_option maxRecDepth 1000000
namespace Go.Proofs.YtgepcfcicngceaaGreatDoor
open Go.Eng
variable (B I : Nat) (W : World) (K : KV)
@[simp] theorem cgo : nq P T.t = true := kr
@[simp] theorem cgj : szE P T.t = 1 := kr
theorem et.t:nj P T.t T.be 1 1:=nj.mk' (by kernel_rfl) (by kernel_rfl) (by kernel_rfl)
@[simp] theorem cgm : ldT P T.c (pB B I) W K = ldN P 11 B I W K := kr
@[simp] theorem cgp : nq P T.ah = true := kr
@[simp] theorem cgq : szE P T.ah = 13 := kr
theorem et.ah:nj P T.ah T.bj 13 152:=nj.mk' (by kernel_rfl) (by kernel_rfl) (by kernel_rfl)
theorem et.bd:nj P T.bd T.ar 16 144:=nj.mk' (by kernel_rfl) (by kernel_rfl) (by kernel_rfl)
@[simp] theorem cfj : nq P T.k = true := kr
@[simp] theorem ceg : szE P T.k = 3 := kr
theorem et.k:nj P T.k T.i 3 24:=nj.mk' (by kernel_rfl) (by kernel_rfl) (by kernel_rfl)
@[simp] theorem cge : nq P T.g = true := kr
@[simp] theorem cfx : szE P T.g = 1 := kr
theorem et.g:nj P T.g T.a 1 8:=nj.mk' (by kernel_rfl) (by kernel_rfl) (by kernel_rfl)
@[simp] theorem cgf : nq P T.br = true := kr
@[simp] theorem cfd : szE P T.br = 1 := kr
@[simp] theorem cfp (rx ry : Operand) (a : Addr) (w : World) (K : KV) : iy P .eql T.ao rx ry (.pointer (some a)) nP w K = K bF w := kr
@[simp] theorem cfq : ldT P T.t (pB B I) W K = ld1 P B I W K := kr
@[simp] theorem cfl : alT P T.j W K = K (.pointer (some ⟨W.heap.size, 0, none⟩)) (W.alloc (.cells #[u0, u0, u0, u0, u0, (.string ⟨#[]⟩), (.string ⟨#[]⟩), bF] T.j)) := kr
@[simp] theorem cen (b i : Nat) (c_0 c_1 c_2 c_3 c_4 c_5 c_6 c_7 : Value) (w : World) (K : KV) : stT P T.j (pB b i) (.agg #[c_0, c_1, c_2, c_3, c_4, c_5, c_6, c_7]) w K = stN P b i [c_0, c_1, c_2, c_3, c_4, c_5, c_6, c_7] w K := kr
@[simp] theorem cef : faT P T.ar (pB B I) 0 W K = K (pB B I) W := kr
@[simp] theorem cfe : ldT P T.d (pB B I) W K = ld1 P B I W K := kr
@[simp] theorem cds : faT P T.ar (pB B I) 6 W K = K (.pointer (some ⟨B, I + 7, none⟩)) W := kr
@[simp] theorem cfv : ldT P T.j (pB B I) W K = ldN P 8 B I W K := kr
@[simp] theorem cek : alT P T.p W K = K (.pointer (some ⟨W.heap.size, 0, none⟩)) (W.alloc (.cells #[u0, u0, nS, u0, i0, u0, u0, u0, u0, i0, i0, i0, (.string ⟨#[]⟩)] T.p)) := kr
@[simp] theorem cgd (b i : Nat) (c_0 c_1 c_2 c_3 c_4 c_5 c_6 c_7 c_8 c_9 c_10 c_11 c_12 : Value) (w : World) (K : KV) : stT P T.p (pB b i) (.agg #[c_0, c_1, c_2, c_3, c_4, c_5, c_6, c_7, c_8, c_9, c_10, c_11, c_12]) w K = stN P b i [c_0, c_1, c_2, c_3, c_4, c_5, c_6, c_7, c_8, c_9, c_10, c_11, c_12] w K := kr
@[simp] theorem cei : faT P T.p (pB B I) 1 W K = K (.pointer (some ⟨B, I + 1, none⟩)) W := kr
@[simp] theorem ceh (b i : Nat) (x : Int) (w : World) (K : KV) : stT P T.a (pB b i) (.int .u64 x) w K = st1 P b i (.int .u64 x) w K := kr
@[simp] theorem cey (x0 : Int) (x1 : Int) (w : World) (K : KV) : jq P T.i #[(0, (.int .u64 x0)), (1, (.int .u64 x1))] w K = K (.agg #[(.int .u64 x0), (.int .u64 x1), i0]) w := kr
@[simp] theorem cec (c0_0 c0_1 c0_2 : Value) (w : World) (K : KV) : bsT P T.k 1 #[(0, (.agg #[c0_0, c0_1, c0_2]))] w K = K (.slice (some ⟨w.heap.size, 0, none⟩) 1 1) (w.alloc (.cells #[c0_0, c0_1, c0_2] T.i)) := kr
@[simp] theorem ces (x0 : Int) (p1 : Option Addr) (l1 c1 : Nat) (w : World) (K : KV) : jq P T.c #[(0, (.int .i64 x0)), (7, (.slice p1 l1 c1))] w K = K (.agg #[(.int .i64 x0), u0, u0, u0, u0, u0, i0, bF, nS, (.slice p1 l1 c1), nS]) w := kr
@[simp] theorem ced : ldT P T.a (pB B I) W K = ld1 P B I W K := kr
@[simp] theorem cem : faT P T.bj (pB B I) 2 W K = K (.pointer (some ⟨B, I + 2, none⟩)) W := kr
@[simp] theorem cfi : faT P T.c (pB B I) 0 W K = K (pB B I) W := kr
@[simp] theorem cgh : faT P T.c (pB B I) 1 W K = K (.pointer (some ⟨B, I + 1, none⟩)) W := kr
@[simp] theorem cdr : faT P T.bj (pB B I) 1 W K = K (.pointer (some ⟨B, I + 1, none⟩)) W := kr
@[simp] theorem cfy : nq P T.h = true := kr
@[simp] theorem cdv : szE P T.h = 8 := kr
theorem et.h:nj P T.h T.j 8 80:=nj.mk' (by kernel_rfl) (by kernel_rfl) (by kernel_rfl)
@[simp] theorem cer : faT P T.c (pB B I) 6 W K = K (.pointer (some ⟨B, I + 8, none⟩)) W := kr
@[simp] theorem ceo : ldT P T.h (pB B I) W K = ld1 P B I W K := kr
@[simp] theorem cfg : faT P T.p (pB B I) 9 W K = K (.pointer (some ⟨B, I + 9, none⟩)) W := kr
@[simp] theorem cgb (b i : Nat) (x : Int) (w : World) (K : KV) : stT P T.d (pB b i) (.int .i64 x) w K = st1 P b i (.int .i64 x) w K := kr
@[simp] theorem cfw : faT P T.p (pB B I) 12 W K = K (.pointer (some ⟨B, I + 12, none⟩)) W := kr
@[simp] theorem cea (b i : Nat) (s : ByteArray) (w : World) (K : KV) : stT P T.n (pB b i) (.string s) w K = st1 P b i (.string s) w K := kr
@[simp] theorem cfu : faT P T.p (pB B I) 10 W K = K (.pointer (some ⟨B, I + 10, none⟩)) W := kr
@[simp] theorem cfs : faT P T.j (pB B I) 0 W K = K (pB B I) W := kr
@[simp] theorem cfz : faT P T.j (pB B I) 1 W K = K (.pointer (some ⟨B, I + 1, none⟩)) W := kr
@[simp] theorem cfr : faT P T.c (pB B I) 2 W K = K (.pointer (some ⟨B, I + 2, none⟩)) W := kr
@[simp] theorem cfc : ldT P T.e (pB B I) W K = ldN P 2 B I W K := kr
@[simp] theorem cdw (x0 : Int) (x1 : Int) (c2_0 c2_1 : Value) (bo3 : Bool) (w : World) (K : KV) : jq P T.c #[(0, (.int .i64 x0)), (1, (.int .u64 x1)), (2, (.agg #[c2_0, c2_1])), (5, (.bool bo3))] w K = K (.agg #[(.int .i64 x0), (.int .u64 x1), c2_0, c2_1, u0, u0, i0, (.bool bo3), nS, nS, nS]) w := kr
@[simp] theorem cex : faT P T.c (pB B I) 4 W K = K (.pointer (some ⟨B, I + 6, none⟩)) W := kr
@[simp] theorem ceq : ldT P T.ae (pB B I) W K = ld1 P B I W K := kr
@[simp] theorem cdz : faT P T.p (pB B I) 2 W K = K (.pointer (some ⟨B, I + 2, none⟩)) W := kr
@[simp] theorem cft : ldT P T.g (pB B I) W K = ld1 P B I W K := kr
@[simp] theorem cdy : ldT P T.n (pB B I) W K = ld1 P B I W K := kr
@[simp] theorem cfo : faT P T.c (pB B I) 7 W K = K (.pointer (some ⟨B, I + 9, none⟩)) W := kr
@[simp] theorem cfh : ldT P T.k (pB B I) W K = ld1 P B I W K := kr
@[simp] theorem cew : faT P T.c (pB B I) 8 W K = K (.pointer (some ⟨B, I + 10, none⟩)) W := kr
@[simp] theorem cel : faT P T.j (pB B I) 6 W K = K (.pointer (some ⟨B, I + 6, none⟩)) W := kr
@[simp] theorem cfa : faT P T.j (pB B I) 5 W K = K (.pointer (some ⟨B, I + 5, none⟩)) W := kr
@[simp] theorem cdx (x0 : Int) (x1 : Int) (s2 : ByteArray) (s3 : ByteArray) (bo4 : Bool) (w : World) (K : KV) : jq P T.j #[(0, (.int .u64 x0)), (1, (.int .u64 x1)), (5, (.string s2)), (6, (.string s3)), (7, (.bool bo4))] w K = K (.agg #[(.int .u64 x0), (.int .u64 x1), u0, u0, u0, (.string s2), (.string s3), (.bool bo4)]) w := kr
@[simp] theorem cet : alT P T.e W K = K (.pointer (some ⟨W.heap.size, 0, none⟩)) (W.alloc (.cells #[u0, u0] T.e)) := kr
@[simp] theorem cdu (b i : Nat) (c_0 c_1 : Value) (w : World) (K : KV) : stT P T.e (pB b i) (.agg #[c_0, c_1]) w K = stN P b i [c_0, c_1] w K := kr
@[simp] theorem cev : faT P T.b (pB B I) 10 W K = K (.pointer (some ⟨B, I + 23, none⟩)) W := kr
@[simp] theorem cff : faT P T.b (pB B I) 2 W K = K (.pointer (some ⟨B, I + 14, none⟩)) W := kr
@[simp] theorem ceb : ldT P T.bb (pB B I) W K = ld1 P B I W K := kr
@[simp] theorem cee : faT P T.b (pB B I) 3 W K = K (.pointer (some ⟨B, I + 15, none⟩)) W := kr
@[simp] theorem cgc : ldT P T.aq (pB B I) W K = ld1 P B I W K := kr
@[simp] theorem cfk : faT P T.b (pB B I) 0 W K = K (pB B I) W := kr
@[simp] theorem cep : faT P T.f (pB B I) 0 W K = K (pB B I) W := kr
@[simp] theorem cfn : faT P T.b (pB B I) 5 W K = K (.pointer (some ⟨B, I + 17, none⟩)) W := kr
@[simp] theorem cfb : ldT P T.v (pB B I) W K = ld1 P B I W K := kr
theorem mt.v:ot P T.v .u64 T.bm nP:=ot.mk' (key:=T.a) (by kernel_rfl) (by kernel_rfl) (by kernel_rfl)
@[simp] theorem cdt (rx ry : Operand)  (w : World) (K : KV) : iy P .eql T.bm rx ry nP nP w K = K bY w := kr
@[simp] theorem cfm (rx ry : Operand) (a : Addr) (w : World) (K : KV) : iy P .eql T.bm rx ry (.pointer (some a)) nP w K = K bF w := kr
@[simp] theorem cga (x0 : Int) (x1 : Int) (p2 : Option Addr) (l2 c2 : Nat) (w : World) (K : KV) : jq P T.c #[(0, (.int .i64 x0)), (1, (.int .u64 x1)), (6, (.slice p2 l2 c2))] w K = K (.agg #[(.int .i64 x0), (.int .u64 x1), u0, u0, u0, u0, i0, bF, (.slice p2 l2 c2), nS, nS]) w := kr
@[simp] theorem cez (x0 : Int) (w : World) (K : KV) : bsT P T.g 1 #[(0, (.int .u64 x0))] w K = K (.slice (some ⟨w.heap.size, 0, none⟩) 1 1) (w.alloc (.cells #[(.int .u64 x0)] T.a)) := kr
@[simp] theorem ceu : faT P T.b (pB B I) 9 W K = K (.pointer (some ⟨B, I + 22, none⟩)) W := kr
@[simp] theorem cej : faT P T.f (pB B I) 8 W K = K (.pointer (some ⟨B, I + 8, none⟩)) W := kr
@[simp] theorem ccv : faT P T.b (pB B I) 7 W K = K (.pointer (some ⟨B, I + 19, none⟩)) W := kr
@[simp] theorem bwz : ldT P T.y (pB B I) W K = ld1 P B I W K := kr
theorem mt.y:ot P T.y .u64 T.h nS:=ot.mk' (key:=T.a) (by kernel_rfl) (by kernel_rfl) (by kernel_rfl)
@[simp] theorem cdl : faT P T.b (pB B I) 13 W K = K (.pointer (some ⟨B, I + 26, none⟩)) W := kr
@[simp] theorem bxx : faT P T.b (pB B I) 14 W K = K (.pointer (some ⟨B, I + 27, none⟩)) W := kr
@[simp] theorem btz (x0 : Int) (x1 : Int) (c2_0 c2_1 c2_2 c2_3 c2_4 c2_5 c2_6 c2_7 : Value) (w : World) (K : KV) : jq P T.ar #[(0, (.int .i64 x0)), (3, (.int .u64 x1)), (6, (.agg #[c2_0, c2_1, c2_2, c2_3, c2_4, c2_5, c2_6, c2_7]))] w K = K (.agg #[(.int .i64 x0), u0, u0, (.int .u64 x1), u0, u0, i0, c2_0, c2_1, c2_2, c2_3, c2_4, c2_5, c2_6, c2_7, i0]) w := kr
@[simp] theorem bul : alT P T.ar W K = K (.pointer (some ⟨W.heap.size, 0, none⟩)) (W.alloc (.cells #[i0, u0, u0, u0, u0, u0, i0, u0, u0, u0, u0, u0, (.string ⟨#[]⟩), (.string ⟨#[]⟩), bF, i0] T.ar)) := kr
@[simp] theorem bud (b i : Nat) (c_0 c_1 c_2 c_3 c_4 c_5 c_6 c_7 c_8 c_9 c_10 c_11 c_12 c_13 c_14 c_15 : Value) (w : World) (K : KV) : stT P T.ar (pB b i) (.agg #[c_0, c_1, c_2, c_3, c_4, c_5, c_6, c_7, c_8, c_9, c_10, c_11, c_12, c_13, c_14, c_15]) w K = stN P b i [c_0, c_1, c_2, c_3, c_4, c_5, c_6, c_7, c_8, c_9, c_10, c_11, c_12, c_13, c_14, c_15] w K := kr
@[simp] theorem ccm : faT P T.b (pB B I) 4 W K = K (.pointer (some ⟨B, I + 16, none⟩)) W := kr
@[simp] theorem bxw : ldT P T.bo (pB B I) W K = ld1 P B I W K := kr
@[simp] theorem cbl : ldT P T.ar (pB B I) W K = ldN P 16 B I W K := kr
@[simp] theorem bwp (c0_0 c0_1 c0_2 c0_3 c0_4 c0_5 c0_6 c0_7 : Value) (w : World) (K : KV) : bsT P T.h 1 #[(0, (.agg #[c0_0, c0_1, c0_2, c0_3, c0_4, c0_5, c0_6, c0_7]))] w K = K (.slice (some ⟨w.heap.size, 0, none⟩) 1 1) (w.alloc (.cells #[c0_0, c0_1, c0_2, c0_3, c0_4, c0_5, c0_6, c0_7] T.j)) := kr
@[simp] theorem bxe (x0 : Int) (x1 : Int) (c2_0 c2_1 c2_2 c2_3 c2_4 c2_5 c2_6 c2_7 : Value) (x3 : Int) (w : World) (K : KV) : jq P T.ar #[(0, (.int .i64 x0)), (3, (.int .u64 x1)), (6, (.agg #[c2_0, c2_1, c2_2, c2_3, c2_4, c2_5, c2_6, c2_7])), (7, (.int .i64 x3))] w K = K (.agg #[(.int .i64 x0), u0, u0, (.int .u64 x1), u0, u0, i0, c2_0, c2_1, c2_2, c2_3, c2_4, c2_5, c2_6, c2_7, (.int .i64 x3)]) w := kr
@[simp] theorem buj (v : Value) (w : World) (K : KV) : taT P (.iface T.z v) T.bh T.z true w K = K (.tuple #[v, .bool true]) w := kr
@[simp] theorem bua : alT P T.z W K = K (.pointer (some ⟨W.heap.size, 0, none⟩)) (W.alloc (.cells #[u0, bF, nS] T.z)) := kr
@[simp] theorem cde (b i : Nat) (c_0 c_1 c_2 : Value) (w : World) (K : KV) : stT P T.z (pB b i) (.agg #[c_0, c_1, c_2]) w K = stN P b i [c_0, c_1, c_2] w K := kr
@[simp] theorem ccs : faT P T.z (pB B I) 2 W K = K (.pointer (some ⟨B, I + 2, none⟩)) W := kr
@[simp] theorem cdq (v : Value) (w : World) (K : KV) : taT P (.iface T.s v) T.bh T.s true w K = K (.tuple #[v, .bool true]) w := kr
@[simp] theorem byz : alT P T.s W K = K (.pointer (some ⟨W.heap.size, 0, none⟩)) (W.alloc (.cells #[nS] T.s)) := kr
@[simp] theorem cbk (b i : Nat) (c_0 : Value) (w : World) (K : KV) : stT P T.s (pB b i) (.agg #[c_0]) w K = stN P b i [c_0] w K := kr
@[simp] theorem byo : faT P T.s (pB B I) 0 W K = K (pB B I) W := kr
@[simp] theorem ccx (v : Value) (w : World) (K : KV) : taT P (.iface T.m v) T.bh T.m true w K = K (.tuple #[v, .bool true]) w := kr
@[simp] theorem bxi : alT P T.m W K = K (.pointer (some ⟨W.heap.size, 0, none⟩)) (W.alloc (.cells #[u0, u0, u0, bF, u0, u0, i0, bF] T.m)) := kr
@[simp] theorem cbp (b i : Nat) (c_0 c_1 c_2 c_3 c_4 c_5 c_6 c_7 : Value) (w : World) (K : KV) : stT P T.m (pB b i) (.agg #[c_0, c_1, c_2, c_3, c_4, c_5, c_6, c_7]) w K = stN P b i [c_0, c_1, c_2, c_3, c_4, c_5, c_6, c_7] w K := kr
@[simp] theorem bwb (v : Value) (w : World) (K : KV) : taT P (.iface T.ag v) T.bh T.ag true w K = K (.tuple #[v, .bool true]) w := kr
@[simp] theorem bvf : alT P T.ag W K = K (.pointer (some ⟨W.heap.size, 0, none⟩)) (W.alloc (.cells #[u0, i0] T.ag)) := kr
@[simp] theorem ccr (b i : Nat) (c_0 c_1 : Value) (w : World) (K : KV) : stT P T.ag (pB b i) (.agg #[c_0, c_1]) w K = stN P b i [c_0, c_1] w K := kr
@[simp] theorem bys : faT P T.ag (pB B I) 0 W K = K (pB B I) W := kr
@[simp] theorem cck : faT P T.ag (pB B I) 1 W K = K (.pointer (some ⟨B, I + 1, none⟩)) W := kr
@[simp] theorem bwd (v : Value) (w : World) (K : KV) : taT P (.iface T.ab v) T.bh T.ab true w K = K (.tuple #[v, .bool true]) w := kr
@[simp] theorem cdh : alT P T.ab W K = K (.pointer (some ⟨W.heap.size, 0, none⟩)) (W.alloc (.cells #[u0, nS] T.ab)) := kr
@[simp] theorem cbo (b i : Nat) (c_0 c_1 : Value) (w : World) (K : KV) : stT P T.ab (pB b i) (.agg #[c_0, c_1]) w K = stN P b i [c_0, c_1] w K := kr
@[simp] theorem bzd : ldT P T.ab (pB B I) W K = ldN P 2 B I W K := kr
@[simp] theorem byr : faT P T.b (pB B I) 11 W K = K (.pointer (some ⟨B, I + 24, none⟩)) W := kr
@[simp] theorem bva : ldT P T.ah (pB B I) W K = ld1 P B I W K := kr
@[simp] theorem cbd (b i : Nat) (p : Option Addr) (l c : Nat) (w : World) (K : KV) : stT P T.ah (pB b i) (.slice p l c) w K = st1 P b i (.slice p l c) w K := kr
@[simp] theorem bxh : faT P T.b (pB B I) 12 W K = K (.pointer (some ⟨B, I + 25, none⟩)) W := kr
@[simp] theorem bxk : ldT P T.bd (pB B I) W K = ld1 P B I W K := kr
@[simp] theorem buv (b i : Nat) (p : Option Addr) (l c : Nat) (w : World) (K : KV) : stT P T.bd (pB b i) (.slice p l c) w K = st1 P b i (.slice p l c) w K := kr
@[simp] theorem cbg : faT P T.f (pB B I) 4 W K = K (.pointer (some ⟨B, I + 4, none⟩)) W := kr
@[simp] theorem bzg : ldT P T.f (pB B I) W K = ldN P 13 B I W K := kr
@[simp] theorem bve (c0_0 c0_1 c0_2 c0_3 c0_4 c0_5 c0_6 c0_7 c0_8 c0_9 c0_10 c0_11 c0_12 : Value) (x1 : Int) (x2 : Int) (r3 : Option Nat) (r4 : Option Nat) (r5 : Option Nat) (w : World) (K : KV) : jq P T.b #[(0, (.agg #[c0_0, c0_1, c0_2, c0_3, c0_4, c0_5, c0_6, c0_7, c0_8, c0_9, c0_10, c0_11, c0_12])), (10, (.int .u64 x1)), (9, (.int .u64 x2)), (5, (.map r3)), (6, (.map r4)), (7, (.map r5))] w K = K (.agg #[c0_0, c0_1, c0_2, c0_3, c0_4, c0_5, c0_6, c0_7, c0_8, c0_9, c0_10, c0_11, c0_12, nS, nP, nP, nP, (.map r3), (.map r4), (.map r5), u0, u0, (.int .u64 x2), (.int .u64 x1), nS, nS, u0, u0]) w := kr
@[simp] theorem bvs : faT P T.f (pB B I) 2 W K = K (.pointer (some ⟨B, I + 2, none⟩)) W := kr
@[simp] theorem bts (b i : Nat) (p : Option Addr) (l c : Nat) (w : World) (K : KV) : stT P T.g (pB b i) (.slice p l c) w K = st1 P b i (.slice p l c) w K := kr
@[simp] theorem cdd : faT P T.f (pB B I) 12 W K = K (.pointer (some ⟨B, I + 12, none⟩)) W := kr
@[simp] theorem ccd : faT P T.b (pB B I) 1 W K = K (.pointer (some ⟨B, I + 13, none⟩)) W := kr
@[simp] theorem ccc (b i : Nat) (p : Option Addr) (l c : Nat) (w : World) (K : KV) : stT P T.ad (pB b i) (.slice p l c) w K = st1 P b i (.slice p l c) w K := kr
@[simp] theorem cdo : faT P T.f (pB B I) 1 W K = K (.pointer (some ⟨B, I + 1, none⟩)) W := kr
@[simp] theorem bzs : faT P T.f (pB B I) 5 W K = K (.pointer (some ⟨B, I + 5, none⟩)) W := kr
@[simp] theorem cab : faT P T.f (pB B I) 6 W K = K (.pointer (some ⟨B, I + 6, none⟩)) W := kr
@[simp] theorem bzo (b i : Nat) (p : Option Addr) (w : World) (K : KV) : stT P T.bb (pB b i) (.pointer p) w K = st1 P b i (.pointer p) w K := kr
@[simp] theorem cca : faT P T.f (pB B I) 9 W K = K (.pointer (some ⟨B, I + 9, none⟩)) W := kr
@[simp] theorem bvn : faT P T.f (pB B I) 10 W K = K (.pointer (some ⟨B, I + 10, none⟩)) W := kr
@[simp] theorem bzk : faT P T.f (pB B I) 7 W K = K (.pointer (some ⟨B, I + 7, none⟩)) W := kr
@[simp] theorem bwa (b i : Nat) (p : Option Addr) (w : World) (K : KV) : stT P T.aq (pB b i) (.pointer p) w K = st1 P b i (.pointer p) w K := kr
@[simp] theorem cbz : faT P T.f (pB B I) 11 W K = K (.pointer (some ⟨B, I + 11, none⟩)) W := kr
@[simp] theorem cbt (b i : Nat) (p : Option Addr) (w : World) (K : KV) : stT P T.bo (pB b i) (.pointer p) w K = st1 P b i (.pointer p) w K := kr
@[simp] theorem cad : alT P T.f W K = K (.pointer (some ⟨W.heap.size, 0, none⟩)) (W.alloc (.cells #[u0, u0, nS, u0, i0, u0, u0, u0, u0, i0, i0, i0, (.string ⟨#[]⟩)] T.f)) := kr
@[simp] theorem cax : faT P T.p (pB B I) 0 W K = K (pB B I) W := kr
@[simp] theorem cam : faT P T.p (pB B I) 3 W K = K (.pointer (some ⟨B, I + 3, none⟩)) W := kr
@[simp] theorem buf : faT P T.p (pB B I) 4 W K = K (.pointer (some ⟨B, I + 4, none⟩)) W := kr
@[simp] theorem bxp : faT P T.p (pB B I) 5 W K = K (.pointer (some ⟨B, I + 5, none⟩)) W := kr
@[simp] theorem btg : faT P T.p (pB B I) 6 W K = K (.pointer (some ⟨B, I + 6, none⟩)) W := kr
@[simp] theorem bxb : faT P T.p (pB B I) 7 W K = K (.pointer (some ⟨B, I + 7, none⟩)) W := kr
@[simp] theorem bza : faT P T.p (pB B I) 8 W K = K (.pointer (some ⟨B, I + 8, none⟩)) W := kr
@[simp] theorem bvo : faT P T.p (pB B I) 11 W K = K (.pointer (some ⟨B, I + 11, none⟩)) W := kr
@[simp] theorem bwm (x0 : Int) (x1 : Int) (p2 : Option Addr) (l2 c2 : Nat) (x3 : Int) (x4 : Int) (x5 : Int) (x6 : Int) (x7 : Int) (x8 : Int) (x9 : Int) (x10 : Int) (x11 : Int) (s12 : ByteArray) (w : World) (K : KV) : jq P T.f #[(0, (.int .u64 x0)), (1, (.int .u64 x1)), (2, (.slice p2 l2 c2)), (3, (.int .u64 x3)), (4, (.int .i64 x4)), (5, (.int .u64 x5)), (6, (.int .u64 x6)), (7, (.int .u64 x7)), (8, (.int .u64 x8)), (9, (.int .i64 x9)), (10, (.int .i64 x10)), (11, (.int .i64 x11)), (12, (.string s12))] w K = K (.agg #[(.int .u64 x0), (.int .u64 x1), (.slice p2 l2 c2), (.int .u64 x3), (.int .i64 x4), (.int .u64 x5), (.int .u64 x6), (.int .u64 x7), (.int .u64 x8), (.int .i64 x9), (.int .i64 x10), (.int .i64 x11), (.string s12)]) w := kr
@[simp] theorem buc (b i : Nat) (c_0 c_1 c_2 c_3 c_4 c_5 c_6 c_7 c_8 c_9 c_10 c_11 c_12 : Value) (w : World) (K : KV) : stT P T.f (pB b i) (.agg #[c_0, c_1, c_2, c_3, c_4, c_5, c_6, c_7, c_8, c_9, c_10, c_11, c_12]) w K = stN P b i [c_0, c_1, c_2, c_3, c_4, c_5, c_6, c_7, c_8, c_9, c_10, c_11, c_12] w K := kr
@[simp] theorem bwh (x0 : Int) (x1 : Int) (p2 : Option Addr) (l2 c2 : Nat) (x3 : Int) (x4 : Int) (x5 : Int) (x6 : Int) (x7 : Int) (x8 : Int) (x9 : Int) (x10 : Int) (x11 : Int) (s12 : ByteArray) (w : World) (K : KV) : jq P T.p #[(0, (.int .u64 x0)), (1, (.int .u64 x1)), (2, (.slice p2 l2 c2)), (3, (.int .u64 x3)), (4, (.int .i64 x4)), (5, (.int .u64 x5)), (6, (.int .u64 x6)), (7, (.int .u64 x7)), (8, (.int .u64 x8)), (9, (.int .i64 x9)), (10, (.int .i64 x10)), (11, (.int .i64 x11)), (12, (.string s12))] w K = K (.agg #[(.int .u64 x0), (.int .u64 x1), (.slice p2 l2 c2), (.int .u64 x3), (.int .i64 x4), (.int .u64 x5), (.int .u64 x6), (.int .u64 x7), (.int .u64 x8), (.int .i64 x9), (.int .i64 x10), (.int .i64 x11), (.string s12)]) w := kr
@[simp] theorem bvm : jq P T.j #[] W K = K (.agg #[u0, u0, u0, u0, u0, (.string ⟨#[]⟩), (.string ⟨#[]⟩), bF]) W := kr
@[simp] theorem cak : ldT P T.be (pB B I) W K = ld1 P B I W K := kr
@[simp] theorem btn : faT P T.c (pB B I) 3 W K = K (.pointer (some ⟨B, I + 4, none⟩)) W := kr
@[simp] theorem btj : jq P T.e #[] W K = K (.agg #[u0, u0]) W := kr
@[simp] theorem bye : faT P T.e (pB B I) 0 W K = K (pB B I) W := kr
@[simp] theorem bzu : faT P T.c (pB B I) 5 W K = K (.pointer (some ⟨B, I + 7, none⟩)) W := kr
@[simp] theorem btr : ldT P T.bs (pB B I) W K = ld1 P B I W K := kr
@[simp] theorem bum : nq P T.bi = true := kr
@[simp] theorem caa : szE P T.bi = 1 := kr
@[simp] theorem byu : faT P T.j (pB B I) 3 W K = K (.pointer (some ⟨B, I + 3, none⟩)) W := kr
@[simp] theorem bxl : faT P T.j (pB B I) 4 W K = K (.pointer (some ⟨B, I + 4, none⟩)) W := kr
@[simp] theorem byd : bsT P T.t 0 #[] W K = K (.slice (some ⟨W.heap.size, 0, none⟩) 0 0) (W.alloc (.cells #[] T.be)) := kr
@[simp] theorem bvq : faT P T.j (pB B I) 2 W K = K (.pointer (some ⟨B, I + 2, none⟩)) W := kr
@[simp] theorem ccg (x0 : Int) (x1 : Int) (x2 : Int) (x3 : Int) (x4 : Int) (w : World) (K : KV) : bsT P T.g 5 #[(0, (.int .u64 x0)), (1, (.int .u64 x1)), (2, (.int .u64 x2)), (3, (.int .u64 x3)), (4, (.int .u64 x4))] w K = K (.slice (some ⟨w.heap.size, 0, none⟩) 5 5) (w.alloc (.cells #[(.int .u64 x0), (.int .u64 x1), (.int .u64 x2), (.int .u64 x3), (.int .u64 x4)] T.a)) := kr
@[simp] theorem cac : faT P T.j (pB B I) 7 W K = K (.pointer (some ⟨B, I + 7, none⟩)) W := kr
@[simp] theorem cbb (x0 : Int) (w : World) (K : KV) : bsT P T.t 1 #[(0, (.int .u8 x0))] w K = K (.slice (some ⟨w.heap.size, 0, none⟩) 1 1) (w.alloc (.cells #[(.int .u8 x0)] T.be)) := kr
@[simp] theorem bww : faT P T.f (pB B I) 3 W K = K (.pointer (some ⟨B, I + 3, none⟩)) W := kr
@[simp] theorem byq (rx ry : Operand) (a : Addr) (w : World) (K : KV) : iy P .eql T.bb rx ry (.pointer (some a)) nP w K = K bF w := kr
@[simp] theorem bty : faT P T.q (pB B I) 3 W K = K (.pointer (some ⟨B, I + 3, none⟩)) W := kr
@[simp] theorem cdb : faT P T.q (pB B I) 4 W K = K (.pointer (some ⟨B, I + 4, none⟩)) W := kr
@[simp] theorem bvr : faT P T.q (pB B I) 1 W K = K (.pointer (some ⟨B, I + 1, none⟩)) W := kr
@[simp] theorem bzv : faT P T.q (pB B I) 6 W K = K (.pointer (some ⟨B, I + 6, none⟩)) W := kr
@[simp] theorem bus : ldT P T.i (pB B I) W K = ldN P 3 B I W K := kr
@[simp] theorem bst : alT P T.i W K = K (.pointer (some ⟨W.heap.size, 0, none⟩)) (W.alloc (.cells #[u0, u0, i0] T.i)) := kr
@[simp] theorem bth (b i : Nat) (c_0 c_1 c_2 : Value) (w : World) (K : KV) : stT P T.i (pB b i) (.agg #[c_0, c_1, c_2]) w K = stN P b i [c_0, c_1, c_2] w K := kr
@[simp] theorem cby : faT P T.i (pB B I) 0 W K = K (pB B I) W := kr
@[simp] theorem bwn : faT P T.q (pB B I) 0 W K = K (pB B I) W := kr
@[simp] theorem but : faT P T.i (pB B I) 2 W K = K (.pointer (some ⟨B, I + 2, none⟩)) W := kr
@[simp] theorem bxd (x0 : Int) (x1 : Int) (c2_0 c2_1 c2_2 c2_3 c2_4 c2_5 c2_6 c2_7 c2_8 c2_9 c2_10 : Value) (w : World) (K : KV) : jq P T.bj #[(0, (.int .u64 x0)), (1, (.int .u64 x1)), (2, (.agg #[c2_0, c2_1, c2_2, c2_3, c2_4, c2_5, c2_6, c2_7, c2_8, c2_9, c2_10]))] w K = K (.agg #[(.int .u64 x0), (.int .u64 x1), c2_0, c2_1, c2_2, c2_3, c2_4, c2_5, c2_6, c2_7, c2_8, c2_9, c2_10]) w := kr
@[simp] theorem bwc (c0_0 c0_1 c0_2 c0_3 c0_4 c0_5 c0_6 c0_7 c0_8 c0_9 c0_10 c0_11 c0_12 : Value) (w : World) (K : KV) : bsT P T.ah 1 #[(0, (.agg #[c0_0, c0_1, c0_2, c0_3, c0_4, c0_5, c0_6, c0_7, c0_8, c0_9, c0_10, c0_11, c0_12]))] w K = K (.slice (some ⟨w.heap.size, 0, none⟩) 1 1) (w.alloc (.cells #[c0_0, c0_1, c0_2, c0_3, c0_4, c0_5, c0_6, c0_7, c0_8, c0_9, c0_10, c0_11, c0_12] T.bj)) := kr
@[simp] theorem cda (rx ry : Operand) (a : Addr) (w : World) (K : KV) : iy P .eql T.aq rx ry (.pointer (some a)) nP w K = K bF w := kr
@[simp] theorem bzi : faT P T.ap (pB B I) 4 W K = K (.pointer (some ⟨B, I + 5, none⟩)) W := kr
@[simp] theorem cbj : ldT P T.l (pB B I) W K = ld1 P B I W K := kr
theorem mt.l:ot P T.l .u64 T.bq nP:=ot.mk' (key:=T.a) (by kernel_rfl) (by kernel_rfl) (by kernel_rfl)
@[simp] theorem bzf (rx ry : Operand)  (w : World) (K : KV) : iy P .eql T.bq rx ry nP nP w K = K bY w := kr
@[simp] theorem bvw (rx ry : Operand) (a : Addr) (w : World) (K : KV) : iy P .eql T.bq rx ry (.pointer (some a)) nP w K = K bF w := kr
@[simp] theorem bzq : faT P T.bc (pB B I) 0 W K = K (pB B I) W := kr
@[simp] theorem bsv : faT P T.ap (pB B I) 0 W K = K (pB B I) W := kr
theorem mt.ax:ot P T.ax .u64 T.a u0:=ot.mk' (key:=T.a) (by kernel_rfl) (by kernel_rfl) (by kernel_rfl)
@[simp] theorem bta : faT P T.b (pB B I) 6 W K = K (.pointer (some ⟨B, I + 18, none⟩)) W := kr
@[simp] theorem car : ldT P T.x (pB B I) W K = ld1 P B I W K := kr
theorem mt.x:ot P T.x .u64 T.e (.agg #[u0,u0]):=ot.mk' (key:=T.a) (by kernel_rfl) (by kernel_rfl) (by kernel_rfl)
@[simp] theorem bvp (x0 : Int) (x1 : Int) (w : World) (K : KV) : jq P T.e #[(0, (.int .u64 x0)), (1, (.int .u64 x1))] w K = K (.agg #[(.int .u64 x0), (.int .u64 x1)]) w := kr
@[simp] theorem cdg (x0 : Int) (x1 : Int) (c2_0 c2_1 : Value) (p3 : Option Addr) (l3 c3 : Nat) (w : World) (K : KV) : jq P T.c #[(0, (.int .i64 x0)), (1, (.int .u64 x1)), (2, (.agg #[c2_0, c2_1])), (6, (.slice p3 l3 c3))] w K = K (.agg #[(.int .i64 x0), (.int .u64 x1), c2_0, c2_1, u0, u0, i0, bF, (.slice p3 l3 c3), nS, nS]) w := kr
@[simp] theorem ccb : faT P T.q (pB B I) 5 W K = K (.pointer (some ⟨B, I + 5, none⟩)) W := kr
@[simp] theorem caz (b i : Nat) (bo : Bool) (w : World) (K : KV) : stT P T.bs (pB b i) (.bool bo) w K = st1 P b i (.bool bo) w K := kr
@[simp] theorem byn (p0 : Option Addr) (l0 c0 : Nat) (w : World) (K : KV) : jq P T.av #[(0, (.slice p0 l0 c0))] w K = K (.agg #[(.slice p0 l0 c0), i0]) w := kr
@[simp] theorem caf (x0 : Int) (x1 : Int) (x2 : Int) (x3 : Int) (x4 : Int) (w : World) (K : KV) : jq P T.j #[(0, (.int .u64 x0)), (1, (.int .u64 x1)), (2, (.int .u64 x2)), (3, (.int .u64 x3)), (4, (.int .u64 x4))] w K = K (.agg #[(.int .u64 x0), (.int .u64 x1), (.int .u64 x2), (.int .u64 x3), (.int .u64 x4), (.string ⟨#[]⟩), (.string ⟨#[]⟩), bF]) w := kr
@[simp] theorem bux : faT P T.av (pB B I) 1 W K = K (.pointer (some ⟨B, I + 1, none⟩)) W := kr
@[simp] theorem byb : ldT P T.aa (pB B I) W K = ld1 P B I W K := kr
@[simp] theorem bzm (b i : Nat) (x : Int) (w : World) (K : KV) : stT P T.aa (pB b i) (.int .i64 x) w K = st1 P b i (.int .i64 x) w K := kr
@[simp] theorem buk : faT P T.av (pB B I) 0 W K = K (pB B I) W := kr
@[simp] theorem cct (rx ry : Operand) (a : Addr) (w : World) (K : KV) : iy P .eql T.bo rx ry (.pointer (some a)) nP w K = K bF w := kr
@[simp] theorem byx : faT P T.ay (pB B I) 3 W K = K (.pointer (some ⟨B, I + 66, none⟩)) W := kr
@[simp] theorem btw : ldT P T.al (pB B I) W K = ld1 P B I W K := kr
theorem mt.al:ot P T.al .u64 T.ae i0:=ot.mk' (key:=T.a) (by kernel_rfl) (by kernel_rfl) (by kernel_rfl)
@[simp] theorem bvg : faT P T.ar (pB B I) 1 W K = K (.pointer (some ⟨B, I + 1, none⟩)) W := kr
@[simp] theorem bvt : faT P T.ar (pB B I) 2 W K = K (.pointer (some ⟨B, I + 2, none⟩)) W := kr
@[simp] theorem cag (c0_0 c0_1 c0_2 c0_3 c0_4 c0_5 c0_6 c0_7 c0_8 c0_9 c0_10 c0_11 c0_12 c0_13 c0_14 c0_15 : Value) (w : World) (K : KV) : bsT P T.bd 1 #[(0, (.agg #[c0_0, c0_1, c0_2, c0_3, c0_4, c0_5, c0_6, c0_7, c0_8, c0_9, c0_10, c0_11, c0_12, c0_13, c0_14, c0_15]))] w K = K (.slice (some ⟨w.heap.size, 0, none⟩) 1 1) (w.alloc (.cells #[c0_0, c0_1, c0_2, c0_3, c0_4, c0_5, c0_6, c0_7, c0_8, c0_9, c0_10, c0_11, c0_12, c0_13, c0_14, c0_15] T.ar)) := kr
@[simp] theorem bug : faT P T.ap (pB B I) 1 W K = K (.pointer (some ⟨B, I + 2, none⟩)) W := kr
@[simp] theorem bwo : jq P T.bc #[] W K = K (.agg #[nS, bF]) W := kr
@[simp] theorem bxy : faT P T.ap (pB B I) 3 W K = K (.pointer (some ⟨B, I + 4, none⟩)) W := kr
@[simp] theorem bvj : faT P T.ap (pB B I) 2 W K = K (.pointer (some ⟨B, I + 3, none⟩)) W := kr
@[simp] theorem cat : faT P T.bc (pB B I) 1 W K = K (.pointer (some ⟨B, I + 1, none⟩)) W := kr
@[simp] theorem bsz (b i : Nat) (p : Option Addr) (l c : Nat) (w : World) (K : KV) : stT P T.h (pB b i) (.slice p l c) w K = st1 P b i (.slice p l c) w K := kr
@[simp] theorem bxs (b i : Nat) (p : Option Addr) (l c : Nat) (w : World) (K : KV) : stT P T.k (pB b i) (.slice p l c) w K = st1 P b i (.slice p l c) w K := kr
@[simp] theorem bxt : faT P T.q (pB B I) 7 W K = K (.pointer (some ⟨B, I + 7, none⟩)) W := kr
@[simp] theorem buo : ldT P T.ax (pB B I) W K = ld1 P B I W K := kr
@[simp] theorem cdn : faT P T.i (pB B I) 1 W K = K (.pointer (some ⟨B, I + 1, none⟩)) W := kr
@[simp] theorem buw (x0 : Int) (x1 : Int) (x2 : Int) (w : World) (K : KV) : jq P T.c #[(0, (.int .i64 x0)), (1, (.int .u64 x1)), (4, (.int .i64 x2))] w K = K (.agg #[(.int .i64 x0), (.int .u64 x1), u0, u0, u0, u0, (.int .i64 x2), bF, nS, nS, nS]) w := kr
@[simp] theorem byv : alT P T.c W K = K (.pointer (some ⟨W.heap.size, 0, none⟩)) (W.alloc (.cells #[i0, u0, u0, u0, u0, u0, i0, bF, nS, nS, nS] T.c)) := kr
@[simp] theorem bzw (b i : Nat) (c_0 c_1 c_2 c_3 c_4 c_5 c_6 c_7 c_8 c_9 c_10 : Value) (w : World) (K : KV) : stT P T.c (pB b i) (.agg #[c_0, c_1, c_2, c_3, c_4, c_5, c_6, c_7, c_8, c_9, c_10]) w K = stN P b i [c_0, c_1, c_2, c_3, c_4, c_5, c_6, c_7, c_8, c_9, c_10] w K := kr
@[simp] theorem bvy (x0 : Int) (x1 : Int) (x2 : Int) (w : World) (K : KV) : jq P T.ar #[(0, (.int .i64 x0)), (3, (.int .u64 x1)), (5, (.int .i64 x2))] w K = K (.agg #[(.int .i64 x0), u0, u0, (.int .u64 x1), u0, u0, (.int .i64 x2), u0, u0, u0, u0, u0, (.string ⟨#[]⟩), (.string ⟨#[]⟩), bF, i0]) w := kr
@[simp] theorem byy : faT P T.ab (pB B I) 0 W K = K (pB B I) W := kr
@[simp] theorem cco (x0 : Int) (x1 : Int) (w : World) (K : KV) : jq P T.au #[(0, (.int .u64 x0)), (1, (.int .u64 x1))] w K = K (.agg #[(.int .u64 x0), (.int .u64 x1)]) w := kr
@[simp] theorem cbe : nq P T.an = true := kr
@[simp] theorem cdc : szE P T.an = 2 := kr
theorem et.an:nj P T.an T.au 2 16:=nj.mk' (by kernel_rfl) (by kernel_rfl) (by kernel_rfl)
@[simp] theorem bxm (rx ry : Operand) (l c : Nat) (w : World) (K : KV) : iy P .eql T.g rx ry (.slice none l c) nS w K = K bY w := kr
@[simp] theorem bzp (rx ry : Operand) (a : Addr) (l c : Nat) (w : World) (K : KV) : iy P .eql T.g rx ry (.slice (some a) l c) nS w K = K bF w := kr
@[simp] theorem bzx : bsT P T.g 0 #[] W K = K (.slice (some ⟨W.heap.size, 0, none⟩) 0 0) (W.alloc (.cells #[] T.a)) := kr
@[simp] theorem bxc : alT P T.ad W K = K (.pointer (some ⟨W.heap.size, 0, none⟩)) (W.alloc (.cells #[nS] T.ad)) := kr
@[simp] theorem bvv : alT P T.aa W K = K (.pointer (some ⟨W.heap.size, 0, none⟩)) (W.alloc (.cells #[i0] T.aa)) := kr
@[simp] theorem bwy : alT P T.r W K = K (.pointer (some ⟨W.heap.size, 0, none⟩)) (W.alloc (.cells #[bF, (.string ⟨#[]⟩), u0, (.string ⟨#[]⟩)] T.r)) := kr
@[simp] theorem cbv (b i : Nat) (c_0 c_1 c_2 c_3 : Value) (w : World) (K : KV) : stT P T.r (pB b i) (.agg #[c_0, c_1, c_2, c_3]) w K = stN P b i [c_0, c_1, c_2, c_3] w K := kr
@[simp] theorem buq : ldT P T.ad (pB B I) W K = ld1 P B I W K := kr
@[simp] theorem cbr : ldT P T.r (pB B I) W K = ldN P 4 B I W K := kr
@[simp] theorem bvx : nq P T.ad = true := kr
@[simp] theorem btc : szE P T.ad = 4 := kr
theorem et.ad:nj P T.ad T.r 4 48:=nj.mk' (by kernel_rfl) (by kernel_rfl) (by kernel_rfl)
@[simp] theorem ccn (c0_0 c0_1 c0_2 c0_3 : Value) (w : World) (K : KV) : bsT P T.ad 1 #[(0, (.agg #[c0_0, c0_1, c0_2, c0_3]))] w K = K (.slice (some ⟨w.heap.size, 0, none⟩) 1 1) (w.alloc (.cells #[c0_0, c0_1, c0_2, c0_3] T.r)) := kr
@[simp] theorem bxv (x0 : Int) (x1 : Int) (x2 : Int) (x3 : Int) (x4 : Int) (p5 : Option Addr) (l5 c5 : Nat) (r6 : Option Nat) (w : World) (K : KV) : jq P T.q #[(0, (.int .u64 x0)), (1, (.int .u64 x1)), (2, (.int .u64 x2)), (3, (.int .u64 x3)), (4, (.int .u64 x4)), (6, (.slice p5 l5 c5)), (7, (.map r6))] w K = K (.agg #[(.int .u64 x0), (.int .u64 x1), (.int .u64 x2), (.int .u64 x3), (.int .u64 x4), bF, (.slice p5 l5 c5), (.map r6)]) w := kr
@[simp] theorem bsm (x0 : Int) (x1 : Int) (x2 : Int) (r3 : Option Nat) (w : World) (K : KV) : jq P T.ap #[(1, (.int .i64 x0)), (2, (.int .i64 x1)), (3, (.int .u64 x2)), (4, (.map r3))] w K = K (.agg #[nS, (.map none), (.int .i64 x0), (.int .i64 x1), (.int .u64 x2), (.map r3)]) w := kr
@[simp] theorem bsn (x0 : Int) (r1 : Option Nat) (w : World) (K : KV) : jq P T.ay #[(2, (.int .i64 x0)), (3, (.map r1))] w K = K (.agg #[u0, u0, u0, u0, u0, u0, u0, u0, u0, u0, u0, u0, u0, u0, u0, u0, u0, u0, u0, u0, u0, u0, u0, u0, u0, u0, u0, u0, u0, u0, u0, u0, u0, u0, u0, u0, u0, u0, u0, u0, u0, u0, u0, u0, u0, u0, u0, u0, u0, u0, u0, u0, u0, u0, u0, u0, u0, u0, u0, u0, u0, u0, u0, u0, i0, (.int .i64 x0), (.map r1)]) w := kr
@[simp] theorem btu (b i : Nat) (x : Int) (w : World) (K : KV) : stT P T.ae (pB b i) (.int .i64 x) w K = st1 P b i (.int .i64 x) w K := kr
@[simp] theorem btk : nq P T.bt = true := kr
@[simp] theorem cay : szE P T.bt = 1 := kr
theorem et.bt:nj P T.bt T.bk 1 4:=nj.mk' (by kernel_rfl) (by kernel_rfl) (by kernel_rfl)
@[simp] theorem cch : ldT P T.bk (pB B I) W K = ld1 P B I W K := kr
@[simp] theorem bvk : faT P T.q (pB B I) 2 W K = K (.pointer (some ⟨B, I + 2, none⟩)) W := kr
@[simp] theorem bzj (rx ry : Operand) (l c : Nat) (w : World) (K : KV) : iy P .eql T.k rx ry (.slice none l c) nS w K = K bY w := kr
@[simp] theorem bzr (rx ry : Operand) (a : Addr) (l c : Nat) (w : World) (K : KV) : iy P .eql T.k rx ry (.slice (some a) l c) nS w K = K bF w := kr
@[simp] theorem btd : bsT P T.k 0 #[] W K = K (.slice (some ⟨W.heap.size, 0, none⟩) 0 0) (W.alloc (.cells #[] T.i)) := kr
@[simp] theorem bvd (rx ry : Operand) (a : Addr) (w : World) (K : KV) : iy P .eql T.bx rx ry (.pointer (some a)) nP w K = K bF w := kr
@[simp] theorem bsw : faT P T.bg (pB B I) 1 W K = K (.pointer (some ⟨B, I + 1, none⟩)) W := kr
@[simp] theorem bwg : ldT P T.o (pB B I) W K = ld1 P B I W K := kr
theorem mt.o:ot P T.o .u64 T.ac nP:=ot.mk' (key:=T.a) (by kernel_rfl) (by kernel_rfl) (by kernel_rfl)
@[simp] theorem byp (rx ry : Operand)  (w : World) (K : KV) : iy P .eql T.ac rx ry nP nP w K = K bY w := kr
@[simp] theorem cdm (rx ry : Operand) (a : Addr) (w : World) (K : KV) : iy P .eql T.ac rx ry (.pointer (some a)) nP w K = K bF w := kr
@[simp] theorem byi : faT P T.bg (pB B I) 0 W K = K (pB B I) W := kr
@[simp] theorem cci (v : Value) (w : World) (K : KV) : th P T.bf v w K = K (.iface T.bf v) w := kr
@[simp] theorem bzb : aeu P T.bf "Len" F.fq false = true := kr
@[simp] theorem bzt : aeu P T.bf "Less" F.dm false = true := kr
@[simp] theorem cbu : aeu P T.bf "Pop" F.ez true = true := kr
@[simp] theorem bto : aeu P T.bf "Push" F.en true = true := kr
@[simp] theorem bwf : aeu P T.bf "Swap" F.dn false = true := kr
@[simp] theorem cba : faT P T.aw (pB B I) 2 W K = K (.pointer (some ⟨B, I + 2, none⟩)) W := kr
@[simp] theorem bvc : faT P T.aw (pB B I) 1 W K = K (.pointer (some ⟨B, I + 1, none⟩)) W := kr
@[simp] theorem caj (rx ry : Operand)  (w : World) (K : KV) : iy P .eql T.o rx ry (.map none) (.map none) w K = K bY w := kr
@[simp] theorem bxz (rx ry : Operand) (r : Nat) (w : World) (K : KV) : iy P .eql T.o rx ry (.map (some r)) (.map none) w K = K bF w := kr
@[simp] theorem cai (b i : Nat) (r : Option Nat) (w : World) (K : KV) : stT P T.o (pB b i) (.map r) w K = st1 P b i (.map r) w K := kr
@[simp] theorem bsp (x0 : Int) (x1 : Int) (w : World) (K : KV) : jq P T.aw #[(0, (.int .u64 x0)), (1, (.int .u64 x1))] w K = K (.agg #[(.int .u64 x0), (.int .u64 x1), i0]) w := kr
@[simp] theorem byh (v : Value) (w : World) (K : KV) : th P T.ac v w K = K (.iface T.ac v) w := kr
@[simp] theorem bze : faT P T.b (pB B I) 8 W K = K (.pointer (some ⟨B, I + 20, none⟩)) W := kr
@[simp] theorem ccy : faT P T.u (pB B I) 4 W K = K (.pointer (some ⟨B, I + 5, none⟩)) W := kr
@[simp] theorem cdi : faT P T.u (pB B I) 7 W K = K (.pointer (some ⟨B, I + 9, none⟩)) W := kr
@[simp] theorem bxn : jq P T.c #[] W K = K (.agg #[i0, u0, u0, u0, u0, u0, i0, bF, nS, nS, nS]) W := kr
@[simp] theorem bub : faT P T.u (pB B I) 0 W K = K (pB B I) W := kr
@[simp] theorem bzl : faT P T.u (pB B I) 1 W K = K (.pointer (some ⟨B, I + 1, none⟩)) W := kr
@[simp] theorem btt (x0 : Int) (x1 : Int) (c2_0 c2_1 : Value) (w : World) (K : KV) : jq P T.c #[(0, (.int .i64 x0)), (1, (.int .u64 x1)), (2, (.agg #[c2_0, c2_1]))] w K = K (.agg #[(.int .i64 x0), (.int .u64 x1), c2_0, c2_1, u0, u0, i0, bF, nS, nS, nS]) w := kr
@[simp] theorem bwr : faT P T.u (pB B I) 2 W K = K (.pointer (some ⟨B, I + 3, none⟩)) W := kr
@[simp] theorem ccl : faT P T.u (pB B I) 3 W K = K (.pointer (some ⟨B, I + 4, none⟩)) W := kr
@[simp] theorem cbi : faT P T.u (pB B I) 5 W K = K (.pointer (some ⟨B, I + 6, none⟩)) W := kr
@[simp] theorem caw : ldT P T.am (pB B I) W K = ld1 P B I W K := kr
theorem mt.am:ot P T.am .u64 T.bs bF:=ot.mk' (key:=T.a) (by kernel_rfl) (by kernel_rfl) (by kernel_rfl)
@[simp] theorem bya (rx ry : Operand) (l c : Nat) (w : World) (K : KV) : iy P .eql T.h rx ry (.slice none l c) nS w K = K bY w := kr
@[simp] theorem bte (rx ry : Operand) (a : Addr) (l c : Nat) (w : World) (K : KV) : iy P .eql T.h rx ry (.slice (some a) l c) nS w K = K bF w := kr
@[simp] theorem cal : bsT P T.h 0 #[] W K = K (.slice (some ⟨W.heap.size, 0, none⟩) 0 0) (W.alloc (.cells #[] T.j)) := kr
@[simp] theorem bwl : nq P T.bv = true := kr
@[simp] theorem bsl : szE P T.bv = 1 := kr
@[simp] theorem bur (x0 : Int) (x1 : Int) (w : World) (K : KV) : bsT P T.bv 2 #[(0, (.int .i64 x0)), (1, (.int .i64 x1))] w K = K (.slice (some ⟨w.heap.size, 0, none⟩) 2 2) (w.alloc (.cells #[(.int .i64 x0), (.int .i64 x1)] T.aa)) := kr
@[simp] theorem ccu (rx ry : Operand) (l c : Nat) (w : World) (K : KV) : iy P .eql T.t rx ry (.slice none l c) nS w K = K bY w := kr
@[simp] theorem cav (rx ry : Operand) (a : Addr) (l c : Nat) (w : World) (K : KV) : iy P .eql T.t rx ry (.slice (some a) l c) nS w K = K bF w := kr
@[simp] theorem cbm : nq P T.bn = true := kr
@[simp] theorem btb : szE P T.bn = 1 := kr
@[simp] theorem bsq (p0 : Option Addr) (l0 c0 : Nat) (p1 : Option Addr) (l1 c1 : Nat) (w : World) (K : KV) : bsT P T.bn 2 #[(0, (.slice p0 l0 c0)), (1, (.slice p1 l1 c1))] w K = K (.slice (some ⟨w.heap.size, 0, none⟩) 2 2) (w.alloc (.cells #[(.slice p0 l0 c0), (.slice p1 l1 c1)] T.h)) := kr
@[simp] theorem byk (x0 : Int) (x1 : Int) (x2 : Int) (c3_0 c3_1 c3_2 c3_3 c3_4 c3_5 c3_6 c3_7 : Value) (w : World) (K : KV) : jq P T.ar #[(0, (.int .i64 x0)), (3, (.int .u64 x1)), (5, (.int .i64 x2)), (6, (.agg #[c3_0, c3_1, c3_2, c3_3, c3_4, c3_5, c3_6, c3_7]))] w K = K (.agg #[(.int .i64 x0), u0, u0, (.int .u64 x1), u0, u0, (.int .i64 x2), c3_0, c3_1, c3_2, c3_3, c3_4, c3_5, c3_6, c3_7, i0]) w := kr
@[simp] theorem byw (rx ry : Operand) (ti : TypeId) (v : Value) (w : World) (K : KV) : iy P .eql T.bh rx ry (.iface ti v) .nilIface w K = K bF w := kr
@[simp] theorem bvh (x0 : Int) (bo1 : Bool) (p2 : Option Addr) (l2 c2 : Nat) (w : World) (K : KV) : jq P T.z #[(0, (.int .u64 x0)), (1, (.bool bo1)), (2, (.slice p2 l2 c2))] w K = K (.agg #[(.int .u64 x0), (.bool bo1), (.slice p2 l2 c2)]) w := kr
@[simp] theorem bui (v : Value) (w : World) (K : KV) : th P T.z v w K = K (.iface T.z v) w := kr
@[simp] theorem bwu (p0 : Option Addr) (l0 c0 : Nat) (w : World) (K : KV) : jq P T.s #[(0, (.slice p0 l0 c0))] w K = K (.agg #[(.slice p0 l0 c0)]) w := kr
@[simp] theorem bxu (v : Value) (w : World) (K : KV) : th P T.s v w K = K (.iface T.s v) w := kr
@[simp] theorem ccf (x0 : Int) (c1_0 c1_1 : Value) (x2 : Int) (w : World) (K : KV) : jq P T.aj #[(0, (.int .u64 x0)), (1, (.agg #[c1_0, c1_1])), (2, (.int .i64 x2))] w K = K (.agg #[(.int .u64 x0), c1_0, c1_1, (.int .i64 x2)]) w := kr
@[simp] theorem caq (v : Value) (w : World) (K : KV) : th P T.aj v w K = K (.iface T.aj v) w := kr
@[simp] theorem cao (x0 : Int) (c1_0 c1_1 : Value) (bo2 : Bool) (c3_0 c3_1 : Value) (x4 : Int) (bo5 : Bool) (w : World) (K : KV) : jq P T.m #[(0, (.int .u64 x0)), (1, (.agg #[c1_0, c1_1])), (2, (.bool bo2)), (3, (.agg #[c3_0, c3_1])), (4, (.int .i64 x4)), (5, (.bool bo5))] w K = K (.agg #[(.int .u64 x0), c1_0, c1_1, (.bool bo2), c3_0, c3_1, (.int .i64 x4), (.bool bo5)]) w := kr
@[simp] theorem cbn (v : Value) (w : World) (K : KV) : th P T.m v w K = K (.iface T.m v) w := kr
@[simp] theorem cbq (x0 : Int) (x1 : Int) (w : World) (K : KV) : jq P T.ag #[(0, (.int .u64 x0)), (1, (.int .i64 x1))] w K = K (.agg #[(.int .u64 x0), (.int .i64 x1)]) w := kr
@[simp] theorem ccp (v : Value) (w : World) (K : KV) : th P T.ag v w K = K (.iface T.ag v) w := kr
@[simp] theorem bzc (x0 : Int) (c1_0 c1_1 : Value) (p2 : Option Addr) (l2 c2 : Nat) (w : World) (K : KV) : jq P T.w #[(0, (.int .u64 x0)), (1, (.agg #[c1_0, c1_1])), (2, (.slice p2 l2 c2))] w K = K (.agg #[(.int .u64 x0), c1_0, c1_1, (.slice p2 l2 c2)]) w := kr
@[simp] theorem cbw (v : Value) (w : World) (K : KV) : th P T.w v w K = K (.iface T.w v) w := kr
@[simp] theorem buu (x0 : Int) (p1 : Option Addr) (l1 c1 : Nat) (w : World) (K : KV) : jq P T.ab #[(0, (.int .u64 x0)), (1, (.slice p1 l1 c1))] w K = K (.agg #[(.int .u64 x0), (.slice p1 l1 c1)]) w := kr
@[simp] theorem btv (v : Value) (w : World) (K : KV) : th P T.ab v w K = K (.iface T.ab v) w := kr
@[simp] theorem bss : nq P T.bl = true := kr
@[simp] theorem cae : szE P T.bl = 1 := kr
@[simp] theorem bwj (p0 : Option Addr) (l0 c0 : Nat) (p1 : Option Addr) (l1 c1 : Nat) (w : World) (K : KV) : bsT P T.bl 2 #[(0, (.slice p0 l0 c0)), (1, (.slice p1 l1 c1))] w K = K (.slice (some ⟨w.heap.size, 0, none⟩) 2 2) (w.alloc (.cells #[(.slice p0 l0 c0), (.slice p1 l1 c1)] T.k)) := kr
theorem mt.ak:ot P T.ak .u64 T.i (.agg #[u0,u0,i0]):=ot.mk' (key:=T.a) (by kernel_rfl) (by kernel_rfl) (by kernel_rfl)
@[simp] theorem bsx : ldT P T.m (pB B I) W K = ldN P 8 B I W K := kr
@[simp] theorem bzh : faT P T.m (pB B I) 2 W K = K (.pointer (some ⟨B, I + 3, none⟩)) W := kr
@[simp] theorem buy : faT P T.m (pB B I) 3 W K = K (.pointer (some ⟨B, I + 4, none⟩)) W := kr
@[simp] theorem cbs : faT P T.m (pB B I) 4 W K = K (.pointer (some ⟨B, I + 6, none⟩)) W := kr
@[simp] theorem bsy : faT P T.u (pB B I) 6 W K = K (.pointer (some ⟨B, I + 7, none⟩)) W := kr
@[simp] theorem ccw : ldT P T.ao (pB B I) W K = ld1 P B I W K := kr
@[simp] theorem bvb : faT P T.ay (pB B I) 2 W K = K (.pointer (some ⟨B, I + 65, none⟩)) W := kr
@[simp] theorem bxo : faT P T.ay (pB B I) 0 W K = K (pB B I) W := kr
@[simp] theorem bwi : faT P T.ay (pB B I) 1 W K = K (.pointer (some ⟨B, I + 64, none⟩)) W := kr
@[simp] theorem btm : faT P T.ab (pB B I) 1 W K = K (.pointer (some ⟨B, I + 1, none⟩)) W := kr
@[simp] theorem byg : faT P T.au (pB B I) 0 W K = K (pB B I) W := kr
@[simp] theorem bxj : faT P T.au (pB B I) 1 W K = K (.pointer (some ⟨B, I + 1, none⟩)) W := kr
@[simp] theorem btx : nq P T.bz = true := kr
@[simp] theorem cdj : szE P T.bz = 1 := kr
@[simp] theorem cau (x0 : Int) (x1 : Int) (w : World) (K : KV) : bsT P T.bz 2 #[(0, (.int .i64 x0)), (1, (.int .i64 x1))] w K = K (.slice (some ⟨w.heap.size, 0, none⟩) 2 2) (w.alloc (.cells #[(.int .i64 x0), (.int .i64 x1)] T.d)) := kr
@[simp] theorem byj : jq P T.r #[] W K = K (.agg #[bF, (.string ⟨#[]⟩), u0, (.string ⟨#[]⟩)]) W := kr
@[simp] theorem cbh (bo0 : Bool) (s1 : ByteArray) (w : World) (K : KV) : jq P T.r #[(0, (.bool bo0)), (1, (.string s1))] w K = K (.agg #[(.bool bo0), (.string s1), u0, (.string ⟨#[]⟩)]) w := kr
@[simp] theorem bym : faT P T.r (pB B I) 1 W K = K (.pointer (some ⟨B, I + 1, none⟩)) W := kr
@[simp] theorem cbc : faT P T.r (pB B I) 2 W K = K (.pointer (some ⟨B, I + 2, none⟩)) W := kr
@[simp] theorem cce : faT P T.r (pB B I) 3 W K = K (.pointer (some ⟨B, I + 3, none⟩)) W := kr
@[simp] theorem bti (x0 : Int) (w : World) (K : KV) : bsT P T.bt 1 #[(0, (.int .i32 x0))] w K = K (.slice (some ⟨w.heap.size, 0, none⟩) 1 1) (w.alloc (.cells #[(.int .i32 x0)] T.bk)) := kr
@[simp] theorem bxq : ldT P T.af (pB B I) W K = ld1 P B I W K := kr
@[simp] theorem bwx : nq P T.af = true := kr
@[simp] theorem bun : szE P T.af = 1 := kr
theorem et.af:nj P T.af T.ac 1 8:=nj.mk' (by kernel_rfl) (by kernel_rfl) (by kernel_rfl)
@[simp] theorem cdp : ldT P T.ac (pB B I) W K = ld1 P B I W K := kr
@[simp] theorem btl : faT P T.aw (pB B I) 0 W K = K (pB B I) W := kr
@[simp] theorem bwq : faT P T.r (pB B I) 0 W K = K (pB B I) W := kr
@[simp] theorem byl (x0 : Int) (c1_0 c1_1 : Value) (x2 : Int) (p3 : Option Addr) (l3 c3 : Nat) (r4 : Option Nat) (w : World) (K : KV) : jq P T.u #[(0, (.int .u64 x0)), (1, (.agg #[c1_0, c1_1])), (2, (.int .i64 x2)), (3, (.slice p3 l3 c3)), (5, (.map r4))] w K = K (.agg #[(.int .u64 x0), c1_0, c1_1, (.int .i64 x2), (.slice p3 l3 c3), i0, (.map r4), u0, u0, u0, u0]) w := kr
@[simp] theorem cbx (b i : Nat) (p : Option Addr) (l c : Nat) (w : World) (K : KV) : stT P T.t (pB b i) (.slice p l c) w K = st1 P b i (.slice p l c) w K := kr
@[simp] theorem bvi (v : Value) (w : World) (K : KV) : th P T.n v w K = K (.iface T.n v) w := kr
@[simp] theorem btf : faT P T.z (pB B I) 0 W K = K (pB B I) W := kr
@[simp] theorem bxg (v : Value) (w : World) (K : KV) : taT P (.iface T.aj v) T.bh T.aj true w K = K (.tuple #[v, .bool true]) w := kr
@[simp] theorem bup : alT P T.aj W K = K (.pointer (some ⟨W.heap.size, 0, none⟩)) (W.alloc (.cells #[u0, u0, u0, i0] T.aj)) := kr
@[simp] theorem bvz (b i : Nat) (c_0 c_1 c_2 c_3 : Value) (w : World) (K : KV) : stT P T.aj (pB b i) (.agg #[c_0, c_1, c_2, c_3]) w K = stN P b i [c_0, c_1, c_2, c_3] w K := kr
@[simp] theorem bwt : faT P T.aj (pB B I) 0 W K = K (pB B I) W := kr
@[simp] theorem ccj : faT P T.aj (pB B I) 1 W K = K (.pointer (some ⟨B, I + 1, none⟩)) W := kr
@[simp] theorem cdf : faT P T.aj (pB B I) 2 W K = K (.pointer (some ⟨B, I + 3, none⟩)) W := kr
@[simp] theorem btq : faT P T.m (pB B I) 0 W K = K (pB B I) W := kr
@[simp] theorem bvu : faT P T.m (pB B I) 1 W K = K (.pointer (some ⟨B, I + 1, none⟩)) W := kr
@[simp] theorem ccz : faT P T.m (pB B I) 5 W K = K (.pointer (some ⟨B, I + 7, none⟩)) W := kr
@[simp] theorem bso (v : Value) (w : World) (K : KV) : taT P (.iface T.w v) T.bh T.w true w K = K (.tuple #[v, .bool true]) w := kr
@[simp] theorem buz : alT P T.w W K = K (.pointer (some ⟨W.heap.size, 0, none⟩)) (W.alloc (.cells #[u0, u0, u0, nS] T.w)) := kr
@[simp] theorem bvl (b i : Nat) (c_0 c_1 c_2 c_3 : Value) (w : World) (K : KV) : stT P T.w (pB b i) (.agg #[c_0, c_1, c_2, c_3]) w K = stN P b i [c_0, c_1, c_2, c_3] w K := kr
@[simp] theorem bzn : faT P T.w (pB B I) 0 W K = K (pB B I) W := kr
@[simp] theorem cdk : faT P T.w (pB B I) 1 W K = K (.pointer (some ⟨B, I + 1, none⟩)) W := kr
@[simp] theorem byf : faT P T.w (pB B I) 2 W K = K (.pointer (some ⟨B, I + 3, none⟩)) W := kr
@[simp] theorem bsr : faT P T.z (pB B I) 1 W K = K (.pointer (some ⟨B, I + 1, none⟩)) W := kr
@[simp] theorem ccq (x0 : Int) (x1 : Int) (c2_0 c2_1 : Value) (x3 : Int) (w : World) (K : KV) : jq P T.c #[(0, (.int .i64 x0)), (1, (.int .u64 x1)), (2, (.agg #[c2_0, c2_1])), (4, (.int .i64 x3))] w K = K (.agg #[(.int .i64 x0), (.int .u64 x1), c2_0, c2_1, u0, u0, (.int .i64 x3), bF, nS, nS, nS]) w := kr
@[simp] theorem bxa (x0 : Int) (x1 : Int) (c2_0 c2_1 : Value) (bo3 : Bool) (c4_0 c4_1 : Value) (x5 : Int) (w : World) (K : KV) : jq P T.c #[(0, (.int .i64 x0)), (1, (.int .u64 x1)), (2, (.agg #[c2_0, c2_1])), (5, (.bool bo3)), (3, (.agg #[c4_0, c4_1])), (4, (.int .i64 x5))] w K = K (.agg #[(.int .i64 x0), (.int .u64 x1), c2_0, c2_1, c4_0, c4_1, (.int .i64 x5), (.bool bo3), nS, nS, nS]) w := kr
@[simp] theorem bwk (x0 : Int) (x1 : Int) (p2 : Option Addr) (l2 c2 : Nat) (w : World) (K : KV) : jq P T.c #[(0, (.int .i64 x0)), (1, (.int .u64 x1)), (8, (.slice p2 l2 c2))] w K = K (.agg #[(.int .i64 x0), (.int .u64 x1), u0, u0, u0, u0, i0, bF, nS, nS, (.slice p2 l2 c2)]) w := kr
@[simp] theorem cbf : ldT P T.au (pB B I) W K = ldN P 2 B I W K := kr
@[simp] theorem bwv : faT P T.e (pB B I) 1 W K = K (.pointer (some ⟨B, I + 1, none⟩)) W := kr
@[simp] theorem bzz : ldT P T.ak (pB B I) W K = ld1 P B I W K := kr
@[simp] theorem bws : alT P T.ai W K = K (.pointer (some ⟨W.heap.size, 0, none⟩)) (W.alloc (.cells #[u0] T.ai)) := kr
@[simp] theorem cah (b i : Nat) (x : Int) (w : World) (K : KV) : stT P T.ai (pB b i) (.int .u64 x) w K = st1 P b i (.int .u64 x) w K := kr
@[simp] theorem bzy (b i : Nat) (c_0 c_1 : Value) (w : World) (K : KV) : stT P T.au (pB b i) (.agg #[c_0, c_1]) w K = stN P b i [c_0, c_1] w K := kr
@[simp] theorem cas : ldT P T.ai (pB B I) W K = ld1 P B I W K := kr
@[simp] theorem byc (b i : Nat) (p : Option Addr) (w : World) (K : KV) : stT P T.ac (pB b i) (.pointer p) w K = st1 P b i (.pointer p) w K := kr
@[simp] theorem bxf (b i : Nat) (p : Option Addr) (l c : Nat) (w : World) (K : KV) : stT P T.af (pB b i) (.slice p l c) w K = st1 P b i (.slice p l c) w K := kr
@[simp] theorem bwe (v : Value) (w : World) (K : KV) : taT P (.iface T.ac v) T.bh T.ac false w K = K v w := kr
@[simp] theorem buh (p0 : Option Addr) (w : World) (K : KV) : bsT P T.af 1 #[(0, (.pointer p0))] w K = K (.slice (some ⟨w.heap.size, 0, none⟩) 1 1) (w.alloc (.cells #[(.pointer p0)] T.ac)) := kr
end Go.Proofs.YtgepcfcicngceaaGreatDoor
