/-
  Printed by wip/Shallow.lean: what the operations come to at this seat's types. No condition.
-/
import Derived.Test.YtfnhoaemapheoaaGreatN
import Derived.Test.YtfnhoaemapheoaaGreatZEng
set_option maxRecDepth 1000000
namespace Go.Proofs.YtfnhoaemapheoaaGreat
open Go.Eng
@[simp] theorem bsd (rx ry : Operand) (a : Addr) (w : World) (K : KV) : fj P .eql T.ao rx ry (.pointer (some a)) (.pointer none) w K = K (.bool false) w := .trans (by kernel_rfl) rfl
@[simp] theorem bqt (b i : Nat) (w : World) (K : KV) : ldT P T.k (.pointer (some ⟨b, i, none⟩)) w K = ld1 P b i w K := .trans (by kernel_rfl) rfl
@[simp] theorem bsa : mq P T.k = true := .trans (by kernel_rfl) rfl
@[simp] theorem bsc : szE P T.k = 1 := .trans (by kernel_rfl) rfl
theorem et.k : km P T.k T.b 1 8 := km.mk' (by kernel_rfl) (by kernel_rfl) (by kernel_rfl)
@[simp] theorem bqi (b i : Nat) (w : World) (K : KV) : ldT P T.d (.pointer (some ⟨b, i, none⟩)) w K = ld1 P b i w K := .trans (by kernel_rfl) rfl
@[simp] theorem brg (b i : Nat) (w : World) (K : KV) : ldT P T.j (.pointer (some ⟨b, i, none⟩)) w K = ld1 P b i w K := .trans (by kernel_rfl) rfl
@[simp] theorem brj (x0 : Int) (x1 : Int) (w : World) (K : KV) : iz P T.c #[(0, (.int .u64 x0)), (1, (.int .u64 x1))] w K = K (.agg #[(.int .u64 x0), (.int .u64 x1)]) w := .trans (by kernel_rfl) rfl
@[simp] theorem brr (w : World) (K : KV) : alT P T.c w K = K (.pointer (some ⟨w.heap.size, 0, none⟩)) (w.alloc (.cells #[(.int .u64 0), (.int .u64 0)] T.c)) := .trans (by kernel_rfl) rfl
@[simp] theorem bqw (b i : Nat) (c_0 c_1 : Value) (w : World) (K : KV) : stT P T.c (.pointer (some ⟨b, i, none⟩)) (.agg #[c_0, c_1]) w K = stN P b i [c_0, c_1] w K := .trans (by kernel_rfl) rfl
@[simp] theorem bqo  (w : World) (K : KV) : iz P T.c #[] w K = K (.agg #[(.int .u64 0), (.int .u64 0)]) w := .trans (by kernel_rfl) rfl
@[simp] theorem bql (b i : Nat) (w : World) (K : KV) : ldT P T.b (.pointer (some ⟨b, i, none⟩)) w K = ld1 P b i w K := .trans (by kernel_rfl) rfl
@[simp] theorem brh (b i : Nat) (w : World) (K : KV) : ldT P T.c (.pointer (some ⟨b, i, none⟩)) w K = ldN P 2 b i w K := .trans (by kernel_rfl) rfl
@[simp] theorem bqx (x0 : Int) (x1 : Int) (c2_0 c2_1 : Value) (w : World) (K : KV) : iz P T.a #[(0, (.int .i64 x0)), (1, (.int .u64 x1)), (2, (.agg #[c2_0, c2_1]))] w K = K (.agg #[(.int .i64 x0), (.int .u64 x1), c2_0, c2_1, (.int .u64 0), (.int .u64 0), (.int .i64 0), (.bool false), (.slice none 0 0), (.slice none 0 0), (.slice none 0 0)]) w := .trans (by kernel_rfl) rfl
@[simp] theorem bqq (w : World) (K : KV) : alT P T.a w K = K (.pointer (some ⟨w.heap.size, 0, none⟩)) (w.alloc (.cells #[(.int .i64 0), (.int .u64 0), (.int .u64 0), (.int .u64 0), (.int .u64 0), (.int .u64 0), (.int .i64 0), (.bool false), (.slice none 0 0), (.slice none 0 0), (.slice none 0 0)] T.a)) := .trans (by kernel_rfl) rfl
@[simp] theorem brl (b i : Nat) (c_0 c_1 c_2 c_3 c_4 c_5 c_6 c_7 c_8 c_9 c_10 : Value) (w : World) (K : KV) : stT P T.a (.pointer (some ⟨b, i, none⟩)) (.agg #[c_0, c_1, c_2, c_3, c_4, c_5, c_6, c_7, c_8, c_9, c_10]) w K = stN P b i [c_0, c_1, c_2, c_3, c_4, c_5, c_6, c_7, c_8, c_9, c_10] w K := .trans (by kernel_rfl) rfl
@[simp] theorem bqv (b i : Nat) (w : World) (K : KV) : faT P T.a (.pointer (some ⟨b, i, none⟩)) 5 w K = K (.pointer (some ⟨b, i + 7, none⟩)) w := .trans (by kernel_rfl) rfl
@[simp] theorem bre (b i : Nat) (w : World) (K : KV) : ldT P T.ar (.pointer (some ⟨b, i, none⟩)) w K = ld1 P b i w K := .trans (by kernel_rfl) rfl
@[simp] theorem brs (b i : Nat) (bo : Bool) (w : World) (K : KV) : stT P T.ar (.pointer (some ⟨b, i, none⟩)) (.bool bo) w K = st1 P b i (.bool bo) w K := .trans (by kernel_rfl) rfl
@[simp] theorem brp (b i : Nat) (w : World) (K : KV) : faT P T.a (.pointer (some ⟨b, i, none⟩)) 4 w K = K (.pointer (some ⟨b, i + 6, none⟩)) w := .trans (by kernel_rfl) rfl
@[simp] theorem bqu (b i : Nat) (w : World) (K : KV) : faT P T.a (.pointer (some ⟨b, i, none⟩)) 3 w K = K (.pointer (some ⟨b, i + 4, none⟩)) w := .trans (by kernel_rfl) rfl
@[simp] theorem brc (b i : Nat) (w : World) (K : KV) : ldT P T.am (.pointer (some ⟨b, i, none⟩)) w K = ld1 P b i w K := .trans (by kernel_rfl) rfl
@[simp] theorem bqk (x0 : Int) (x1 : Int) (c2_0 c2_1 : Value) (x3 : Int) (w : World) (K : KV) : iz P T.a #[(0, (.int .i64 x0)), (1, (.int .u64 x1)), (2, (.agg #[c2_0, c2_1])), (4, (.int .i64 x3))] w K = K (.agg #[(.int .i64 x0), (.int .u64 x1), c2_0, c2_1, (.int .u64 0), (.int .u64 0), (.int .i64 x3), (.bool false), (.slice none 0 0), (.slice none 0 0), (.slice none 0 0)]) w := .trans (by kernel_rfl) rfl
@[simp] theorem brb (b i : Nat) (w : World) (K : KV) : ldT P T.a (.pointer (some ⟨b, i, none⟩)) w K = ldN P 11 b i w K := .trans (by kernel_rfl) rfl
@[simp] theorem bri (b i : Nat) (w : World) (K : KV) : faT P T.a (.pointer (some ⟨b, i, none⟩)) 2 w K = K (.pointer (some ⟨b, i + 2, none⟩)) w := .trans (by kernel_rfl) rfl
@[simp] theorem brf : mq P T.ag = true := .trans (by kernel_rfl) rfl
@[simp] theorem bqn : szE P T.ag = 14 := .trans (by kernel_rfl) rfl
theorem et.ag : km P T.ag T.ap 14 176 := km.mk' (by kernel_rfl) (by kernel_rfl) (by kernel_rfl)
@[simp] theorem bqz (b i : Nat) (w : World) (K : KV) : faT P T.ap (.pointer (some ⟨b, i, none⟩)) 0 w K = K (.pointer (some ⟨b, i, none⟩)) w := .trans (by kernel_rfl) rfl
@[simp] theorem brk (b i : Nat) (w : World) (K : KV) : faT P T.ap (.pointer (some ⟨b, i, none⟩)) 2 w K = K (.pointer (some ⟨b, i + 2, none⟩)) w := .trans (by kernel_rfl) rfl
@[simp] theorem bqp  (w : World) (K : KV) : iz P T.a #[] w K = K (.agg #[(.int .i64 0), (.int .u64 0), (.int .u64 0), (.int .u64 0), (.int .u64 0), (.int .u64 0), (.int .i64 0), (.bool false), (.slice none 0 0), (.slice none 0 0), (.slice none 0 0)]) w := .trans (by kernel_rfl) rfl
@[simp] theorem bqm : mq P T.h = true := .trans (by kernel_rfl) rfl
@[simp] theorem brw : szE P T.h = 6 := .trans (by kernel_rfl) rfl
theorem et.h : km P T.h T.x 6 48 := km.mk' (by kernel_rfl) (by kernel_rfl) (by kernel_rfl)
@[simp] theorem bqh (b i : Nat) (w : World) (K : KV) : faT P T.ap (.pointer (some ⟨b, i, none⟩)) 1 w K = K (.pointer (some ⟨b, i + 1, none⟩)) w := .trans (by kernel_rfl) rfl
@[simp] theorem bry (b i : Nat) (w : World) (K : KV) : faT P T.ap (.pointer (some ⟨b, i, none⟩)) 3 w K = K (.pointer (some ⟨b, i + 13, none⟩)) w := .trans (by kernel_rfl) rfl
@[simp] theorem bsb (b i : Nat) (w : World) (K : KV) : faT P T.a (.pointer (some ⟨b, i, none⟩)) 1 w K = K (.pointer (some ⟨b, i + 1, none⟩)) w := .trans (by kernel_rfl) rfl
@[simp] theorem brx (w : World) (K : KV) : alT P T.i w K = K (.pointer (some ⟨w.heap.size, 0, none⟩)) (w.alloc (.cells #[(.int .u64 0), (.int .u64 0), (.int .u64 0), (.int .u64 0), (.int .i64 0)] T.i)) := .trans (by kernel_rfl) rfl
@[simp] theorem bra (b i : Nat) (c_0 c_1 c_2 c_3 c_4 : Value) (w : World) (K : KV) : stT P T.i (.pointer (some ⟨b, i, none⟩)) (.agg #[c_0, c_1, c_2, c_3, c_4]) w K = stN P b i [c_0, c_1, c_2, c_3, c_4] w K := .trans (by kernel_rfl) rfl
@[simp] theorem brz (b i : Nat) (w : World) (K : KV) : ldT P T.i (.pointer (some ⟨b, i, none⟩)) w K = ldN P 5 b i w K := .trans (by kernel_rfl) rfl
@[simp] theorem bqj (b i : Nat) (w : World) (K : KV) : faT P T.i (.pointer (some ⟨b, i, none⟩)) 0 w K = K (.pointer (some ⟨b, i, none⟩)) w := .trans (by kernel_rfl) rfl
@[simp] theorem bqs (b i : Nat) (w : World) (K : KV) : faT P T.a (.pointer (some ⟨b, i, none⟩)) 0 w K = K (.pointer (some ⟨b, i, none⟩)) w := .trans (by kernel_rfl) rfl
@[simp] theorem bro (b i : Nat) (w : World) (K : KV) : faT P T.i (.pointer (some ⟨b, i, none⟩)) 1 w K = K (.pointer (some ⟨b, i + 2, none⟩)) w := .trans (by kernel_rfl) rfl
@[simp] theorem bru (b i : Nat) (w : World) (K : KV) : faT P T.i (.pointer (some ⟨b, i, none⟩)) 2 w K = K (.pointer (some ⟨b, i + 4, none⟩)) w := .trans (by kernel_rfl) rfl
@[simp] theorem brd : mq P T.n = true := .trans (by kernel_rfl) rfl
@[simp] theorem brv : szE P T.n = 8 := .trans (by kernel_rfl) rfl
theorem et.n : km P T.n T.z 8 80 := km.mk' (by kernel_rfl) (by kernel_rfl) (by kernel_rfl)
@[simp] theorem brm (b i : Nat) (w : World) (K : KV) : faT P T.a (.pointer (some ⟨b, i, none⟩)) 6 w K = K (.pointer (some ⟨b, i + 8, none⟩)) w := .trans (by kernel_rfl) rfl
@[simp] theorem bqr (b i : Nat) (w : World) (K : KV) : ldT P T.n (.pointer (some ⟨b, i, none⟩)) w K = ld1 P b i w K := .trans (by kernel_rfl) rfl
@[simp] theorem brn (b i : Nat) (w : World) (K : KV) : ldT P T.z (.pointer (some ⟨b, i, none⟩)) w K = ldN P 8 b i w K := .trans (by kernel_rfl) rfl
@[simp] theorem brt : mq P T.f = true := .trans (by kernel_rfl) rfl
@[simp] theorem bqy : szE P T.f = 1 := .trans (by kernel_rfl) rfl
theorem et.f : km P T.f T.d 1 8 := km.mk' (by kernel_rfl) (by kernel_rfl) (by kernel_rfl)
@[simp] theorem bkz (rx ry : Operand) (a : Addr) (w : World) (K : KV) : fj P .neq T.ao rx ry (.pointer (some a)) (.pointer none) w K = K (.bool true) w := .trans (by kernel_rfl) rfl
@[simp] theorem blb (c_0 c_1 c_2 c_3 c_4 : Value) (w : World) (K : KV) : fdT P T.g (.agg #[c_0, c_1, c_2, c_3, c_4]) 0 w K = K (.agg #[c_0, c_1]) w := .trans (by kernel_rfl) rfl
@[simp] theorem bob (x0 : Int) (r1 : Option Nat) (w : World) (K : KV) : iz P T.ah #[(0, (.int .i64 x0)), (1, (.map r1))] w K = K (.agg #[(.int .i64 x0), (.map r1), (.int .i64 0), (.bool false), (.bool false)]) w := .trans (by kernel_rfl) rfl
@[simp] theorem blv (p0 : Option Addr) (p1 : Option Addr) (r2 : Option Nat) (w : World) (K : KV) : iz P T.l #[(0, (.pointer p0)), (1, (.pointer p1)), (2, (.map r2))] w K = K (.agg #[(.pointer p0), (.pointer p1), (.map r2), (.bool false)]) w := .trans (by kernel_rfl) rfl
@[simp] theorem bjy : mq P T.m = true := .trans (by kernel_rfl) rfl
@[simp] theorem bis : szE P T.m = 1 := .trans (by kernel_rfl) rfl
theorem et.m : km P T.m T.e 1 24 := km.mk' (by kernel_rfl) (by kernel_rfl) (by kernel_rfl)
@[simp] theorem bjf (b i : Nat) (w : World) (K : KV) : ldT P T.e (.pointer (some ⟨b, i, none⟩)) w K = ld1 P b i w K := .trans (by kernel_rfl) rfl
@[simp] theorem bnd (w : World) (K : KV) : alT P T.g w K = K (.pointer (some ⟨w.heap.size, 0, none⟩)) (w.alloc (.cells #[(.int .u64 0), (.int .u64 0), (.int .u64 0), (.int .u64 0), (.int .i64 0)] T.g)) := .trans (by kernel_rfl) rfl
@[simp] theorem bnw (b i : Nat) (c_0 c_1 c_2 c_3 c_4 : Value) (w : World) (K : KV) : stT P T.g (.pointer (some ⟨b, i, none⟩)) (.agg #[c_0, c_1, c_2, c_3, c_4]) w K = stN P b i [c_0, c_1, c_2, c_3, c_4] w K := .trans (by kernel_rfl) rfl
@[simp] theorem bli (b i : Nat) (w : World) (K : KV) : faT P T.l (.pointer (some ⟨b, i, none⟩)) 2 w K = K (.pointer (some ⟨b, i + 2, none⟩)) w := .trans (by kernel_rfl) rfl
@[simp] theorem bke (b i : Nat) (w : World) (K : KV) : ldT P T.r (.pointer (some ⟨b, i, none⟩)) w K = ld1 P b i w K := .trans (by kernel_rfl) rfl
@[simp] theorem blg (b i : Nat) (w : World) (K : KV) : ldT P T.g (.pointer (some ⟨b, i, none⟩)) w K = ldN P 5 b i w K := .trans (by kernel_rfl) rfl
theorem mt.r : vy P T.r .u64 T.g (.agg #[(.int .u64 0), (.int .u64 0), (.int .u64 0), (.int .u64 0), (.int .i64 0)]) := vy.mk' (key := T.d) (by kernel_rfl) (by kernel_rfl) (by kernel_rfl)
@[simp] theorem bnq (b i : Nat) (w : World) (K : KV) : faT P T.c (.pointer (some ⟨b, i, none⟩)) 0 w K = K (.pointer (some ⟨b, i, none⟩)) w := .trans (by kernel_rfl) rfl
@[simp] theorem bmn (b i : Nat) (w : World) (K : KV) : faT P T.c (.pointer (some ⟨b, i, none⟩)) 1 w K = K (.pointer (some ⟨b, i + 1, none⟩)) w := .trans (by kernel_rfl) rfl
@[simp] theorem boj (rx ry : Operand) (a : Addr) (w : World) (K : KV) : fj P .eql T.am rx ry (.pointer (some a)) (.pointer none) w K = K (.bool false) w := .trans (by kernel_rfl) rfl
@[simp] theorem bpw (b i : Nat) (w : World) (K : KV) : faT P T.ah (.pointer (some ⟨b, i, none⟩)) 1 w K = K (.pointer (some ⟨b, i + 1, none⟩)) w := .trans (by kernel_rfl) rfl
@[simp] theorem bpl (b i : Nat) (w : World) (K : KV) : ldT P T.t (.pointer (some ⟨b, i, none⟩)) w K = ld1 P b i w K := .trans (by kernel_rfl) rfl
theorem mt.t : vy P T.t .i64 T.bd (.pointer none) := vy.mk' (key := T.b) (by kernel_rfl) (by kernel_rfl) (by kernel_rfl)
@[simp] theorem bpg (b i : Nat) (w : World) (K : KV) : faT P T.aj (.pointer (some ⟨b, i, none⟩)) 1 w K = K (.pointer (some ⟨b, i + 1, none⟩)) w := .trans (by kernel_rfl) rfl
@[simp] theorem bpn : mq P T.e = true := .trans (by kernel_rfl) rfl
@[simp] theorem bko : szE P T.e = 1 := .trans (by kernel_rfl) rfl
theorem et.e : km P T.e T.an 1 1 := km.mk' (by kernel_rfl) (by kernel_rfl) (by kernel_rfl)
@[simp] theorem boy (b i : Nat) (w : World) (K : KV) : faT P T.aj (.pointer (some ⟨b, i, none⟩)) 0 w K = K (.pointer (some ⟨b, i, none⟩)) w := .trans (by kernel_rfl) rfl
@[simp] theorem bnf (p0 : Option Addr) (l0 c0 : Nat) (p1 : Option Addr) (l1 c1 : Nat) (w : World) (K : KV) : bsT P T.m 2 #[(0, (.slice p0 l0 c0)), (1, (.slice p1 l1 c1))] w K = K (.slice (some ⟨w.heap.size, 0, none⟩) 2 2) (w.alloc (.cells #[(.slice p0 l0 c0), (.slice p1 l1 c1)] T.e)) := .trans (by kernel_rfl) rfl
@[simp] theorem bkj (b i : Nat) (p : Option Addr) (l c : Nat) (w : World) (K : KV) : stT P T.e (.pointer (some ⟨b, i, none⟩)) (.slice p l c) w K = st1 P b i (.slice p l c) w K := .trans (by kernel_rfl) rfl
@[simp] theorem bpo (b i : Nat) (w : World) (K : KV) : faT P T.ah (.pointer (some ⟨b, i, none⟩)) 3 w K = K (.pointer (some ⟨b, i + 3, none⟩)) w := .trans (by kernel_rfl) rfl
@[simp] theorem bpz (b i : Nat) (w : World) (K : KV) : faT P T.ah (.pointer (some ⟨b, i, none⟩)) 4 w K = K (.pointer (some ⟨b, i + 4, none⟩)) w := .trans (by kernel_rfl) rfl
@[simp] theorem bna (v : Value) (w : World) (K : KV) : taT P (.iface T.p v) T.aq T.p true w K = K (.tuple #[v, .bool true]) w := .trans (by kernel_rfl) rfl
@[simp] theorem boe (w : World) (K : KV) : alT P T.p w K = K (.pointer (some ⟨w.heap.size, 0, none⟩)) (w.alloc (.cells #[(.int .u64 0), (.int .u64 0), (.int .u64 0), (.int .i64 0)] T.p)) := .trans (by kernel_rfl) rfl
@[simp] theorem bnk (b i : Nat) (c_0 c_1 c_2 c_3 : Value) (w : World) (K : KV) : stT P T.p (.pointer (some ⟨b, i, none⟩)) (.agg #[c_0, c_1, c_2, c_3]) w K = stN P b i [c_0, c_1, c_2, c_3] w K := .trans (by kernel_rfl) rfl
@[simp] theorem bpi (b i : Nat) (w : World) (K : KV) : faT P T.l (.pointer (some ⟨b, i, none⟩)) 3 w K = K (.pointer (some ⟨b, i + 3, none⟩)) w := .trans (by kernel_rfl) rfl
@[simp] theorem blx (b i : Nat) (w : World) (K : KV) : faT P T.l (.pointer (some ⟨b, i, none⟩)) 0 w K = K (.pointer (some ⟨b, i, none⟩)) w := .trans (by kernel_rfl) rfl
@[simp] theorem bom (b i : Nat) (w : World) (K : KV) : faT P T.p (.pointer (some ⟨b, i, none⟩)) 0 w K = K (.pointer (some ⟨b, i, none⟩)) w := .trans (by kernel_rfl) rfl
@[simp] theorem bni (b i : Nat) (w : World) (K : KV) : faT P T.p (.pointer (some ⟨b, i, none⟩)) 1 w K = K (.pointer (some ⟨b, i + 1, none⟩)) w := .trans (by kernel_rfl) rfl
@[simp] theorem blq (b i : Nat) (w : World) (K : KV) : faT P T.p (.pointer (some ⟨b, i, none⟩)) 2 w K = K (.pointer (some ⟨b, i + 3, none⟩)) w := .trans (by kernel_rfl) rfl
@[simp] theorem bkg (p0 : Option Addr) (l0 c0 : Nat) (w : World) (K : KV) : bsT P T.m 1 #[(0, (.slice p0 l0 c0))] w K = K (.slice (some ⟨w.heap.size, 0, none⟩) 1 1) (w.alloc (.cells #[(.slice p0 l0 c0)] T.e)) := .trans (by kernel_rfl) rfl
@[simp] theorem blc (b i : Nat) (w : World) (K : KV) : faT P T.a (.pointer (some ⟨b, i, none⟩)) 7 w K = K (.pointer (some ⟨b, i + 9, none⟩)) w := .trans (by kernel_rfl) rfl
@[simp] theorem boi (b i : Nat) (w : World) (K : KV) : ldT P T.o (.pointer (some ⟨b, i, none⟩)) w K = ld1 P b i w K := .trans (by kernel_rfl) rfl
@[simp] theorem bjh : mq P T.o = true := .trans (by kernel_rfl) rfl
@[simp] theorem boa : szE P T.o = 3 := .trans (by kernel_rfl) rfl
theorem et.o : km P T.o T.v 3 24 := km.mk' (by kernel_rfl) (by kernel_rfl) (by kernel_rfl)
@[simp] theorem bjq (b i : Nat) (w : World) (K : KV) : faT P T.a (.pointer (some ⟨b, i, none⟩)) 8 w K = K (.pointer (some ⟨b, i + 10, none⟩)) w := .trans (by kernel_rfl) rfl
@[simp] theorem bmp (b i : Nat) (w : World) (K : KV) : ldT P T.f (.pointer (some ⟨b, i, none⟩)) w K = ld1 P b i w K := .trans (by kernel_rfl) rfl
@[simp] theorem bpc (b i : Nat) (w : World) (K : KV) : ldT P T.v (.pointer (some ⟨b, i, none⟩)) w K = ldN P 3 b i w K := .trans (by kernel_rfl) rfl
@[simp] theorem blh (b i : Nat) (w : World) (K : KV) : faT P T.l (.pointer (some ⟨b, i, none⟩)) 1 w K = K (.pointer (some ⟨b, i + 1, none⟩)) w := .trans (by kernel_rfl) rfl
@[simp] theorem boh (b i : Nat) (w : World) (K : KV) : ldT P T.aw (.pointer (some ⟨b, i, none⟩)) w K = ld1 P b i w K := .trans (by kernel_rfl) rfl
@[simp] theorem bpk (b i : Nat) (w : World) (K : KV) : ldT P T.x (.pointer (some ⟨b, i, none⟩)) w K = ldN P 6 b i w K := .trans (by kernel_rfl) rfl
@[simp] theorem bjt (x0 : Int) (c1_0 c1_1 c1_2 c1_3 c1_4 : Value) (w : World) (K : KV) : iz P T.x #[(0, (.int .u64 x0)), (1, (.agg #[c1_0, c1_1, c1_2, c1_3, c1_4]))] w K = K (.agg #[(.int .u64 x0), c1_0, c1_1, c1_2, c1_3, c1_4]) w := .trans (by kernel_rfl) rfl
@[simp] theorem bkl (c0_0 c0_1 c0_2 c0_3 c0_4 c0_5 : Value) (w : World) (K : KV) : bsT P T.h 1 #[(0, (.agg #[c0_0, c0_1, c0_2, c0_3, c0_4, c0_5]))] w K = K (.slice (some ⟨w.heap.size, 0, none⟩) 1 1) (w.alloc (.cells #[c0_0, c0_1, c0_2, c0_3, c0_4, c0_5] T.x)) := .trans (by kernel_rfl) rfl
@[simp] theorem bjd  (w : World) (K : KV) : iz P T.g #[] w K = K (.agg #[(.int .u64 0), (.int .u64 0), (.int .u64 0), (.int .u64 0), (.int .i64 0)]) w := .trans (by kernel_rfl) rfl
@[simp] theorem bkw (rx ry : Operand) (a : Addr) (w : World) (K : KV) : fj P .neq T.am rx ry (.pointer (some a)) (.pointer none) w K = K (.bool true) w := .trans (by kernel_rfl) rfl
@[simp] theorem bjc (b i : Nat) (w : World) (K : KV) : faT P T.ah (.pointer (some ⟨b, i, none⟩)) 2 w K = K (.pointer (some ⟨b, i + 2, none⟩)) w := .trans (by kernel_rfl) rfl
@[simp] theorem bkc (b i : Nat) (x : Int) (w : World) (K : KV) : stT P T.b (.pointer (some ⟨b, i, none⟩)) (.int .i64 x) w K = st1 P b i (.int .i64 x) w K := .trans (by kernel_rfl) rfl
@[simp] theorem bkb (b i : Nat) (w : World) (K : KV) : faT P T.z (.pointer (some ⟨b, i, none⟩)) 6 w K = K (.pointer (some ⟨b, i + 6, none⟩)) w := .trans (by kernel_rfl) rfl
@[simp] theorem bpu (b i : Nat) (w : World) (K : KV) : ldT P T.al (.pointer (some ⟨b, i, none⟩)) w K = ld1 P b i w K := .trans (by kernel_rfl) rfl
@[simp] theorem bjn (b i : Nat) (w : World) (K : KV) : faT P T.z (.pointer (some ⟨b, i, none⟩)) 5 w K = K (.pointer (some ⟨b, i + 5, none⟩)) w := .trans (by kernel_rfl) rfl
@[simp] theorem bit (b i : Nat) (w : World) (K : KV) : faT P T.g (.pointer (some ⟨b, i, none⟩)) 0 w K = K (.pointer (some ⟨b, i, none⟩)) w := .trans (by kernel_rfl) rfl
@[simp] theorem bju (b i : Nat) (w : World) (K : KV) : faT P T.g (.pointer (some ⟨b, i, none⟩)) 1 w K = K (.pointer (some ⟨b, i + 2, none⟩)) w := .trans (by kernel_rfl) rfl
@[simp] theorem bjl (b i : Nat) (w : World) (K : KV) : faT P T.g (.pointer (some ⟨b, i, none⟩)) 2 w K = K (.pointer (some ⟨b, i + 4, none⟩)) w := .trans (by kernel_rfl) rfl
@[simp] theorem bnn (c0_0 c0_1 : Value) (c1_0 c1_1 : Value) (x2 : Int) (w : World) (K : KV) : iz P T.i #[(0, (.agg #[c0_0, c0_1])), (1, (.agg #[c1_0, c1_1])), (2, (.int .i64 x2))] w K = K (.agg #[c0_0, c0_1, c1_0, c1_1, (.int .i64 x2)]) w := .trans (by kernel_rfl) rfl
@[simp] theorem bou (x0 : Int) (x1 : Int) (c2_0 c2_1 : Value) (p3 : Option Addr) (l3 c3 : Nat) (w : World) (K : KV) : iz P T.a #[(0, (.int .i64 x0)), (1, (.int .u64 x1)), (2, (.agg #[c2_0, c2_1])), (6, (.slice p3 l3 c3))] w K = K (.agg #[(.int .i64 x0), (.int .u64 x1), c2_0, c2_1, (.int .u64 0), (.int .u64 0), (.int .i64 0), (.bool false), (.slice p3 l3 c3), (.slice none 0 0), (.slice none 0 0)]) w := .trans (by kernel_rfl) rfl
@[simp] theorem bnl (b i : Nat) (w : World) (K : KV) : faT P T.z (.pointer (some ⟨b, i, none⟩)) 1 w K = K (.pointer (some ⟨b, i + 1, none⟩)) w := .trans (by kernel_rfl) rfl
@[simp] theorem bny (w : World) (K : KV) : alT P T.z w K = K (.pointer (some ⟨w.heap.size, 0, none⟩)) (w.alloc (.cells #[(.int .u64 0), (.int .u64 0), (.int .u64 0), (.int .u64 0), (.int .u64 0), (.string ⟨#[]⟩), (.string ⟨#[]⟩), (.bool false)] T.z)) := .trans (by kernel_rfl) rfl
@[simp] theorem bok (b i : Nat) (c_0 c_1 c_2 c_3 c_4 c_5 c_6 c_7 : Value) (w : World) (K : KV) : stT P T.z (.pointer (some ⟨b, i, none⟩)) (.agg #[c_0, c_1, c_2, c_3, c_4, c_5, c_6, c_7]) w K = stN P b i [c_0, c_1, c_2, c_3, c_4, c_5, c_6, c_7] w K := .trans (by kernel_rfl) rfl
@[simp] theorem boz (v : Value) (w : World) (K : KV) : taT P (.iface T.w v) T.aq T.w true w K = K (.tuple #[v, .bool true]) w := .trans (by kernel_rfl) rfl
@[simp] theorem bov (w : World) (K : KV) : alT P T.w w K = K (.pointer (some ⟨w.heap.size, 0, none⟩)) (w.alloc (.cells #[(.int .u64 0), (.int .u64 0), (.int .u64 0), (.slice none 0 0)] T.w)) := .trans (by kernel_rfl) rfl
@[simp] theorem bma (b i : Nat) (c_0 c_1 c_2 c_3 : Value) (w : World) (K : KV) : stT P T.w (.pointer (some ⟨b, i, none⟩)) (.agg #[c_0, c_1, c_2, c_3]) w K = stN P b i [c_0, c_1, c_2, c_3] w K := .trans (by kernel_rfl) rfl
@[simp] theorem bkp (b i : Nat) (w : World) (K : KV) : faT P T.w (.pointer (some ⟨b, i, none⟩)) 2 w K = K (.pointer (some ⟨b, i + 3, none⟩)) w := .trans (by kernel_rfl) rfl
@[simp] theorem bne (b i : Nat) (w : World) (K : KV) : faT P T.w (.pointer (some ⟨b, i, none⟩)) 1 w K = K (.pointer (some ⟨b, i + 1, none⟩)) w := .trans (by kernel_rfl) rfl
@[simp] theorem bng (b i : Nat) (w : World) (K : KV) : faT P T.w (.pointer (some ⟨b, i, none⟩)) 0 w K = K (.pointer (some ⟨b, i, none⟩)) w := .trans (by kernel_rfl) rfl
@[simp] theorem bop (w : World) (K : KV) : alT P T.ab w K = K (.pointer (some ⟨w.heap.size, 0, none⟩)) (w.alloc (.cells #[(.int .u64 0), (.slice none 0 0)] T.ab)) := .trans (by kernel_rfl) rfl
@[simp] theorem biz (b i : Nat) (c_0 c_1 : Value) (w : World) (K : KV) : stT P T.ab (.pointer (some ⟨b, i, none⟩)) (.agg #[c_0, c_1]) w K = stN P b i [c_0, c_1] w K := .trans (by kernel_rfl) rfl
@[simp] theorem bow (b i : Nat) (w : World) (K : KV) : faT P T.ab (.pointer (some ⟨b, i, none⟩)) 1 w K = K (.pointer (some ⟨b, i + 1, none⟩)) w := .trans (by kernel_rfl) rfl
@[simp] theorem bmf (b i : Nat) (p : Option Addr) (l c : Nat) (w : World) (K : KV) : stT P T.f (.pointer (some ⟨b, i, none⟩)) (.slice p l c) w K = st1 P b i (.slice p l c) w K := .trans (by kernel_rfl) rfl
@[simp] theorem bqa (v : Value) (w : World) (K : KV) : ue P T.ab v w K = K (.iface T.ab v) w := .trans (by kernel_rfl) rfl
@[simp] theorem bmw  (w : World) (K : KV) : bsT P T.f 0 #[] w K = K (.slice (some ⟨w.heap.size, 0, none⟩) 0 0) (w.alloc (.cells #[] T.d)) := .trans (by kernel_rfl) rfl
@[simp] theorem bpq (x0 : Int) (x1 : Int) (p2 : Option Addr) (l2 c2 : Nat) (w : World) (K : KV) : iz P T.a #[(0, (.int .i64 x0)), (1, (.int .u64 x1)), (8, (.slice p2 l2 c2))] w K = K (.agg #[(.int .i64 x0), (.int .u64 x1), (.int .u64 0), (.int .u64 0), (.int .u64 0), (.int .u64 0), (.int .i64 0), (.bool false), (.slice none 0 0), (.slice none 0 0), (.slice p2 l2 c2)]) w := .trans (by kernel_rfl) rfl
@[simp] theorem bqd (p0 : Option Addr) (x1 : Int) (w : World) (K : KV) : iz P T.ac #[(0, (.pointer p0)), (1, (.int .i64 x1))] w K = K (.agg #[(.pointer p0), (.int .i64 x1), (.slice none 0 0)]) w := .trans (by kernel_rfl) rfl
@[simp] theorem biq (rx ry : Operand)  (w : World) (K : KV) : fj P .eql T.ad rx ry (.pointer none) (.pointer none) w K = K (.bool true) w := .trans (by kernel_rfl) rfl
@[simp] theorem blo (rx ry : Operand) (a : Addr) (w : World) (K : KV) : fj P .eql T.ad rx ry (.pointer (some a)) (.pointer none) w K = K (.bool false) w := .trans (by kernel_rfl) rfl
@[simp] theorem bld (b i : Nat) (w : World) (K : KV) : faT P T.ac (.pointer (some ⟨b, i, none⟩)) 2 w K = K (.pointer (some ⟨b, i + 2, none⟩)) w := .trans (by kernel_rfl) rfl
@[simp] theorem bjw (b i : Nat) (w : World) (K : KV) : ldT P T.q (.pointer (some ⟨b, i, none⟩)) w K = ld1 P b i w K := .trans (by kernel_rfl) rfl
@[simp] theorem bkf : mq P T.q = true := .trans (by kernel_rfl) rfl
@[simp] theorem bkv : szE P T.q = 1 := .trans (by kernel_rfl) rfl
theorem et.q : km P T.q T.ad 1 8 := km.mk' (by kernel_rfl) (by kernel_rfl) (by kernel_rfl)
@[simp] theorem biw (b i : Nat) (w : World) (K : KV) : faT P T.af (.pointer (some ⟨b, i, none⟩)) 1 w K = K (.pointer (some ⟨b, i + 1, none⟩)) w := .trans (by kernel_rfl) rfl
@[simp] theorem bpb (p0 : Option Addr) (w : World) (K : KV) : bsT P T.q 1 #[(0, (.pointer p0))] w K = K (.slice (some ⟨w.heap.size, 0, none⟩) 1 1) (w.alloc (.cells #[(.pointer p0)] T.ad)) := .trans (by kernel_rfl) rfl
@[simp] theorem bji (b i : Nat) (p : Option Addr) (l c : Nat) (w : World) (K : KV) : stT P T.q (.pointer (some ⟨b, i, none⟩)) (.slice p l c) w K = st1 P b i (.slice p l c) w K := .trans (by kernel_rfl) rfl
@[simp] theorem bmu (rx ry : Operand) (a : Addr) (w : World) (K : KV) : fj P .eql T.aw rx ry (.pointer (some a)) (.pointer none) w K = K (.bool false) w := .trans (by kernel_rfl) rfl
@[simp] theorem blm (b i : Nat) (w : World) (K : KV) : ldT P T.ad (.pointer (some ⟨b, i, none⟩)) w K = ld1 P b i w K := .trans (by kernel_rfl) rfl
@[simp] theorem bjp (b i : Nat) (w : World) (K : KV) : faT P T.af (.pointer (some ⟨b, i, none⟩)) 2 w K = K (.pointer (some ⟨b, i + 2, none⟩)) w := .trans (by kernel_rfl) rfl
@[simp] theorem bmx (b i : Nat) (w : World) (K : KV) : ldT P T.m (.pointer (some ⟨b, i, none⟩)) w K = ld1 P b i w K := .trans (by kernel_rfl) rfl
@[simp] theorem bnz (w : World) (K : KV) : alT P T.ak w K = K (.pointer (some ⟨w.heap.size, 0, none⟩)) (w.alloc (.cells #[(.int .u64 0), (.int .u64 0), (.int .u64 0), (.int .u64 0), (.int .u64 0)] T.ak)) := .trans (by kernel_rfl) rfl
@[simp] theorem bnj (b i : Nat) (x : Int) (w : World) (K : KV) : stT P T.d (.pointer (some ⟨b, i, none⟩)) (.int .u64 x) w K = st1 P b i (.int .u64 x) w K := .trans (by kernel_rfl) rfl
@[simp] theorem bol (b i : Nat) (w : World) (K : KV) : ldT P T.an (.pointer (some ⟨b, i, none⟩)) w K = ld1 P b i w K := .trans (by kernel_rfl) rfl
@[simp] theorem blu (c0_0 c0_1 : Value) (c1_0 c1_1 : Value) (x2 : Int) (w : World) (K : KV) : iz P T.g #[(0, (.agg #[c0_0, c0_1])), (1, (.agg #[c1_0, c1_1])), (2, (.int .i64 x2))] w K = K (.agg #[c0_0, c0_1, c1_0, c1_1, (.int .i64 x2)]) w := .trans (by kernel_rfl) rfl
@[simp] theorem bmg (b i : Nat) (w : World) (K : KV) : faT P T.ac (.pointer (some ⟨b, i, none⟩)) 0 w K = K (.pointer (some ⟨b, i, none⟩)) w := .trans (by kernel_rfl) rfl
@[simp] theorem bpf (b i : Nat) (w : World) (K : KV) : faT P T.af (.pointer (some ⟨b, i, none⟩)) 0 w K = K (.pointer (some ⟨b, i, none⟩)) w := .trans (by kernel_rfl) rfl
@[simp] theorem bpp (v : Value) (w : World) (K : KV) : ue P T.al v w K = K (.iface T.al v) w := .trans (by kernel_rfl) rfl
@[simp] theorem bos (x0 : Int) (w : World) (K : KV) : bsT P T.e 1 #[(0, (.int .u8 x0))] w K = K (.slice (some ⟨w.heap.size, 0, none⟩) 1 1) (w.alloc (.cells #[(.int .u8 x0)] T.an)) := .trans (by kernel_rfl) rfl
@[simp] theorem bjj (x0 : Int) (x1 : Int) (c2_0 c2_1 : Value) (bo3 : Bool) (w : World) (K : KV) : iz P T.a #[(0, (.int .i64 x0)), (1, (.int .u64 x1)), (2, (.agg #[c2_0, c2_1])), (5, (.bool bo3))] w K = K (.agg #[(.int .i64 x0), (.int .u64 x1), c2_0, c2_1, (.int .u64 0), (.int .u64 0), (.int .i64 0), (.bool bo3), (.slice none 0 0), (.slice none 0 0), (.slice none 0 0)]) w := .trans (by kernel_rfl) rfl
@[simp] theorem bjb (b i : Nat) (x : Int) (w : World) (K : KV) : stT P T.j (.pointer (some ⟨b, i, none⟩)) (.int .i64 x) w K = st1 P b i (.int .i64 x) w K := .trans (by kernel_rfl) rfl
@[simp] theorem biu (b i : Nat) (w : World) (K : KV) : faT P T.x (.pointer (some ⟨b, i, none⟩)) 0 w K = K (.pointer (some ⟨b, i, none⟩)) w := .trans (by kernel_rfl) rfl
@[simp] theorem bms (b i : Nat) (w : World) (K : KV) : faT P T.x (.pointer (some ⟨b, i, none⟩)) 1 w K = K (.pointer (some ⟨b, i + 1, none⟩)) w := .trans (by kernel_rfl) rfl
@[simp] theorem bpe  (w : World) (K : KV) : iz P T.i #[] w K = K (.agg #[(.int .u64 0), (.int .u64 0), (.int .u64 0), (.int .u64 0), (.int .i64 0)]) w := .trans (by kernel_rfl) rfl
@[simp] theorem bqg  (w : World) (K : KV) : bsT P T.h 0 #[] w K = K (.slice (some ⟨w.heap.size, 0, none⟩) 0 0) (w.alloc (.cells #[] T.x)) := .trans (by kernel_rfl) rfl
@[simp] theorem bnu (b i : Nat) (w : World) (K : KV) : faT P T.z (.pointer (some ⟨b, i, none⟩)) 0 w K = K (.pointer (some ⟨b, i, none⟩)) w := .trans (by kernel_rfl) rfl
@[simp] theorem bnp (rx ry : Operand) (l c : Nat) (w : World) (K : KV) : fj P .eql T.n rx ry (.slice none l c) (.slice none 0 0) w K = K (.bool true) w := .trans (by kernel_rfl) rfl
@[simp] theorem bky (rx ry : Operand) (a : Addr) (l c : Nat) (w : World) (K : KV) : fj P .eql T.n rx ry (.slice (some a) l c) (.slice none 0 0) w K = K (.bool false) w := .trans (by kernel_rfl) rfl
@[simp] theorem bkx  (w : World) (K : KV) : bsT P T.n 0 #[] w K = K (.slice (some ⟨w.heap.size, 0, none⟩) 0 0) (w.alloc (.cells #[] T.z)) := .trans (by kernel_rfl) rfl
@[simp] theorem bpd : mq P T.ay = true := .trans (by kernel_rfl) rfl
@[simp] theorem bph : szE P T.ay = 1 := .trans (by kernel_rfl) rfl
@[simp] theorem bns (p0 : Option Addr) (l0 c0 : Nat) (p1 : Option Addr) (l1 c1 : Nat) (w : World) (K : KV) : bsT P T.ay 2 #[(0, (.slice p0 l0 c0)), (1, (.slice p1 l1 c1))] w K = K (.slice (some ⟨w.heap.size, 0, none⟩) 2 2) (w.alloc (.cells #[(.slice p0 l0 c0), (.slice p1 l1 c1)] T.k)) := .trans (by kernel_rfl) rfl
@[simp] theorem bml (x0 : Int) (x1 : Int) (p2 : Option Addr) (l2 c2 : Nat) (x3 : Int) (w : World) (K : KV) : iz P T.af #[(0, (.int .i64 x0)), (1, (.int .i64 x1)), (2, (.slice p2 l2 c2)), (3, (.int .i64 x3))] w K = K (.agg #[(.int .i64 x0), (.int .i64 x1), (.slice p2 l2 c2), (.int .i64 x3)]) w := .trans (by kernel_rfl) rfl
@[simp] theorem bjg (rx ry : Operand) (l c : Nat) (w : World) (K : KV) : fj P .eql T.e rx ry (.slice none l c) (.slice none 0 0) w K = K (.bool true) w := .trans (by kernel_rfl) rfl
@[simp] theorem bpy (rx ry : Operand) (a : Addr) (l c : Nat) (w : World) (K : KV) : fj P .eql T.e rx ry (.slice (some a) l c) (.slice none 0 0) w K = K (.bool false) w := .trans (by kernel_rfl) rfl
@[simp] theorem bpr  (w : World) (K : KV) : bsT P T.e 0 #[] w K = K (.slice (some ⟨w.heap.size, 0, none⟩) 0 0) (w.alloc (.cells #[] T.an)) := .trans (by kernel_rfl) rfl
@[simp] theorem bnh (x0 : Int) (bo1 : Bool) (p2 : Option Addr) (l2 c2 : Nat) (w : World) (K : KV) : iz P T.y #[(0, (.int .u64 x0)), (1, (.bool bo1)), (2, (.slice p2 l2 c2))] w K = K (.agg #[(.int .u64 x0), (.bool bo1), (.slice p2 l2 c2)]) w := .trans (by kernel_rfl) rfl
@[simp] theorem bja (v : Value) (w : World) (K : KV) : ue P T.y v w K = K (.iface T.y v) w := .trans (by kernel_rfl) rfl
@[simp] theorem bll (p0 : Option Addr) (l0 c0 : Nat) (w : World) (K : KV) : iz P T.aa #[(0, (.slice p0 l0 c0))] w K = K (.agg #[(.slice p0 l0 c0)]) w := .trans (by kernel_rfl) rfl
@[simp] theorem bki (v : Value) (w : World) (K : KV) : ue P T.aa v w K = K (.iface T.aa v) w := .trans (by kernel_rfl) rfl
@[simp] theorem bme (x0 : Int) (c1_0 c1_1 : Value) (x2 : Int) (w : World) (K : KV) : iz P T.p #[(0, (.int .u64 x0)), (1, (.agg #[c1_0, c1_1])), (2, (.int .i64 x2))] w K = K (.agg #[(.int .u64 x0), c1_0, c1_1, (.int .i64 x2)]) w := .trans (by kernel_rfl) rfl
@[simp] theorem bkm (v : Value) (w : World) (K : KV) : ue P T.p v w K = K (.iface T.p v) w := .trans (by kernel_rfl) rfl
@[simp] theorem bmq (x0 : Int) (c1_0 c1_1 : Value) (bo2 : Bool) (c3_0 c3_1 : Value) (x4 : Int) (bo5 : Bool) (w : World) (K : KV) : iz P T.s #[(0, (.int .u64 x0)), (1, (.agg #[c1_0, c1_1])), (2, (.bool bo2)), (3, (.agg #[c3_0, c3_1])), (4, (.int .i64 x4)), (5, (.bool bo5))] w K = K (.agg #[(.int .u64 x0), c1_0, c1_1, (.bool bo2), c3_0, c3_1, (.int .i64 x4), (.bool bo5)]) w := .trans (by kernel_rfl) rfl
@[simp] theorem blw (v : Value) (w : World) (K : KV) : ue P T.s v w K = K (.iface T.s v) w := .trans (by kernel_rfl) rfl
@[simp] theorem bjk (x0 : Int) (x1 : Int) (w : World) (K : KV) : iz P T.ae #[(0, (.int .u64 x0)), (1, (.int .i64 x1))] w K = K (.agg #[(.int .u64 x0), (.int .i64 x1)]) w := .trans (by kernel_rfl) rfl
@[simp] theorem bnb (v : Value) (w : World) (K : KV) : ue P T.ae v w K = K (.iface T.ae v) w := .trans (by kernel_rfl) rfl
@[simp] theorem blf (x0 : Int) (c1_0 c1_1 : Value) (p2 : Option Addr) (l2 c2 : Nat) (w : World) (K : KV) : iz P T.w #[(0, (.int .u64 x0)), (1, (.agg #[c1_0, c1_1])), (2, (.slice p2 l2 c2))] w K = K (.agg #[(.int .u64 x0), c1_0, c1_1, (.slice p2 l2 c2)]) w := .trans (by kernel_rfl) rfl
@[simp] theorem blj (v : Value) (w : World) (K : KV) : ue P T.w v w K = K (.iface T.w v) w := .trans (by kernel_rfl) rfl
@[simp] theorem bpm (x0 : Int) (p1 : Option Addr) (l1 c1 : Nat) (w : World) (K : KV) : iz P T.ab #[(0, (.int .u64 x0)), (1, (.slice p1 l1 c1))] w K = K (.agg #[(.int .u64 x0), (.slice p1 l1 c1)]) w := .trans (by kernel_rfl) rfl
@[simp] theorem bof (b i : Nat) (w : World) (K : KV) : faT P T.af (.pointer (some ⟨b, i, none⟩)) 3 w K = K (.pointer (some ⟨b, i + 3, none⟩)) w := .trans (by kernel_rfl) rfl
@[simp] theorem bmd (b i : Nat) (w : World) (K : KV) : faT P T.ac (.pointer (some ⟨b, i, none⟩)) 1 w K = K (.pointer (some ⟨b, i + 1, none⟩)) w := .trans (by kernel_rfl) rfl
@[simp] theorem bks (b i : Nat) (p : Option Addr) (l c : Nat) (w : World) (K : KV) : stT P T.m (.pointer (some ⟨b, i, none⟩)) (.slice p l c) w K = st1 P b i (.slice p l c) w K := .trans (by kernel_rfl) rfl
@[simp] theorem bot (x0 : Int) (x1 : Int) (w : World) (K : KV) : iz P T.a #[(0, (.int .i64 x0)), (1, (.int .u64 x1))] w K = K (.agg #[(.int .i64 x0), (.int .u64 x1), (.int .u64 0), (.int .u64 0), (.int .u64 0), (.int .u64 0), (.int .i64 0), (.bool false), (.slice none 0 0), (.slice none 0 0), (.slice none 0 0)]) w := .trans (by kernel_rfl) rfl
@[simp] theorem bpx (b i : Nat) (p : Option Addr) (l c : Nat) (w : World) (K : KV) : stT P T.n (.pointer (some ⟨b, i, none⟩)) (.slice p l c) w K = st1 P b i (.slice p l c) w K := .trans (by kernel_rfl) rfl
@[simp] theorem bla (b i : Nat) (p : Option Addr) (l c : Nat) (w : World) (K : KV) : stT P T.o (.pointer (some ⟨b, i, none⟩)) (.slice p l c) w K = st1 P b i (.slice p l c) w K := .trans (by kernel_rfl) rfl
@[simp] theorem bmo (w : World) (K : KV) : alT P T.v w K = K (.pointer (some ⟨w.heap.size, 0, none⟩)) (w.alloc (.cells #[(.int .u64 0), (.int .u64 0), (.int .i64 0)] T.v)) := .trans (by kernel_rfl) rfl
@[simp] theorem bmm (b i : Nat) (c_0 c_1 c_2 : Value) (w : World) (K : KV) : stT P T.v (.pointer (some ⟨b, i, none⟩)) (.agg #[c_0, c_1, c_2]) w K = stN P b i [c_0, c_1, c_2] w K := .trans (by kernel_rfl) rfl
@[simp] theorem bjx (b i : Nat) (w : World) (K : KV) : faT P T.v (.pointer (some ⟨b, i, none⟩)) 0 w K = K (.pointer (some ⟨b, i, none⟩)) w := .trans (by kernel_rfl) rfl
@[simp] theorem bkn (b i : Nat) (w : World) (K : KV) : faT P T.v (.pointer (some ⟨b, i, none⟩)) 1 w K = K (.pointer (some ⟨b, i + 1, none⟩)) w := .trans (by kernel_rfl) rfl
@[simp] theorem bmi (b i : Nat) (w : World) (K : KV) : faT P T.v (.pointer (some ⟨b, i, none⟩)) 2 w K = K (.pointer (some ⟨b, i + 2, none⟩)) w := .trans (by kernel_rfl) rfl
@[simp] theorem bkr (b i : Nat) (w : World) (K : KV) : ldT P T.ai (.pointer (some ⟨b, i, none⟩)) w K = ld1 P b i w K := .trans (by kernel_rfl) rfl
@[simp] theorem bqb (v : Value) (w : World) (K : KV) : taT P (.iface T.y v) T.aq T.y true w K = K (.tuple #[v, .bool true]) w := .trans (by kernel_rfl) rfl
@[simp] theorem boq (w : World) (K : KV) : alT P T.y w K = K (.pointer (some ⟨w.heap.size, 0, none⟩)) (w.alloc (.cells #[(.int .u64 0), (.bool false), (.slice none 0 0)] T.y)) := .trans (by kernel_rfl) rfl
@[simp] theorem bkt (b i : Nat) (c_0 c_1 c_2 : Value) (w : World) (K : KV) : stT P T.y (.pointer (some ⟨b, i, none⟩)) (.agg #[c_0, c_1, c_2]) w K = stN P b i [c_0, c_1, c_2] w K := .trans (by kernel_rfl) rfl
@[simp] theorem boo (b i : Nat) (w : World) (K : KV) : faT P T.y (.pointer (some ⟨b, i, none⟩)) 0 w K = K (.pointer (some ⟨b, i, none⟩)) w := .trans (by kernel_rfl) rfl
@[simp] theorem bls (b i : Nat) (w : World) (K : KV) : faT P T.y (.pointer (some ⟨b, i, none⟩)) 2 w K = K (.pointer (some ⟨b, i + 2, none⟩)) w := .trans (by kernel_rfl) rfl
@[simp] theorem bix (x0 : Int) (x1 : Int) (p2 : Option Addr) (l2 c2 : Nat) (w : World) (K : KV) : iz P T.a #[(0, (.int .i64 x0)), (1, (.int .u64 x1)), (6, (.slice p2 l2 c2))] w K = K (.agg #[(.int .i64 x0), (.int .u64 x1), (.int .u64 0), (.int .u64 0), (.int .u64 0), (.int .u64 0), (.int .i64 0), (.bool false), (.slice p2 l2 c2), (.slice none 0 0), (.slice none 0 0)]) w := .trans (by kernel_rfl) rfl
@[simp] theorem bln (b i : Nat) (w : World) (K : KV) : faT P T.y (.pointer (some ⟨b, i, none⟩)) 1 w K = K (.pointer (some ⟨b, i + 1, none⟩)) w := .trans (by kernel_rfl) rfl
@[simp] theorem bkh (v : Value) (w : World) (K : KV) : taT P (.iface T.aa v) T.aq T.aa true w K = K (.tuple #[v, .bool true]) w := .trans (by kernel_rfl) rfl
@[simp] theorem bmt (w : World) (K : KV) : alT P T.aa w K = K (.pointer (some ⟨w.heap.size, 0, none⟩)) (w.alloc (.cells #[(.slice none 0 0)] T.aa)) := .trans (by kernel_rfl) rfl
@[simp] theorem boc (b i : Nat) (c_0 : Value) (w : World) (K : KV) : stT P T.aa (.pointer (some ⟨b, i, none⟩)) (.agg #[c_0]) w K = stN P b i [c_0] w K := .trans (by kernel_rfl) rfl
@[simp] theorem bly (b i : Nat) (w : World) (K : KV) : faT P T.aa (.pointer (some ⟨b, i, none⟩)) 0 w K = K (.pointer (some ⟨b, i, none⟩)) w := .trans (by kernel_rfl) rfl
@[simp] theorem bmr (x0 : Int) (p1 : Option Addr) (l1 c1 : Nat) (w : World) (K : KV) : iz P T.a #[(0, (.int .i64 x0)), (7, (.slice p1 l1 c1))] w K = K (.agg #[(.int .i64 x0), (.int .u64 0), (.int .u64 0), (.int .u64 0), (.int .u64 0), (.int .u64 0), (.int .i64 0), (.bool false), (.slice none 0 0), (.slice p1 l1 c1), (.slice none 0 0)]) w := .trans (by kernel_rfl) rfl
@[simp] theorem bjm (v : Value) (w : World) (K : KV) : taT P (.iface T.s v) T.aq T.s true w K = K (.tuple #[v, .bool true]) w := .trans (by kernel_rfl) rfl
@[simp] theorem bpt (w : World) (K : KV) : alT P T.s w K = K (.pointer (some ⟨w.heap.size, 0, none⟩)) (w.alloc (.cells #[(.int .u64 0), (.int .u64 0), (.int .u64 0), (.bool false), (.int .u64 0), (.int .u64 0), (.int .i64 0), (.bool false)] T.s)) := .trans (by kernel_rfl) rfl
@[simp] theorem bjv (b i : Nat) (c_0 c_1 c_2 c_3 c_4 c_5 c_6 c_7 : Value) (w : World) (K : KV) : stT P T.s (.pointer (some ⟨b, i, none⟩)) (.agg #[c_0, c_1, c_2, c_3, c_4, c_5, c_6, c_7]) w K = stN P b i [c_0, c_1, c_2, c_3, c_4, c_5, c_6, c_7] w K := .trans (by kernel_rfl) rfl
@[simp] theorem bnr (b i : Nat) (w : World) (K : KV) : faT P T.s (.pointer (some ⟨b, i, none⟩)) 0 w K = K (.pointer (some ⟨b, i, none⟩)) w := .trans (by kernel_rfl) rfl
@[simp] theorem bkk (b i : Nat) (w : World) (K : KV) : faT P T.s (.pointer (some ⟨b, i, none⟩)) 1 w K = K (.pointer (some ⟨b, i + 1, none⟩)) w := .trans (by kernel_rfl) rfl
@[simp] theorem bqf (b i : Nat) (w : World) (K : KV) : faT P T.s (.pointer (some ⟨b, i, none⟩)) 2 w K = K (.pointer (some ⟨b, i + 3, none⟩)) w := .trans (by kernel_rfl) rfl
@[simp] theorem bmc (b i : Nat) (w : World) (K : KV) : faT P T.s (.pointer (some ⟨b, i, none⟩)) 3 w K = K (.pointer (some ⟨b, i + 4, none⟩)) w := .trans (by kernel_rfl) rfl
@[simp] theorem bmh (b i : Nat) (w : World) (K : KV) : faT P T.s (.pointer (some ⟨b, i, none⟩)) 4 w K = K (.pointer (some ⟨b, i + 6, none⟩)) w := .trans (by kernel_rfl) rfl
@[simp] theorem bpv (x0 : Int) (x1 : Int) (c2_0 c2_1 : Value) (bo3 : Bool) (c4_0 c4_1 : Value) (x5 : Int) (w : World) (K : KV) : iz P T.a #[(0, (.int .i64 x0)), (1, (.int .u64 x1)), (2, (.agg #[c2_0, c2_1])), (5, (.bool bo3)), (3, (.agg #[c4_0, c4_1])), (4, (.int .i64 x5))] w K = K (.agg #[(.int .i64 x0), (.int .u64 x1), c2_0, c2_1, c4_0, c4_1, (.int .i64 x5), (.bool bo3), (.slice none 0 0), (.slice none 0 0), (.slice none 0 0)]) w := .trans (by kernel_rfl) rfl
@[simp] theorem bir (b i : Nat) (w : World) (K : KV) : faT P T.s (.pointer (some ⟨b, i, none⟩)) 5 w K = K (.pointer (some ⟨b, i + 7, none⟩)) w := .trans (by kernel_rfl) rfl
@[simp] theorem bqe (v : Value) (w : World) (K : KV) : taT P (.iface T.ae v) T.aq T.ae true w K = K (.tuple #[v, .bool true]) w := .trans (by kernel_rfl) rfl
@[simp] theorem bpa (w : World) (K : KV) : alT P T.ae w K = K (.pointer (some ⟨w.heap.size, 0, none⟩)) (w.alloc (.cells #[(.int .u64 0), (.int .i64 0)] T.ae)) := .trans (by kernel_rfl) rfl
@[simp] theorem bjz (b i : Nat) (c_0 c_1 : Value) (w : World) (K : KV) : stT P T.ae (.pointer (some ⟨b, i, none⟩)) (.agg #[c_0, c_1]) w K = stN P b i [c_0, c_1] w K := .trans (by kernel_rfl) rfl
@[simp] theorem bnt (b i : Nat) (w : World) (K : KV) : faT P T.ae (.pointer (some ⟨b, i, none⟩)) 0 w K = K (.pointer (some ⟨b, i, none⟩)) w := .trans (by kernel_rfl) rfl
@[simp] theorem blr (b i : Nat) (w : World) (K : KV) : faT P T.ae (.pointer (some ⟨b, i, none⟩)) 1 w K = K (.pointer (some ⟨b, i + 1, none⟩)) w := .trans (by kernel_rfl) rfl
@[simp] theorem bjo (x0 : Int) (x1 : Int) (x2 : Int) (w : World) (K : KV) : iz P T.a #[(0, (.int .i64 x0)), (1, (.int .u64 x1)), (4, (.int .i64 x2))] w K = K (.agg #[(.int .i64 x0), (.int .u64 x1), (.int .u64 0), (.int .u64 0), (.int .u64 0), (.int .u64 0), (.int .i64 x2), (.bool false), (.slice none 0 0), (.slice none 0 0), (.slice none 0 0)]) w := .trans (by kernel_rfl) rfl
@[simp] theorem bmk (v : Value) (w : World) (K : KV) : taT P (.iface T.ab v) T.aq T.ab true w K = K (.tuple #[v, .bool true]) w := .trans (by kernel_rfl) rfl
@[simp] theorem bjs (b i : Nat) (w : World) (K : KV) : faT P T.ab (.pointer (some ⟨b, i, none⟩)) 0 w K = K (.pointer (some ⟨b, i, none⟩)) w := .trans (by kernel_rfl) rfl
@[simp] theorem bod (b i : Nat) (w : World) (K : KV) : faT P T.z (.pointer (some ⟨b, i, none⟩)) 3 w K = K (.pointer (some ⟨b, i + 3, none⟩)) w := .trans (by kernel_rfl) rfl
@[simp] theorem bmb (x0 : Int) (x1 : Int) (w : World) (K : KV) : bsT P T.k 2 #[(0, (.int .i64 x0)), (1, (.int .i64 x1))] w K = K (.slice (some ⟨w.heap.size, 0, none⟩) 2 2) (w.alloc (.cells #[(.int .i64 x0), (.int .i64 x1)] T.b)) := .trans (by kernel_rfl) rfl
@[simp] theorem bnv (rx ry : Operand)  (w : World) (K : KV) : fj P .eql T.bd rx ry (.pointer none) (.pointer none) w K = K (.bool true) w := .trans (by kernel_rfl) rfl
@[simp] theorem blz (rx ry : Operand) (a : Addr) (w : World) (K : KV) : fj P .eql T.bd rx ry (.pointer (some a)) (.pointer none) w K = K (.bool false) w := .trans (by kernel_rfl) rfl
@[simp] theorem bno (rx ry : Operand) (l c : Nat) (w : World) (K : KV) : fj P .eql T.o rx ry (.slice none l c) (.slice none 0 0) w K = K (.bool true) w := .trans (by kernel_rfl) rfl
@[simp] theorem bku (rx ry : Operand) (a : Addr) (l c : Nat) (w : World) (K : KV) : fj P .eql T.o rx ry (.slice (some a) l c) (.slice none 0 0) w K = K (.bool false) w := .trans (by kernel_rfl) rfl
@[simp] theorem bmv  (w : World) (K : KV) : bsT P T.o 0 #[] w K = K (.slice (some ⟨w.heap.size, 0, none⟩) 0 0) (w.alloc (.cells #[] T.v)) := .trans (by kernel_rfl) rfl
@[simp] theorem biv (rx ry : Operand) (l c : Nat) (w : World) (K : KV) : fj P .eql T.f rx ry (.slice none l c) (.slice none 0 0) w K = K (.bool true) w := .trans (by kernel_rfl) rfl
@[simp] theorem bon (rx ry : Operand) (a : Addr) (l c : Nat) (w : World) (K : KV) : fj P .eql T.f rx ry (.slice (some a) l c) (.slice none 0 0) w K = K (.bool false) w := .trans (by kernel_rfl) rfl
@[simp] theorem blp (x0 : Int) (p1 : Option Addr) (l1 c1 : Nat) (w : World) (K : KV) : iz P T.af #[(1, (.int .i64 x0)), (2, (.slice p1 l1 c1))] w K = K (.agg #[(.int .i64 0), (.int .i64 x0), (.slice p1 l1 c1), (.int .i64 0)]) w := .trans (by kernel_rfl) rfl
@[simp] theorem biy (rx ry : Operand)  (w : World) (K : KV) : fj P .neq T.ad rx ry (.pointer none) (.pointer none) w K = K (.bool false) w := .trans (by kernel_rfl) rfl
@[simp] theorem bje (rx ry : Operand) (a : Addr) (w : World) (K : KV) : fj P .neq T.ad rx ry (.pointer (some a)) (.pointer none) w K = K (.bool true) w := .trans (by kernel_rfl) rfl
@[simp] theorem bor (b i : Nat) (w : World) (K : KV) : faT P T.ah (.pointer (some ⟨b, i, none⟩)) 0 w K = K (.pointer (some ⟨b, i, none⟩)) w := .trans (by kernel_rfl) rfl
@[simp] theorem bnm  (w : World) (K : KV) : iz P T.aj #[] w K = K (.agg #[(.slice none 0 0), (.slice none 0 0)]) w := .trans (by kernel_rfl) rfl
@[simp] theorem bmz (b i : Nat) (w : World) (K : KV) : faT P T.z (.pointer (some ⟨b, i, none⟩)) 4 w K = K (.pointer (some ⟨b, i + 4, none⟩)) w := .trans (by kernel_rfl) rfl
@[simp] theorem bnx : mq P T.bc = true := .trans (by kernel_rfl) rfl
@[simp] theorem bog : szE P T.bc = 1 := .trans (by kernel_rfl) rfl
@[simp] theorem bqc (x0 : Int) (x1 : Int) (w : World) (K : KV) : bsT P T.bc 2 #[(0, (.int .i64 x0)), (1, (.int .i64 x1))] w K = K (.slice (some ⟨w.heap.size, 0, none⟩) 2 2) (w.alloc (.cells #[(.int .i64 x0), (.int .i64 x1)] T.ai)) := .trans (by kernel_rfl) rfl
@[simp] theorem bjr (w : World) (K : KV) : alT P T.u w K = K (.pointer (some ⟨w.heap.size, 0, none⟩)) (w.alloc (.cells #[(.int .u64 0)] T.u)) := .trans (by kernel_rfl) rfl
@[simp] theorem bmy (b i : Nat) (x : Int) (w : World) (K : KV) : stT P T.u (.pointer (some ⟨b, i, none⟩)) (.int .u64 x) w K = st1 P b i (.int .u64 x) w K := .trans (by kernel_rfl) rfl
theorem mt.av : vy P T.av .u64 T.ar (.bool false) := vy.mk' (key := T.d) (by kernel_rfl) (by kernel_rfl) (by kernel_rfl)
@[simp] theorem bka : mq P T.ax = true := .trans (by kernel_rfl) rfl
@[simp] theorem bps : szE P T.ax = 1 := .trans (by kernel_rfl) rfl
theorem et.ax : km P T.ax T.au 1 4 := km.mk' (by kernel_rfl) (by kernel_rfl) (by kernel_rfl)
@[simp] theorem bkd (b i : Nat) (w : World) (K : KV) : ldT P T.au (.pointer (some ⟨b, i, none⟩)) w K = ld1 P b i w K := .trans (by kernel_rfl) rfl
@[simp] theorem bnc (b i : Nat) (w : World) (K : KV) : ldT P T.u (.pointer (some ⟨b, i, none⟩)) w K = ld1 P b i w K := .trans (by kernel_rfl) rfl
@[simp] theorem bmj (x0 : Int) (w : World) (K : KV) : bsT P T.ax 1 #[(0, (.int .i32 x0))] w K = K (.slice (some ⟨w.heap.size, 0, none⟩) 1 1) (w.alloc (.cells #[(.int .i32 x0)] T.au)) := .trans (by kernel_rfl) rfl
end Go.Proofs.YtfnhoaemapheoaaGreat
