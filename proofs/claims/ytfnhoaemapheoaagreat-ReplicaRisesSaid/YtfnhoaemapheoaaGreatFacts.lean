/-
  Printed by wip/Shallow.lean: what the operations come to at this seat's types. No condition.
-/
import Derived.Test.YtfnhoaemapheoaaGreatN
import Derived.Test.YtfnhoaemapheoaaGreatZEng
set_option maxRecDepth 1000000
namespace Go.Proofs.YtfnhoaemapheoaaGreat
open Go.Eng
@[simp] theorem bod (rx ry : Operand) (a : Addr) (w : World) (K : KV) : fe P .eql T.am rx ry (.pointer (some a)) (.pointer none) w K = K (.bool false) w := .trans (by kernel_rfl) rfl
@[simp] theorem bnm (b i : Nat) (w : World) (K : KV) : ldT P T.h (.pointer (some ⟨b, i, none⟩)) w K = ld1 P b i w K := .trans (by kernel_rfl) rfl
@[simp] theorem bnl : li P T.h = true := .trans (by kernel_rfl) rfl
@[simp] theorem bms : szE P T.h = 1 := .trans (by kernel_rfl) rfl
theorem et.h : ku P T.h T.a 1 8 := ku.mk' (by kernel_rfl) (by kernel_rfl) (by kernel_rfl)
@[simp] theorem bnb (b i : Nat) (w : World) (K : KV) : ldT P T.f (.pointer (some ⟨b, i, none⟩)) w K = ld1 P b i w K := .trans (by kernel_rfl) rfl
@[simp] theorem bmz (b i : Nat) (w : World) (K : KV) : ldT P T.p (.pointer (some ⟨b, i, none⟩)) w K = ld1 P b i w K := .trans (by kernel_rfl) rfl
@[simp] theorem bml (x0 : Int) (x1 : Int) (w : World) (K : KV) : iy P T.c #[(0, (.int .u64 x0)), (1, (.int .u64 x1))] w K = K (.agg #[(.int .u64 x0), (.int .u64 x1)]) w := .trans (by kernel_rfl) rfl
@[simp] theorem bnz (w : World) (K : KV) : alT P T.c w K = K (.pointer (some ⟨w.heap.size, 0, none⟩)) (w.alloc (.cells #[(.int .u64 0), (.int .u64 0)] T.c)) := .trans (by kernel_rfl) rfl
@[simp] theorem bnu (b i : Nat) (c_0 c_1 : Value) (w : World) (K : KV) : stT P T.c (.pointer (some ⟨b, i, none⟩)) (.agg #[c_0, c_1]) w K = stN P b i [c_0, c_1] w K := .trans (by kernel_rfl) rfl
@[simp] theorem bng  (w : World) (K : KV) : iy P T.c #[] w K = K (.agg #[(.int .u64 0), (.int .u64 0)]) w := .trans (by kernel_rfl) rfl
@[simp] theorem bnc (b i : Nat) (w : World) (K : KV) : ldT P T.a (.pointer (some ⟨b, i, none⟩)) w K = ld1 P b i w K := .trans (by kernel_rfl) rfl
@[simp] theorem bnj (b i : Nat) (w : World) (K : KV) : ldT P T.c (.pointer (some ⟨b, i, none⟩)) w K = ldN P 2 b i w K := .trans (by kernel_rfl) rfl
@[simp] theorem bna (x0 : Int) (x1 : Int) (c2_0 c2_1 : Value) (w : World) (K : KV) : iy P T.b #[(0, (.int .i64 x0)), (1, (.int .u64 x1)), (2, (.agg #[c2_0, c2_1]))] w K = K (.agg #[(.int .i64 x0), (.int .u64 x1), c2_0, c2_1, (.int .u64 0), (.int .u64 0), (.int .i64 0), (.bool false), (.slice none 0 0), (.slice none 0 0), (.slice none 0 0)]) w := .trans (by kernel_rfl) rfl
@[simp] theorem bmr (w : World) (K : KV) : alT P T.b w K = K (.pointer (some ⟨w.heap.size, 0, none⟩)) (w.alloc (.cells #[(.int .i64 0), (.int .u64 0), (.int .u64 0), (.int .u64 0), (.int .u64 0), (.int .u64 0), (.int .i64 0), (.bool false), (.slice none 0 0), (.slice none 0 0), (.slice none 0 0)] T.b)) := .trans (by kernel_rfl) rfl
@[simp] theorem bmq (b i : Nat) (c_0 c_1 c_2 c_3 c_4 c_5 c_6 c_7 c_8 c_9 c_10 : Value) (w : World) (K : KV) : stT P T.b (.pointer (some ⟨b, i, none⟩)) (.agg #[c_0, c_1, c_2, c_3, c_4, c_5, c_6, c_7, c_8, c_9, c_10]) w K = stN P b i [c_0, c_1, c_2, c_3, c_4, c_5, c_6, c_7, c_8, c_9, c_10] w K := .trans (by kernel_rfl) rfl
@[simp] theorem bmh (b i : Nat) (w : World) (K : KV) : faT P T.b (.pointer (some ⟨b, i, none⟩)) 5 w K = K (.pointer (some ⟨b, i + 7, none⟩)) w := .trans (by kernel_rfl) rfl
@[simp] theorem bmw (b i : Nat) (w : World) (K : KV) : ldT P T.ar (.pointer (some ⟨b, i, none⟩)) w K = ld1 P b i w K := .trans (by kernel_rfl) rfl
@[simp] theorem bnf (b i : Nat) (bo : Bool) (w : World) (K : KV) : stT P T.ar (.pointer (some ⟨b, i, none⟩)) (.bool bo) w K = st1 P b i (.bool bo) w K := .trans (by kernel_rfl) rfl
@[simp] theorem bni (b i : Nat) (w : World) (K : KV) : faT P T.b (.pointer (some ⟨b, i, none⟩)) 4 w K = K (.pointer (some ⟨b, i + 6, none⟩)) w := .trans (by kernel_rfl) rfl
@[simp] theorem boc (b i : Nat) (w : World) (K : KV) : faT P T.b (.pointer (some ⟨b, i, none⟩)) 3 w K = K (.pointer (some ⟨b, i + 4, none⟩)) w := .trans (by kernel_rfl) rfl
@[simp] theorem bmi (b i : Nat) (w : World) (K : KV) : ldT P T.ak (.pointer (some ⟨b, i, none⟩)) w K = ld1 P b i w K := .trans (by kernel_rfl) rfl
@[simp] theorem bmt (x0 : Int) (x1 : Int) (c2_0 c2_1 : Value) (x3 : Int) (w : World) (K : KV) : iy P T.b #[(0, (.int .i64 x0)), (1, (.int .u64 x1)), (2, (.agg #[c2_0, c2_1])), (4, (.int .i64 x3))] w K = K (.agg #[(.int .i64 x0), (.int .u64 x1), c2_0, c2_1, (.int .u64 0), (.int .u64 0), (.int .i64 x3), (.bool false), (.slice none 0 0), (.slice none 0 0), (.slice none 0 0)]) w := .trans (by kernel_rfl) rfl
@[simp] theorem bmo (b i : Nat) (w : World) (K : KV) : ldT P T.b (.pointer (some ⟨b, i, none⟩)) w K = ldN P 11 b i w K := .trans (by kernel_rfl) rfl
@[simp] theorem bne : li P T.aj = true := .trans (by kernel_rfl) rfl
@[simp] theorem bnp : szE P T.aj = 11 := .trans (by kernel_rfl) rfl
theorem et.aj : ku P T.aj T.b 11 136 := ku.mk' (by kernel_rfl) (by kernel_rfl) (by kernel_rfl)
@[simp] theorem bmy (c0_0 c0_1 c0_2 c0_3 c0_4 c0_5 c0_6 c0_7 c0_8 c0_9 c0_10 : Value) (w : World) (K : KV) : bsT P T.aj 1 #[(0, (.agg #[c0_0, c0_1, c0_2, c0_3, c0_4, c0_5, c0_6, c0_7, c0_8, c0_9, c0_10]))] w K = K (.slice (some ⟨w.heap.size, 0, none⟩) 1 1) (w.alloc (.cells #[c0_0, c0_1, c0_2, c0_3, c0_4, c0_5, c0_6, c0_7, c0_8, c0_9, c0_10] T.b)) := .trans (by kernel_rfl) rfl
@[simp] theorem bnd (b i : Nat) (w : World) (K : KV) : faT P T.b (.pointer (some ⟨b, i, none⟩)) 2 w K = K (.pointer (some ⟨b, i + 2, none⟩)) w := .trans (by kernel_rfl) rfl
@[simp] theorem bnn : li P T.ae = true := .trans (by kernel_rfl) rfl
@[simp] theorem bmv : szE P T.ae = 14 := .trans (by kernel_rfl) rfl
theorem et.ae : ku P T.ae T.an 14 176 := ku.mk' (by kernel_rfl) (by kernel_rfl) (by kernel_rfl)
@[simp] theorem bnr (b i : Nat) (w : World) (K : KV) : faT P T.an (.pointer (some ⟨b, i, none⟩)) 0 w K = K (.pointer (some ⟨b, i, none⟩)) w := .trans (by kernel_rfl) rfl
@[simp] theorem bmp (b i : Nat) (w : World) (K : KV) : faT P T.an (.pointer (some ⟨b, i, none⟩)) 2 w K = K (.pointer (some ⟨b, i + 2, none⟩)) w := .trans (by kernel_rfl) rfl
@[simp] theorem bmg  (w : World) (K : KV) : iy P T.b #[] w K = K (.agg #[(.int .i64 0), (.int .u64 0), (.int .u64 0), (.int .u64 0), (.int .u64 0), (.int .u64 0), (.int .i64 0), (.bool false), (.slice none 0 0), (.slice none 0 0), (.slice none 0 0)]) w := .trans (by kernel_rfl) rfl
@[simp] theorem bmn (b i : Nat) (w : World) (K : KV) : faT P T.an (.pointer (some ⟨b, i, none⟩)) 1 w K = K (.pointer (some ⟨b, i + 1, none⟩)) w := .trans (by kernel_rfl) rfl
@[simp] theorem bmj (b i : Nat) (w : World) (K : KV) : faT P T.an (.pointer (some ⟨b, i, none⟩)) 3 w K = K (.pointer (some ⟨b, i + 13, none⟩)) w := .trans (by kernel_rfl) rfl
@[simp] theorem bmm (b i : Nat) (w : World) (K : KV) : faT P T.b (.pointer (some ⟨b, i, none⟩)) 1 w K = K (.pointer (some ⟨b, i + 1, none⟩)) w := .trans (by kernel_rfl) rfl
@[simp] theorem bnt (w : World) (K : KV) : alT P T.w w K = K (.pointer (some ⟨w.heap.size, 0, none⟩)) (w.alloc (.cells #[(.int .u64 0), (.int .u64 0), (.int .u64 0), (.int .u64 0), (.int .i64 0)] T.w)) := .trans (by kernel_rfl) rfl
@[simp] theorem bns (b i : Nat) (c_0 c_1 c_2 c_3 c_4 : Value) (w : World) (K : KV) : stT P T.w (.pointer (some ⟨b, i, none⟩)) (.agg #[c_0, c_1, c_2, c_3, c_4]) w K = stN P b i [c_0, c_1, c_2, c_3, c_4] w K := .trans (by kernel_rfl) rfl
@[simp] theorem bnx (b i : Nat) (w : World) (K : KV) : ldT P T.w (.pointer (some ⟨b, i, none⟩)) w K = ldN P 5 b i w K := .trans (by kernel_rfl) rfl
@[simp] theorem bnv (b i : Nat) (w : World) (K : KV) : faT P T.w (.pointer (some ⟨b, i, none⟩)) 0 w K = K (.pointer (some ⟨b, i, none⟩)) w := .trans (by kernel_rfl) rfl
@[simp] theorem bnw (b i : Nat) (w : World) (K : KV) : faT P T.b (.pointer (some ⟨b, i, none⟩)) 0 w K = K (.pointer (some ⟨b, i, none⟩)) w := .trans (by kernel_rfl) rfl
@[simp] theorem bmu (b i : Nat) (w : World) (K : KV) : faT P T.w (.pointer (some ⟨b, i, none⟩)) 1 w K = K (.pointer (some ⟨b, i + 2, none⟩)) w := .trans (by kernel_rfl) rfl
@[simp] theorem bno (b i : Nat) (w : World) (K : KV) : faT P T.w (.pointer (some ⟨b, i, none⟩)) 2 w K = K (.pointer (some ⟨b, i + 4, none⟩)) w := .trans (by kernel_rfl) rfl
@[simp] theorem bnh : li P T.t = true := .trans (by kernel_rfl) rfl
@[simp] theorem bob : szE P T.t = 8 := .trans (by kernel_rfl) rfl
theorem et.t : ku P T.t T.ac 8 80 := ku.mk' (by kernel_rfl) (by kernel_rfl) (by kernel_rfl)
@[simp] theorem bnq (b i : Nat) (w : World) (K : KV) : faT P T.b (.pointer (some ⟨b, i, none⟩)) 6 w K = K (.pointer (some ⟨b, i + 8, none⟩)) w := .trans (by kernel_rfl) rfl
@[simp] theorem bmx (b i : Nat) (w : World) (K : KV) : ldT P T.t (.pointer (some ⟨b, i, none⟩)) w K = ld1 P b i w K := .trans (by kernel_rfl) rfl
@[simp] theorem bnk (b i : Nat) (w : World) (K : KV) : ldT P T.ac (.pointer (some ⟨b, i, none⟩)) w K = ldN P 8 b i w K := .trans (by kernel_rfl) rfl
@[simp] theorem bmk : li P T.g = true := .trans (by kernel_rfl) rfl
@[simp] theorem bny : szE P T.g = 1 := .trans (by kernel_rfl) rfl
theorem et.g : ku P T.g T.f 1 8 := ku.mk' (by kernel_rfl) (by kernel_rfl) (by kernel_rfl)
@[simp] theorem bih (rx ry : Operand) (a : Addr) (w : World) (K : KV) : fe P .neq T.am rx ry (.pointer (some a)) (.pointer none) w K = K (.bool true) w := .trans (by kernel_rfl) rfl
@[simp] theorem bix (c_0 c_1 c_2 c_3 c_4 : Value) (w : World) (K : KV) : fdT P T.e (.agg #[c_0, c_1, c_2, c_3, c_4]) 0 w K = K (.agg #[c_0, c_1]) w := .trans (by kernel_rfl) rfl
@[simp] theorem bky (x0 : Int) (r1 : Option Nat) (w : World) (K : KV) : iy P T.af #[(0, (.int .i64 x0)), (1, (.map r1))] w K = K (.agg #[(.int .i64 x0), (.map r1), (.int .i64 0), (.bool false), (.bool false)]) w := .trans (by kernel_rfl) rfl
@[simp] theorem bie (p0 : Option Addr) (p1 : Option Addr) (r2 : Option Nat) (w : World) (K : KV) : iy P T.i #[(0, (.pointer p0)), (1, (.pointer p1)), (2, (.map r2))] w K = K (.agg #[(.pointer p0), (.pointer p1), (.map r2), (.bool false)]) w := .trans (by kernel_rfl) rfl
@[simp] theorem bjn : li P T.j = true := .trans (by kernel_rfl) rfl
@[simp] theorem bhq : szE P T.j = 1 := .trans (by kernel_rfl) rfl
theorem et.j : ku P T.j T.d 1 24 := ku.mk' (by kernel_rfl) (by kernel_rfl) (by kernel_rfl)
@[simp] theorem bfl (b i : Nat) (w : World) (K : KV) : ldT P T.d (.pointer (some ⟨b, i, none⟩)) w K = ld1 P b i w K := .trans (by kernel_rfl) rfl
@[simp] theorem big (w : World) (K : KV) : alT P T.e w K = K (.pointer (some ⟨w.heap.size, 0, none⟩)) (w.alloc (.cells #[(.int .u64 0), (.int .u64 0), (.int .u64 0), (.int .u64 0), (.int .i64 0)] T.e)) := .trans (by kernel_rfl) rfl
@[simp] theorem bke (b i : Nat) (c_0 c_1 c_2 c_3 c_4 : Value) (w : World) (K : KV) : stT P T.e (.pointer (some ⟨b, i, none⟩)) (.agg #[c_0, c_1, c_2, c_3, c_4]) w K = stN P b i [c_0, c_1, c_2, c_3, c_4] w K := .trans (by kernel_rfl) rfl
@[simp] theorem bjv (b i : Nat) (w : World) (K : KV) : faT P T.i (.pointer (some ⟨b, i, none⟩)) 2 w K = K (.pointer (some ⟨b, i + 2, none⟩)) w := .trans (by kernel_rfl) rfl
@[simp] theorem bgp (b i : Nat) (w : World) (K : KV) : ldT P T.m (.pointer (some ⟨b, i, none⟩)) w K = ld1 P b i w K := .trans (by kernel_rfl) rfl
@[simp] theorem bft (b i : Nat) (w : World) (K : KV) : ldT P T.e (.pointer (some ⟨b, i, none⟩)) w K = ldN P 5 b i w K := .trans (by kernel_rfl) rfl
theorem mt.m : ud P T.m .u64 T.e (.agg #[(.int .u64 0), (.int .u64 0), (.int .u64 0), (.int .u64 0), (.int .i64 0)]) := ud.mk' (key := T.f) (by kernel_rfl) (by kernel_rfl) (by kernel_rfl)
@[simp] theorem bhg (b i : Nat) (w : World) (K : KV) : faT P T.c (.pointer (some ⟨b, i, none⟩)) 0 w K = K (.pointer (some ⟨b, i, none⟩)) w := .trans (by kernel_rfl) rfl
@[simp] theorem bhp (b i : Nat) (w : World) (K : KV) : faT P T.c (.pointer (some ⟨b, i, none⟩)) 1 w K = K (.pointer (some ⟨b, i + 1, none⟩)) w := .trans (by kernel_rfl) rfl
@[simp] theorem bjf (rx ry : Operand) (a : Addr) (w : World) (K : KV) : fe P .eql T.ak rx ry (.pointer (some a)) (.pointer none) w K = K (.bool false) w := .trans (by kernel_rfl) rfl
@[simp] theorem bmc (b i : Nat) (w : World) (K : KV) : faT P T.af (.pointer (some ⟨b, i, none⟩)) 1 w K = K (.pointer (some ⟨b, i + 1, none⟩)) w := .trans (by kernel_rfl) rfl
@[simp] theorem bhl (b i : Nat) (w : World) (K : KV) : ldT P T.o (.pointer (some ⟨b, i, none⟩)) w K = ld1 P b i w K := .trans (by kernel_rfl) rfl
theorem mt.o : ud P T.o .i64 T.ba (.pointer none) := ud.mk' (key := T.a) (by kernel_rfl) (by kernel_rfl) (by kernel_rfl)
@[simp] theorem bjl (b i : Nat) (w : World) (K : KV) : faT P T.ag (.pointer (some ⟨b, i, none⟩)) 1 w K = K (.pointer (some ⟨b, i + 1, none⟩)) w := .trans (by kernel_rfl) rfl
@[simp] theorem bfo : li P T.d = true := .trans (by kernel_rfl) rfl
@[simp] theorem bls : szE P T.d = 1 := .trans (by kernel_rfl) rfl
theorem et.d : ku P T.d T.ap 1 1 := ku.mk' (by kernel_rfl) (by kernel_rfl) (by kernel_rfl)
@[simp] theorem blq (b i : Nat) (w : World) (K : KV) : faT P T.ag (.pointer (some ⟨b, i, none⟩)) 0 w K = K (.pointer (some ⟨b, i, none⟩)) w := .trans (by kernel_rfl) rfl
@[simp] theorem bip (p0 : Option Addr) (l0 c0 : Nat) (p1 : Option Addr) (l1 c1 : Nat) (w : World) (K : KV) : bsT P T.j 2 #[(0, (.slice p0 l0 c0)), (1, (.slice p1 l1 c1))] w K = K (.slice (some ⟨w.heap.size, 0, none⟩) 2 2) (w.alloc (.cells #[(.slice p0 l0 c0), (.slice p1 l1 c1)] T.d)) := .trans (by kernel_rfl) rfl
@[simp] theorem bhb (b i : Nat) (p : Option Addr) (l c : Nat) (w : World) (K : KV) : stT P T.d (.pointer (some ⟨b, i, none⟩)) (.slice p l c) w K = st1 P b i (.slice p l c) w K := .trans (by kernel_rfl) rfl
@[simp] theorem bli (b i : Nat) (w : World) (K : KV) : faT P T.af (.pointer (some ⟨b, i, none⟩)) 3 w K = K (.pointer (some ⟨b, i + 3, none⟩)) w := .trans (by kernel_rfl) rfl
@[simp] theorem bis (b i : Nat) (w : World) (K : KV) : faT P T.af (.pointer (some ⟨b, i, none⟩)) 4 w K = K (.pointer (some ⟨b, i + 4, none⟩)) w := .trans (by kernel_rfl) rfl
@[simp] theorem bgi (v : Value) (w : World) (K : KV) : taT P (.iface T.k v) T.ao T.k true w K = K (.tuple #[v, .bool true]) w := .trans (by kernel_rfl) rfl
@[simp] theorem bka (w : World) (K : KV) : alT P T.k w K = K (.pointer (some ⟨w.heap.size, 0, none⟩)) (w.alloc (.cells #[(.int .u64 0), (.int .u64 0), (.int .u64 0), (.int .i64 0)] T.k)) := .trans (by kernel_rfl) rfl
@[simp] theorem bmf (b i : Nat) (c_0 c_1 c_2 c_3 : Value) (w : World) (K : KV) : stT P T.k (.pointer (some ⟨b, i, none⟩)) (.agg #[c_0, c_1, c_2, c_3]) w K = stN P b i [c_0, c_1, c_2, c_3] w K := .trans (by kernel_rfl) rfl
@[simp] theorem bhk (b i : Nat) (w : World) (K : KV) : faT P T.i (.pointer (some ⟨b, i, none⟩)) 3 w K = K (.pointer (some ⟨b, i + 3, none⟩)) w := .trans (by kernel_rfl) rfl
@[simp] theorem bkz (b i : Nat) (w : World) (K : KV) : faT P T.i (.pointer (some ⟨b, i, none⟩)) 0 w K = K (.pointer (some ⟨b, i, none⟩)) w := .trans (by kernel_rfl) rfl
@[simp] theorem bjr (b i : Nat) (w : World) (K : KV) : faT P T.k (.pointer (some ⟨b, i, none⟩)) 0 w K = K (.pointer (some ⟨b, i, none⟩)) w := .trans (by kernel_rfl) rfl
@[simp] theorem bgt (b i : Nat) (w : World) (K : KV) : faT P T.k (.pointer (some ⟨b, i, none⟩)) 1 w K = K (.pointer (some ⟨b, i + 1, none⟩)) w := .trans (by kernel_rfl) rfl
@[simp] theorem bhw (b i : Nat) (w : World) (K : KV) : faT P T.k (.pointer (some ⟨b, i, none⟩)) 2 w K = K (.pointer (some ⟨b, i + 3, none⟩)) w := .trans (by kernel_rfl) rfl
@[simp] theorem bic (p0 : Option Addr) (l0 c0 : Nat) (w : World) (K : KV) : bsT P T.j 1 #[(0, (.slice p0 l0 c0))] w K = K (.slice (some ⟨w.heap.size, 0, none⟩) 1 1) (w.alloc (.cells #[(.slice p0 l0 c0)] T.d)) := .trans (by kernel_rfl) rfl
@[simp] theorem biz (b i : Nat) (w : World) (K : KV) : faT P T.b (.pointer (some ⟨b, i, none⟩)) 7 w K = K (.pointer (some ⟨b, i + 9, none⟩)) w := .trans (by kernel_rfl) rfl
@[simp] theorem bgx (b i : Nat) (w : World) (K : KV) : ldT P T.v (.pointer (some ⟨b, i, none⟩)) w K = ld1 P b i w K := .trans (by kernel_rfl) rfl
@[simp] theorem bgl : li P T.v = true := .trans (by kernel_rfl) rfl
@[simp] theorem bik : szE P T.v = 3 := .trans (by kernel_rfl) rfl
theorem et.v : ku P T.v T.z 3 24 := ku.mk' (by kernel_rfl) (by kernel_rfl) (by kernel_rfl)
@[simp] theorem bjg (b i : Nat) (w : World) (K : KV) : faT P T.b (.pointer (some ⟨b, i, none⟩)) 8 w K = K (.pointer (some ⟨b, i + 10, none⟩)) w := .trans (by kernel_rfl) rfl
@[simp] theorem bks (b i : Nat) (w : World) (K : KV) : ldT P T.g (.pointer (some ⟨b, i, none⟩)) w K = ld1 P b i w K := .trans (by kernel_rfl) rfl
@[simp] theorem bhj (b i : Nat) (w : World) (K : KV) : ldT P T.z (.pointer (some ⟨b, i, none⟩)) w K = ldN P 3 b i w K := .trans (by kernel_rfl) rfl
@[simp] theorem bgf (b i : Nat) (w : World) (K : KV) : faT P T.i (.pointer (some ⟨b, i, none⟩)) 1 w K = K (.pointer (some ⟨b, i + 1, none⟩)) w := .trans (by kernel_rfl) rfl
@[simp] theorem bjp (b i : Nat) (w : World) (K : KV) : ldT P T.au (.pointer (some ⟨b, i, none⟩)) w K = ld1 P b i w K := .trans (by kernel_rfl) rfl
@[simp] theorem bgs  (w : World) (K : KV) : iy P T.e #[] w K = K (.agg #[(.int .u64 0), (.int .u64 0), (.int .u64 0), (.int .u64 0), (.int .i64 0)]) w := .trans (by kernel_rfl) rfl
@[simp] theorem bhx (rx ry : Operand) (a : Addr) (w : World) (K : KV) : fe P .neq T.ak rx ry (.pointer (some a)) (.pointer none) w K = K (.bool true) w := .trans (by kernel_rfl) rfl
@[simp] theorem bkj (b i : Nat) (w : World) (K : KV) : faT P T.af (.pointer (some ⟨b, i, none⟩)) 2 w K = K (.pointer (some ⟨b, i + 2, none⟩)) w := .trans (by kernel_rfl) rfl
@[simp] theorem bkx (b i : Nat) (x : Int) (w : World) (K : KV) : stT P T.a (.pointer (some ⟨b, i, none⟩)) (.int .i64 x) w K = st1 P b i (.int .i64 x) w K := .trans (by kernel_rfl) rfl
@[simp] theorem bjj (b i : Nat) (w : World) (K : KV) : faT P T.ac (.pointer (some ⟨b, i, none⟩)) 6 w K = K (.pointer (some ⟨b, i + 6, none⟩)) w := .trans (by kernel_rfl) rfl
@[simp] theorem bio (b i : Nat) (w : World) (K : KV) : ldT P T.al (.pointer (some ⟨b, i, none⟩)) w K = ld1 P b i w K := .trans (by kernel_rfl) rfl
@[simp] theorem bkn (b i : Nat) (w : World) (K : KV) : faT P T.ac (.pointer (some ⟨b, i, none⟩)) 5 w K = K (.pointer (some ⟨b, i + 5, none⟩)) w := .trans (by kernel_rfl) rfl
@[simp] theorem bhe (b i : Nat) (w : World) (K : KV) : faT P T.e (.pointer (some ⟨b, i, none⟩)) 0 w K = K (.pointer (some ⟨b, i, none⟩)) w := .trans (by kernel_rfl) rfl
@[simp] theorem blc (b i : Nat) (w : World) (K : KV) : faT P T.e (.pointer (some ⟨b, i, none⟩)) 1 w K = K (.pointer (some ⟨b, i + 2, none⟩)) w := .trans (by kernel_rfl) rfl
@[simp] theorem bfh (b i : Nat) (w : World) (K : KV) : faT P T.e (.pointer (some ⟨b, i, none⟩)) 2 w K = K (.pointer (some ⟨b, i + 4, none⟩)) w := .trans (by kernel_rfl) rfl
@[simp] theorem blg (c0_0 c0_1 : Value) (c1_0 c1_1 : Value) (x2 : Int) (w : World) (K : KV) : iy P T.w #[(0, (.agg #[c0_0, c0_1])), (1, (.agg #[c1_0, c1_1])), (2, (.int .i64 x2))] w K = K (.agg #[c0_0, c0_1, c1_0, c1_1, (.int .i64 x2)]) w := .trans (by kernel_rfl) rfl
@[simp] theorem bkv (x0 : Int) (x1 : Int) (c2_0 c2_1 : Value) (p3 : Option Addr) (l3 c3 : Nat) (w : World) (K : KV) : iy P T.b #[(0, (.int .i64 x0)), (1, (.int .u64 x1)), (2, (.agg #[c2_0, c2_1])), (6, (.slice p3 l3 c3))] w K = K (.agg #[(.int .i64 x0), (.int .u64 x1), c2_0, c2_1, (.int .u64 0), (.int .u64 0), (.int .i64 0), (.bool false), (.slice p3 l3 c3), (.slice none 0 0), (.slice none 0 0)]) w := .trans (by kernel_rfl) rfl
@[simp] theorem bln (b i : Nat) (w : World) (K : KV) : faT P T.ac (.pointer (some ⟨b, i, none⟩)) 1 w K = K (.pointer (some ⟨b, i + 1, none⟩)) w := .trans (by kernel_rfl) rfl
@[simp] theorem bjk (w : World) (K : KV) : alT P T.ac w K = K (.pointer (some ⟨w.heap.size, 0, none⟩)) (w.alloc (.cells #[(.int .u64 0), (.int .u64 0), (.int .u64 0), (.int .u64 0), (.int .u64 0), (.string ⟨#[]⟩), (.string ⟨#[]⟩), (.bool false)] T.ac)) := .trans (by kernel_rfl) rfl
@[simp] theorem bib (b i : Nat) (c_0 c_1 c_2 c_3 c_4 c_5 c_6 c_7 : Value) (w : World) (K : KV) : stT P T.ac (.pointer (some ⟨b, i, none⟩)) (.agg #[c_0, c_1, c_2, c_3, c_4, c_5, c_6, c_7]) w K = stN P b i [c_0, c_1, c_2, c_3, c_4, c_5, c_6, c_7] w K := .trans (by kernel_rfl) rfl
@[simp] theorem bho (v : Value) (w : World) (K : KV) : taT P (.iface T.r v) T.ao T.r true w K = K (.tuple #[v, .bool true]) w := .trans (by kernel_rfl) rfl
@[simp] theorem bij (w : World) (K : KV) : alT P T.r w K = K (.pointer (some ⟨w.heap.size, 0, none⟩)) (w.alloc (.cells #[(.int .u64 0), (.int .u64 0), (.int .u64 0), (.slice none 0 0)] T.r)) := .trans (by kernel_rfl) rfl
@[simp] theorem bfu (b i : Nat) (c_0 c_1 c_2 c_3 : Value) (w : World) (K : KV) : stT P T.r (.pointer (some ⟨b, i, none⟩)) (.agg #[c_0, c_1, c_2, c_3]) w K = stN P b i [c_0, c_1, c_2, c_3] w K := .trans (by kernel_rfl) rfl
@[simp] theorem bia (b i : Nat) (w : World) (K : KV) : faT P T.r (.pointer (some ⟨b, i, none⟩)) 2 w K = K (.pointer (some ⟨b, i + 3, none⟩)) w := .trans (by kernel_rfl) rfl
@[simp] theorem bkr (b i : Nat) (w : World) (K : KV) : faT P T.r (.pointer (some ⟨b, i, none⟩)) 1 w K = K (.pointer (some ⟨b, i + 1, none⟩)) w := .trans (by kernel_rfl) rfl
@[simp] theorem bfg (b i : Nat) (w : World) (K : KV) : faT P T.r (.pointer (some ⟨b, i, none⟩)) 0 w K = K (.pointer (some ⟨b, i, none⟩)) w := .trans (by kernel_rfl) rfl
@[simp] theorem bhs (w : World) (K : KV) : alT P T.x w K = K (.pointer (some ⟨w.heap.size, 0, none⟩)) (w.alloc (.cells #[(.int .u64 0), (.slice none 0 0)] T.x)) := .trans (by kernel_rfl) rfl
@[simp] theorem blx (b i : Nat) (c_0 c_1 : Value) (w : World) (K : KV) : stT P T.x (.pointer (some ⟨b, i, none⟩)) (.agg #[c_0, c_1]) w K = stN P b i [c_0, c_1] w K := .trans (by kernel_rfl) rfl
@[simp] theorem blj (b i : Nat) (w : World) (K : KV) : faT P T.x (.pointer (some ⟨b, i, none⟩)) 1 w K = K (.pointer (some ⟨b, i + 1, none⟩)) w := .trans (by kernel_rfl) rfl
@[simp] theorem bgk (v : Value) (w : World) (K : KV) : sj P T.x v w K = K (.iface T.x v) w := .trans (by kernel_rfl) rfl
@[simp] theorem blo  (w : World) (K : KV) : bsT P T.g 0 #[] w K = K (.slice (some ⟨w.heap.size, 0, none⟩) 0 0) (w.alloc (.cells #[] T.f)) := .trans (by kernel_rfl) rfl
@[simp] theorem bjs (x0 : Int) (x1 : Int) (p2 : Option Addr) (l2 c2 : Nat) (w : World) (K : KV) : iy P T.b #[(0, (.int .i64 x0)), (1, (.int .u64 x1)), (8, (.slice p2 l2 c2))] w K = K (.agg #[(.int .i64 x0), (.int .u64 x1), (.int .u64 0), (.int .u64 0), (.int .u64 0), (.int .u64 0), (.int .i64 0), (.bool false), (.slice none 0 0), (.slice none 0 0), (.slice p2 l2 c2)]) w := .trans (by kernel_rfl) rfl
@[simp] theorem bll (p0 : Option Addr) (x1 : Int) (w : World) (K : KV) : iy P T.y #[(0, (.pointer p0)), (1, (.int .i64 x1))] w K = K (.agg #[(.pointer p0), (.int .i64 x1), (.slice none 0 0)]) w := .trans (by kernel_rfl) rfl
@[simp] theorem bja (rx ry : Operand)  (w : World) (K : KV) : fe P .eql T.aa rx ry (.pointer none) (.pointer none) w K = K (.bool true) w := .trans (by kernel_rfl) rfl
@[simp] theorem bla (rx ry : Operand) (a : Addr) (w : World) (K : KV) : fe P .eql T.aa rx ry (.pointer (some a)) (.pointer none) w K = K (.bool false) w := .trans (by kernel_rfl) rfl
@[simp] theorem bhy (b i : Nat) (w : World) (K : KV) : faT P T.y (.pointer (some ⟨b, i, none⟩)) 2 w K = K (.pointer (some ⟨b, i + 2, none⟩)) w := .trans (by kernel_rfl) rfl
@[simp] theorem bha (b i : Nat) (w : World) (K : KV) : ldT P T.l (.pointer (some ⟨b, i, none⟩)) w K = ld1 P b i w K := .trans (by kernel_rfl) rfl
@[simp] theorem blh : li P T.l = true := .trans (by kernel_rfl) rfl
@[simp] theorem bjh : szE P T.l = 1 := .trans (by kernel_rfl) rfl
theorem et.l : ku P T.l T.aa 1 8 := ku.mk' (by kernel_rfl) (by kernel_rfl) (by kernel_rfl)
@[simp] theorem bhr (b i : Nat) (w : World) (K : KV) : faT P T.ad (.pointer (some ⟨b, i, none⟩)) 1 w K = K (.pointer (some ⟨b, i + 1, none⟩)) w := .trans (by kernel_rfl) rfl
@[simp] theorem bkk (p0 : Option Addr) (w : World) (K : KV) : bsT P T.l 1 #[(0, (.pointer p0))] w K = K (.slice (some ⟨w.heap.size, 0, none⟩) 1 1) (w.alloc (.cells #[(.pointer p0)] T.aa)) := .trans (by kernel_rfl) rfl
@[simp] theorem bld (b i : Nat) (p : Option Addr) (l c : Nat) (w : World) (K : KV) : stT P T.l (.pointer (some ⟨b, i, none⟩)) (.slice p l c) w K = st1 P b i (.slice p l c) w K := .trans (by kernel_rfl) rfl
@[simp] theorem bkh (rx ry : Operand) (a : Addr) (w : World) (K : KV) : fe P .eql T.au rx ry (.pointer (some a)) (.pointer none) w K = K (.bool false) w := .trans (by kernel_rfl) rfl
@[simp] theorem bit (b i : Nat) (w : World) (K : KV) : ldT P T.aa (.pointer (some ⟨b, i, none⟩)) w K = ld1 P b i w K := .trans (by kernel_rfl) rfl
@[simp] theorem bhi (b i : Nat) (w : World) (K : KV) : faT P T.ad (.pointer (some ⟨b, i, none⟩)) 2 w K = K (.pointer (some ⟨b, i + 2, none⟩)) w := .trans (by kernel_rfl) rfl
@[simp] theorem blf (b i : Nat) (w : World) (K : KV) : ldT P T.j (.pointer (some ⟨b, i, none⟩)) w K = ld1 P b i w K := .trans (by kernel_rfl) rfl
@[simp] theorem bkq (w : World) (K : KV) : alT P T.ah w K = K (.pointer (some ⟨w.heap.size, 0, none⟩)) (w.alloc (.cells #[(.int .u64 0), (.int .u64 0), (.int .u64 0), (.int .u64 0), (.int .u64 0)] T.ah)) := .trans (by kernel_rfl) rfl
@[simp] theorem bgc (b i : Nat) (x : Int) (w : World) (K : KV) : stT P T.f (.pointer (some ⟨b, i, none⟩)) (.int .u64 x) w K = st1 P b i (.int .u64 x) w K := .trans (by kernel_rfl) rfl
@[simp] theorem bfw (b i : Nat) (w : World) (K : KV) : ldT P T.ap (.pointer (some ⟨b, i, none⟩)) w K = ld1 P b i w K := .trans (by kernel_rfl) rfl
@[simp] theorem blp (c0_0 c0_1 : Value) (c1_0 c1_1 : Value) (x2 : Int) (w : World) (K : KV) : iy P T.e #[(0, (.agg #[c0_0, c0_1])), (1, (.agg #[c1_0, c1_1])), (2, (.int .i64 x2))] w K = K (.agg #[c0_0, c0_1, c1_0, c1_1, (.int .i64 x2)]) w := .trans (by kernel_rfl) rfl
@[simp] theorem bid (b i : Nat) (w : World) (K : KV) : faT P T.y (.pointer (some ⟨b, i, none⟩)) 0 w K = K (.pointer (some ⟨b, i, none⟩)) w := .trans (by kernel_rfl) rfl
@[simp] theorem bjy (b i : Nat) (w : World) (K : KV) : faT P T.ad (.pointer (some ⟨b, i, none⟩)) 0 w K = K (.pointer (some ⟨b, i, none⟩)) w := .trans (by kernel_rfl) rfl
@[simp] theorem bin (v : Value) (w : World) (K : KV) : sj P T.al v w K = K (.iface T.al v) w := .trans (by kernel_rfl) rfl
@[simp] theorem bjw (x0 : Int) (w : World) (K : KV) : bsT P T.d 1 #[(0, (.int .u8 x0))] w K = K (.slice (some ⟨w.heap.size, 0, none⟩) 1 1) (w.alloc (.cells #[(.int .u8 x0)] T.ap)) := .trans (by kernel_rfl) rfl
@[simp] theorem biq (x0 : Int) (x1 : Int) (c2_0 c2_1 : Value) (bo3 : Bool) (w : World) (K : KV) : iy P T.b #[(0, (.int .i64 x0)), (1, (.int .u64 x1)), (2, (.agg #[c2_0, c2_1])), (5, (.bool bo3))] w K = K (.agg #[(.int .i64 x0), (.int .u64 x1), c2_0, c2_1, (.int .u64 0), (.int .u64 0), (.int .i64 0), (.bool bo3), (.slice none 0 0), (.slice none 0 0), (.slice none 0 0)]) w := .trans (by kernel_rfl) rfl
@[simp] theorem biu (b i : Nat) (x : Int) (w : World) (K : KV) : stT P T.p (.pointer (some ⟨b, i, none⟩)) (.int .i64 x) w K = st1 P b i (.int .i64 x) w K := .trans (by kernel_rfl) rfl
@[simp] theorem blb (b i : Nat) (w : World) (K : KV) : faT P T.ac (.pointer (some ⟨b, i, none⟩)) 0 w K = K (.pointer (some ⟨b, i, none⟩)) w := .trans (by kernel_rfl) rfl
@[simp] theorem bjq (rx ry : Operand) (l c : Nat) (w : World) (K : KV) : fe P .eql T.t rx ry (.slice none l c) (.slice none 0 0) w K = K (.bool true) w := .trans (by kernel_rfl) rfl
@[simp] theorem bge (rx ry : Operand) (a : Addr) (l c : Nat) (w : World) (K : KV) : fe P .eql T.t rx ry (.slice (some a) l c) (.slice none 0 0) w K = K (.bool false) w := .trans (by kernel_rfl) rfl
@[simp] theorem bfn  (w : World) (K : KV) : bsT P T.t 0 #[] w K = K (.slice (some ⟨w.heap.size, 0, none⟩) 0 0) (w.alloc (.cells #[] T.ac)) := .trans (by kernel_rfl) rfl
@[simp] theorem bir : li P T.av = true := .trans (by kernel_rfl) rfl
@[simp] theorem bjx : szE P T.av = 1 := .trans (by kernel_rfl) rfl
@[simp] theorem bju (p0 : Option Addr) (l0 c0 : Nat) (p1 : Option Addr) (l1 c1 : Nat) (w : World) (K : KV) : bsT P T.av 2 #[(0, (.slice p0 l0 c0)), (1, (.slice p1 l1 c1))] w K = K (.slice (some ⟨w.heap.size, 0, none⟩) 2 2) (w.alloc (.cells #[(.slice p0 l0 c0), (.slice p1 l1 c1)] T.h)) := .trans (by kernel_rfl) rfl
@[simp] theorem bjm (x0 : Int) (x1 : Int) (p2 : Option Addr) (l2 c2 : Nat) (x3 : Int) (w : World) (K : KV) : iy P T.ad #[(0, (.int .i64 x0)), (1, (.int .i64 x1)), (2, (.slice p2 l2 c2)), (3, (.int .i64 x3))] w K = K (.agg #[(.int .i64 x0), (.int .i64 x1), (.slice p2 l2 c2), (.int .i64 x3)]) w := .trans (by kernel_rfl) rfl
@[simp] theorem bff (rx ry : Operand) (l c : Nat) (w : World) (K : KV) : fe P .eql T.d rx ry (.slice none l c) (.slice none 0 0) w K = K (.bool true) w := .trans (by kernel_rfl) rfl
@[simp] theorem bfy (rx ry : Operand) (a : Addr) (l c : Nat) (w : World) (K : KV) : fe P .eql T.d rx ry (.slice (some a) l c) (.slice none 0 0) w K = K (.bool false) w := .trans (by kernel_rfl) rfl
@[simp] theorem bkt  (w : World) (K : KV) : bsT P T.d 0 #[] w K = K (.slice (some ⟨w.heap.size, 0, none⟩) 0 0) (w.alloc (.cells #[] T.ap)) := .trans (by kernel_rfl) rfl
@[simp] theorem bfk (x0 : Int) (bo1 : Bool) (p2 : Option Addr) (l2 c2 : Nat) (w : World) (K : KV) : iy P T.s #[(0, (.int .u64 x0)), (1, (.bool bo1)), (2, (.slice p2 l2 c2))] w K = K (.agg #[(.int .u64 x0), (.bool bo1), (.slice p2 l2 c2)]) w := .trans (by kernel_rfl) rfl
@[simp] theorem bfp (v : Value) (w : World) (K : KV) : sj P T.s v w K = K (.iface T.s v) w := .trans (by kernel_rfl) rfl
@[simp] theorem bht (p0 : Option Addr) (l0 c0 : Nat) (w : World) (K : KV) : iy P T.u #[(0, (.slice p0 l0 c0))] w K = K (.agg #[(.slice p0 l0 c0)]) w := .trans (by kernel_rfl) rfl
@[simp] theorem bhd (v : Value) (w : World) (K : KV) : sj P T.u v w K = K (.iface T.u v) w := .trans (by kernel_rfl) rfl
@[simp] theorem bmb (x0 : Int) (c1_0 c1_1 : Value) (x2 : Int) (w : World) (K : KV) : iy P T.k #[(0, (.int .u64 x0)), (1, (.agg #[c1_0, c1_1])), (2, (.int .i64 x2))] w K = K (.agg #[(.int .u64 x0), c1_0, c1_1, (.int .i64 x2)]) w := .trans (by kernel_rfl) rfl
@[simp] theorem bkc (v : Value) (w : World) (K : KV) : sj P T.k v w K = K (.iface T.k v) w := .trans (by kernel_rfl) rfl
@[simp] theorem bfz (x0 : Int) (c1_0 c1_1 : Value) (bo2 : Bool) (c3_0 c3_1 : Value) (x4 : Int) (bo5 : Bool) (w : World) (K : KV) : iy P T.n #[(0, (.int .u64 x0)), (1, (.agg #[c1_0, c1_1])), (2, (.bool bo2)), (3, (.agg #[c3_0, c3_1])), (4, (.int .i64 x4)), (5, (.bool bo5))] w K = K (.agg #[(.int .u64 x0), c1_0, c1_1, (.bool bo2), c3_0, c3_1, (.int .i64 x4), (.bool bo5)]) w := .trans (by kernel_rfl) rfl
@[simp] theorem bgy (v : Value) (w : World) (K : KV) : sj P T.n v w K = K (.iface T.n v) w := .trans (by kernel_rfl) rfl
@[simp] theorem bgv (x0 : Int) (x1 : Int) (w : World) (K : KV) : iy P T.ab #[(0, (.int .u64 x0)), (1, (.int .i64 x1))] w K = K (.agg #[(.int .u64 x0), (.int .i64 x1)]) w := .trans (by kernel_rfl) rfl
@[simp] theorem bgr (v : Value) (w : World) (K : KV) : sj P T.ab v w K = K (.iface T.ab v) w := .trans (by kernel_rfl) rfl
@[simp] theorem blr (x0 : Int) (c1_0 c1_1 : Value) (p2 : Option Addr) (l2 c2 : Nat) (w : World) (K : KV) : iy P T.r #[(0, (.int .u64 x0)), (1, (.agg #[c1_0, c1_1])), (2, (.slice p2 l2 c2))] w K = K (.agg #[(.int .u64 x0), c1_0, c1_1, (.slice p2 l2 c2)]) w := .trans (by kernel_rfl) rfl
@[simp] theorem bkb (v : Value) (w : World) (K : KV) : sj P T.r v w K = K (.iface T.r v) w := .trans (by kernel_rfl) rfl
@[simp] theorem bgn (x0 : Int) (p1 : Option Addr) (l1 c1 : Nat) (w : World) (K : KV) : iy P T.x #[(0, (.int .u64 x0)), (1, (.slice p1 l1 c1))] w K = K (.agg #[(.int .u64 x0), (.slice p1 l1 c1)]) w := .trans (by kernel_rfl) rfl
@[simp] theorem biw (b i : Nat) (w : World) (K : KV) : faT P T.ad (.pointer (some ⟨b, i, none⟩)) 3 w K = K (.pointer (some ⟨b, i + 3, none⟩)) w := .trans (by kernel_rfl) rfl
@[simp] theorem bgu (b i : Nat) (w : World) (K : KV) : faT P T.y (.pointer (some ⟨b, i, none⟩)) 1 w K = K (.pointer (some ⟨b, i + 1, none⟩)) w := .trans (by kernel_rfl) rfl
@[simp] theorem bkl (b i : Nat) (p : Option Addr) (l c : Nat) (w : World) (K : KV) : stT P T.j (.pointer (some ⟨b, i, none⟩)) (.slice p l c) w K = st1 P b i (.slice p l c) w K := .trans (by kernel_rfl) rfl
@[simp] theorem bma (w : World) (K : KV) : alT P T.z w K = K (.pointer (some ⟨w.heap.size, 0, none⟩)) (w.alloc (.cells #[(.int .u64 0), (.int .u64 0), (.int .i64 0)] T.z)) := .trans (by kernel_rfl) rfl
@[simp] theorem bhc (b i : Nat) (c_0 c_1 c_2 : Value) (w : World) (K : KV) : stT P T.z (.pointer (some ⟨b, i, none⟩)) (.agg #[c_0, c_1, c_2]) w K = stN P b i [c_0, c_1, c_2] w K := .trans (by kernel_rfl) rfl
@[simp] theorem bhu (b i : Nat) (w : World) (K : KV) : faT P T.z (.pointer (some ⟨b, i, none⟩)) 0 w K = K (.pointer (some ⟨b, i, none⟩)) w := .trans (by kernel_rfl) rfl
@[simp] theorem bgm (b i : Nat) (w : World) (K : KV) : faT P T.z (.pointer (some ⟨b, i, none⟩)) 1 w K = K (.pointer (some ⟨b, i + 1, none⟩)) w := .trans (by kernel_rfl) rfl
@[simp] theorem bfi (b i : Nat) (w : World) (K : KV) : faT P T.z (.pointer (some ⟨b, i, none⟩)) 2 w K = K (.pointer (some ⟨b, i + 2, none⟩)) w := .trans (by kernel_rfl) rfl
@[simp] theorem bgd (b i : Nat) (w : World) (K : KV) : ldT P T.ai (.pointer (some ⟨b, i, none⟩)) w K = ld1 P b i w K := .trans (by kernel_rfl) rfl
@[simp] theorem blu (v : Value) (w : World) (K : KV) : taT P (.iface T.s v) T.ao T.s true w K = K (.tuple #[v, .bool true]) w := .trans (by kernel_rfl) rfl
@[simp] theorem bhz (w : World) (K : KV) : alT P T.s w K = K (.pointer (some ⟨w.heap.size, 0, none⟩)) (w.alloc (.cells #[(.int .u64 0), (.bool false), (.slice none 0 0)] T.s)) := .trans (by kernel_rfl) rfl
@[simp] theorem bjz (b i : Nat) (c_0 c_1 c_2 : Value) (w : World) (K : KV) : stT P T.s (.pointer (some ⟨b, i, none⟩)) (.agg #[c_0, c_1, c_2]) w K = stN P b i [c_0, c_1, c_2] w K := .trans (by kernel_rfl) rfl
@[simp] theorem bhv (b i : Nat) (w : World) (K : KV) : faT P T.s (.pointer (some ⟨b, i, none⟩)) 0 w K = K (.pointer (some ⟨b, i, none⟩)) w := .trans (by kernel_rfl) rfl
@[simp] theorem blv (b i : Nat) (w : World) (K : KV) : faT P T.s (.pointer (some ⟨b, i, none⟩)) 2 w K = K (.pointer (some ⟨b, i + 2, none⟩)) w := .trans (by kernel_rfl) rfl
@[simp] theorem bjc (x0 : Int) (x1 : Int) (p2 : Option Addr) (l2 c2 : Nat) (w : World) (K : KV) : iy P T.b #[(0, (.int .i64 x0)), (1, (.int .u64 x1)), (6, (.slice p2 l2 c2))] w K = K (.agg #[(.int .i64 x0), (.int .u64 x1), (.int .u64 0), (.int .u64 0), (.int .u64 0), (.int .u64 0), (.int .i64 0), (.bool false), (.slice p2 l2 c2), (.slice none 0 0), (.slice none 0 0)]) w := .trans (by kernel_rfl) rfl
@[simp] theorem bga (b i : Nat) (w : World) (K : KV) : faT P T.s (.pointer (some ⟨b, i, none⟩)) 1 w K = K (.pointer (some ⟨b, i + 1, none⟩)) w := .trans (by kernel_rfl) rfl
@[simp] theorem bhm (v : Value) (w : World) (K : KV) : taT P (.iface T.u v) T.ao T.u true w K = K (.tuple #[v, .bool true]) w := .trans (by kernel_rfl) rfl
@[simp] theorem bfs (w : World) (K : KV) : alT P T.u w K = K (.pointer (some ⟨w.heap.size, 0, none⟩)) (w.alloc (.cells #[(.slice none 0 0)] T.u)) := .trans (by kernel_rfl) rfl
@[simp] theorem bgj (b i : Nat) (c_0 : Value) (w : World) (K : KV) : stT P T.u (.pointer (some ⟨b, i, none⟩)) (.agg #[c_0]) w K = stN P b i [c_0] w K := .trans (by kernel_rfl) rfl
@[simp] theorem bjb (b i : Nat) (w : World) (K : KV) : faT P T.u (.pointer (some ⟨b, i, none⟩)) 0 w K = K (.pointer (some ⟨b, i, none⟩)) w := .trans (by kernel_rfl) rfl
@[simp] theorem bhh (x0 : Int) (p1 : Option Addr) (l1 c1 : Nat) (w : World) (K : KV) : iy P T.b #[(0, (.int .i64 x0)), (7, (.slice p1 l1 c1))] w K = K (.agg #[(.int .i64 x0), (.int .u64 0), (.int .u64 0), (.int .u64 0), (.int .u64 0), (.int .u64 0), (.int .i64 0), (.bool false), (.slice none 0 0), (.slice p1 l1 c1), (.slice none 0 0)]) w := .trans (by kernel_rfl) rfl
@[simp] theorem bgw (v : Value) (w : World) (K : KV) : taT P (.iface T.n v) T.ao T.n true w K = K (.tuple #[v, .bool true]) w := .trans (by kernel_rfl) rfl
@[simp] theorem bmd (w : World) (K : KV) : alT P T.n w K = K (.pointer (some ⟨w.heap.size, 0, none⟩)) (w.alloc (.cells #[(.int .u64 0), (.int .u64 0), (.int .u64 0), (.bool false), (.int .u64 0), (.int .u64 0), (.int .i64 0), (.bool false)] T.n)) := .trans (by kernel_rfl) rfl
@[simp] theorem bkf (b i : Nat) (c_0 c_1 c_2 c_3 c_4 c_5 c_6 c_7 : Value) (w : World) (K : KV) : stT P T.n (.pointer (some ⟨b, i, none⟩)) (.agg #[c_0, c_1, c_2, c_3, c_4, c_5, c_6, c_7]) w K = stN P b i [c_0, c_1, c_2, c_3, c_4, c_5, c_6, c_7] w K := .trans (by kernel_rfl) rfl
@[simp] theorem bkw (b i : Nat) (w : World) (K : KV) : faT P T.n (.pointer (some ⟨b, i, none⟩)) 0 w K = K (.pointer (some ⟨b, i, none⟩)) w := .trans (by kernel_rfl) rfl
@[simp] theorem bhf (b i : Nat) (w : World) (K : KV) : faT P T.n (.pointer (some ⟨b, i, none⟩)) 1 w K = K (.pointer (some ⟨b, i + 1, none⟩)) w := .trans (by kernel_rfl) rfl
@[simp] theorem bkd (b i : Nat) (w : World) (K : KV) : faT P T.n (.pointer (some ⟨b, i, none⟩)) 2 w K = K (.pointer (some ⟨b, i + 3, none⟩)) w := .trans (by kernel_rfl) rfl
@[simp] theorem bkm (b i : Nat) (w : World) (K : KV) : faT P T.n (.pointer (some ⟨b, i, none⟩)) 3 w K = K (.pointer (some ⟨b, i + 4, none⟩)) w := .trans (by kernel_rfl) rfl
@[simp] theorem bfj (b i : Nat) (w : World) (K : KV) : faT P T.n (.pointer (some ⟨b, i, none⟩)) 4 w K = K (.pointer (some ⟨b, i + 6, none⟩)) w := .trans (by kernel_rfl) rfl
@[simp] theorem bgo (x0 : Int) (x1 : Int) (c2_0 c2_1 : Value) (bo3 : Bool) (c4_0 c4_1 : Value) (x5 : Int) (w : World) (K : KV) : iy P T.b #[(0, (.int .i64 x0)), (1, (.int .u64 x1)), (2, (.agg #[c2_0, c2_1])), (5, (.bool bo3)), (3, (.agg #[c4_0, c4_1])), (4, (.int .i64 x5))] w K = K (.agg #[(.int .i64 x0), (.int .u64 x1), c2_0, c2_1, c4_0, c4_1, (.int .i64 x5), (.bool bo3), (.slice none 0 0), (.slice none 0 0), (.slice none 0 0)]) w := .trans (by kernel_rfl) rfl
@[simp] theorem bku (b i : Nat) (w : World) (K : KV) : faT P T.n (.pointer (some ⟨b, i, none⟩)) 5 w K = K (.pointer (some ⟨b, i + 7, none⟩)) w := .trans (by kernel_rfl) rfl
@[simp] theorem bjd (v : Value) (w : World) (K : KV) : taT P (.iface T.ab v) T.ao T.ab true w K = K (.tuple #[v, .bool true]) w := .trans (by kernel_rfl) rfl
@[simp] theorem bjo (w : World) (K : KV) : alT P T.ab w K = K (.pointer (some ⟨w.heap.size, 0, none⟩)) (w.alloc (.cells #[(.int .u64 0), (.int .i64 0)] T.ab)) := .trans (by kernel_rfl) rfl
@[simp] theorem bil (b i : Nat) (c_0 c_1 : Value) (w : World) (K : KV) : stT P T.ab (.pointer (some ⟨b, i, none⟩)) (.agg #[c_0, c_1]) w K = stN P b i [c_0, c_1] w K := .trans (by kernel_rfl) rfl
@[simp] theorem bko (b i : Nat) (w : World) (K : KV) : faT P T.ab (.pointer (some ⟨b, i, none⟩)) 0 w K = K (.pointer (some ⟨b, i, none⟩)) w := .trans (by kernel_rfl) rfl
@[simp] theorem biy (b i : Nat) (w : World) (K : KV) : faT P T.ab (.pointer (some ⟨b, i, none⟩)) 1 w K = K (.pointer (some ⟨b, i + 1, none⟩)) w := .trans (by kernel_rfl) rfl
@[simp] theorem bkg (x0 : Int) (x1 : Int) (x2 : Int) (w : World) (K : KV) : iy P T.b #[(0, (.int .i64 x0)), (1, (.int .u64 x1)), (4, (.int .i64 x2))] w K = K (.agg #[(.int .i64 x0), (.int .u64 x1), (.int .u64 0), (.int .u64 0), (.int .u64 0), (.int .u64 0), (.int .i64 x2), (.bool false), (.slice none 0 0), (.slice none 0 0), (.slice none 0 0)]) w := .trans (by kernel_rfl) rfl
@[simp] theorem bgq (v : Value) (w : World) (K : KV) : taT P (.iface T.x v) T.ao T.x true w K = K (.tuple #[v, .bool true]) w := .trans (by kernel_rfl) rfl
@[simp] theorem bje (b i : Nat) (w : World) (K : KV) : faT P T.x (.pointer (some ⟨b, i, none⟩)) 0 w K = K (.pointer (some ⟨b, i, none⟩)) w := .trans (by kernel_rfl) rfl
@[simp] theorem bjt (b i : Nat) (w : World) (K : KV) : faT P T.ac (.pointer (some ⟨b, i, none⟩)) 3 w K = K (.pointer (some ⟨b, i + 3, none⟩)) w := .trans (by kernel_rfl) rfl
@[simp] theorem bfv (x0 : Int) (x1 : Int) (w : World) (K : KV) : bsT P T.h 2 #[(0, (.int .i64 x0)), (1, (.int .i64 x1))] w K = K (.slice (some ⟨w.heap.size, 0, none⟩) 2 2) (w.alloc (.cells #[(.int .i64 x0), (.int .i64 x1)] T.a)) := .trans (by kernel_rfl) rfl
@[simp] theorem bgz (rx ry : Operand)  (w : World) (K : KV) : fe P .eql T.ba rx ry (.pointer none) (.pointer none) w K = K (.bool true) w := .trans (by kernel_rfl) rfl
@[simp] theorem bfm (rx ry : Operand) (a : Addr) (w : World) (K : KV) : fe P .eql T.ba rx ry (.pointer (some a)) (.pointer none) w K = K (.bool false) w := .trans (by kernel_rfl) rfl
@[simp] theorem bfq (rx ry : Operand) (l c : Nat) (w : World) (K : KV) : fe P .eql T.v rx ry (.slice none l c) (.slice none 0 0) w K = K (.bool true) w := .trans (by kernel_rfl) rfl
@[simp] theorem bfr (rx ry : Operand) (a : Addr) (l c : Nat) (w : World) (K : KV) : fe P .eql T.v rx ry (.slice (some a) l c) (.slice none 0 0) w K = K (.bool false) w := .trans (by kernel_rfl) rfl
@[simp] theorem bki  (w : World) (K : KV) : bsT P T.v 0 #[] w K = K (.slice (some ⟨w.heap.size, 0, none⟩) 0 0) (w.alloc (.cells #[] T.z)) := .trans (by kernel_rfl) rfl
@[simp] theorem bkp (rx ry : Operand) (l c : Nat) (w : World) (K : KV) : fe P .eql T.g rx ry (.slice none l c) (.slice none 0 0) w K = K (.bool true) w := .trans (by kernel_rfl) rfl
@[simp] theorem bgb (rx ry : Operand) (a : Addr) (l c : Nat) (w : World) (K : KV) : fe P .eql T.g rx ry (.slice (some a) l c) (.slice none 0 0) w K = K (.bool false) w := .trans (by kernel_rfl) rfl
@[simp] theorem bfe (x0 : Int) (p1 : Option Addr) (l1 c1 : Nat) (w : World) (K : KV) : iy P T.ad #[(1, (.int .i64 x0)), (2, (.slice p1 l1 c1))] w K = K (.agg #[(.int .i64 0), (.int .i64 x0), (.slice p1 l1 c1), (.int .i64 0)]) w := .trans (by kernel_rfl) rfl
@[simp] theorem bim (rx ry : Operand)  (w : World) (K : KV) : fe P .neq T.aa rx ry (.pointer none) (.pointer none) w K = K (.bool false) w := .trans (by kernel_rfl) rfl
@[simp] theorem blz (rx ry : Operand) (a : Addr) (w : World) (K : KV) : fe P .neq T.aa rx ry (.pointer (some a)) (.pointer none) w K = K (.bool true) w := .trans (by kernel_rfl) rfl
@[simp] theorem bji (b i : Nat) (w : World) (K : KV) : faT P T.af (.pointer (some ⟨b, i, none⟩)) 0 w K = K (.pointer (some ⟨b, i, none⟩)) w := .trans (by kernel_rfl) rfl
@[simp] theorem bhn  (w : World) (K : KV) : iy P T.ag #[] w K = K (.agg #[(.slice none 0 0), (.slice none 0 0)]) w := .trans (by kernel_rfl) rfl
@[simp] theorem bfx (b i : Nat) (w : World) (K : KV) : faT P T.ac (.pointer (some ⟨b, i, none⟩)) 4 w K = K (.pointer (some ⟨b, i + 4, none⟩)) w := .trans (by kernel_rfl) rfl
@[simp] theorem bly : li P T.az = true := .trans (by kernel_rfl) rfl
@[simp] theorem bme : szE P T.az = 1 := .trans (by kernel_rfl) rfl
@[simp] theorem blw (x0 : Int) (x1 : Int) (w : World) (K : KV) : bsT P T.az 2 #[(0, (.int .i64 x0)), (1, (.int .i64 x1))] w K = K (.slice (some ⟨w.heap.size, 0, none⟩) 2 2) (w.alloc (.cells #[(.int .i64 x0), (.int .i64 x1)] T.ai)) := .trans (by kernel_rfl) rfl
@[simp] theorem biv (w : World) (K : KV) : alT P T.q w K = K (.pointer (some ⟨w.heap.size, 0, none⟩)) (w.alloc (.cells #[(.int .u64 0)] T.q)) := .trans (by kernel_rfl) rfl
@[simp] theorem bgg (b i : Nat) (x : Int) (w : World) (K : KV) : stT P T.q (.pointer (some ⟨b, i, none⟩)) (.int .u64 x) w K = st1 P b i (.int .u64 x) w K := .trans (by kernel_rfl) rfl
theorem mt.aq : ud P T.aq .u64 T.ar (.bool false) := ud.mk' (key := T.f) (by kernel_rfl) (by kernel_rfl) (by kernel_rfl)
@[simp] theorem blm (b i : Nat) (w : World) (K : KV) : ldT P T.q (.pointer (some ⟨b, i, none⟩)) w K = ld1 P b i w K := .trans (by kernel_rfl) rfl
end Go.Proofs.YtfnhoaemapheoaaGreat
