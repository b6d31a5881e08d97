/-
  Printed by wip/Shallow.lean: what the operations come to at this seat's types. No condition.
-/
import Derived.Test.YtfnhoaemapheoaaGreatN
import Derived.Test.YtfnhoaemapheoaaGreatZEng
set_option maxRecDepth 1000000
namespace Go.Proofs.YtfnhoaemapheoaaGreat
open Go.Eng
@[simp] theorem bnj (rx ry : Operand) (a : Addr) (w : World) (K : KV) : fc P .eql T.al rx ry (.pointer (some a)) (.pointer none) w K = K (.bool false) w := .trans (by kernel_rfl) rfl
@[simp] theorem bnb (b i : Nat) (w : World) (K : KV) : ldT P T.h (.pointer (some ⟨b, i, none⟩)) w K = ld1 P b i w K := .trans (by kernel_rfl) rfl
@[simp] theorem bnd : lf P T.h = true := .trans (by kernel_rfl) rfl
@[simp] theorem bmb : szE P T.h = 1 := .trans (by kernel_rfl) rfl
theorem et.h : ko P T.h T.a 1 8 := ko.mk' (by kernel_rfl) (by kernel_rfl) (by kernel_rfl)
@[simp] theorem bme (b i : Nat) (w : World) (K : KV) : ldT P T.f (.pointer (some ⟨b, i, none⟩)) w K = ld1 P b i w K := .trans (by kernel_rfl) rfl
@[simp] theorem bmk (b i : Nat) (w : World) (K : KV) : ldT P T.r (.pointer (some ⟨b, i, none⟩)) w K = ld1 P b i w K := .trans (by kernel_rfl) rfl
@[simp] theorem bmy (x0 : Int) (x1 : Int) (w : World) (K : KV) : ir P T.d #[(0, (.int .u64 x0)), (1, (.int .u64 x1))] w K = K (.agg #[(.int .u64 x0), (.int .u64 x1)]) w := .trans (by kernel_rfl) rfl
@[simp] theorem bmr (w : World) (K : KV) : alT P T.d w K = K (.pointer (some ⟨w.heap.size, 0, none⟩)) (w.alloc (.cells #[(.int .u64 0), (.int .u64 0)] T.d)) := .trans (by kernel_rfl) rfl
@[simp] theorem bne (b i : Nat) (c_0 c_1 : Value) (w : World) (K : KV) : stT P T.d (.pointer (some ⟨b, i, none⟩)) (.agg #[c_0, c_1]) w K = stN P b i [c_0, c_1] w K := .trans (by kernel_rfl) rfl
@[simp] theorem bly  (w : World) (K : KV) : ir P T.d #[] w K = K (.agg #[(.int .u64 0), (.int .u64 0)]) w := .trans (by kernel_rfl) rfl
@[simp] theorem bmh (b i : Nat) (w : World) (K : KV) : ldT P T.a (.pointer (some ⟨b, i, none⟩)) w K = ld1 P b i w K := .trans (by kernel_rfl) rfl
@[simp] theorem bmg (b i : Nat) (w : World) (K : KV) : ldT P T.d (.pointer (some ⟨b, i, none⟩)) w K = ldN P 2 b i w K := .trans (by kernel_rfl) rfl
@[simp] theorem blv (x0 : Int) (x1 : Int) (c2_0 c2_1 : Value) (w : World) (K : KV) : ir P T.b #[(0, (.int .i64 x0)), (1, (.int .u64 x1)), (2, (.agg #[c2_0, c2_1]))] w K = K (.agg #[(.int .i64 x0), (.int .u64 x1), c2_0, c2_1, (.int .u64 0), (.int .u64 0), (.int .i64 0), (.bool false), (.slice none 0 0), (.slice none 0 0), (.slice none 0 0)]) w := .trans (by kernel_rfl) rfl
@[simp] theorem bmf (w : World) (K : KV) : alT P T.b w K = K (.pointer (some ⟨w.heap.size, 0, none⟩)) (w.alloc (.cells #[(.int .i64 0), (.int .u64 0), (.int .u64 0), (.int .u64 0), (.int .u64 0), (.int .u64 0), (.int .i64 0), (.bool false), (.slice none 0 0), (.slice none 0 0), (.slice none 0 0)] T.b)) := .trans (by kernel_rfl) rfl
@[simp] theorem bmm (b i : Nat) (c_0 c_1 c_2 c_3 c_4 c_5 c_6 c_7 c_8 c_9 c_10 : Value) (w : World) (K : KV) : stT P T.b (.pointer (some ⟨b, i, none⟩)) (.agg #[c_0, c_1, c_2, c_3, c_4, c_5, c_6, c_7, c_8, c_9, c_10]) w K = stN P b i [c_0, c_1, c_2, c_3, c_4, c_5, c_6, c_7, c_8, c_9, c_10] w K := .trans (by kernel_rfl) rfl
@[simp] theorem bma (b i : Nat) (w : World) (K : KV) : faT P T.b (.pointer (some ⟨b, i, none⟩)) 5 w K = K (.pointer (some ⟨b, i + 7, none⟩)) w := .trans (by kernel_rfl) rfl
@[simp] theorem bmo (b i : Nat) (w : World) (K : KV) : ldT P T.au (.pointer (some ⟨b, i, none⟩)) w K = ld1 P b i w K := .trans (by kernel_rfl) rfl
@[simp] theorem bni (b i : Nat) (bo : Bool) (w : World) (K : KV) : stT P T.au (.pointer (some ⟨b, i, none⟩)) (.bool bo) w K = st1 P b i (.bool bo) w K := .trans (by kernel_rfl) rfl
@[simp] theorem bnc (b i : Nat) (w : World) (K : KV) : faT P T.b (.pointer (some ⟨b, i, none⟩)) 4 w K = K (.pointer (some ⟨b, i + 6, none⟩)) w := .trans (by kernel_rfl) rfl
@[simp] theorem bng (b i : Nat) (w : World) (K : KV) : faT P T.b (.pointer (some ⟨b, i, none⟩)) 3 w K = K (.pointer (some ⟨b, i + 4, none⟩)) w := .trans (by kernel_rfl) rfl
@[simp] theorem bmj (b i : Nat) (w : World) (K : KV) : ldT P T.ak (.pointer (some ⟨b, i, none⟩)) w K = ld1 P b i w K := .trans (by kernel_rfl) rfl
@[simp] theorem bmv (x0 : Int) (x1 : Int) (c2_0 c2_1 : Value) (x3 : Int) (w : World) (K : KV) : ir P T.b #[(0, (.int .i64 x0)), (1, (.int .u64 x1)), (2, (.agg #[c2_0, c2_1])), (4, (.int .i64 x3))] w K = K (.agg #[(.int .i64 x0), (.int .u64 x1), c2_0, c2_1, (.int .u64 0), (.int .u64 0), (.int .i64 x3), (.bool false), (.slice none 0 0), (.slice none 0 0), (.slice none 0 0)]) w := .trans (by kernel_rfl) rfl
@[simp] theorem blz (b i : Nat) (w : World) (K : KV) : ldT P T.b (.pointer (some ⟨b, i, none⟩)) w K = ldN P 11 b i w K := .trans (by kernel_rfl) rfl
@[simp] theorem bmp : lf P T.am = true := .trans (by kernel_rfl) rfl
@[simp] theorem blx : szE P T.am = 11 := .trans (by kernel_rfl) rfl
theorem et.am : ko P T.am T.b 11 136 := ko.mk' (by kernel_rfl) (by kernel_rfl) (by kernel_rfl)
@[simp] theorem bmn (b i : Nat) (w : World) (K : KV) : faT P T.b (.pointer (some ⟨b, i, none⟩)) 2 w K = K (.pointer (some ⟨b, i + 2, none⟩)) w := .trans (by kernel_rfl) rfl
@[simp] theorem bmz  (w : World) (K : KV) : ir P T.b #[] w K = K (.agg #[(.int .i64 0), (.int .u64 0), (.int .u64 0), (.int .u64 0), (.int .u64 0), (.int .u64 0), (.int .i64 0), (.bool false), (.slice none 0 0), (.slice none 0 0), (.slice none 0 0)]) w := .trans (by kernel_rfl) rfl
@[simp] theorem bmc : lf P T.ab = true := .trans (by kernel_rfl) rfl
@[simp] theorem bmt : szE P T.ab = 6 := .trans (by kernel_rfl) rfl
theorem et.ab : ko P T.ab T.ae 6 48 := ko.mk' (by kernel_rfl) (by kernel_rfl) (by kernel_rfl)
@[simp] theorem bms (b i : Nat) (w : World) (K : KV) : faT P T.b (.pointer (some ⟨b, i, none⟩)) 1 w K = K (.pointer (some ⟨b, i + 1, none⟩)) w := .trans (by kernel_rfl) rfl
@[simp] theorem bmq (w : World) (K : KV) : alT P T.aj w K = K (.pointer (some ⟨w.heap.size, 0, none⟩)) (w.alloc (.cells #[(.int .u64 0), (.int .u64 0), (.int .u64 0), (.int .u64 0), (.int .i64 0)] T.aj)) := .trans (by kernel_rfl) rfl
@[simp] theorem bmw (b i : Nat) (c_0 c_1 c_2 c_3 c_4 : Value) (w : World) (K : KV) : stT P T.aj (.pointer (some ⟨b, i, none⟩)) (.agg #[c_0, c_1, c_2, c_3, c_4]) w K = stN P b i [c_0, c_1, c_2, c_3, c_4] w K := .trans (by kernel_rfl) rfl
@[simp] theorem bnh (b i : Nat) (w : World) (K : KV) : faT P T.b (.pointer (some ⟨b, i, none⟩)) 0 w K = K (.pointer (some ⟨b, i, none⟩)) w := .trans (by kernel_rfl) rfl
@[simp] theorem bnf : lf P T.t = true := .trans (by kernel_rfl) rfl
@[simp] theorem bmx : szE P T.t = 8 := .trans (by kernel_rfl) rfl
theorem et.t : ko P T.t T.ac 8 80 := ko.mk' (by kernel_rfl) (by kernel_rfl) (by kernel_rfl)
@[simp] theorem bna (b i : Nat) (w : World) (K : KV) : faT P T.b (.pointer (some ⟨b, i, none⟩)) 6 w K = K (.pointer (some ⟨b, i + 8, none⟩)) w := .trans (by kernel_rfl) rfl
@[simp] theorem bmu (b i : Nat) (w : World) (K : KV) : ldT P T.t (.pointer (some ⟨b, i, none⟩)) w K = ld1 P b i w K := .trans (by kernel_rfl) rfl
@[simp] theorem bml (b i : Nat) (w : World) (K : KV) : ldT P T.ac (.pointer (some ⟨b, i, none⟩)) w K = ldN P 8 b i w K := .trans (by kernel_rfl) rfl
@[simp] theorem bmd : lf P T.g = true := .trans (by kernel_rfl) rfl
@[simp] theorem blw : szE P T.g = 1 := .trans (by kernel_rfl) rfl
theorem et.g : ko P T.g T.f 1 8 := ko.mk' (by kernel_rfl) (by kernel_rfl) (by kernel_rfl)
@[simp] theorem bkp (rx ry : Operand) (a : Addr) (w : World) (K : KV) : fc P .neq T.al rx ry (.pointer (some a)) (.pointer none) w K = K (.bool true) w := .trans (by kernel_rfl) rfl
@[simp] theorem bkm (c_0 c_1 c_2 c_3 c_4 : Value) (w : World) (K : KV) : fdT P T.e (.agg #[c_0, c_1, c_2, c_3, c_4]) 0 w K = K (.agg #[c_0, c_1]) w := .trans (by kernel_rfl) rfl
@[simp] theorem bhf (x0 : Int) (r1 : Option Nat) (w : World) (K : KV) : ir P T.af #[(0, (.int .i64 x0)), (1, (.map r1))] w K = K (.agg #[(.int .i64 x0), (.map r1), (.int .i64 0), (.bool false), (.bool false)]) w := .trans (by kernel_rfl) rfl
@[simp] theorem bjk (p0 : Option Addr) (p1 : Option Addr) (r2 : Option Nat) (w : World) (K : KV) : ir P T.i #[(0, (.pointer p0)), (1, (.pointer p1)), (2, (.map r2))] w K = K (.agg #[(.pointer p0), (.pointer p1), (.map r2), (.bool false)]) w := .trans (by kernel_rfl) rfl
@[simp] theorem bko : lf P T.j = true := .trans (by kernel_rfl) rfl
@[simp] theorem bez : szE P T.j = 1 := .trans (by kernel_rfl) rfl
theorem et.j : ko P T.j T.c 1 24 := ko.mk' (by kernel_rfl) (by kernel_rfl) (by kernel_rfl)
@[simp] theorem ber (b i : Nat) (w : World) (K : KV) : ldT P T.c (.pointer (some ⟨b, i, none⟩)) w K = ld1 P b i w K := .trans (by kernel_rfl) rfl
@[simp] theorem bje (w : World) (K : KV) : alT P T.e w K = K (.pointer (some ⟨w.heap.size, 0, none⟩)) (w.alloc (.cells #[(.int .u64 0), (.int .u64 0), (.int .u64 0), (.int .u64 0), (.int .i64 0)] T.e)) := .trans (by kernel_rfl) rfl
@[simp] theorem bjp (b i : Nat) (c_0 c_1 c_2 c_3 c_4 : Value) (w : World) (K : KV) : stT P T.e (.pointer (some ⟨b, i, none⟩)) (.agg #[c_0, c_1, c_2, c_3, c_4]) w K = stN P b i [c_0, c_1, c_2, c_3, c_4] w K := .trans (by kernel_rfl) rfl
@[simp] theorem bhw (b i : Nat) (w : World) (K : KV) : faT P T.i (.pointer (some ⟨b, i, none⟩)) 2 w K = K (.pointer (some ⟨b, i + 2, none⟩)) w := .trans (by kernel_rfl) rfl
@[simp] theorem bgc (b i : Nat) (w : World) (K : KV) : ldT P T.m (.pointer (some ⟨b, i, none⟩)) w K = ld1 P b i w K := .trans (by kernel_rfl) rfl
@[simp] theorem bgn (b i : Nat) (w : World) (K : KV) : ldT P T.e (.pointer (some ⟨b, i, none⟩)) w K = ldN P 5 b i w K := .trans (by kernel_rfl) rfl
theorem mt.m : tz P T.m .u64 T.e (.agg #[(.int .u64 0), (.int .u64 0), (.int .u64 0), (.int .u64 0), (.int .i64 0)]) := tz.mk' (key := T.f) (by kernel_rfl) (by kernel_rfl) (by kernel_rfl)
@[simp] theorem bke (b i : Nat) (w : World) (K : KV) : faT P T.d (.pointer (some ⟨b, i, none⟩)) 0 w K = K (.pointer (some ⟨b, i, none⟩)) w := .trans (by kernel_rfl) rfl
@[simp] theorem bhq (b i : Nat) (w : World) (K : KV) : faT P T.d (.pointer (some ⟨b, i, none⟩)) 1 w K = K (.pointer (some ⟨b, i + 1, none⟩)) w := .trans (by kernel_rfl) rfl
@[simp] theorem bgs (rx ry : Operand) (a : Addr) (w : World) (K : KV) : fc P .eql T.ak rx ry (.pointer (some a)) (.pointer none) w K = K (.bool false) w := .trans (by kernel_rfl) rfl
@[simp] theorem bhx (b i : Nat) (w : World) (K : KV) : faT P T.af (.pointer (some ⟨b, i, none⟩)) 1 w K = K (.pointer (some ⟨b, i + 1, none⟩)) w := .trans (by kernel_rfl) rfl
@[simp] theorem bgl (b i : Nat) (w : World) (K : KV) : ldT P T.o (.pointer (some ⟨b, i, none⟩)) w K = ld1 P b i w K := .trans (by kernel_rfl) rfl
theorem mt.o : tz P T.o .i64 T.ba (.pointer none) := tz.mk' (key := T.a) (by kernel_rfl) (by kernel_rfl) (by kernel_rfl)
@[simp] theorem bkk (b i : Nat) (w : World) (K : KV) : faT P T.ag (.pointer (some ⟨b, i, none⟩)) 1 w K = K (.pointer (some ⟨b, i + 1, none⟩)) w := .trans (by kernel_rfl) rfl
@[simp] theorem bia : lf P T.c = true := .trans (by kernel_rfl) rfl
@[simp] theorem blh : szE P T.c = 1 := .trans (by kernel_rfl) rfl
theorem et.c : ko P T.c T.ap 1 1 := ko.mk' (by kernel_rfl) (by kernel_rfl) (by kernel_rfl)
@[simp] theorem bfa (b i : Nat) (w : World) (K : KV) : faT P T.ag (.pointer (some ⟨b, i, none⟩)) 0 w K = K (.pointer (some ⟨b, i, none⟩)) w := .trans (by kernel_rfl) rfl
@[simp] theorem bgt (p0 : Option Addr) (l0 c0 : Nat) (p1 : Option Addr) (l1 c1 : Nat) (w : World) (K : KV) : bsT P T.j 2 #[(0, (.slice p0 l0 c0)), (1, (.slice p1 l1 c1))] w K = K (.slice (some ⟨w.heap.size, 0, none⟩) 2 2) (w.alloc (.cells #[(.slice p0 l0 c0), (.slice p1 l1 c1)] T.c)) := .trans (by kernel_rfl) rfl
@[simp] theorem bfr (b i : Nat) (p : Option Addr) (l c : Nat) (w : World) (K : KV) : stT P T.c (.pointer (some ⟨b, i, none⟩)) (.slice p l c) w K = st1 P b i (.slice p l c) w K := .trans (by kernel_rfl) rfl
@[simp] theorem bip (b i : Nat) (w : World) (K : KV) : faT P T.af (.pointer (some ⟨b, i, none⟩)) 3 w K = K (.pointer (some ⟨b, i + 3, none⟩)) w := .trans (by kernel_rfl) rfl
@[simp] theorem bfs (b i : Nat) (w : World) (K : KV) : faT P T.af (.pointer (some ⟨b, i, none⟩)) 4 w K = K (.pointer (some ⟨b, i + 4, none⟩)) w := .trans (by kernel_rfl) rfl
@[simp] theorem bfe (v : Value) (w : World) (K : KV) : taT P (.iface T.k v) T.ao T.k true w K = K (.tuple #[v, .bool true]) w := .trans (by kernel_rfl) rfl
@[simp] theorem bhy (w : World) (K : KV) : alT P T.k w K = K (.pointer (some ⟨w.heap.size, 0, none⟩)) (w.alloc (.cells #[(.int .u64 0), (.int .u64 0), (.int .u64 0), (.int .i64 0)] T.k)) := .trans (by kernel_rfl) rfl
@[simp] theorem bkg (b i : Nat) (c_0 c_1 c_2 c_3 : Value) (w : World) (K : KV) : stT P T.k (.pointer (some ⟨b, i, none⟩)) (.agg #[c_0, c_1, c_2, c_3]) w K = stN P b i [c_0, c_1, c_2, c_3] w K := .trans (by kernel_rfl) rfl
@[simp] theorem bgf (b i : Nat) (w : World) (K : KV) : faT P T.i (.pointer (some ⟨b, i, none⟩)) 3 w K = K (.pointer (some ⟨b, i + 3, none⟩)) w := .trans (by kernel_rfl) rfl
@[simp] theorem bhb (b i : Nat) (w : World) (K : KV) : faT P T.i (.pointer (some ⟨b, i, none⟩)) 0 w K = K (.pointer (some ⟨b, i, none⟩)) w := .trans (by kernel_rfl) rfl
@[simp] theorem bgq (b i : Nat) (w : World) (K : KV) : faT P T.k (.pointer (some ⟨b, i, none⟩)) 0 w K = K (.pointer (some ⟨b, i, none⟩)) w := .trans (by kernel_rfl) rfl
@[simp] theorem bgr (b i : Nat) (w : World) (K : KV) : faT P T.k (.pointer (some ⟨b, i, none⟩)) 1 w K = K (.pointer (some ⟨b, i + 1, none⟩)) w := .trans (by kernel_rfl) rfl
@[simp] theorem bgv (b i : Nat) (w : World) (K : KV) : faT P T.k (.pointer (some ⟨b, i, none⟩)) 2 w K = K (.pointer (some ⟨b, i + 3, none⟩)) w := .trans (by kernel_rfl) rfl
@[simp] theorem bki (p0 : Option Addr) (l0 c0 : Nat) (w : World) (K : KV) : bsT P T.j 1 #[(0, (.slice p0 l0 c0))] w K = K (.slice (some ⟨w.heap.size, 0, none⟩) 1 1) (w.alloc (.cells #[(.slice p0 l0 c0)] T.c)) := .trans (by kernel_rfl) rfl
@[simp] theorem bfd (b i : Nat) (w : World) (K : KV) : faT P T.b (.pointer (some ⟨b, i, none⟩)) 7 w K = K (.pointer (some ⟨b, i + 9, none⟩)) w := .trans (by kernel_rfl) rfl
@[simp] theorem bgg (b i : Nat) (w : World) (K : KV) : ldT P T.v (.pointer (some ⟨b, i, none⟩)) w K = ld1 P b i w K := .trans (by kernel_rfl) rfl
@[simp] theorem bkf : lf P T.v = true := .trans (by kernel_rfl) rfl
@[simp] theorem blo : szE P T.v = 3 := .trans (by kernel_rfl) rfl
theorem et.v : ko P T.v T.y 3 24 := ko.mk' (by kernel_rfl) (by kernel_rfl) (by kernel_rfl)
@[simp] theorem bhj (b i : Nat) (w : World) (K : KV) : faT P T.b (.pointer (some ⟨b, i, none⟩)) 8 w K = K (.pointer (some ⟨b, i + 10, none⟩)) w := .trans (by kernel_rfl) rfl
@[simp] theorem bfk (b i : Nat) (w : World) (K : KV) : ldT P T.g (.pointer (some ⟨b, i, none⟩)) w K = ld1 P b i w K := .trans (by kernel_rfl) rfl
@[simp] theorem bkn (b i : Nat) (w : World) (K : KV) : ldT P T.y (.pointer (some ⟨b, i, none⟩)) w K = ldN P 3 b i w K := .trans (by kernel_rfl) rfl
@[simp] theorem bij (b i : Nat) (w : World) (K : KV) : faT P T.i (.pointer (some ⟨b, i, none⟩)) 1 w K = K (.pointer (some ⟨b, i + 1, none⟩)) w := .trans (by kernel_rfl) rfl
@[simp] theorem bgd (b i : Nat) (w : World) (K : KV) : ldT P T.aq (.pointer (some ⟨b, i, none⟩)) w K = ld1 P b i w K := .trans (by kernel_rfl) rfl
@[simp] theorem bkh (b i : Nat) (w : World) (K : KV) : ldT P T.ae (.pointer (some ⟨b, i, none⟩)) w K = ldN P 6 b i w K := .trans (by kernel_rfl) rfl
@[simp] theorem bju (x0 : Int) (c1_0 c1_1 c1_2 c1_3 c1_4 : Value) (w : World) (K : KV) : ir P T.ae #[(0, (.int .u64 x0)), (1, (.agg #[c1_0, c1_1, c1_2, c1_3, c1_4]))] w K = K (.agg #[(.int .u64 x0), c1_0, c1_1, c1_2, c1_3, c1_4]) w := .trans (by kernel_rfl) rfl
@[simp] theorem bic (c0_0 c0_1 c0_2 c0_3 c0_4 c0_5 : Value) (w : World) (K : KV) : bsT P T.ab 1 #[(0, (.agg #[c0_0, c0_1, c0_2, c0_3, c0_4, c0_5]))] w K = K (.slice (some ⟨w.heap.size, 0, none⟩) 1 1) (w.alloc (.cells #[c0_0, c0_1, c0_2, c0_3, c0_4, c0_5] T.ae)) := .trans (by kernel_rfl) rfl
@[simp] theorem bjd  (w : World) (K : KV) : ir P T.e #[] w K = K (.agg #[(.int .u64 0), (.int .u64 0), (.int .u64 0), (.int .u64 0), (.int .i64 0)]) w := .trans (by kernel_rfl) rfl
@[simp] theorem bhd (rx ry : Operand) (a : Addr) (w : World) (K : KV) : fc P .neq T.ak rx ry (.pointer (some a)) (.pointer none) w K = K (.bool true) w := .trans (by kernel_rfl) rfl
@[simp] theorem bho (b i : Nat) (w : World) (K : KV) : faT P T.af (.pointer (some ⟨b, i, none⟩)) 2 w K = K (.pointer (some ⟨b, i + 2, none⟩)) w := .trans (by kernel_rfl) rfl
@[simp] theorem bfu (b i : Nat) (x : Int) (w : World) (K : KV) : stT P T.a (.pointer (some ⟨b, i, none⟩)) (.int .i64 x) w K = st1 P b i (.int .i64 x) w K := .trans (by kernel_rfl) rfl
@[simp] theorem bjq (b i : Nat) (w : World) (K : KV) : faT P T.ac (.pointer (some ⟨b, i, none⟩)) 6 w K = K (.pointer (some ⟨b, i + 6, none⟩)) w := .trans (by kernel_rfl) rfl
@[simp] theorem bgu (b i : Nat) (w : World) (K : KV) : ldT P T.an (.pointer (some ⟨b, i, none⟩)) w K = ld1 P b i w K := .trans (by kernel_rfl) rfl
@[simp] theorem bkd (b i : Nat) (w : World) (K : KV) : faT P T.ac (.pointer (some ⟨b, i, none⟩)) 5 w K = K (.pointer (some ⟨b, i + 5, none⟩)) w := .trans (by kernel_rfl) rfl
@[simp] theorem bhz (b i : Nat) (w : World) (K : KV) : faT P T.e (.pointer (some ⟨b, i, none⟩)) 0 w K = K (.pointer (some ⟨b, i, none⟩)) w := .trans (by kernel_rfl) rfl
@[simp] theorem bfj (b i : Nat) (w : World) (K : KV) : faT P T.e (.pointer (some ⟨b, i, none⟩)) 1 w K = K (.pointer (some ⟨b, i + 2, none⟩)) w := .trans (by kernel_rfl) rfl
@[simp] theorem bjy (b i : Nat) (w : World) (K : KV) : faT P T.e (.pointer (some ⟨b, i, none⟩)) 2 w K = K (.pointer (some ⟨b, i + 4, none⟩)) w := .trans (by kernel_rfl) rfl
@[simp] theorem bln (c0_0 c0_1 : Value) (c1_0 c1_1 : Value) (x2 : Int) (w : World) (K : KV) : ir P T.aj #[(0, (.agg #[c0_0, c0_1])), (1, (.agg #[c1_0, c1_1])), (2, (.int .i64 x2))] w K = K (.agg #[c0_0, c0_1, c1_0, c1_1, (.int .i64 x2)]) w := .trans (by kernel_rfl) rfl
@[simp] theorem bgw (x0 : Int) (x1 : Int) (c2_0 c2_1 : Value) (p3 : Option Addr) (l3 c3 : Nat) (w : World) (K : KV) : ir P T.b #[(0, (.int .i64 x0)), (1, (.int .u64 x1)), (2, (.agg #[c2_0, c2_1])), (6, (.slice p3 l3 c3))] w K = K (.agg #[(.int .i64 x0), (.int .u64 x1), c2_0, c2_1, (.int .u64 0), (.int .u64 0), (.int .i64 0), (.bool false), (.slice p3 l3 c3), (.slice none 0 0), (.slice none 0 0)]) w := .trans (by kernel_rfl) rfl
@[simp] theorem bks (b i : Nat) (w : World) (K : KV) : faT P T.ac (.pointer (some ⟨b, i, none⟩)) 1 w K = K (.pointer (some ⟨b, i + 1, none⟩)) w := .trans (by kernel_rfl) rfl
@[simp] theorem bep (w : World) (K : KV) : alT P T.ac w K = K (.pointer (some ⟨w.heap.size, 0, none⟩)) (w.alloc (.cells #[(.int .u64 0), (.int .u64 0), (.int .u64 0), (.int .u64 0), (.int .u64 0), (.string ⟨#[]⟩), (.string ⟨#[]⟩), (.bool false)] T.ac)) := .trans (by kernel_rfl) rfl
@[simp] theorem bhp (b i : Nat) (c_0 c_1 c_2 c_3 c_4 c_5 c_6 c_7 : Value) (w : World) (K : KV) : stT P T.ac (.pointer (some ⟨b, i, none⟩)) (.agg #[c_0, c_1, c_2, c_3, c_4, c_5, c_6, c_7]) w K = stN P b i [c_0, c_1, c_2, c_3, c_4, c_5, c_6, c_7] w K := .trans (by kernel_rfl) rfl
@[simp] theorem bio (v : Value) (w : World) (K : KV) : taT P (.iface T.q v) T.ao T.q true w K = K (.tuple #[v, .bool true]) w := .trans (by kernel_rfl) rfl
@[simp] theorem bfo (w : World) (K : KV) : alT P T.q w K = K (.pointer (some ⟨w.heap.size, 0, none⟩)) (w.alloc (.cells #[(.int .u64 0), (.int .u64 0), (.int .u64 0), (.slice none 0 0)] T.q)) := .trans (by kernel_rfl) rfl
@[simp] theorem bfw (b i : Nat) (c_0 c_1 c_2 c_3 : Value) (w : World) (K : KV) : stT P T.q (.pointer (some ⟨b, i, none⟩)) (.agg #[c_0, c_1, c_2, c_3]) w K = stN P b i [c_0, c_1, c_2, c_3] w K := .trans (by kernel_rfl) rfl
@[simp] theorem bkq (b i : Nat) (w : World) (K : KV) : faT P T.q (.pointer (some ⟨b, i, none⟩)) 2 w K = K (.pointer (some ⟨b, i + 3, none⟩)) w := .trans (by kernel_rfl) rfl
@[simp] theorem bhk (b i : Nat) (w : World) (K : KV) : faT P T.q (.pointer (some ⟨b, i, none⟩)) 1 w K = K (.pointer (some ⟨b, i + 1, none⟩)) w := .trans (by kernel_rfl) rfl
@[simp] theorem bhs (b i : Nat) (w : World) (K : KV) : faT P T.q (.pointer (some ⟨b, i, none⟩)) 0 w K = K (.pointer (some ⟨b, i, none⟩)) w := .trans (by kernel_rfl) rfl
@[simp] theorem bll (w : World) (K : KV) : alT P T.w w K = K (.pointer (some ⟨w.heap.size, 0, none⟩)) (w.alloc (.cells #[(.int .u64 0), (.slice none 0 0)] T.w)) := .trans (by kernel_rfl) rfl
@[simp] theorem bhr (b i : Nat) (c_0 c_1 : Value) (w : World) (K : KV) : stT P T.w (.pointer (some ⟨b, i, none⟩)) (.agg #[c_0, c_1]) w K = stN P b i [c_0, c_1] w K := .trans (by kernel_rfl) rfl
@[simp] theorem bjm (b i : Nat) (w : World) (K : KV) : faT P T.w (.pointer (some ⟨b, i, none⟩)) 1 w K = K (.pointer (some ⟨b, i + 1, none⟩)) w := .trans (by kernel_rfl) rfl
@[simp] theorem biz (v : Value) (w : World) (K : KV) : ro P T.w v w K = K (.iface T.w v) w := .trans (by kernel_rfl) rfl
@[simp] theorem big  (w : World) (K : KV) : bsT P T.g 0 #[] w K = K (.slice (some ⟨w.heap.size, 0, none⟩) 0 0) (w.alloc (.cells #[] T.f)) := .trans (by kernel_rfl) rfl
@[simp] theorem blb (x0 : Int) (x1 : Int) (p2 : Option Addr) (l2 c2 : Nat) (w : World) (K : KV) : ir P T.b #[(0, (.int .i64 x0)), (1, (.int .u64 x1)), (8, (.slice p2 l2 c2))] w K = K (.agg #[(.int .i64 x0), (.int .u64 x1), (.int .u64 0), (.int .u64 0), (.int .u64 0), (.int .u64 0), (.int .i64 0), (.bool false), (.slice none 0 0), (.slice none 0 0), (.slice p2 l2 c2)]) w := .trans (by kernel_rfl) rfl
@[simp] theorem bim (p0 : Option Addr) (x1 : Int) (w : World) (K : KV) : ir P T.x #[(0, (.pointer p0)), (1, (.int .i64 x1))] w K = K (.agg #[(.pointer p0), (.int .i64 x1), (.slice none 0 0)]) w := .trans (by kernel_rfl) rfl
@[simp] theorem bjf (rx ry : Operand)  (w : World) (K : KV) : fc P .eql T.z rx ry (.pointer none) (.pointer none) w K = K (.bool true) w := .trans (by kernel_rfl) rfl
@[simp] theorem bfl (rx ry : Operand) (a : Addr) (w : World) (K : KV) : fc P .eql T.z rx ry (.pointer (some a)) (.pointer none) w K = K (.bool false) w := .trans (by kernel_rfl) rfl
@[simp] theorem bes (b i : Nat) (w : World) (K : KV) : faT P T.x (.pointer (some ⟨b, i, none⟩)) 2 w K = K (.pointer (some ⟨b, i + 2, none⟩)) w := .trans (by kernel_rfl) rfl
@[simp] theorem bew (b i : Nat) (w : World) (K : KV) : ldT P T.l (.pointer (some ⟨b, i, none⟩)) w K = ld1 P b i w K := .trans (by kernel_rfl) rfl
@[simp] theorem bgy : lf P T.l = true := .trans (by kernel_rfl) rfl
@[simp] theorem bjt : szE P T.l = 1 := .trans (by kernel_rfl) rfl
theorem et.l : ko P T.l T.z 1 8 := ko.mk' (by kernel_rfl) (by kernel_rfl) (by kernel_rfl)
@[simp] theorem bjn (b i : Nat) (w : World) (K : KV) : faT P T.ad (.pointer (some ⟨b, i, none⟩)) 1 w K = K (.pointer (some ⟨b, i + 1, none⟩)) w := .trans (by kernel_rfl) rfl
@[simp] theorem bih (p0 : Option Addr) (w : World) (K : KV) : bsT P T.l 1 #[(0, (.pointer p0))] w K = K (.slice (some ⟨w.heap.size, 0, none⟩) 1 1) (w.alloc (.cells #[(.pointer p0)] T.z)) := .trans (by kernel_rfl) rfl
@[simp] theorem bji (b i : Nat) (p : Option Addr) (l c : Nat) (w : World) (K : KV) : stT P T.l (.pointer (some ⟨b, i, none⟩)) (.slice p l c) w K = st1 P b i (.slice p l c) w K := .trans (by kernel_rfl) rfl
@[simp] theorem bls (rx ry : Operand) (a : Addr) (w : World) (K : KV) : fc P .eql T.aq rx ry (.pointer (some a)) (.pointer none) w K = K (.bool false) w := .trans (by kernel_rfl) rfl
@[simp] theorem bib (b i : Nat) (w : World) (K : KV) : ldT P T.z (.pointer (some ⟨b, i, none⟩)) w K = ld1 P b i w K := .trans (by kernel_rfl) rfl
@[simp] theorem bey (b i : Nat) (w : World) (K : KV) : faT P T.ad (.pointer (some ⟨b, i, none⟩)) 2 w K = K (.pointer (some ⟨b, i + 2, none⟩)) w := .trans (by kernel_rfl) rfl
@[simp] theorem biy (b i : Nat) (w : World) (K : KV) : ldT P T.j (.pointer (some ⟨b, i, none⟩)) w K = ld1 P b i w K := .trans (by kernel_rfl) rfl
@[simp] theorem blj (w : World) (K : KV) : alT P T.ah w K = K (.pointer (some ⟨w.heap.size, 0, none⟩)) (w.alloc (.cells #[(.int .u64 0), (.int .u64 0), (.int .u64 0), (.int .u64 0), (.int .u64 0)] T.ah)) := .trans (by kernel_rfl) rfl
@[simp] theorem biw (b i : Nat) (x : Int) (w : World) (K : KV) : stT P T.f (.pointer (some ⟨b, i, none⟩)) (.int .u64 x) w K = st1 P b i (.int .u64 x) w K := .trans (by kernel_rfl) rfl
@[simp] theorem bfc (b i : Nat) (w : World) (K : KV) : ldT P T.ap (.pointer (some ⟨b, i, none⟩)) w K = ld1 P b i w K := .trans (by kernel_rfl) rfl
@[simp] theorem bfb (c0_0 c0_1 : Value) (c1_0 c1_1 : Value) (x2 : Int) (w : World) (K : KV) : ir P T.e #[(0, (.agg #[c0_0, c0_1])), (1, (.agg #[c1_0, c1_1])), (2, (.int .i64 x2))] w K = K (.agg #[c0_0, c0_1, c1_0, c1_1, (.int .i64 x2)]) w := .trans (by kernel_rfl) rfl
@[simp] theorem bkv (b i : Nat) (w : World) (K : KV) : faT P T.x (.pointer (some ⟨b, i, none⟩)) 0 w K = K (.pointer (some ⟨b, i, none⟩)) w := .trans (by kernel_rfl) rfl
@[simp] theorem biq (b i : Nat) (w : World) (K : KV) : faT P T.ad (.pointer (some ⟨b, i, none⟩)) 0 w K = K (.pointer (some ⟨b, i, none⟩)) w := .trans (by kernel_rfl) rfl
@[simp] theorem bkc (v : Value) (w : World) (K : KV) : ro P T.an v w K = K (.iface T.an v) w := .trans (by kernel_rfl) rfl
@[simp] theorem bkw (x0 : Int) (w : World) (K : KV) : bsT P T.c 1 #[(0, (.int .u8 x0))] w K = K (.slice (some ⟨w.heap.size, 0, none⟩) 1 1) (w.alloc (.cells #[(.int .u8 x0)] T.ap)) := .trans (by kernel_rfl) rfl
@[simp] theorem bix (x0 : Int) (x1 : Int) (c2_0 c2_1 : Value) (bo3 : Bool) (w : World) (K : KV) : ir P T.b #[(0, (.int .i64 x0)), (1, (.int .u64 x1)), (2, (.agg #[c2_0, c2_1])), (5, (.bool bo3))] w K = K (.agg #[(.int .i64 x0), (.int .u64 x1), c2_0, c2_1, (.int .u64 0), (.int .u64 0), (.int .i64 0), (.bool bo3), (.slice none 0 0), (.slice none 0 0), (.slice none 0 0)]) w := .trans (by kernel_rfl) rfl
@[simp] theorem bii (b i : Nat) (x : Int) (w : World) (K : KV) : stT P T.r (.pointer (some ⟨b, i, none⟩)) (.int .i64 x) w K = st1 P b i (.int .i64 x) w K := .trans (by kernel_rfl) rfl
@[simp] theorem bha (b i : Nat) (w : World) (K : KV) : faT P T.ac (.pointer (some ⟨b, i, none⟩)) 0 w K = K (.pointer (some ⟨b, i, none⟩)) w := .trans (by kernel_rfl) rfl
@[simp] theorem bgi (rx ry : Operand) (l c : Nat) (w : World) (K : KV) : fc P .eql T.t rx ry (.slice none l c) (.slice none 0 0) w K = K (.bool true) w := .trans (by kernel_rfl) rfl
@[simp] theorem bir (rx ry : Operand) (a : Addr) (l c : Nat) (w : World) (K : KV) : fc P .eql T.t rx ry (.slice (some a) l c) (.slice none 0 0) w K = K (.bool false) w := .trans (by kernel_rfl) rfl
@[simp] theorem bkt  (w : World) (K : KV) : bsT P T.t 0 #[] w K = K (.slice (some ⟨w.heap.size, 0, none⟩) 0 0) (w.alloc (.cells #[] T.ac)) := .trans (by kernel_rfl) rfl
@[simp] theorem bev : lf P T.av = true := .trans (by kernel_rfl) rfl
@[simp] theorem bfg : szE P T.av = 1 := .trans (by kernel_rfl) rfl
@[simp] theorem blc (p0 : Option Addr) (l0 c0 : Nat) (p1 : Option Addr) (l1 c1 : Nat) (w : World) (K : KV) : bsT P T.av 2 #[(0, (.slice p0 l0 c0)), (1, (.slice p1 l1 c1))] w K = K (.slice (some ⟨w.heap.size, 0, none⟩) 2 2) (w.alloc (.cells #[(.slice p0 l0 c0), (.slice p1 l1 c1)] T.h)) := .trans (by kernel_rfl) rfl
@[simp] theorem bhl (x0 : Int) (x1 : Int) (p2 : Option Addr) (l2 c2 : Nat) (x3 : Int) (w : World) (K : KV) : ir P T.ad #[(0, (.int .i64 x0)), (1, (.int .i64 x1)), (2, (.slice p2 l2 c2)), (3, (.int .i64 x3))] w K = K (.agg #[(.int .i64 x0), (.int .i64 x1), (.slice p2 l2 c2), (.int .i64 x3)]) w := .trans (by kernel_rfl) rfl
@[simp] theorem bht (rx ry : Operand) (l c : Nat) (w : World) (K : KV) : fc P .eql T.c rx ry (.slice none l c) (.slice none 0 0) w K = K (.bool true) w := .trans (by kernel_rfl) rfl
@[simp] theorem bkz (rx ry : Operand) (a : Addr) (l c : Nat) (w : World) (K : KV) : fc P .eql T.c rx ry (.slice (some a) l c) (.slice none 0 0) w K = K (.bool false) w := .trans (by kernel_rfl) rfl
@[simp] theorem beu  (w : World) (K : KV) : bsT P T.c 0 #[] w K = K (.slice (some ⟨w.heap.size, 0, none⟩) 0 0) (w.alloc (.cells #[] T.ap)) := .trans (by kernel_rfl) rfl
@[simp] theorem blf (x0 : Int) (bo1 : Bool) (p2 : Option Addr) (l2 c2 : Nat) (w : World) (K : KV) : ir P T.s #[(0, (.int .u64 x0)), (1, (.bool bo1)), (2, (.slice p2 l2 c2))] w K = K (.agg #[(.int .u64 x0), (.bool bo1), (.slice p2 l2 c2)]) w := .trans (by kernel_rfl) rfl
@[simp] theorem blr (v : Value) (w : World) (K : KV) : ro P T.s v w K = K (.iface T.s v) w := .trans (by kernel_rfl) rfl
@[simp] theorem bkx (p0 : Option Addr) (l0 c0 : Nat) (w : World) (K : KV) : ir P T.u #[(0, (.slice p0 l0 c0))] w K = K (.agg #[(.slice p0 l0 c0)]) w := .trans (by kernel_rfl) rfl
@[simp] theorem bgb (v : Value) (w : World) (K : KV) : ro P T.u v w K = K (.iface T.u v) w := .trans (by kernel_rfl) rfl
@[simp] theorem bhg (x0 : Int) (c1_0 c1_1 : Value) (x2 : Int) (w : World) (K : KV) : ir P T.k #[(0, (.int .u64 x0)), (1, (.agg #[c1_0, c1_1])), (2, (.int .i64 x2))] w K = K (.agg #[(.int .u64 x0), c1_0, c1_1, (.int .i64 x2)]) w := .trans (by kernel_rfl) rfl
@[simp] theorem blm (v : Value) (w : World) (K : KV) : ro P T.k v w K = K (.iface T.k v) w := .trans (by kernel_rfl) rfl
@[simp] theorem bjs (x0 : Int) (c1_0 c1_1 : Value) (bo2 : Bool) (c3_0 c3_1 : Value) (x4 : Int) (bo5 : Bool) (w : World) (K : KV) : ir P T.n #[(0, (.int .u64 x0)), (1, (.agg #[c1_0, c1_1])), (2, (.bool bo2)), (3, (.agg #[c3_0, c3_1])), (4, (.int .i64 x4)), (5, (.bool bo5))] w K = K (.agg #[(.int .u64 x0), c1_0, c1_1, (.bool bo2), c3_0, c3_1, (.int .i64 x4), (.bool bo5)]) w := .trans (by kernel_rfl) rfl
@[simp] theorem bit (v : Value) (w : World) (K : KV) : ro P T.n v w K = K (.iface T.n v) w := .trans (by kernel_rfl) rfl
@[simp] theorem bgm (x0 : Int) (x1 : Int) (w : World) (K : KV) : ir P T.aa #[(0, (.int .u64 x0)), (1, (.int .i64 x1))] w K = K (.agg #[(.int .u64 x0), (.int .i64 x1)]) w := .trans (by kernel_rfl) rfl
@[simp] theorem bjv (v : Value) (w : World) (K : KV) : ro P T.aa v w K = K (.iface T.aa v) w := .trans (by kernel_rfl) rfl
@[simp] theorem bjc (x0 : Int) (c1_0 c1_1 : Value) (p2 : Option Addr) (l2 c2 : Nat) (w : World) (K : KV) : ir P T.q #[(0, (.int .u64 x0)), (1, (.agg #[c1_0, c1_1])), (2, (.slice p2 l2 c2))] w K = K (.agg #[(.int .u64 x0), c1_0, c1_1, (.slice p2 l2 c2)]) w := .trans (by kernel_rfl) rfl
@[simp] theorem bil (v : Value) (w : World) (K : KV) : ro P T.q v w K = K (.iface T.q v) w := .trans (by kernel_rfl) rfl
@[simp] theorem bjz (x0 : Int) (p1 : Option Addr) (l1 c1 : Nat) (w : World) (K : KV) : ir P T.w #[(0, (.int .u64 x0)), (1, (.slice p1 l1 c1))] w K = K (.agg #[(.int .u64 x0), (.slice p1 l1 c1)]) w := .trans (by kernel_rfl) rfl
@[simp] theorem bky (b i : Nat) (w : World) (K : KV) : faT P T.ad (.pointer (some ⟨b, i, none⟩)) 3 w K = K (.pointer (some ⟨b, i + 3, none⟩)) w := .trans (by kernel_rfl) rfl
@[simp] theorem bkl (b i : Nat) (w : World) (K : KV) : faT P T.x (.pointer (some ⟨b, i, none⟩)) 1 w K = K (.pointer (some ⟨b, i + 1, none⟩)) w := .trans (by kernel_rfl) rfl
@[simp] theorem bid (b i : Nat) (p : Option Addr) (l c : Nat) (w : World) (K : KV) : stT P T.j (.pointer (some ⟨b, i, none⟩)) (.slice p l c) w K = st1 P b i (.slice p l c) w K := .trans (by kernel_rfl) rfl
@[simp] theorem bhh (w : World) (K : KV) : alT P T.y w K = K (.pointer (some ⟨w.heap.size, 0, none⟩)) (w.alloc (.cells #[(.int .u64 0), (.int .u64 0), (.int .i64 0)] T.y)) := .trans (by kernel_rfl) rfl
@[simp] theorem bgp (b i : Nat) (c_0 c_1 c_2 : Value) (w : World) (K : KV) : stT P T.y (.pointer (some ⟨b, i, none⟩)) (.agg #[c_0, c_1, c_2]) w K = stN P b i [c_0, c_1, c_2] w K := .trans (by kernel_rfl) rfl
@[simp] theorem bjh (b i : Nat) (w : World) (K : KV) : faT P T.y (.pointer (some ⟨b, i, none⟩)) 0 w K = K (.pointer (some ⟨b, i, none⟩)) w := .trans (by kernel_rfl) rfl
@[simp] theorem bla (b i : Nat) (w : World) (K : KV) : faT P T.y (.pointer (some ⟨b, i, none⟩)) 1 w K = K (.pointer (some ⟨b, i + 1, none⟩)) w := .trans (by kernel_rfl) rfl
@[simp] theorem bld (b i : Nat) (w : World) (K : KV) : faT P T.y (.pointer (some ⟨b, i, none⟩)) 2 w K = K (.pointer (some ⟨b, i + 2, none⟩)) w := .trans (by kernel_rfl) rfl
@[simp] theorem bfh (b i : Nat) (w : World) (K : KV) : ldT P T.ai (.pointer (some ⟨b, i, none⟩)) w K = ld1 P b i w K := .trans (by kernel_rfl) rfl
@[simp] theorem bli (v : Value) (w : World) (K : KV) : taT P (.iface T.s v) T.ao T.s true w K = K (.tuple #[v, .bool true]) w := .trans (by kernel_rfl) rfl
@[simp] theorem bjx (w : World) (K : KV) : alT P T.s w K = K (.pointer (some ⟨w.heap.size, 0, none⟩)) (w.alloc (.cells #[(.int .u64 0), (.bool false), (.slice none 0 0)] T.s)) := .trans (by kernel_rfl) rfl
@[simp] theorem biv (b i : Nat) (c_0 c_1 c_2 : Value) (w : World) (K : KV) : stT P T.s (.pointer (some ⟨b, i, none⟩)) (.agg #[c_0, c_1, c_2]) w K = stN P b i [c_0, c_1, c_2] w K := .trans (by kernel_rfl) rfl
@[simp] theorem bfi (b i : Nat) (w : World) (K : KV) : faT P T.s (.pointer (some ⟨b, i, none⟩)) 0 w K = K (.pointer (some ⟨b, i, none⟩)) w := .trans (by kernel_rfl) rfl
@[simp] theorem bhi (b i : Nat) (w : World) (K : KV) : faT P T.s (.pointer (some ⟨b, i, none⟩)) 2 w K = K (.pointer (some ⟨b, i + 2, none⟩)) w := .trans (by kernel_rfl) rfl
@[simp] theorem bjj (x0 : Int) (x1 : Int) (p2 : Option Addr) (l2 c2 : Nat) (w : World) (K : KV) : ir P T.b #[(0, (.int .i64 x0)), (1, (.int .u64 x1)), (6, (.slice p2 l2 c2))] w K = K (.agg #[(.int .i64 x0), (.int .u64 x1), (.int .u64 0), (.int .u64 0), (.int .u64 0), (.int .u64 0), (.int .i64 0), (.bool false), (.slice p2 l2 c2), (.slice none 0 0), (.slice none 0 0)]) w := .trans (by kernel_rfl) rfl
@[simp] theorem blq (b i : Nat) (w : World) (K : KV) : faT P T.s (.pointer (some ⟨b, i, none⟩)) 1 w K = K (.pointer (some ⟨b, i + 1, none⟩)) w := .trans (by kernel_rfl) rfl
@[simp] theorem bfp (v : Value) (w : World) (K : KV) : taT P (.iface T.u v) T.ao T.u true w K = K (.tuple #[v, .bool true]) w := .trans (by kernel_rfl) rfl
@[simp] theorem blp (w : World) (K : KV) : alT P T.u w K = K (.pointer (some ⟨w.heap.size, 0, none⟩)) (w.alloc (.cells #[(.slice none 0 0)] T.u)) := .trans (by kernel_rfl) rfl
@[simp] theorem biu (b i : Nat) (c_0 : Value) (w : World) (K : KV) : stT P T.u (.pointer (some ⟨b, i, none⟩)) (.agg #[c_0]) w K = stN P b i [c_0] w K := .trans (by kernel_rfl) rfl
@[simp] theorem bfm (b i : Nat) (w : World) (K : KV) : faT P T.u (.pointer (some ⟨b, i, none⟩)) 0 w K = K (.pointer (some ⟨b, i, none⟩)) w := .trans (by kernel_rfl) rfl
@[simp] theorem bjg (x0 : Int) (p1 : Option Addr) (l1 c1 : Nat) (w : World) (K : KV) : ir P T.b #[(0, (.int .i64 x0)), (7, (.slice p1 l1 c1))] w K = K (.agg #[(.int .i64 x0), (.int .u64 0), (.int .u64 0), (.int .u64 0), (.int .u64 0), (.int .u64 0), (.int .i64 0), (.bool false), (.slice none 0 0), (.slice p1 l1 c1), (.slice none 0 0)]) w := .trans (by kernel_rfl) rfl
@[simp] theorem bin (v : Value) (w : World) (K : KV) : taT P (.iface T.n v) T.ao T.n true w K = K (.tuple #[v, .bool true]) w := .trans (by kernel_rfl) rfl
@[simp] theorem blg (w : World) (K : KV) : alT P T.n w K = K (.pointer (some ⟨w.heap.size, 0, none⟩)) (w.alloc (.cells #[(.int .u64 0), (.int .u64 0), (.int .u64 0), (.bool false), (.int .u64 0), (.int .u64 0), (.int .i64 0), (.bool false)] T.n)) := .trans (by kernel_rfl) rfl
@[simp] theorem bfn (b i : Nat) (c_0 c_1 c_2 c_3 c_4 c_5 c_6 c_7 : Value) (w : World) (K : KV) : stT P T.n (.pointer (some ⟨b, i, none⟩)) (.agg #[c_0, c_1, c_2, c_3, c_4, c_5, c_6, c_7]) w K = stN P b i [c_0, c_1, c_2, c_3, c_4, c_5, c_6, c_7] w K := .trans (by kernel_rfl) rfl
@[simp] theorem bfx (b i : Nat) (w : World) (K : KV) : faT P T.n (.pointer (some ⟨b, i, none⟩)) 0 w K = K (.pointer (some ⟨b, i, none⟩)) w := .trans (by kernel_rfl) rfl
@[simp] theorem bgo (b i : Nat) (w : World) (K : KV) : faT P T.n (.pointer (some ⟨b, i, none⟩)) 1 w K = K (.pointer (some ⟨b, i + 1, none⟩)) w := .trans (by kernel_rfl) rfl
@[simp] theorem bkj (b i : Nat) (w : World) (K : KV) : faT P T.n (.pointer (some ⟨b, i, none⟩)) 2 w K = K (.pointer (some ⟨b, i + 3, none⟩)) w := .trans (by kernel_rfl) rfl
@[simp] theorem bhe (b i : Nat) (w : World) (K : KV) : faT P T.n (.pointer (some ⟨b, i, none⟩)) 3 w K = K (.pointer (some ⟨b, i + 4, none⟩)) w := .trans (by kernel_rfl) rfl
@[simp] theorem bet (b i : Nat) (w : World) (K : KV) : faT P T.n (.pointer (some ⟨b, i, none⟩)) 4 w K = K (.pointer (some ⟨b, i + 6, none⟩)) w := .trans (by kernel_rfl) rfl
@[simp] theorem bfq (x0 : Int) (x1 : Int) (c2_0 c2_1 : Value) (bo3 : Bool) (c4_0 c4_1 : Value) (x5 : Int) (w : World) (K : KV) : ir P T.b #[(0, (.int .i64 x0)), (1, (.int .u64 x1)), (2, (.agg #[c2_0, c2_1])), (5, (.bool bo3)), (3, (.agg #[c4_0, c4_1])), (4, (.int .i64 x5))] w K = K (.agg #[(.int .i64 x0), (.int .u64 x1), c2_0, c2_1, c4_0, c4_1, (.int .i64 x5), (.bool bo3), (.slice none 0 0), (.slice none 0 0), (.slice none 0 0)]) w := .trans (by kernel_rfl) rfl
@[simp] theorem bjr (b i : Nat) (w : World) (K : KV) : faT P T.n (.pointer (some ⟨b, i, none⟩)) 5 w K = K (.pointer (some ⟨b, i + 7, none⟩)) w := .trans (by kernel_rfl) rfl
@[simp] theorem bgz (v : Value) (w : World) (K : KV) : taT P (.iface T.aa v) T.ao T.aa true w K = K (.tuple #[v, .bool true]) w := .trans (by kernel_rfl) rfl
@[simp] theorem bhv (w : World) (K : KV) : alT P T.aa w K = K (.pointer (some ⟨w.heap.size, 0, none⟩)) (w.alloc (.cells #[(.int .u64 0), (.int .i64 0)] T.aa)) := .trans (by kernel_rfl) rfl
@[simp] theorem bik (b i : Nat) (c_0 c_1 : Value) (w : World) (K : KV) : stT P T.aa (.pointer (some ⟨b, i, none⟩)) (.agg #[c_0, c_1]) w K = stN P b i [c_0, c_1] w K := .trans (by kernel_rfl) rfl
@[simp] theorem bjw (b i : Nat) (w : World) (K : KV) : faT P T.aa (.pointer (some ⟨b, i, none⟩)) 0 w K = K (.pointer (some ⟨b, i, none⟩)) w := .trans (by kernel_rfl) rfl
@[simp] theorem bgk (b i : Nat) (w : World) (K : KV) : faT P T.aa (.pointer (some ⟨b, i, none⟩)) 1 w K = K (.pointer (some ⟨b, i + 1, none⟩)) w := .trans (by kernel_rfl) rfl
@[simp] theorem bhm (x0 : Int) (x1 : Int) (x2 : Int) (w : World) (K : KV) : ir P T.b #[(0, (.int .i64 x0)), (1, (.int .u64 x1)), (4, (.int .i64 x2))] w K = K (.agg #[(.int .i64 x0), (.int .u64 x1), (.int .u64 0), (.int .u64 0), (.int .u64 0), (.int .u64 0), (.int .i64 x2), (.bool false), (.slice none 0 0), (.slice none 0 0), (.slice none 0 0)]) w := .trans (by kernel_rfl) rfl
@[simp] theorem bfz (v : Value) (w : World) (K : KV) : taT P (.iface T.w v) T.ao T.w true w K = K (.tuple #[v, .bool true]) w := .trans (by kernel_rfl) rfl
@[simp] theorem bhu (b i : Nat) (w : World) (K : KV) : faT P T.w (.pointer (some ⟨b, i, none⟩)) 0 w K = K (.pointer (some ⟨b, i, none⟩)) w := .trans (by kernel_rfl) rfl
@[simp] theorem bjo (b i : Nat) (w : World) (K : KV) : faT P T.ac (.pointer (some ⟨b, i, none⟩)) 3 w K = K (.pointer (some ⟨b, i + 3, none⟩)) w := .trans (by kernel_rfl) rfl
@[simp] theorem bkb (x0 : Int) (x1 : Int) (w : World) (K : KV) : bsT P T.h 2 #[(0, (.int .i64 x0)), (1, (.int .i64 x1))] w K = K (.slice (some ⟨w.heap.size, 0, none⟩) 2 2) (w.alloc (.cells #[(.int .i64 x0), (.int .i64 x1)] T.a)) := .trans (by kernel_rfl) rfl
@[simp] theorem bie (rx ry : Operand)  (w : World) (K : KV) : fc P .eql T.ba rx ry (.pointer none) (.pointer none) w K = K (.bool true) w := .trans (by kernel_rfl) rfl
@[simp] theorem bga (rx ry : Operand) (a : Addr) (w : World) (K : KV) : fc P .eql T.ba rx ry (.pointer (some a)) (.pointer none) w K = K (.bool false) w := .trans (by kernel_rfl) rfl
@[simp] theorem bfv (rx ry : Operand) (l c : Nat) (w : World) (K : KV) : fc P .eql T.v rx ry (.slice none l c) (.slice none 0 0) w K = K (.bool true) w := .trans (by kernel_rfl) rfl
@[simp] theorem bjb (rx ry : Operand) (a : Addr) (l c : Nat) (w : World) (K : KV) : fc P .eql T.v rx ry (.slice (some a) l c) (.slice none 0 0) w K = K (.bool false) w := .trans (by kernel_rfl) rfl
@[simp] theorem bkr  (w : World) (K : KV) : bsT P T.v 0 #[] w K = K (.slice (some ⟨w.heap.size, 0, none⟩) 0 0) (w.alloc (.cells #[] T.y)) := .trans (by kernel_rfl) rfl
@[simp] theorem bff (rx ry : Operand) (l c : Nat) (w : World) (K : KV) : fc P .eql T.g rx ry (.slice none l c) (.slice none 0 0) w K = K (.bool true) w := .trans (by kernel_rfl) rfl
@[simp] theorem bft (rx ry : Operand) (a : Addr) (l c : Nat) (w : World) (K : KV) : fc P .eql T.g rx ry (.slice (some a) l c) (.slice none 0 0) w K = K (.bool false) w := .trans (by kernel_rfl) rfl
@[simp] theorem bgx (x0 : Int) (p1 : Option Addr) (l1 c1 : Nat) (w : World) (K : KV) : ir P T.ad #[(1, (.int .i64 x0)), (2, (.slice p1 l1 c1))] w K = K (.agg #[(.int .i64 0), (.int .i64 x0), (.slice p1 l1 c1), (.int .i64 0)]) w := .trans (by kernel_rfl) rfl
@[simp] theorem bhc (rx ry : Operand)  (w : World) (K : KV) : fc P .neq T.z rx ry (.pointer none) (.pointer none) w K = K (.bool false) w := .trans (by kernel_rfl) rfl
@[simp] theorem bka (rx ry : Operand) (a : Addr) (w : World) (K : KV) : fc P .neq T.z rx ry (.pointer (some a)) (.pointer none) w K = K (.bool true) w := .trans (by kernel_rfl) rfl
@[simp] theorem bhn (b i : Nat) (w : World) (K : KV) : faT P T.af (.pointer (some ⟨b, i, none⟩)) 0 w K = K (.pointer (some ⟨b, i, none⟩)) w := .trans (by kernel_rfl) rfl
@[simp] theorem bis  (w : World) (K : KV) : ir P T.ag #[] w K = K (.agg #[(.slice none 0 0), (.slice none 0 0)]) w := .trans (by kernel_rfl) rfl
@[simp] theorem bjl (b i : Nat) (w : World) (K : KV) : faT P T.ac (.pointer (some ⟨b, i, none⟩)) 4 w K = K (.pointer (some ⟨b, i + 4, none⟩)) w := .trans (by kernel_rfl) rfl
@[simp] theorem bge : lf P T.az = true := .trans (by kernel_rfl) rfl
@[simp] theorem bfy : szE P T.az = 1 := .trans (by kernel_rfl) rfl
@[simp] theorem bku (x0 : Int) (x1 : Int) (w : World) (K : KV) : bsT P T.az 2 #[(0, (.int .i64 x0)), (1, (.int .i64 x1))] w K = K (.slice (some ⟨w.heap.size, 0, none⟩) 2 2) (w.alloc (.cells #[(.int .i64 x0), (.int .i64 x1)] T.ai)) := .trans (by kernel_rfl) rfl
@[simp] theorem bex (w : World) (K : KV) : alT P T.p w K = K (.pointer (some ⟨w.heap.size, 0, none⟩)) (w.alloc (.cells #[(.int .u64 0)] T.p)) := .trans (by kernel_rfl) rfl
@[simp] theorem blu (b i : Nat) (x : Int) (w : World) (K : KV) : stT P T.p (.pointer (some ⟨b, i, none⟩)) (.int .u64 x) w K = st1 P b i (.int .u64 x) w K := .trans (by kernel_rfl) rfl
theorem mt.ar : tz P T.ar .u64 T.au (.bool false) := tz.mk' (key := T.f) (by kernel_rfl) (by kernel_rfl) (by kernel_rfl)
@[simp] theorem bgj (b i : Nat) (w : World) (K : KV) : ldT P T.p (.pointer (some ⟨b, i, none⟩)) w K = ld1 P b i w K := .trans (by kernel_rfl) rfl
end Go.Proofs.YtfnhoaemapheoaaGreat
