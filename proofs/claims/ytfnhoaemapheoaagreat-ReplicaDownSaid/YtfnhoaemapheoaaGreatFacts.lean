/-
  Printed by wip/Shallow.lean: what the operations come to at this seat's types. No condition.
-/
import Derived.Test.YtfnhoaemapheoaaGreatN
import Derived.Test.YtfnhoaemapheoaaGreatZEng
set_option maxRecDepth 1000000
namespace Go.Proofs.YtfnhoaemapheoaaGreat
open Go.Eng
@[simp] theorem bqx (rx ry : Operand) (a : Addr) (w : World) (K : KV) : fi P .eql T.ap rx ry (.pointer (some a)) (.pointer none) w K = K (.bool false) w := .trans (by kernel_rfl) rfl
@[simp] theorem bqo (b i : Nat) (w : World) (K : KV) : ldT P T.k (.pointer (some ⟨b, i, none⟩)) w K = ld1 P b i w K := .trans (by kernel_rfl) rfl
@[simp] theorem bpw : mo P T.k = true := .trans (by kernel_rfl) rfl
@[simp] theorem bqe : szE P T.k = 1 := .trans (by kernel_rfl) rfl
theorem et.k : ko P T.k T.b 1 8 := ko.mk' (by kernel_rfl) (by kernel_rfl) (by kernel_rfl)
@[simp] theorem bqt (b i : Nat) (w : World) (K : KV) : ldT P T.d (.pointer (some ⟨b, i, none⟩)) w K = ld1 P b i w K := .trans (by kernel_rfl) rfl
@[simp] theorem bpv (b i : Nat) (w : World) (K : KV) : ldT P T.j (.pointer (some ⟨b, i, none⟩)) w K = ld1 P b i w K := .trans (by kernel_rfl) rfl
@[simp] theorem bpm (x0 : Int) (x1 : Int) (w : World) (K : KV) : iw P T.c #[(0, (.int .u64 x0)), (1, (.int .u64 x1))] w K = K (.agg #[(.int .u64 x0), (.int .u64 x1)]) w := .trans (by kernel_rfl) rfl
@[simp] theorem bpt (w : World) (K : KV) : alT P T.c w K = K (.pointer (some ⟨w.heap.size, 0, none⟩)) (w.alloc (.cells #[(.int .u64 0), (.int .u64 0)] T.c)) := .trans (by kernel_rfl) rfl
@[simp] theorem bqq (b i : Nat) (c_0 c_1 : Value) (w : World) (K : KV) : stT P T.c (.pointer (some ⟨b, i, none⟩)) (.agg #[c_0, c_1]) w K = stN P b i [c_0, c_1] w K := .trans (by kernel_rfl) rfl
@[simp] theorem bqs  (w : World) (K : KV) : iw P T.c #[] w K = K (.agg #[(.int .u64 0), (.int .u64 0)]) w := .trans (by kernel_rfl) rfl
@[simp] theorem bph (b i : Nat) (w : World) (K : KV) : ldT P T.b (.pointer (some ⟨b, i, none⟩)) w K = ld1 P b i w K := .trans (by kernel_rfl) rfl
@[simp] theorem bqf (b i : Nat) (w : World) (K : KV) : ldT P T.c (.pointer (some ⟨b, i, none⟩)) w K = ldN P 2 b i w K := .trans (by kernel_rfl) rfl
@[simp] theorem bpi (x0 : Int) (x1 : Int) (c2_0 c2_1 : Value) (w : World) (K : KV) : iw P T.a #[(0, (.int .i64 x0)), (1, (.int .u64 x1)), (2, (.agg #[c2_0, c2_1]))] w K = K (.agg #[(.int .i64 x0), (.int .u64 x1), c2_0, c2_1, (.int .u64 0), (.int .u64 0), (.int .i64 0), (.bool false), (.slice none 0 0), (.slice none 0 0), (.slice none 0 0)]) w := .trans (by kernel_rfl) rfl
@[simp] theorem bqc (w : World) (K : KV) : alT P T.a w K = K (.pointer (some ⟨w.heap.size, 0, none⟩)) (w.alloc (.cells #[(.int .i64 0), (.int .u64 0), (.int .u64 0), (.int .u64 0), (.int .u64 0), (.int .u64 0), (.int .i64 0), (.bool false), (.slice none 0 0), (.slice none 0 0), (.slice none 0 0)] T.a)) := .trans (by kernel_rfl) rfl
@[simp] theorem bqi (b i : Nat) (c_0 c_1 c_2 c_3 c_4 c_5 c_6 c_7 c_8 c_9 c_10 : Value) (w : World) (K : KV) : stT P T.a (.pointer (some ⟨b, i, none⟩)) (.agg #[c_0, c_1, c_2, c_3, c_4, c_5, c_6, c_7, c_8, c_9, c_10]) w K = stN P b i [c_0, c_1, c_2, c_3, c_4, c_5, c_6, c_7, c_8, c_9, c_10] w K := .trans (by kernel_rfl) rfl
@[simp] theorem bqa (b i : Nat) (w : World) (K : KV) : faT P T.a (.pointer (some ⟨b, i, none⟩)) 5 w K = K (.pointer (some ⟨b, i + 7, none⟩)) w := .trans (by kernel_rfl) rfl
@[simp] theorem bqk (b i : Nat) (w : World) (K : KV) : ldT P T.ao (.pointer (some ⟨b, i, none⟩)) w K = ld1 P b i w K := .trans (by kernel_rfl) rfl
@[simp] theorem bqd (b i : Nat) (bo : Bool) (w : World) (K : KV) : stT P T.ao (.pointer (some ⟨b, i, none⟩)) (.bool bo) w K = st1 P b i (.bool bo) w K := .trans (by kernel_rfl) rfl
@[simp] theorem bqp (b i : Nat) (w : World) (K : KV) : faT P T.a (.pointer (some ⟨b, i, none⟩)) 4 w K = K (.pointer (some ⟨b, i + 6, none⟩)) w := .trans (by kernel_rfl) rfl
@[simp] theorem bpj (b i : Nat) (w : World) (K : KV) : faT P T.a (.pointer (some ⟨b, i, none⟩)) 3 w K = K (.pointer (some ⟨b, i + 4, none⟩)) w := .trans (by kernel_rfl) rfl
@[simp] theorem bqb (b i : Nat) (w : World) (K : KV) : ldT P T.al (.pointer (some ⟨b, i, none⟩)) w K = ld1 P b i w K := .trans (by kernel_rfl) rfl
@[simp] theorem bqr (x0 : Int) (x1 : Int) (c2_0 c2_1 : Value) (x3 : Int) (w : World) (K : KV) : iw P T.a #[(0, (.int .i64 x0)), (1, (.int .u64 x1)), (2, (.agg #[c2_0, c2_1])), (4, (.int .i64 x3))] w K = K (.agg #[(.int .i64 x0), (.int .u64 x1), c2_0, c2_1, (.int .u64 0), (.int .u64 0), (.int .i64 x3), (.bool false), (.slice none 0 0), (.slice none 0 0), (.slice none 0 0)]) w := .trans (by kernel_rfl) rfl
@[simp] theorem bqg (b i : Nat) (w : World) (K : KV) : ldT P T.a (.pointer (some ⟨b, i, none⟩)) w K = ldN P 11 b i w K := .trans (by kernel_rfl) rfl
@[simp] theorem bqm (b i : Nat) (w : World) (K : KV) : faT P T.a (.pointer (some ⟨b, i, none⟩)) 2 w K = K (.pointer (some ⟨b, i + 2, none⟩)) w := .trans (by kernel_rfl) rfl
@[simp] theorem bpl  (w : World) (K : KV) : iw P T.a #[] w K = K (.agg #[(.int .i64 0), (.int .u64 0), (.int .u64 0), (.int .u64 0), (.int .u64 0), (.int .u64 0), (.int .i64 0), (.bool false), (.slice none 0 0), (.slice none 0 0), (.slice none 0 0)]) w := .trans (by kernel_rfl) rfl
@[simp] theorem bqw : mo P T.h = true := .trans (by kernel_rfl) rfl
@[simp] theorem bpp : szE P T.h = 6 := .trans (by kernel_rfl) rfl
theorem et.h : ko P T.h T.v 6 48 := ko.mk' (by kernel_rfl) (by kernel_rfl) (by kernel_rfl)
@[simp] theorem bps (b i : Nat) (w : World) (K : KV) : faT P T.a (.pointer (some ⟨b, i, none⟩)) 1 w K = K (.pointer (some ⟨b, i + 1, none⟩)) w := .trans (by kernel_rfl) rfl
@[simp] theorem bqj (w : World) (K : KV) : alT P T.i w K = K (.pointer (some ⟨w.heap.size, 0, none⟩)) (w.alloc (.cells #[(.int .u64 0), (.int .u64 0), (.int .u64 0), (.int .u64 0), (.int .i64 0)] T.i)) := .trans (by kernel_rfl) rfl
@[simp] theorem bqv (b i : Nat) (c_0 c_1 c_2 c_3 c_4 : Value) (w : World) (K : KV) : stT P T.i (.pointer (some ⟨b, i, none⟩)) (.agg #[c_0, c_1, c_2, c_3, c_4]) w K = stN P b i [c_0, c_1, c_2, c_3, c_4] w K := .trans (by kernel_rfl) rfl
@[simp] theorem bpo (b i : Nat) (w : World) (K : KV) : ldT P T.i (.pointer (some ⟨b, i, none⟩)) w K = ldN P 5 b i w K := .trans (by kernel_rfl) rfl
@[simp] theorem bpq (b i : Nat) (w : World) (K : KV) : faT P T.i (.pointer (some ⟨b, i, none⟩)) 0 w K = K (.pointer (some ⟨b, i, none⟩)) w := .trans (by kernel_rfl) rfl
@[simp] theorem bpk (b i : Nat) (w : World) (K : KV) : faT P T.a (.pointer (some ⟨b, i, none⟩)) 0 w K = K (.pointer (some ⟨b, i, none⟩)) w := .trans (by kernel_rfl) rfl
@[simp] theorem bqn (b i : Nat) (w : World) (K : KV) : faT P T.i (.pointer (some ⟨b, i, none⟩)) 1 w K = K (.pointer (some ⟨b, i + 2, none⟩)) w := .trans (by kernel_rfl) rfl
@[simp] theorem bqu (b i : Nat) (w : World) (K : KV) : faT P T.i (.pointer (some ⟨b, i, none⟩)) 2 w K = K (.pointer (some ⟨b, i + 4, none⟩)) w := .trans (by kernel_rfl) rfl
@[simp] theorem bqh : mo P T.n = true := .trans (by kernel_rfl) rfl
@[simp] theorem bpz : szE P T.n = 8 := .trans (by kernel_rfl) rfl
theorem et.n : ko P T.n T.z 8 80 := ko.mk' (by kernel_rfl) (by kernel_rfl) (by kernel_rfl)
@[simp] theorem bql (b i : Nat) (w : World) (K : KV) : faT P T.a (.pointer (some ⟨b, i, none⟩)) 6 w K = K (.pointer (some ⟨b, i + 8, none⟩)) w := .trans (by kernel_rfl) rfl
@[simp] theorem bpu (b i : Nat) (w : World) (K : KV) : ldT P T.n (.pointer (some ⟨b, i, none⟩)) w K = ld1 P b i w K := .trans (by kernel_rfl) rfl
@[simp] theorem bpx (b i : Nat) (w : World) (K : KV) : ldT P T.z (.pointer (some ⟨b, i, none⟩)) w K = ldN P 8 b i w K := .trans (by kernel_rfl) rfl
@[simp] theorem bpy : mo P T.f = true := .trans (by kernel_rfl) rfl
@[simp] theorem bpr : szE P T.f = 1 := .trans (by kernel_rfl) rfl
theorem et.f : ko P T.f T.d 1 8 := ko.mk' (by kernel_rfl) (by kernel_rfl) (by kernel_rfl)
@[simp] theorem boh (rx ry : Operand) (a : Addr) (w : World) (K : KV) : fi P .neq T.ap rx ry (.pointer (some a)) (.pointer none) w K = K (.bool true) w := .trans (by kernel_rfl) rfl
@[simp] theorem bon (c_0 c_1 c_2 c_3 c_4 : Value) (w : World) (K : KV) : fdT P T.g (.agg #[c_0, c_1, c_2, c_3, c_4]) 0 w K = K (.agg #[c_0, c_1]) w := .trans (by kernel_rfl) rfl
@[simp] theorem bkv (x0 : Int) (r1 : Option Nat) (w : World) (K : KV) : iw P T.ag #[(0, (.int .i64 x0)), (1, (.map r1))] w K = K (.agg #[(.int .i64 x0), (.map r1), (.int .i64 0), (.bool false), (.bool false)]) w := .trans (by kernel_rfl) rfl
@[simp] theorem bnl (p0 : Option Addr) (p1 : Option Addr) (r2 : Option Nat) (w : World) (K : KV) : iw P T.l #[(0, (.pointer p0)), (1, (.pointer p1)), (2, (.map r2))] w K = K (.agg #[(.pointer p0), (.pointer p1), (.map r2), (.bool false)]) w := .trans (by kernel_rfl) rfl
@[simp] theorem bnu : mo P T.m = true := .trans (by kernel_rfl) rfl
@[simp] theorem bko : szE P T.m = 1 := .trans (by kernel_rfl) rfl
theorem et.m : ko P T.m T.e 1 24 := ko.mk' (by kernel_rfl) (by kernel_rfl) (by kernel_rfl)
@[simp] theorem blr (b i : Nat) (w : World) (K : KV) : ldT P T.e (.pointer (some ⟨b, i, none⟩)) w K = ld1 P b i w K := .trans (by kernel_rfl) rfl
@[simp] theorem bll (w : World) (K : KV) : alT P T.g w K = K (.pointer (some ⟨w.heap.size, 0, none⟩)) (w.alloc (.cells #[(.int .u64 0), (.int .u64 0), (.int .u64 0), (.int .u64 0), (.int .i64 0)] T.g)) := .trans (by kernel_rfl) rfl
@[simp] theorem bki (b i : Nat) (c_0 c_1 c_2 c_3 c_4 : Value) (w : World) (K : KV) : stT P T.g (.pointer (some ⟨b, i, none⟩)) (.agg #[c_0, c_1, c_2, c_3, c_4]) w K = stN P b i [c_0, c_1, c_2, c_3, c_4] w K := .trans (by kernel_rfl) rfl
@[simp] theorem bkm (b i : Nat) (w : World) (K : KV) : faT P T.l (.pointer (some ⟨b, i, none⟩)) 2 w K = K (.pointer (some ⟨b, i + 2, none⟩)) w := .trans (by kernel_rfl) rfl
@[simp] theorem blo (b i : Nat) (w : World) (K : KV) : ldT P T.r (.pointer (some ⟨b, i, none⟩)) w K = ld1 P b i w K := .trans (by kernel_rfl) rfl
@[simp] theorem bis (b i : Nat) (w : World) (K : KV) : ldT P T.g (.pointer (some ⟨b, i, none⟩)) w K = ldN P 5 b i w K := .trans (by kernel_rfl) rfl
theorem mt.r : vv P T.r .u64 T.g (.agg #[(.int .u64 0), (.int .u64 0), (.int .u64 0), (.int .u64 0), (.int .i64 0)]) := vv.mk' (key := T.d) (by kernel_rfl) (by kernel_rfl) (by kernel_rfl)
@[simp] theorem bhp (b i : Nat) (w : World) (K : KV) : faT P T.c (.pointer (some ⟨b, i, none⟩)) 0 w K = K (.pointer (some ⟨b, i, none⟩)) w := .trans (by kernel_rfl) rfl
@[simp] theorem bow (b i : Nat) (w : World) (K : KV) : faT P T.c (.pointer (some ⟨b, i, none⟩)) 1 w K = K (.pointer (some ⟨b, i + 1, none⟩)) w := .trans (by kernel_rfl) rfl
@[simp] theorem bla (rx ry : Operand) (a : Addr) (w : World) (K : KV) : fi P .eql T.al rx ry (.pointer (some a)) (.pointer none) w K = K (.bool false) w := .trans (by kernel_rfl) rfl
@[simp] theorem bjd (b i : Nat) (w : World) (K : KV) : faT P T.ag (.pointer (some ⟨b, i, none⟩)) 1 w K = K (.pointer (some ⟨b, i + 1, none⟩)) w := .trans (by kernel_rfl) rfl
@[simp] theorem bng (b i : Nat) (w : World) (K : KV) : ldT P T.t (.pointer (some ⟨b, i, none⟩)) w K = ld1 P b i w K := .trans (by kernel_rfl) rfl
theorem mt.t : vv P T.t .i64 T.bb (.pointer none) := vv.mk' (key := T.b) (by kernel_rfl) (by kernel_rfl) (by kernel_rfl)
@[simp] theorem blx (b i : Nat) (w : World) (K : KV) : faT P T.ai (.pointer (some ⟨b, i, none⟩)) 1 w K = K (.pointer (some ⟨b, i + 1, none⟩)) w := .trans (by kernel_rfl) rfl
@[simp] theorem bjx : mo P T.e = true := .trans (by kernel_rfl) rfl
@[simp] theorem bmz : szE P T.e = 1 := .trans (by kernel_rfl) rfl
theorem et.e : ko P T.e T.am 1 1 := ko.mk' (by kernel_rfl) (by kernel_rfl) (by kernel_rfl)
@[simp] theorem blg (b i : Nat) (w : World) (K : KV) : faT P T.ai (.pointer (some ⟨b, i, none⟩)) 0 w K = K (.pointer (some ⟨b, i, none⟩)) w := .trans (by kernel_rfl) rfl
@[simp] theorem boc (p0 : Option Addr) (l0 c0 : Nat) (p1 : Option Addr) (l1 c1 : Nat) (w : World) (K : KV) : bsT P T.m 2 #[(0, (.slice p0 l0 c0)), (1, (.slice p1 l1 c1))] w K = K (.slice (some ⟨w.heap.size, 0, none⟩) 2 2) (w.alloc (.cells #[(.slice p0 l0 c0), (.slice p1 l1 c1)] T.e)) := .trans (by kernel_rfl) rfl
@[simp] theorem bii (b i : Nat) (p : Option Addr) (l c : Nat) (w : World) (K : KV) : stT P T.e (.pointer (some ⟨b, i, none⟩)) (.slice p l c) w K = st1 P b i (.slice p l c) w K := .trans (by kernel_rfl) rfl
@[simp] theorem bou (b i : Nat) (w : World) (K : KV) : faT P T.ag (.pointer (some ⟨b, i, none⟩)) 3 w K = K (.pointer (some ⟨b, i + 3, none⟩)) w := .trans (by kernel_rfl) rfl
@[simp] theorem bnv (b i : Nat) (w : World) (K : KV) : faT P T.ag (.pointer (some ⟨b, i, none⟩)) 4 w K = K (.pointer (some ⟨b, i + 4, none⟩)) w := .trans (by kernel_rfl) rfl
@[simp] theorem bmb (v : Value) (w : World) (K : KV) : taT P (.iface T.p v) T.an T.p true w K = K (.tuple #[v, .bool true]) w := .trans (by kernel_rfl) rfl
@[simp] theorem bil (w : World) (K : KV) : alT P T.p w K = K (.pointer (some ⟨w.heap.size, 0, none⟩)) (w.alloc (.cells #[(.int .u64 0), (.int .u64 0), (.int .u64 0), (.int .i64 0)] T.p)) := .trans (by kernel_rfl) rfl
@[simp] theorem bno (b i : Nat) (c_0 c_1 c_2 c_3 : Value) (w : World) (K : KV) : stT P T.p (.pointer (some ⟨b, i, none⟩)) (.agg #[c_0, c_1, c_2, c_3]) w K = stN P b i [c_0, c_1, c_2, c_3] w K := .trans (by kernel_rfl) rfl
@[simp] theorem bom (b i : Nat) (w : World) (K : KV) : faT P T.l (.pointer (some ⟨b, i, none⟩)) 3 w K = K (.pointer (some ⟨b, i + 3, none⟩)) w := .trans (by kernel_rfl) rfl
@[simp] theorem bmt (b i : Nat) (w : World) (K : KV) : faT P T.l (.pointer (some ⟨b, i, none⟩)) 0 w K = K (.pointer (some ⟨b, i, none⟩)) w := .trans (by kernel_rfl) rfl
@[simp] theorem bmq (b i : Nat) (w : World) (K : KV) : faT P T.p (.pointer (some ⟨b, i, none⟩)) 0 w K = K (.pointer (some ⟨b, i, none⟩)) w := .trans (by kernel_rfl) rfl
@[simp] theorem bnh (b i : Nat) (w : World) (K : KV) : faT P T.p (.pointer (some ⟨b, i, none⟩)) 1 w K = K (.pointer (some ⟨b, i + 1, none⟩)) w := .trans (by kernel_rfl) rfl
@[simp] theorem bnk (b i : Nat) (w : World) (K : KV) : faT P T.p (.pointer (some ⟨b, i, none⟩)) 2 w K = K (.pointer (some ⟨b, i + 3, none⟩)) w := .trans (by kernel_rfl) rfl
@[simp] theorem bnn (p0 : Option Addr) (l0 c0 : Nat) (w : World) (K : KV) : bsT P T.m 1 #[(0, (.slice p0 l0 c0))] w K = K (.slice (some ⟨w.heap.size, 0, none⟩) 1 1) (w.alloc (.cells #[(.slice p0 l0 c0)] T.e)) := .trans (by kernel_rfl) rfl
@[simp] theorem bnq (b i : Nat) (w : World) (K : KV) : faT P T.a (.pointer (some ⟨b, i, none⟩)) 7 w K = K (.pointer (some ⟨b, i + 9, none⟩)) w := .trans (by kernel_rfl) rfl
@[simp] theorem bns (b i : Nat) (w : World) (K : KV) : ldT P T.o (.pointer (some ⟨b, i, none⟩)) w K = ld1 P b i w K := .trans (by kernel_rfl) rfl
@[simp] theorem biv : mo P T.o = true := .trans (by kernel_rfl) rfl
@[simp] theorem bib : szE P T.o = 3 := .trans (by kernel_rfl) rfl
theorem et.o : ko P T.o T.w 3 24 := ko.mk' (by kernel_rfl) (by kernel_rfl) (by kernel_rfl)
@[simp] theorem bmy (b i : Nat) (w : World) (K : KV) : faT P T.a (.pointer (some ⟨b, i, none⟩)) 8 w K = K (.pointer (some ⟨b, i + 10, none⟩)) w := .trans (by kernel_rfl) rfl
@[simp] theorem bpb (b i : Nat) (w : World) (K : KV) : ldT P T.f (.pointer (some ⟨b, i, none⟩)) w K = ld1 P b i w K := .trans (by kernel_rfl) rfl
@[simp] theorem bok (b i : Nat) (w : World) (K : KV) : ldT P T.w (.pointer (some ⟨b, i, none⟩)) w K = ldN P 3 b i w K := .trans (by kernel_rfl) rfl
@[simp] theorem bot (b i : Nat) (w : World) (K : KV) : faT P T.l (.pointer (some ⟨b, i, none⟩)) 1 w K = K (.pointer (some ⟨b, i + 1, none⟩)) w := .trans (by kernel_rfl) rfl
@[simp] theorem boe (b i : Nat) (w : World) (K : KV) : ldT P T.au (.pointer (some ⟨b, i, none⟩)) w K = ld1 P b i w K := .trans (by kernel_rfl) rfl
@[simp] theorem biw (b i : Nat) (w : World) (K : KV) : ldT P T.v (.pointer (some ⟨b, i, none⟩)) w K = ldN P 6 b i w K := .trans (by kernel_rfl) rfl
@[simp] theorem bmo (x0 : Int) (c1_0 c1_1 c1_2 c1_3 c1_4 : Value) (w : World) (K : KV) : iw P T.v #[(0, (.int .u64 x0)), (1, (.agg #[c1_0, c1_1, c1_2, c1_3, c1_4]))] w K = K (.agg #[(.int .u64 x0), c1_0, c1_1, c1_2, c1_3, c1_4]) w := .trans (by kernel_rfl) rfl
@[simp] theorem bke (c0_0 c0_1 c0_2 c0_3 c0_4 c0_5 : Value) (w : World) (K : KV) : bsT P T.h 1 #[(0, (.agg #[c0_0, c0_1, c0_2, c0_3, c0_4, c0_5]))] w K = K (.slice (some ⟨w.heap.size, 0, none⟩) 1 1) (w.alloc (.cells #[c0_0, c0_1, c0_2, c0_3, c0_4, c0_5] T.v)) := .trans (by kernel_rfl) rfl
@[simp] theorem bpg  (w : World) (K : KV) : iw P T.g #[] w K = K (.agg #[(.int .u64 0), (.int .u64 0), (.int .u64 0), (.int .u64 0), (.int .i64 0)]) w := .trans (by kernel_rfl) rfl
@[simp] theorem bjj (rx ry : Operand) (a : Addr) (w : World) (K : KV) : fi P .neq T.al rx ry (.pointer (some a)) (.pointer none) w K = K (.bool true) w := .trans (by kernel_rfl) rfl
@[simp] theorem bid (b i : Nat) (w : World) (K : KV) : faT P T.ag (.pointer (some ⟨b, i, none⟩)) 2 w K = K (.pointer (some ⟨b, i + 2, none⟩)) w := .trans (by kernel_rfl) rfl
@[simp] theorem bli (b i : Nat) (x : Int) (w : World) (K : KV) : stT P T.b (.pointer (some ⟨b, i, none⟩)) (.int .i64 x) w K = st1 P b i (.int .i64 x) w K := .trans (by kernel_rfl) rfl
@[simp] theorem bml (b i : Nat) (w : World) (K : KV) : faT P T.z (.pointer (some ⟨b, i, none⟩)) 6 w K = K (.pointer (some ⟨b, i + 6, none⟩)) w := .trans (by kernel_rfl) rfl
@[simp] theorem blh (b i : Nat) (w : World) (K : KV) : ldT P T.ak (.pointer (some ⟨b, i, none⟩)) w K = ld1 P b i w K := .trans (by kernel_rfl) rfl
@[simp] theorem bjs (b i : Nat) (w : World) (K : KV) : faT P T.z (.pointer (some ⟨b, i, none⟩)) 5 w K = K (.pointer (some ⟨b, i + 5, none⟩)) w := .trans (by kernel_rfl) rfl
@[simp] theorem bmg (b i : Nat) (w : World) (K : KV) : faT P T.g (.pointer (some ⟨b, i, none⟩)) 0 w K = K (.pointer (some ⟨b, i, none⟩)) w := .trans (by kernel_rfl) rfl
@[simp] theorem blp (b i : Nat) (w : World) (K : KV) : faT P T.g (.pointer (some ⟨b, i, none⟩)) 1 w K = K (.pointer (some ⟨b, i + 2, none⟩)) w := .trans (by kernel_rfl) rfl
@[simp] theorem bjt (b i : Nat) (w : World) (K : KV) : faT P T.g (.pointer (some ⟨b, i, none⟩)) 2 w K = K (.pointer (some ⟨b, i + 4, none⟩)) w := .trans (by kernel_rfl) rfl
@[simp] theorem bmf (c0_0 c0_1 : Value) (c1_0 c1_1 : Value) (x2 : Int) (w : World) (K : KV) : iw P T.i #[(0, (.agg #[c0_0, c0_1])), (1, (.agg #[c1_0, c1_1])), (2, (.int .i64 x2))] w K = K (.agg #[c0_0, c0_1, c1_0, c1_1, (.int .i64 x2)]) w := .trans (by kernel_rfl) rfl
@[simp] theorem bnw (x0 : Int) (x1 : Int) (c2_0 c2_1 : Value) (p3 : Option Addr) (l3 c3 : Nat) (w : World) (K : KV) : iw P T.a #[(0, (.int .i64 x0)), (1, (.int .u64 x1)), (2, (.agg #[c2_0, c2_1])), (6, (.slice p3 l3 c3))] w K = K (.agg #[(.int .i64 x0), (.int .u64 x1), c2_0, c2_1, (.int .u64 0), (.int .u64 0), (.int .i64 0), (.bool false), (.slice p3 l3 c3), (.slice none 0 0), (.slice none 0 0)]) w := .trans (by kernel_rfl) rfl
@[simp] theorem boq (b i : Nat) (w : World) (K : KV) : faT P T.z (.pointer (some ⟨b, i, none⟩)) 1 w K = K (.pointer (some ⟨b, i + 1, none⟩)) w := .trans (by kernel_rfl) rfl
@[simp] theorem bnf (w : World) (K : KV) : alT P T.z w K = K (.pointer (some ⟨w.heap.size, 0, none⟩)) (w.alloc (.cells #[(.int .u64 0), (.int .u64 0), (.int .u64 0), (.int .u64 0), (.int .u64 0), (.string ⟨#[]⟩), (.string ⟨#[]⟩), (.bool false)] T.z)) := .trans (by kernel_rfl) rfl
@[simp] theorem bje (b i : Nat) (c_0 c_1 c_2 c_3 c_4 c_5 c_6 c_7 : Value) (w : World) (K : KV) : stT P T.z (.pointer (some ⟨b, i, none⟩)) (.agg #[c_0, c_1, c_2, c_3, c_4, c_5, c_6, c_7]) w K = stN P b i [c_0, c_1, c_2, c_3, c_4, c_5, c_6, c_7] w K := .trans (by kernel_rfl) rfl
@[simp] theorem bkr (v : Value) (w : World) (K : KV) : taT P (.iface T.x v) T.an T.x true w K = K (.tuple #[v, .bool true]) w := .trans (by kernel_rfl) rfl
@[simp] theorem bjz (w : World) (K : KV) : alT P T.x w K = K (.pointer (some ⟨w.heap.size, 0, none⟩)) (w.alloc (.cells #[(.int .u64 0), (.int .u64 0), (.int .u64 0), (.slice none 0 0)] T.x)) := .trans (by kernel_rfl) rfl
@[simp] theorem bmu (b i : Nat) (c_0 c_1 c_2 c_3 : Value) (w : World) (K : KV) : stT P T.x (.pointer (some ⟨b, i, none⟩)) (.agg #[c_0, c_1, c_2, c_3]) w K = stN P b i [c_0, c_1, c_2, c_3] w K := .trans (by kernel_rfl) rfl
@[simp] theorem bhx (b i : Nat) (w : World) (K : KV) : faT P T.x (.pointer (some ⟨b, i, none⟩)) 2 w K = K (.pointer (some ⟨b, i + 3, none⟩)) w := .trans (by kernel_rfl) rfl
@[simp] theorem bna (b i : Nat) (w : World) (K : KV) : faT P T.x (.pointer (some ⟨b, i, none⟩)) 1 w K = K (.pointer (some ⟨b, i + 1, none⟩)) w := .trans (by kernel_rfl) rfl
@[simp] theorem bni (b i : Nat) (w : World) (K : KV) : faT P T.x (.pointer (some ⟨b, i, none⟩)) 0 w K = K (.pointer (some ⟨b, i, none⟩)) w := .trans (by kernel_rfl) rfl
@[simp] theorem bpf (w : World) (K : KV) : alT P T.ab w K = K (.pointer (some ⟨w.heap.size, 0, none⟩)) (w.alloc (.cells #[(.int .u64 0), (.slice none 0 0)] T.ab)) := .trans (by kernel_rfl) rfl
@[simp] theorem bjb (b i : Nat) (c_0 c_1 : Value) (w : World) (K : KV) : stT P T.ab (.pointer (some ⟨b, i, none⟩)) (.agg #[c_0, c_1]) w K = stN P b i [c_0, c_1] w K := .trans (by kernel_rfl) rfl
@[simp] theorem bky (b i : Nat) (w : World) (K : KV) : faT P T.ab (.pointer (some ⟨b, i, none⟩)) 1 w K = K (.pointer (some ⟨b, i + 1, none⟩)) w := .trans (by kernel_rfl) rfl
@[simp] theorem bjp (b i : Nat) (p : Option Addr) (l c : Nat) (w : World) (K : KV) : stT P T.f (.pointer (some ⟨b, i, none⟩)) (.slice p l c) w K = st1 P b i (.slice p l c) w K := .trans (by kernel_rfl) rfl
@[simp] theorem bio (v : Value) (w : World) (K : KV) : ti P T.ab v w K = K (.iface T.ab v) w := .trans (by kernel_rfl) rfl
@[simp] theorem bmn  (w : World) (K : KV) : bsT P T.f 0 #[] w K = K (.slice (some ⟨w.heap.size, 0, none⟩) 0 0) (w.alloc (.cells #[] T.d)) := .trans (by kernel_rfl) rfl
@[simp] theorem bkh (x0 : Int) (x1 : Int) (p2 : Option Addr) (l2 c2 : Nat) (w : World) (K : KV) : iw P T.a #[(0, (.int .i64 x0)), (1, (.int .u64 x1)), (8, (.slice p2 l2 c2))] w K = K (.agg #[(.int .i64 x0), (.int .u64 x1), (.int .u64 0), (.int .u64 0), (.int .u64 0), (.int .u64 0), (.int .i64 0), (.bool false), (.slice none 0 0), (.slice none 0 0), (.slice p2 l2 c2)]) w := .trans (by kernel_rfl) rfl
@[simp] theorem bnt (p0 : Option Addr) (x1 : Int) (w : World) (K : KV) : iw P T.ac #[(0, (.pointer p0)), (1, (.int .i64 x1))] w K = K (.agg #[(.pointer p0), (.int .i64 x1), (.slice none 0 0)]) w := .trans (by kernel_rfl) rfl
@[simp] theorem bln (rx ry : Operand)  (w : World) (K : KV) : fi P .eql T.ad rx ry (.pointer none) (.pointer none) w K = K (.bool true) w := .trans (by kernel_rfl) rfl
@[simp] theorem boy (rx ry : Operand) (a : Addr) (w : World) (K : KV) : fi P .eql T.ad rx ry (.pointer (some a)) (.pointer none) w K = K (.bool false) w := .trans (by kernel_rfl) rfl
@[simp] theorem bkx (b i : Nat) (w : World) (K : KV) : faT P T.ac (.pointer (some ⟨b, i, none⟩)) 2 w K = K (.pointer (some ⟨b, i + 2, none⟩)) w := .trans (by kernel_rfl) rfl
@[simp] theorem bld (b i : Nat) (w : World) (K : KV) : ldT P T.q (.pointer (some ⟨b, i, none⟩)) w K = ld1 P b i w K := .trans (by kernel_rfl) rfl
@[simp] theorem bmi : mo P T.q = true := .trans (by kernel_rfl) rfl
@[simp] theorem bnc : szE P T.q = 1 := .trans (by kernel_rfl) rfl
theorem et.q : ko P T.q T.ad 1 8 := ko.mk' (by kernel_rfl) (by kernel_rfl) (by kernel_rfl)
@[simp] theorem bnb (b i : Nat) (w : World) (K : KV) : faT P T.af (.pointer (some ⟨b, i, none⟩)) 1 w K = K (.pointer (some ⟨b, i + 1, none⟩)) w := .trans (by kernel_rfl) rfl
@[simp] theorem bpa (p0 : Option Addr) (w : World) (K : KV) : bsT P T.q 1 #[(0, (.pointer p0))] w K = K (.slice (some ⟨w.heap.size, 0, none⟩) 1 1) (w.alloc (.cells #[(.pointer p0)] T.ad)) := .trans (by kernel_rfl) rfl
@[simp] theorem bpd (b i : Nat) (p : Option Addr) (l c : Nat) (w : World) (K : KV) : stT P T.q (.pointer (some ⟨b, i, none⟩)) (.slice p l c) w K = st1 P b i (.slice p l c) w K := .trans (by kernel_rfl) rfl
@[simp] theorem bhu (rx ry : Operand) (a : Addr) (w : World) (K : KV) : fi P .eql T.au rx ry (.pointer (some a)) (.pointer none) w K = K (.bool false) w := .trans (by kernel_rfl) rfl
@[simp] theorem bob (b i : Nat) (w : World) (K : KV) : ldT P T.ad (.pointer (some ⟨b, i, none⟩)) w K = ld1 P b i w K := .trans (by kernel_rfl) rfl
@[simp] theorem biy (b i : Nat) (w : World) (K : KV) : faT P T.af (.pointer (some ⟨b, i, none⟩)) 2 w K = K (.pointer (some ⟨b, i + 2, none⟩)) w := .trans (by kernel_rfl) rfl
@[simp] theorem bnj (b i : Nat) (w : World) (K : KV) : ldT P T.m (.pointer (some ⟨b, i, none⟩)) w K = ld1 P b i w K := .trans (by kernel_rfl) rfl
@[simp] theorem bmd (w : World) (K : KV) : alT P T.aj w K = K (.pointer (some ⟨w.heap.size, 0, none⟩)) (w.alloc (.cells #[(.int .u64 0), (.int .u64 0), (.int .u64 0), (.int .u64 0), (.int .u64 0)] T.aj)) := .trans (by kernel_rfl) rfl
@[simp] theorem bny (b i : Nat) (x : Int) (w : World) (K : KV) : stT P T.d (.pointer (some ⟨b, i, none⟩)) (.int .u64 x) w K = st1 P b i (.int .u64 x) w K := .trans (by kernel_rfl) rfl
@[simp] theorem bkw (b i : Nat) (w : World) (K : KV) : ldT P T.am (.pointer (some ⟨b, i, none⟩)) w K = ld1 P b i w K := .trans (by kernel_rfl) rfl
@[simp] theorem blz (c0_0 c0_1 : Value) (c1_0 c1_1 : Value) (x2 : Int) (w : World) (K : KV) : iw P T.g #[(0, (.agg #[c0_0, c0_1])), (1, (.agg #[c1_0, c1_1])), (2, (.int .i64 x2))] w K = K (.agg #[c0_0, c0_1, c1_0, c1_1, (.int .i64 x2)]) w := .trans (by kernel_rfl) rfl
@[simp] theorem bpc (b i : Nat) (w : World) (K : KV) : faT P T.ac (.pointer (some ⟨b, i, none⟩)) 0 w K = K (.pointer (some ⟨b, i, none⟩)) w := .trans (by kernel_rfl) rfl
@[simp] theorem bor (b i : Nat) (w : World) (K : KV) : faT P T.af (.pointer (some ⟨b, i, none⟩)) 0 w K = K (.pointer (some ⟨b, i, none⟩)) w := .trans (by kernel_rfl) rfl
@[simp] theorem bjg (v : Value) (w : World) (K : KV) : ti P T.ak v w K = K (.iface T.ak v) w := .trans (by kernel_rfl) rfl
@[simp] theorem bix (x0 : Int) (w : World) (K : KV) : bsT P T.e 1 #[(0, (.int .u8 x0))] w K = K (.slice (some ⟨w.heap.size, 0, none⟩) 1 1) (w.alloc (.cells #[(.int .u8 x0)] T.am)) := .trans (by kernel_rfl) rfl
@[simp] theorem bmx (x0 : Int) (x1 : Int) (c2_0 c2_1 : Value) (bo3 : Bool) (w : World) (K : KV) : iw P T.a #[(0, (.int .i64 x0)), (1, (.int .u64 x1)), (2, (.agg #[c2_0, c2_1])), (5, (.bool bo3))] w K = K (.agg #[(.int .i64 x0), (.int .u64 x1), c2_0, c2_1, (.int .u64 0), (.int .u64 0), (.int .i64 0), (.bool bo3), (.slice none 0 0), (.slice none 0 0), (.slice none 0 0)]) w := .trans (by kernel_rfl) rfl
@[simp] theorem bod (b i : Nat) (x : Int) (w : World) (K : KV) : stT P T.j (.pointer (some ⟨b, i, none⟩)) (.int .i64 x) w K = st1 P b i (.int .i64 x) w K := .trans (by kernel_rfl) rfl
@[simp] theorem bik (b i : Nat) (w : World) (K : KV) : faT P T.v (.pointer (some ⟨b, i, none⟩)) 0 w K = K (.pointer (some ⟨b, i, none⟩)) w := .trans (by kernel_rfl) rfl
@[simp] theorem bjf (b i : Nat) (w : World) (K : KV) : faT P T.v (.pointer (some ⟨b, i, none⟩)) 1 w K = K (.pointer (some ⟨b, i + 1, none⟩)) w := .trans (by kernel_rfl) rfl
@[simp] theorem bjr  (w : World) (K : KV) : iw P T.i #[] w K = K (.agg #[(.int .u64 0), (.int .u64 0), (.int .u64 0), (.int .u64 0), (.int .i64 0)]) w := .trans (by kernel_rfl) rfl
@[simp] theorem bjk  (w : World) (K : KV) : bsT P T.h 0 #[] w K = K (.slice (some ⟨w.heap.size, 0, none⟩) 0 0) (w.alloc (.cells #[] T.v)) := .trans (by kernel_rfl) rfl
@[simp] theorem bia (b i : Nat) (w : World) (K : KV) : faT P T.z (.pointer (some ⟨b, i, none⟩)) 0 w K = K (.pointer (some ⟨b, i, none⟩)) w := .trans (by kernel_rfl) rfl
@[simp] theorem bip (rx ry : Operand) (l c : Nat) (w : World) (K : KV) : fi P .eql T.n rx ry (.slice none l c) (.slice none 0 0) w K = K (.bool true) w := .trans (by kernel_rfl) rfl
@[simp] theorem bji (rx ry : Operand) (a : Addr) (l c : Nat) (w : World) (K : KV) : fi P .eql T.n rx ry (.slice (some a) l c) (.slice none 0 0) w K = K (.bool false) w := .trans (by kernel_rfl) rfl
@[simp] theorem bij  (w : World) (K : KV) : bsT P T.n 0 #[] w K = K (.slice (some ⟨w.heap.size, 0, none⟩) 0 0) (w.alloc (.cells #[] T.z)) := .trans (by kernel_rfl) rfl
@[simp] theorem bnx : mo P T.aw = true := .trans (by kernel_rfl) rfl
@[simp] theorem blu : szE P T.aw = 1 := .trans (by kernel_rfl) rfl
@[simp] theorem bih (p0 : Option Addr) (l0 c0 : Nat) (p1 : Option Addr) (l1 c1 : Nat) (w : World) (K : KV) : bsT P T.aw 2 #[(0, (.slice p0 l0 c0)), (1, (.slice p1 l1 c1))] w K = K (.slice (some ⟨w.heap.size, 0, none⟩) 2 2) (w.alloc (.cells #[(.slice p0 l0 c0), (.slice p1 l1 c1)] T.k)) := .trans (by kernel_rfl) rfl
@[simp] theorem bne (x0 : Int) (x1 : Int) (p2 : Option Addr) (l2 c2 : Nat) (x3 : Int) (w : World) (K : KV) : iw P T.af #[(0, (.int .i64 x0)), (1, (.int .i64 x1)), (2, (.slice p2 l2 c2)), (3, (.int .i64 x3))] w K = K (.agg #[(.int .i64 x0), (.int .i64 x1), (.slice p2 l2 c2), (.int .i64 x3)]) w := .trans (by kernel_rfl) rfl
@[simp] theorem blf (rx ry : Operand) (l c : Nat) (w : World) (K : KV) : fi P .eql T.e rx ry (.slice none l c) (.slice none 0 0) w K = K (.bool true) w := .trans (by kernel_rfl) rfl
@[simp] theorem bmw (rx ry : Operand) (a : Addr) (l c : Nat) (w : World) (K : KV) : fi P .eql T.e rx ry (.slice (some a) l c) (.slice none 0 0) w K = K (.bool false) w := .trans (by kernel_rfl) rfl
@[simp] theorem bjv  (w : World) (K : KV) : bsT P T.e 0 #[] w K = K (.slice (some ⟨w.heap.size, 0, none⟩) 0 0) (w.alloc (.cells #[] T.am)) := .trans (by kernel_rfl) rfl
@[simp] theorem bnm (x0 : Int) (bo1 : Bool) (p2 : Option Addr) (l2 c2 : Nat) (w : World) (K : KV) : iw P T.y #[(0, (.int .u64 x0)), (1, (.bool bo1)), (2, (.slice p2 l2 c2))] w K = K (.agg #[(.int .u64 x0), (.bool bo1), (.slice p2 l2 c2)]) w := .trans (by kernel_rfl) rfl
@[simp] theorem bhv (v : Value) (w : World) (K : KV) : ti P T.y v w K = K (.iface T.y v) w := .trans (by kernel_rfl) rfl
@[simp] theorem biq (p0 : Option Addr) (l0 c0 : Nat) (w : World) (K : KV) : iw P T.aa #[(0, (.slice p0 l0 c0))] w K = K (.agg #[(.slice p0 l0 c0)]) w := .trans (by kernel_rfl) rfl
@[simp] theorem bjn (v : Value) (w : World) (K : KV) : ti P T.aa v w K = K (.iface T.aa v) w := .trans (by kernel_rfl) rfl
@[simp] theorem bmk (x0 : Int) (c1_0 c1_1 : Value) (x2 : Int) (w : World) (K : KV) : iw P T.p #[(0, (.int .u64 x0)), (1, (.agg #[c1_0, c1_1])), (2, (.int .i64 x2))] w K = K (.agg #[(.int .u64 x0), c1_0, c1_1, (.int .i64 x2)]) w := .trans (by kernel_rfl) rfl
@[simp] theorem bof (v : Value) (w : World) (K : KV) : ti P T.p v w K = K (.iface T.p v) w := .trans (by kernel_rfl) rfl
@[simp] theorem bkj (x0 : Int) (c1_0 c1_1 : Value) (bo2 : Bool) (c3_0 c3_1 : Value) (x4 : Int) (bo5 : Bool) (w : World) (K : KV) : iw P T.s #[(0, (.int .u64 x0)), (1, (.agg #[c1_0, c1_1])), (2, (.bool bo2)), (3, (.agg #[c3_0, c3_1])), (4, (.int .i64 x4)), (5, (.bool bo5))] w K = K (.agg #[(.int .u64 x0), c1_0, c1_1, (.bool bo2), c3_0, c3_1, (.int .i64 x4), (.bool bo5)]) w := .trans (by kernel_rfl) rfl
@[simp] theorem bie (v : Value) (w : World) (K : KV) : ti P T.s v w K = K (.iface T.s v) w := .trans (by kernel_rfl) rfl
@[simp] theorem bms (x0 : Int) (x1 : Int) (w : World) (K : KV) : iw P T.ae #[(0, (.int .u64 x0)), (1, (.int .i64 x1))] w K = K (.agg #[(.int .u64 x0), (.int .i64 x1)]) w := .trans (by kernel_rfl) rfl
@[simp] theorem boj (v : Value) (w : World) (K : KV) : ti P T.ae v w K = K (.iface T.ae v) w := .trans (by kernel_rfl) rfl
@[simp] theorem bkc (x0 : Int) (c1_0 c1_1 : Value) (p2 : Option Addr) (l2 c2 : Nat) (w : World) (K : KV) : iw P T.x #[(0, (.int .u64 x0)), (1, (.agg #[c1_0, c1_1])), (2, (.slice p2 l2 c2))] w K = K (.agg #[(.int .u64 x0), c1_0, c1_1, (.slice p2 l2 c2)]) w := .trans (by kernel_rfl) rfl
@[simp] theorem bnz (v : Value) (w : World) (K : KV) : ti P T.x v w K = K (.iface T.x v) w := .trans (by kernel_rfl) rfl
@[simp] theorem bmp (x0 : Int) (p1 : Option Addr) (l1 c1 : Nat) (w : World) (K : KV) : iw P T.ab #[(0, (.int .u64 x0)), (1, (.slice p1 l1 c1))] w K = K (.agg #[(.int .u64 x0), (.slice p1 l1 c1)]) w := .trans (by kernel_rfl) rfl
@[simp] theorem bme (b i : Nat) (w : World) (K : KV) : faT P T.af (.pointer (some ⟨b, i, none⟩)) 3 w K = K (.pointer (some ⟨b, i + 3, none⟩)) w := .trans (by kernel_rfl) rfl
@[simp] theorem bog (b i : Nat) (w : World) (K : KV) : faT P T.ac (.pointer (some ⟨b, i, none⟩)) 1 w K = K (.pointer (some ⟨b, i + 1, none⟩)) w := .trans (by kernel_rfl) rfl
@[simp] theorem bjq (b i : Nat) (p : Option Addr) (l c : Nat) (w : World) (K : KV) : stT P T.m (.pointer (some ⟨b, i, none⟩)) (.slice p l c) w K = st1 P b i (.slice p l c) w K := .trans (by kernel_rfl) rfl
@[simp] theorem boi (x0 : Int) (x1 : Int) (w : World) (K : KV) : iw P T.a #[(0, (.int .i64 x0)), (1, (.int .u64 x1))] w K = K (.agg #[(.int .i64 x0), (.int .u64 x1), (.int .u64 0), (.int .u64 0), (.int .u64 0), (.int .u64 0), (.int .i64 0), (.bool false), (.slice none 0 0), (.slice none 0 0), (.slice none 0 0)]) w := .trans (by kernel_rfl) rfl
@[simp] theorem bmc (b i : Nat) (p : Option Addr) (l c : Nat) (w : World) (K : KV) : stT P T.n (.pointer (some ⟨b, i, none⟩)) (.slice p l c) w K = st1 P b i (.slice p l c) w K := .trans (by kernel_rfl) rfl
@[simp] theorem bmh (b i : Nat) (p : Option Addr) (l c : Nat) (w : World) (K : KV) : stT P T.o (.pointer (some ⟨b, i, none⟩)) (.slice p l c) w K = st1 P b i (.slice p l c) w K := .trans (by kernel_rfl) rfl
@[simp] theorem boz (w : World) (K : KV) : alT P T.w w K = K (.pointer (some ⟨w.heap.size, 0, none⟩)) (w.alloc (.cells #[(.int .u64 0), (.int .u64 0), (.int .i64 0)] T.w)) := .trans (by kernel_rfl) rfl
@[simp] theorem bly (b i : Nat) (c_0 c_1 c_2 : Value) (w : World) (K : KV) : stT P T.w (.pointer (some ⟨b, i, none⟩)) (.agg #[c_0, c_1, c_2]) w K = stN P b i [c_0, c_1, c_2] w K := .trans (by kernel_rfl) rfl
@[simp] theorem bmv (b i : Nat) (w : World) (K : KV) : faT P T.w (.pointer (some ⟨b, i, none⟩)) 0 w K = K (.pointer (some ⟨b, i, none⟩)) w := .trans (by kernel_rfl) rfl
@[simp] theorem bpe (b i : Nat) (w : World) (K : KV) : faT P T.w (.pointer (some ⟨b, i, none⟩)) 1 w K = K (.pointer (some ⟨b, i + 1, none⟩)) w := .trans (by kernel_rfl) rfl
@[simp] theorem bkz (b i : Nat) (w : World) (K : KV) : faT P T.w (.pointer (some ⟨b, i, none⟩)) 2 w K = K (.pointer (some ⟨b, i + 2, none⟩)) w := .trans (by kernel_rfl) rfl
@[simp] theorem bkq (b i : Nat) (w : World) (K : KV) : ldT P T.ah (.pointer (some ⟨b, i, none⟩)) w K = ld1 P b i w K := .trans (by kernel_rfl) rfl
@[simp] theorem bkk (v : Value) (w : World) (K : KV) : taT P (.iface T.y v) T.an T.y true w K = K (.tuple #[v, .bool true]) w := .trans (by kernel_rfl) rfl
@[simp] theorem bjm (w : World) (K : KV) : alT P T.y w K = K (.pointer (some ⟨w.heap.size, 0, none⟩)) (w.alloc (.cells #[(.int .u64 0), (.bool false), (.slice none 0 0)] T.y)) := .trans (by kernel_rfl) rfl
@[simp] theorem bop (b i : Nat) (c_0 c_1 c_2 : Value) (w : World) (K : KV) : stT P T.y (.pointer (some ⟨b, i, none⟩)) (.agg #[c_0, c_1, c_2]) w K = stN P b i [c_0, c_1, c_2] w K := .trans (by kernel_rfl) rfl
@[simp] theorem bju (b i : Nat) (w : World) (K : KV) : faT P T.y (.pointer (some ⟨b, i, none⟩)) 0 w K = K (.pointer (some ⟨b, i, none⟩)) w := .trans (by kernel_rfl) rfl
@[simp] theorem bma (b i : Nat) (w : World) (K : KV) : faT P T.y (.pointer (some ⟨b, i, none⟩)) 2 w K = K (.pointer (some ⟨b, i + 2, none⟩)) w := .trans (by kernel_rfl) rfl
@[simp] theorem big (x0 : Int) (x1 : Int) (p2 : Option Addr) (l2 c2 : Nat) (w : World) (K : KV) : iw P T.a #[(0, (.int .i64 x0)), (1, (.int .u64 x1)), (6, (.slice p2 l2 c2))] w K = K (.agg #[(.int .i64 x0), (.int .u64 x1), (.int .u64 0), (.int .u64 0), (.int .u64 0), (.int .u64 0), (.int .i64 0), (.bool false), (.slice p2 l2 c2), (.slice none 0 0), (.slice none 0 0)]) w := .trans (by kernel_rfl) rfl
@[simp] theorem bhw (b i : Nat) (w : World) (K : KV) : faT P T.y (.pointer (some ⟨b, i, none⟩)) 1 w K = K (.pointer (some ⟨b, i + 1, none⟩)) w := .trans (by kernel_rfl) rfl
@[simp] theorem bhz (v : Value) (w : World) (K : KV) : taT P (.iface T.aa v) T.an T.aa true w K = K (.tuple #[v, .bool true]) w := .trans (by kernel_rfl) rfl
@[simp] theorem blj (w : World) (K : KV) : alT P T.aa w K = K (.pointer (some ⟨w.heap.size, 0, none⟩)) (w.alloc (.cells #[(.slice none 0 0)] T.aa)) := .trans (by kernel_rfl) rfl
@[simp] theorem biz (b i : Nat) (c_0 : Value) (w : World) (K : KV) : stT P T.aa (.pointer (some ⟨b, i, none⟩)) (.agg #[c_0]) w K = stN P b i [c_0] w K := .trans (by kernel_rfl) rfl
@[simp] theorem bkt (b i : Nat) (w : World) (K : KV) : faT P T.aa (.pointer (some ⟨b, i, none⟩)) 0 w K = K (.pointer (some ⟨b, i, none⟩)) w := .trans (by kernel_rfl) rfl
@[simp] theorem bkp (x0 : Int) (p1 : Option Addr) (l1 c1 : Nat) (w : World) (K : KV) : iw P T.a #[(0, (.int .i64 x0)), (7, (.slice p1 l1 c1))] w K = K (.agg #[(.int .i64 x0), (.int .u64 0), (.int .u64 0), (.int .u64 0), (.int .u64 0), (.int .u64 0), (.int .i64 0), (.bool false), (.slice none 0 0), (.slice p1 l1 c1), (.slice none 0 0)]) w := .trans (by kernel_rfl) rfl
@[simp] theorem bmm (v : Value) (w : World) (K : KV) : taT P (.iface T.s v) T.an T.s true w K = K (.tuple #[v, .bool true]) w := .trans (by kernel_rfl) rfl
@[simp] theorem bkf (w : World) (K : KV) : alT P T.s w K = K (.pointer (some ⟨w.heap.size, 0, none⟩)) (w.alloc (.cells #[(.int .u64 0), (.int .u64 0), (.int .u64 0), (.bool false), (.int .u64 0), (.int .u64 0), (.int .i64 0), (.bool false)] T.s)) := .trans (by kernel_rfl) rfl
@[simp] theorem bkd (b i : Nat) (c_0 c_1 c_2 c_3 c_4 c_5 c_6 c_7 : Value) (w : World) (K : KV) : stT P T.s (.pointer (some ⟨b, i, none⟩)) (.agg #[c_0, c_1, c_2, c_3, c_4, c_5, c_6, c_7]) w K = stN P b i [c_0, c_1, c_2, c_3, c_4, c_5, c_6, c_7] w K := .trans (by kernel_rfl) rfl
@[simp] theorem bht (b i : Nat) (w : World) (K : KV) : faT P T.s (.pointer (some ⟨b, i, none⟩)) 0 w K = K (.pointer (some ⟨b, i, none⟩)) w := .trans (by kernel_rfl) rfl
@[simp] theorem bhs (b i : Nat) (w : World) (K : KV) : faT P T.s (.pointer (some ⟨b, i, none⟩)) 1 w K = K (.pointer (some ⟨b, i + 1, none⟩)) w := .trans (by kernel_rfl) rfl
@[simp] theorem bjy (b i : Nat) (w : World) (K : KV) : faT P T.s (.pointer (some ⟨b, i, none⟩)) 2 w K = K (.pointer (some ⟨b, i + 3, none⟩)) w := .trans (by kernel_rfl) rfl
@[simp] theorem bos (b i : Nat) (w : World) (K : KV) : faT P T.s (.pointer (some ⟨b, i, none⟩)) 3 w K = K (.pointer (some ⟨b, i + 4, none⟩)) w := .trans (by kernel_rfl) rfl
@[simp] theorem bmr (b i : Nat) (w : World) (K : KV) : faT P T.s (.pointer (some ⟨b, i, none⟩)) 4 w K = K (.pointer (some ⟨b, i + 6, none⟩)) w := .trans (by kernel_rfl) rfl
@[simp] theorem blc (x0 : Int) (x1 : Int) (c2_0 c2_1 : Value) (bo3 : Bool) (c4_0 c4_1 : Value) (x5 : Int) (w : World) (K : KV) : iw P T.a #[(0, (.int .i64 x0)), (1, (.int .u64 x1)), (2, (.agg #[c2_0, c2_1])), (5, (.bool bo3)), (3, (.agg #[c4_0, c4_1])), (4, (.int .i64 x5))] w K = K (.agg #[(.int .i64 x0), (.int .u64 x1), c2_0, c2_1, c4_0, c4_1, (.int .i64 x5), (.bool bo3), (.slice none 0 0), (.slice none 0 0), (.slice none 0 0)]) w := .trans (by kernel_rfl) rfl
@[simp] theorem blb (b i : Nat) (w : World) (K : KV) : faT P T.s (.pointer (some ⟨b, i, none⟩)) 5 w K = K (.pointer (some ⟨b, i + 7, none⟩)) w := .trans (by kernel_rfl) rfl
@[simp] theorem bka (v : Value) (w : World) (K : KV) : taT P (.iface T.ae v) T.an T.ae true w K = K (.tuple #[v, .bool true]) w := .trans (by kernel_rfl) rfl
@[simp] theorem bja (w : World) (K : KV) : alT P T.ae w K = K (.pointer (some ⟨w.heap.size, 0, none⟩)) (w.alloc (.cells #[(.int .u64 0), (.int .i64 0)] T.ae)) := .trans (by kernel_rfl) rfl
@[simp] theorem boa (b i : Nat) (c_0 c_1 : Value) (w : World) (K : KV) : stT P T.ae (.pointer (some ⟨b, i, none⟩)) (.agg #[c_0, c_1]) w K = stN P b i [c_0, c_1] w K := .trans (by kernel_rfl) rfl
@[simp] theorem bim (b i : Nat) (w : World) (K : KV) : faT P T.ae (.pointer (some ⟨b, i, none⟩)) 0 w K = K (.pointer (some ⟨b, i, none⟩)) w := .trans (by kernel_rfl) rfl
@[simp] theorem blw (b i : Nat) (w : World) (K : KV) : faT P T.ae (.pointer (some ⟨b, i, none⟩)) 1 w K = K (.pointer (some ⟨b, i + 1, none⟩)) w := .trans (by kernel_rfl) rfl
@[simp] theorem boo (x0 : Int) (x1 : Int) (x2 : Int) (w : World) (K : KV) : iw P T.a #[(0, (.int .i64 x0)), (1, (.int .u64 x1)), (4, (.int .i64 x2))] w K = K (.agg #[(.int .i64 x0), (.int .u64 x1), (.int .u64 0), (.int .u64 0), (.int .u64 0), (.int .u64 0), (.int .i64 x2), (.bool false), (.slice none 0 0), (.slice none 0 0), (.slice none 0 0)]) w := .trans (by kernel_rfl) rfl
@[simp] theorem bkg (v : Value) (w : World) (K : KV) : taT P (.iface T.ab v) T.an T.ab true w K = K (.tuple #[v, .bool true]) w := .trans (by kernel_rfl) rfl
@[simp] theorem bjw (b i : Nat) (w : World) (K : KV) : faT P T.ab (.pointer (some ⟨b, i, none⟩)) 0 w K = K (.pointer (some ⟨b, i, none⟩)) w := .trans (by kernel_rfl) rfl
@[simp] theorem bks (b i : Nat) (w : World) (K : KV) : faT P T.z (.pointer (some ⟨b, i, none⟩)) 3 w K = K (.pointer (some ⟨b, i + 3, none⟩)) w := .trans (by kernel_rfl) rfl
@[simp] theorem bir (x0 : Int) (x1 : Int) (w : World) (K : KV) : bsT P T.k 2 #[(0, (.int .i64 x0)), (1, (.int .i64 x1))] w K = K (.slice (some ⟨w.heap.size, 0, none⟩) 2 2) (w.alloc (.cells #[(.int .i64 x0), (.int .i64 x1)] T.b)) := .trans (by kernel_rfl) rfl
@[simp] theorem bnd (rx ry : Operand)  (w : World) (K : KV) : fi P .eql T.bb rx ry (.pointer none) (.pointer none) w K = K (.bool true) w := .trans (by kernel_rfl) rfl
@[simp] theorem bol (rx ry : Operand) (a : Addr) (w : World) (K : KV) : fi P .eql T.bb rx ry (.pointer (some a)) (.pointer none) w K = K (.bool false) w := .trans (by kernel_rfl) rfl
@[simp] theorem bjh (rx ry : Operand) (l c : Nat) (w : World) (K : KV) : fi P .eql T.o rx ry (.slice none l c) (.slice none 0 0) w K = K (.bool true) w := .trans (by kernel_rfl) rfl
@[simp] theorem bhq (rx ry : Operand) (a : Addr) (l c : Nat) (w : World) (K : KV) : fi P .eql T.o rx ry (.slice (some a) l c) (.slice none 0 0) w K = K (.bool false) w := .trans (by kernel_rfl) rfl
@[simp] theorem bjo  (w : World) (K : KV) : bsT P T.o 0 #[] w K = K (.slice (some ⟨w.heap.size, 0, none⟩) 0 0) (w.alloc (.cells #[] T.w)) := .trans (by kernel_rfl) rfl
@[simp] theorem bkn (rx ry : Operand) (l c : Nat) (w : World) (K : KV) : fi P .eql T.f rx ry (.slice none l c) (.slice none 0 0) w K = K (.bool true) w := .trans (by kernel_rfl) rfl
@[simp] theorem bls (rx ry : Operand) (a : Addr) (l c : Nat) (w : World) (K : KV) : fi P .eql T.f rx ry (.slice (some a) l c) (.slice none 0 0) w K = K (.bool false) w := .trans (by kernel_rfl) rfl
@[simp] theorem bhr (x0 : Int) (p1 : Option Addr) (l1 c1 : Nat) (w : World) (K : KV) : iw P T.af #[(1, (.int .i64 x0)), (2, (.slice p1 l1 c1))] w K = K (.agg #[(.int .i64 0), (.int .i64 x0), (.slice p1 l1 c1), (.int .i64 0)]) w := .trans (by kernel_rfl) rfl
@[simp] theorem biu (rx ry : Operand)  (w : World) (K : KV) : fi P .neq T.ad rx ry (.pointer none) (.pointer none) w K = K (.bool false) w := .trans (by kernel_rfl) rfl
@[simp] theorem blm (rx ry : Operand) (a : Addr) (w : World) (K : KV) : fi P .neq T.ad rx ry (.pointer (some a)) (.pointer none) w K = K (.bool true) w := .trans (by kernel_rfl) rfl
@[simp] theorem bjc (b i : Nat) (w : World) (K : KV) : faT P T.ag (.pointer (some ⟨b, i, none⟩)) 0 w K = K (.pointer (some ⟨b, i, none⟩)) w := .trans (by kernel_rfl) rfl
@[simp] theorem blv  (w : World) (K : KV) : iw P T.ai #[] w K = K (.agg #[(.slice none 0 0), (.slice none 0 0)]) w := .trans (by kernel_rfl) rfl
@[simp] theorem blq (b i : Nat) (w : World) (K : KV) : faT P T.z (.pointer (some ⟨b, i, none⟩)) 4 w K = K (.pointer (some ⟨b, i + 4, none⟩)) w := .trans (by kernel_rfl) rfl
@[simp] theorem bkb : mo P T.ba = true := .trans (by kernel_rfl) rfl
@[simp] theorem bhy : szE P T.ba = 1 := .trans (by kernel_rfl) rfl
@[simp] theorem bov (x0 : Int) (x1 : Int) (w : World) (K : KV) : bsT P T.ba 2 #[(0, (.int .i64 x0)), (1, (.int .i64 x1))] w K = K (.slice (some ⟨w.heap.size, 0, none⟩) 2 2) (w.alloc (.cells #[(.int .i64 x0), (.int .i64 x1)] T.ah)) := .trans (by kernel_rfl) rfl
@[simp] theorem bnp (w : World) (K : KV) : alT P T.u w K = K (.pointer (some ⟨w.heap.size, 0, none⟩)) (w.alloc (.cells #[(.int .u64 0)] T.u)) := .trans (by kernel_rfl) rfl
@[simp] theorem bkl (b i : Nat) (x : Int) (w : World) (K : KV) : stT P T.u (.pointer (some ⟨b, i, none⟩)) (.int .u64 x) w K = st1 P b i (.int .u64 x) w K := .trans (by kernel_rfl) rfl
theorem mt.ar : vv P T.ar .u64 T.ao (.bool false) := vv.mk' (key := T.d) (by kernel_rfl) (by kernel_rfl) (by kernel_rfl)
@[simp] theorem bin : mo P T.av = true := .trans (by kernel_rfl) rfl
@[simp] theorem bku : szE P T.av = 1 := .trans (by kernel_rfl) rfl
theorem et.av : ko P T.av T.aq 1 4 := ko.mk' (by kernel_rfl) (by kernel_rfl) (by kernel_rfl)
@[simp] theorem bjl (b i : Nat) (w : World) (K : KV) : ldT P T.aq (.pointer (some ⟨b, i, none⟩)) w K = ld1 P b i w K := .trans (by kernel_rfl) rfl
@[simp] theorem bmj (b i : Nat) (w : World) (K : KV) : ldT P T.u (.pointer (some ⟨b, i, none⟩)) w K = ld1 P b i w K := .trans (by kernel_rfl) rfl
@[simp] theorem bic (x0 : Int) (w : World) (K : KV) : bsT P T.av 1 #[(0, (.int .i32 x0))] w K = K (.slice (some ⟨w.heap.size, 0, none⟩) 1 1) (w.alloc (.cells #[(.int .i32 x0)] T.aq)) := .trans (by kernel_rfl) rfl
end Go.Proofs.YtfnhoaemapheoaaGreat
