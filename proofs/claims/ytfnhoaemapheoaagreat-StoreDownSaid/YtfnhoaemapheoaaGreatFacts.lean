/-
  Printed by wip/Shallow.lean: what the operations come to at this seat's types. No condition.
-/
import Derived.Test.YtfnhoaemapheoaaGreatN
import Derived.Test.YtfnhoaemapheoaaGreatZEng
set_option maxRecDepth 1000000
namespace Go.Proofs.YtfnhoaemapheoaaGreat
open Go.Eng
@[simp] theorem bwj (b i : Nat) (w : World) (K : KV) : ldT P T.ac (.pointer (some ⟨b, i, none⟩)) w K = ld1 P b i w K := .trans (by kernel_rfl) rfl
@[simp] theorem bwf : ni P T.ac = true := .trans (by kernel_rfl) rfl
@[simp] theorem bwe : szE P T.ac = 1 := .trans (by kernel_rfl) rfl
theorem et.ac : na P T.ac T.b 1 8 := na.mk' (by kernel_rfl) (by kernel_rfl) (by kernel_rfl)
@[simp] theorem bve (b i : Nat) (w : World) (K : KV) : ldT P T.g (.pointer (some ⟨b, i, none⟩)) w K = ld1 P b i w K := .trans (by kernel_rfl) rfl
@[simp] theorem bvk (b i : Nat) (w : World) (K : KV) : ldT P T.p (.pointer (some ⟨b, i, none⟩)) w K = ld1 P b i w K := .trans (by kernel_rfl) rfl
@[simp] theorem bvi (x0 : Int) (x1 : Int) (w : World) (K : KV) : jw P T.c #[(0, (.int .u64 x0)), (1, (.int .u64 x1))] w K = K (.agg #[(.int .u64 x0), (.int .u64 x1)]) w := .trans (by kernel_rfl) rfl
@[simp] theorem bvy (w : World) (K : KV) : alT P T.c w K = K (.pointer (some ⟨w.heap.size, 0, none⟩)) (w.alloc (.cells #[(.int .u64 0), (.int .u64 0)] T.c)) := .trans (by kernel_rfl) rfl
@[simp] theorem bvp (b i : Nat) (c_0 c_1 : Value) (w : World) (K : KV) : stT P T.c (.pointer (some ⟨b, i, none⟩)) (.agg #[c_0, c_1]) w K = stN P b i [c_0, c_1] w K := .trans (by kernel_rfl) rfl
@[simp] theorem bvh  (w : World) (K : KV) : jw P T.c #[] w K = K (.agg #[(.int .u64 0), (.int .u64 0)]) w := .trans (by kernel_rfl) rfl
@[simp] theorem bvn (b i : Nat) (w : World) (K : KV) : ldT P T.b (.pointer (some ⟨b, i, none⟩)) w K = ld1 P b i w K := .trans (by kernel_rfl) rfl
@[simp] theorem bvl (b i : Nat) (w : World) (K : KV) : ldT P T.c (.pointer (some ⟨b, i, none⟩)) w K = ldN P 2 b i w K := .trans (by kernel_rfl) rfl
@[simp] theorem bvr (w : World) (K : KV) : alT P T.a w K = K (.pointer (some ⟨w.heap.size, 0, none⟩)) (w.alloc (.cells #[(.int .i64 0), (.int .u64 0), (.int .u64 0), (.int .u64 0), (.int .u64 0), (.int .u64 0), (.int .i64 0), (.bool false), (.slice none 0 0), (.slice none 0 0), (.slice none 0 0)] T.a)) := .trans (by kernel_rfl) rfl
@[simp] theorem bvg (b i : Nat) (c_0 c_1 c_2 c_3 c_4 c_5 c_6 c_7 c_8 c_9 c_10 : Value) (w : World) (K : KV) : stT P T.a (.pointer (some ⟨b, i, none⟩)) (.agg #[c_0, c_1, c_2, c_3, c_4, c_5, c_6, c_7, c_8, c_9, c_10]) w K = stN P b i [c_0, c_1, c_2, c_3, c_4, c_5, c_6, c_7, c_8, c_9, c_10] w K := .trans (by kernel_rfl) rfl
@[simp] theorem bvo (b i : Nat) (w : World) (K : KV) : faT P T.a (.pointer (some ⟨b, i, none⟩)) 5 w K = K (.pointer (some ⟨b, i + 7, none⟩)) w := .trans (by kernel_rfl) rfl
@[simp] theorem bwh (b i : Nat) (w : World) (K : KV) : ldT P T.ao (.pointer (some ⟨b, i, none⟩)) w K = ld1 P b i w K := .trans (by kernel_rfl) rfl
@[simp] theorem bvu (b i : Nat) (bo : Bool) (w : World) (K : KV) : stT P T.ao (.pointer (some ⟨b, i, none⟩)) (.bool bo) w K = st1 P b i (.bool bo) w K := .trans (by kernel_rfl) rfl
@[simp] theorem bvv (b i : Nat) (w : World) (K : KV) : faT P T.a (.pointer (some ⟨b, i, none⟩)) 4 w K = K (.pointer (some ⟨b, i + 6, none⟩)) w := .trans (by kernel_rfl) rfl
@[simp] theorem bvq (b i : Nat) (w : World) (K : KV) : faT P T.a (.pointer (some ⟨b, i, none⟩)) 3 w K = K (.pointer (some ⟨b, i + 4, none⟩)) w := .trans (by kernel_rfl) rfl
@[simp] theorem bwg (b i : Nat) (w : World) (K : KV) : ldT P T.ak (.pointer (some ⟨b, i, none⟩)) w K = ld1 P b i w K := .trans (by kernel_rfl) rfl
@[simp] theorem bvc (x0 : Int) (x1 : Int) (c2_0 c2_1 : Value) (x3 : Int) (w : World) (K : KV) : jw P T.a #[(0, (.int .i64 x0)), (1, (.int .u64 x1)), (2, (.agg #[c2_0, c2_1])), (4, (.int .i64 x3))] w K = K (.agg #[(.int .i64 x0), (.int .u64 x1), c2_0, c2_1, (.int .u64 0), (.int .u64 0), (.int .i64 x3), (.bool false), (.slice none 0 0), (.slice none 0 0), (.slice none 0 0)]) w := .trans (by kernel_rfl) rfl
@[simp] theorem bvt (b i : Nat) (w : World) (K : KV) : ldT P T.a (.pointer (some ⟨b, i, none⟩)) w K = ldN P 11 b i w K := .trans (by kernel_rfl) rfl
@[simp] theorem bvf (b i : Nat) (w : World) (K : KV) : faT P T.a (.pointer (some ⟨b, i, none⟩)) 2 w K = K (.pointer (some ⟨b, i + 2, none⟩)) w := .trans (by kernel_rfl) rfl
@[simp] theorem bvx  (w : World) (K : KV) : jw P T.a #[] w K = K (.agg #[(.int .i64 0), (.int .u64 0), (.int .u64 0), (.int .u64 0), (.int .u64 0), (.int .u64 0), (.int .i64 0), (.bool false), (.slice none 0 0), (.slice none 0 0), (.slice none 0 0)]) w := .trans (by kernel_rfl) rfl
@[simp] theorem bvs (b i : Nat) (w : World) (K : KV) : faT P T.a (.pointer (some ⟨b, i, none⟩)) 1 w K = K (.pointer (some ⟨b, i + 1, none⟩)) w := .trans (by kernel_rfl) rfl
@[simp] theorem bwi (b i : Nat) (w : World) (K : KV) : faT P T.a (.pointer (some ⟨b, i, none⟩)) 0 w K = K (.pointer (some ⟨b, i, none⟩)) w := .trans (by kernel_rfl) rfl
@[simp] theorem bvj (rx ry : Operand)  (w : World) (K : KV) : gh P .eql T.aq rx ry (.pointer none) (.pointer none) w K = K (.bool true) w := .trans (by kernel_rfl) rfl
@[simp] theorem bwd (rx ry : Operand) (a : Addr) (w : World) (K : KV) : gh P .eql T.aq rx ry (.pointer (some a)) (.pointer none) w K = K (.bool false) w := .trans (by kernel_rfl) rfl
@[simp] theorem bwa : ni P T.f = true := .trans (by kernel_rfl) rfl
@[simp] theorem bvd : szE P T.f = 8 := .trans (by kernel_rfl) rfl
theorem et.f : na P T.f T.e 8 80 := na.mk' (by kernel_rfl) (by kernel_rfl) (by kernel_rfl)
@[simp] theorem bvm (b i : Nat) (w : World) (K : KV) : faT P T.a (.pointer (some ⟨b, i, none⟩)) 6 w K = K (.pointer (some ⟨b, i + 8, none⟩)) w := .trans (by kernel_rfl) rfl
@[simp] theorem bvb (b i : Nat) (w : World) (K : KV) : ldT P T.f (.pointer (some ⟨b, i, none⟩)) w K = ld1 P b i w K := .trans (by kernel_rfl) rfl
@[simp] theorem bvz (b i : Nat) (w : World) (K : KV) : ldT P T.e (.pointer (some ⟨b, i, none⟩)) w K = ldN P 8 b i w K := .trans (by kernel_rfl) rfl
@[simp] theorem bwb : ni P T.j = true := .trans (by kernel_rfl) rfl
@[simp] theorem bvw : szE P T.j = 1 := .trans (by kernel_rfl) rfl
theorem et.j : na P T.j T.g 1 8 := na.mk' (by kernel_rfl) (by kernel_rfl) (by kernel_rfl)
@[simp] theorem bni (x0 : Int) (r1 : Option Nat) (w : World) (K : KV) : jw P T.ad #[(0, (.int .i64 x0)), (1, (.map r1))] w K = K (.agg #[(.int .i64 x0), (.map r1), (.int .i64 0), (.bool false), (.bool false)]) w := .trans (by kernel_rfl) rfl
@[simp] theorem bsw : ni P T.l = true := .trans (by kernel_rfl) rfl
@[simp] theorem bpz : szE P T.l = 1 := .trans (by kernel_rfl) rfl
theorem et.l : na P T.l T.d 1 24 := na.mk' (by kernel_rfl) (by kernel_rfl) (by kernel_rfl)
@[simp] theorem bqh (b i : Nat) (w : World) (K : KV) : ldT P T.d (.pointer (some ⟨b, i, none⟩)) w K = ld1 P b i w K := .trans (by kernel_rfl) rfl
@[simp] theorem bsm (b i : Nat) (w : World) (K : KV) : faT P T.c (.pointer (some ⟨b, i, none⟩)) 0 w K = K (.pointer (some ⟨b, i, none⟩)) w := .trans (by kernel_rfl) rfl
@[simp] theorem bro (b i : Nat) (w : World) (K : KV) : faT P T.c (.pointer (some ⟨b, i, none⟩)) 1 w K = K (.pointer (some ⟨b, i + 1, none⟩)) w := .trans (by kernel_rfl) rfl
@[simp] theorem brh (rx ry : Operand)  (w : World) (K : KV) : gh P .eql T.ak rx ry (.pointer none) (.pointer none) w K = K (.bool true) w := .trans (by kernel_rfl) rfl
@[simp] theorem bqp (rx ry : Operand) (a : Addr) (w : World) (K : KV) : gh P .eql T.ak rx ry (.pointer (some a)) (.pointer none) w K = K (.bool false) w := .trans (by kernel_rfl) rfl
@[simp] theorem bqm (b i : Nat) (w : World) (K : KV) : faT P T.ad (.pointer (some ⟨b, i, none⟩)) 1 w K = K (.pointer (some ⟨b, i + 1, none⟩)) w := .trans (by kernel_rfl) rfl
@[simp] theorem bpb (b i : Nat) (w : World) (K : KV) : ldT P T.o (.pointer (some ⟨b, i, none⟩)) w K = ld1 P b i w K := .trans (by kernel_rfl) rfl
theorem mt.o : ub P T.o .i64 T.bd (.pointer none) := ub.mk' (key := T.b) (by kernel_rfl) (by kernel_rfl) (by kernel_rfl)
@[simp] theorem bur (b i : Nat) (w : World) (K : KV) : faT P T.af (.pointer (some ⟨b, i, none⟩)) 1 w K = K (.pointer (some ⟨b, i + 1, none⟩)) w := .trans (by kernel_rfl) rfl
@[simp] theorem bpf : ni P T.d = true := .trans (by kernel_rfl) rfl
@[simp] theorem bnp : szE P T.d = 1 := .trans (by kernel_rfl) rfl
theorem et.d : na P T.d T.al 1 1 := na.mk' (by kernel_rfl) (by kernel_rfl) (by kernel_rfl)
@[simp] theorem bus (b i : Nat) (w : World) (K : KV) : faT P T.af (.pointer (some ⟨b, i, none⟩)) 0 w K = K (.pointer (some ⟨b, i, none⟩)) w := .trans (by kernel_rfl) rfl
@[simp] theorem brf (p0 : Option Addr) (l0 c0 : Nat) (p1 : Option Addr) (l1 c1 : Nat) (w : World) (K : KV) : bsT P T.l 2 #[(0, (.slice p0 l0 c0)), (1, (.slice p1 l1 c1))] w K = K (.slice (some ⟨w.heap.size, 0, none⟩) 2 2) (w.alloc (.cells #[(.slice p0 l0 c0), (.slice p1 l1 c1)] T.d)) := .trans (by kernel_rfl) rfl
@[simp] theorem brz (b i : Nat) (p : Option Addr) (l c : Nat) (w : World) (K : KV) : stT P T.d (.pointer (some ⟨b, i, none⟩)) (.slice p l c) w K = st1 P b i (.slice p l c) w K := .trans (by kernel_rfl) rfl
@[simp] theorem bsh (b i : Nat) (w : World) (K : KV) : faT P T.ad (.pointer (some ⟨b, i, none⟩)) 3 w K = K (.pointer (some ⟨b, i + 3, none⟩)) w := .trans (by kernel_rfl) rfl
@[simp] theorem bpk (b i : Nat) (w : World) (K : KV) : faT P T.ad (.pointer (some ⟨b, i, none⟩)) 4 w K = K (.pointer (some ⟨b, i + 4, none⟩)) w := .trans (by kernel_rfl) rfl
@[simp] theorem bos (v : Value) (w : World) (K : KV) : taT P (.iface T.x v) T.an T.x true w K = K (.tuple #[v, .bool true]) w := .trans (by kernel_rfl) rfl
@[simp] theorem btj (w : World) (K : KV) : alT P T.x w K = K (.pointer (some ⟨w.heap.size, 0, none⟩)) (w.alloc (.cells #[(.int .u64 0), (.int .u64 0), (.int .u64 0), (.int .i64 0)] T.x)) := .trans (by kernel_rfl) rfl
@[simp] theorem bsi (b i : Nat) (c_0 c_1 c_2 c_3 : Value) (w : World) (K : KV) : stT P T.x (.pointer (some ⟨b, i, none⟩)) (.agg #[c_0, c_1, c_2, c_3]) w K = stN P b i [c_0, c_1, c_2, c_3] w K := .trans (by kernel_rfl) rfl
@[simp] theorem buh (b i : Nat) (w : World) (K : KV) : faT P T.x (.pointer (some ⟨b, i, none⟩)) 0 w K = K (.pointer (some ⟨b, i, none⟩)) w := .trans (by kernel_rfl) rfl
@[simp] theorem bnk (b i : Nat) (w : World) (K : KV) : faT P T.x (.pointer (some ⟨b, i, none⟩)) 1 w K = K (.pointer (some ⟨b, i + 1, none⟩)) w := .trans (by kernel_rfl) rfl
@[simp] theorem btf (b i : Nat) (w : World) (K : KV) : faT P T.x (.pointer (some ⟨b, i, none⟩)) 2 w K = K (.pointer (some ⟨b, i + 3, none⟩)) w := .trans (by kernel_rfl) rfl
@[simp] theorem bts (p0 : Option Addr) (l0 c0 : Nat) (w : World) (K : KV) : bsT P T.l 1 #[(0, (.slice p0 l0 c0))] w K = K (.slice (some ⟨w.heap.size, 0, none⟩) 1 1) (w.alloc (.cells #[(.slice p0 l0 c0)] T.d)) := .trans (by kernel_rfl) rfl
@[simp] theorem bth (b i : Nat) (w : World) (K : KV) : faT P T.a (.pointer (some ⟨b, i, none⟩)) 7 w K = K (.pointer (some ⟨b, i + 9, none⟩)) w := .trans (by kernel_rfl) rfl
@[simp] theorem bnq (b i : Nat) (w : World) (K : KV) : ldT P T.i (.pointer (some ⟨b, i, none⟩)) w K = ld1 P b i w K := .trans (by kernel_rfl) rfl
@[simp] theorem bnh : ni P T.i = true := .trans (by kernel_rfl) rfl
@[simp] theorem bsy : szE P T.i = 3 := .trans (by kernel_rfl) rfl
theorem et.i : na P T.i T.q 3 24 := na.mk' (by kernel_rfl) (by kernel_rfl) (by kernel_rfl)
@[simp] theorem bsl (b i : Nat) (w : World) (K : KV) : faT P T.a (.pointer (some ⟨b, i, none⟩)) 8 w K = K (.pointer (some ⟨b, i + 10, none⟩)) w := .trans (by kernel_rfl) rfl
@[simp] theorem btn (b i : Nat) (w : World) (K : KV) : ldT P T.j (.pointer (some ⟨b, i, none⟩)) w K = ld1 P b i w K := .trans (by kernel_rfl) rfl
@[simp] theorem bpo (b i : Nat) (w : World) (K : KV) : ldT P T.q (.pointer (some ⟨b, i, none⟩)) w K = ldN P 3 b i w K := .trans (by kernel_rfl) rfl
@[simp] theorem bpw (b i : Nat) (w : World) (K : KV) : ldT P T.bb (.pointer (some ⟨b, i, none⟩)) w K = ld1 P b i w K := .trans (by kernel_rfl) rfl
@[simp] theorem bpi (rx ry : Operand) (a : Addr) (w : World) (K : KV) : gh P .neq T.ak rx ry (.pointer (some a)) (.pointer none) w K = K (.bool true) w := .trans (by kernel_rfl) rfl
@[simp] theorem bra (b i : Nat) (w : World) (K : KV) : faT P T.ad (.pointer (some ⟨b, i, none⟩)) 2 w K = K (.pointer (some ⟨b, i + 2, none⟩)) w := .trans (by kernel_rfl) rfl
@[simp] theorem brc (b i : Nat) (x : Int) (w : World) (K : KV) : stT P T.b (.pointer (some ⟨b, i, none⟩)) (.int .i64 x) w K = st1 P b i (.int .i64 x) w K := .trans (by kernel_rfl) rfl
@[simp] theorem btg (b i : Nat) (w : World) (K : KV) : faT P T.e (.pointer (some ⟨b, i, none⟩)) 6 w K = K (.pointer (some ⟨b, i + 6, none⟩)) w := .trans (by kernel_rfl) rfl
@[simp] theorem bsb (b i : Nat) (w : World) (K : KV) : ldT P T.ae (.pointer (some ⟨b, i, none⟩)) w K = ld1 P b i w K := .trans (by kernel_rfl) rfl
@[simp] theorem bpa (b i : Nat) (w : World) (K : KV) : faT P T.e (.pointer (some ⟨b, i, none⟩)) 5 w K = K (.pointer (some ⟨b, i + 5, none⟩)) w := .trans (by kernel_rfl) rfl
@[simp] theorem btc (x0 : Int) (x1 : Int) (s2 : ByteArray) (s3 : ByteArray) (w : World) (K : KV) : jw P T.e #[(0, (.int .u64 x0)), (1, (.int .u64 x1)), (5, (.string s2)), (6, (.string s3))] w K = K (.agg #[(.int .u64 x0), (.int .u64 x1), (.int .u64 0), (.int .u64 0), (.int .u64 0), (.string s2), (.string s3), (.bool false)]) w := .trans (by kernel_rfl) rfl
@[simp] theorem bnv (c0_0 c0_1 c0_2 c0_3 c0_4 c0_5 c0_6 c0_7 : Value) (c1_0 c1_1 c1_2 c1_3 c1_4 c1_5 c1_6 c1_7 : Value) (w : World) (K : KV) : bsT P T.f 2 #[(0, (.agg #[c0_0, c0_1, c0_2, c0_3, c0_4, c0_5, c0_6, c0_7])), (1, (.agg #[c1_0, c1_1, c1_2, c1_3, c1_4, c1_5, c1_6, c1_7]))] w K = K (.slice (some ⟨w.heap.size, 0, none⟩) 2 2) (w.alloc (.cells #[c0_0, c0_1, c0_2, c0_3, c0_4, c0_5, c0_6, c0_7, c1_0, c1_1, c1_2, c1_3, c1_4, c1_5, c1_6, c1_7] T.e)) := .trans (by kernel_rfl) rfl
@[simp] theorem bqq (x0 : Int) (w : World) (K : KV) : jw P T.c #[(0, (.int .u64 x0))] w K = K (.agg #[(.int .u64 x0), (.int .u64 0)]) w := .trans (by kernel_rfl) rfl
@[simp] theorem bqi (x0 : Int) (x1 : Int) (c2_0 c2_1 : Value) (p3 : Option Addr) (l3 c3 : Nat) (w : World) (K : KV) : jw P T.a #[(0, (.int .i64 x0)), (1, (.int .u64 x1)), (2, (.agg #[c2_0, c2_1])), (6, (.slice p3 l3 c3))] w K = K (.agg #[(.int .i64 x0), (.int .u64 x1), c2_0, c2_1, (.int .u64 0), (.int .u64 0), (.int .i64 0), (.bool false), (.slice p3 l3 c3), (.slice none 0 0), (.slice none 0 0)]) w := .trans (by kernel_rfl) rfl
@[simp] theorem bqt (rx ry : Operand) (a : Addr) (w : World) (K : KV) : gh P .neq T.aq rx ry (.pointer (some a)) (.pointer none) w K = K (.bool true) w := .trans (by kernel_rfl) rfl
@[simp] theorem bqr (b i : Nat) (w : World) (K : KV) : faT P T.e (.pointer (some ⟨b, i, none⟩)) 1 w K = K (.pointer (some ⟨b, i + 1, none⟩)) w := .trans (by kernel_rfl) rfl
@[simp] theorem btl (p0 : Option Addr) (p1 : Option Addr) (r2 : Option Nat) (w : World) (K : KV) : jw P T.ah #[(0, (.pointer p0)), (1, (.pointer p1)), (2, (.map r2))] w K = K (.agg #[(.pointer p0), (.pointer p1), (.map r2), (.bool false)]) w := .trans (by kernel_rfl) rfl
@[simp] theorem bps (w : World) (K : KV) : alT P T.e w K = K (.pointer (some ⟨w.heap.size, 0, none⟩)) (w.alloc (.cells #[(.int .u64 0), (.int .u64 0), (.int .u64 0), (.int .u64 0), (.int .u64 0), (.string ⟨#[]⟩), (.string ⟨#[]⟩), (.bool false)] T.e)) := .trans (by kernel_rfl) rfl
@[simp] theorem bop (b i : Nat) (c_0 c_1 c_2 c_3 c_4 c_5 c_6 c_7 : Value) (w : World) (K : KV) : stT P T.e (.pointer (some ⟨b, i, none⟩)) (.agg #[c_0, c_1, c_2, c_3, c_4, c_5, c_6, c_7]) w K = stN P b i [c_0, c_1, c_2, c_3, c_4, c_5, c_6, c_7] w K := .trans (by kernel_rfl) rfl
@[simp] theorem boh (v : Value) (w : World) (K : KV) : taT P (.iface T.h v) T.an T.h true w K = K (.tuple #[v, .bool true]) w := .trans (by kernel_rfl) rfl
@[simp] theorem bnj (w : World) (K : KV) : alT P T.h w K = K (.pointer (some ⟨w.heap.size, 0, none⟩)) (w.alloc (.cells #[(.int .u64 0), (.int .u64 0), (.int .u64 0), (.slice none 0 0)] T.h)) := .trans (by kernel_rfl) rfl
@[simp] theorem buf (b i : Nat) (c_0 c_1 c_2 c_3 : Value) (w : World) (K : KV) : stT P T.h (.pointer (some ⟨b, i, none⟩)) (.agg #[c_0, c_1, c_2, c_3]) w K = stN P b i [c_0, c_1, c_2, c_3] w K := .trans (by kernel_rfl) rfl
@[simp] theorem bpt (b i : Nat) (w : World) (K : KV) : faT P T.ah (.pointer (some ⟨b, i, none⟩)) 3 w K = K (.pointer (some ⟨b, i + 3, none⟩)) w := .trans (by kernel_rfl) rfl
@[simp] theorem boq (b i : Nat) (w : World) (K : KV) : faT P T.ah (.pointer (some ⟨b, i, none⟩)) 0 w K = K (.pointer (some ⟨b, i, none⟩)) w := .trans (by kernel_rfl) rfl
@[simp] theorem brn (b i : Nat) (w : World) (K : KV) : faT P T.h (.pointer (some ⟨b, i, none⟩)) 2 w K = K (.pointer (some ⟨b, i + 3, none⟩)) w := .trans (by kernel_rfl) rfl
@[simp] theorem bqf (b i : Nat) (w : World) (K : KV) : faT P T.h (.pointer (some ⟨b, i, none⟩)) 1 w K = K (.pointer (some ⟨b, i + 1, none⟩)) w := .trans (by kernel_rfl) rfl
@[simp] theorem bql (b i : Nat) (w : World) (K : KV) : faT P T.h (.pointer (some ⟨b, i, none⟩)) 0 w K = K (.pointer (some ⟨b, i, none⟩)) w := .trans (by kernel_rfl) rfl
@[simp] theorem bom (x0 : Int) (w : World) (K : KV) : jw P T.n #[(0, (.int .u64 x0))] w K = K (.agg #[(.int .u64 x0), (.slice none 0 0)]) w := .trans (by kernel_rfl) rfl
@[simp] theorem brv (w : World) (K : KV) : alT P T.n w K = K (.pointer (some ⟨w.heap.size, 0, none⟩)) (w.alloc (.cells #[(.int .u64 0), (.slice none 0 0)] T.n)) := .trans (by kernel_rfl) rfl
@[simp] theorem but (b i : Nat) (c_0 c_1 : Value) (w : World) (K : KV) : stT P T.n (.pointer (some ⟨b, i, none⟩)) (.agg #[c_0, c_1]) w K = stN P b i [c_0, c_1] w K := .trans (by kernel_rfl) rfl
@[simp] theorem bte (b i : Nat) (w : World) (K : KV) : faT P T.n (.pointer (some ⟨b, i, none⟩)) 1 w K = K (.pointer (some ⟨b, i + 1, none⟩)) w := .trans (by kernel_rfl) rfl
@[simp] theorem bta (x0 : Int) (w : World) (K : KV) : bsT P T.j 1 #[(0, (.int .u64 x0))] w K = K (.slice (some ⟨w.heap.size, 0, none⟩) 1 1) (w.alloc (.cells #[(.int .u64 x0)] T.g)) := .trans (by kernel_rfl) rfl
@[simp] theorem boo (b i : Nat) (p : Option Addr) (l c : Nat) (w : World) (K : KV) : stT P T.j (.pointer (some ⟨b, i, none⟩)) (.slice p l c) w K = st1 P b i (.slice p l c) w K := .trans (by kernel_rfl) rfl
@[simp] theorem bsx (b i : Nat) (w : World) (K : KV) : ldT P T.n (.pointer (some ⟨b, i, none⟩)) w K = ldN P 2 b i w K := .trans (by kernel_rfl) rfl
@[simp] theorem bpl (v : Value) (w : World) (K : KV) : ug P T.n v w K = K (.iface T.n v) w := .trans (by kernel_rfl) rfl
@[simp] theorem boy (b i : Nat) (w : World) (K : KV) : faT P T.ah (.pointer (some ⟨b, i, none⟩)) 2 w K = K (.pointer (some ⟨b, i + 2, none⟩)) w := .trans (by kernel_rfl) rfl
@[simp] theorem brl (b i : Nat) (w : World) (K : KV) : ldT P T.k (.pointer (some ⟨b, i, none⟩)) w K = ld1 P b i w K := .trans (by kernel_rfl) rfl
theorem mt.k : ub P T.k .u64 T.ax (.pointer none) := ub.mk' (key := T.g) (by kernel_rfl) (by kernel_rfl) (by kernel_rfl)
@[simp] theorem bqg (rx ry : Operand)  (w : World) (K : KV) : gh P .eql T.ax rx ry (.pointer none) (.pointer none) w K = K (.bool true) w := .trans (by kernel_rfl) rfl
@[simp] theorem bsq (rx ry : Operand) (a : Addr) (w : World) (K : KV) : gh P .eql T.ax rx ry (.pointer (some a)) (.pointer none) w K = K (.bool false) w := .trans (by kernel_rfl) rfl
@[simp] theorem bny (b i : Nat) (w : World) (K : KV) : faT P T.am (.pointer (some ⟨b, i, none⟩)) 0 w K = K (.pointer (some ⟨b, i, none⟩)) w := .trans (by kernel_rfl) rfl
@[simp] theorem boa (b i : Nat) (w : World) (K : KV) : ldT P T.s (.pointer (some ⟨b, i, none⟩)) w K = ld1 P b i w K := .trans (by kernel_rfl) rfl
@[simp] theorem btw  (w : World) (K : KV) : bsT P T.j 0 #[] w K = K (.slice (some ⟨w.heap.size, 0, none⟩) 0 0) (w.alloc (.cells #[] T.g)) := .trans (by kernel_rfl) rfl
@[simp] theorem bpq (x0 : Int) (x1 : Int) (p2 : Option Addr) (l2 c2 : Nat) (w : World) (K : KV) : jw P T.a #[(0, (.int .i64 x0)), (1, (.int .u64 x1)), (8, (.slice p2 l2 c2))] w K = K (.agg #[(.int .i64 x0), (.int .u64 x1), (.int .u64 0), (.int .u64 0), (.int .u64 0), (.int .u64 0), (.int .i64 0), (.bool false), (.slice none 0 0), (.slice none 0 0), (.slice p2 l2 c2)]) w := .trans (by kernel_rfl) rfl
@[simp] theorem bog (b i : Nat) (w : World) (K : KV) : faT P T.am (.pointer (some ⟨b, i, none⟩)) 1 w K = K (.pointer (some ⟨b, i + 1, none⟩)) w := .trans (by kernel_rfl) rfl
@[simp] theorem bpx (p0 : Option Addr) (x1 : Int) (w : World) (K : KV) : jw P T.aa #[(0, (.pointer p0)), (1, (.int .i64 x1))] w K = K (.agg #[(.pointer p0), (.int .i64 x1), (.slice none 0 0)]) w := .trans (by kernel_rfl) rfl
@[simp] theorem bpd (rx ry : Operand)  (w : World) (K : KV) : gh P .eql T.z rx ry (.pointer none) (.pointer none) w K = K (.bool true) w := .trans (by kernel_rfl) rfl
@[simp] theorem brj (rx ry : Operand) (a : Addr) (w : World) (K : KV) : gh P .eql T.z rx ry (.pointer (some a)) (.pointer none) w K = K (.bool false) w := .trans (by kernel_rfl) rfl
@[simp] theorem bsu (b i : Nat) (w : World) (K : KV) : faT P T.aa (.pointer (some ⟨b, i, none⟩)) 2 w K = K (.pointer (some ⟨b, i + 2, none⟩)) w := .trans (by kernel_rfl) rfl
@[simp] theorem brs (b i : Nat) (w : World) (K : KV) : ldT P T.u (.pointer (some ⟨b, i, none⟩)) w K = ld1 P b i w K := .trans (by kernel_rfl) rfl
@[simp] theorem btz : ni P T.u = true := .trans (by kernel_rfl) rfl
@[simp] theorem bqs : szE P T.u = 1 := .trans (by kernel_rfl) rfl
theorem et.u : na P T.u T.z 1 8 := na.mk' (by kernel_rfl) (by kernel_rfl) (by kernel_rfl)
@[simp] theorem bqc (b i : Nat) (w : World) (K : KV) : faT P T.ab (.pointer (some ⟨b, i, none⟩)) 1 w K = K (.pointer (some ⟨b, i + 1, none⟩)) w := .trans (by kernel_rfl) rfl
@[simp] theorem bnx (p0 : Option Addr) (w : World) (K : KV) : bsT P T.u 1 #[(0, (.pointer p0))] w K = K (.slice (some ⟨w.heap.size, 0, none⟩) 1 1) (w.alloc (.cells #[(.pointer p0)] T.z)) := .trans (by kernel_rfl) rfl
@[simp] theorem bor (b i : Nat) (p : Option Addr) (l c : Nat) (w : World) (K : KV) : stT P T.u (.pointer (some ⟨b, i, none⟩)) (.slice p l c) w K = st1 P b i (.slice p l c) w K := .trans (by kernel_rfl) rfl
@[simp] theorem bqx (rx ry : Operand) (a : Addr) (w : World) (K : KV) : gh P .eql T.bb rx ry (.pointer (some a)) (.pointer none) w K = K (.bool false) w := .trans (by kernel_rfl) rfl
@[simp] theorem bqy (b i : Nat) (w : World) (K : KV) : ldT P T.z (.pointer (some ⟨b, i, none⟩)) w K = ld1 P b i w K := .trans (by kernel_rfl) rfl
@[simp] theorem bol (b i : Nat) (w : World) (K : KV) : faT P T.ab (.pointer (some ⟨b, i, none⟩)) 2 w K = K (.pointer (some ⟨b, i + 2, none⟩)) w := .trans (by kernel_rfl) rfl
@[simp] theorem bow (b i : Nat) (w : World) (K : KV) : ldT P T.l (.pointer (some ⟨b, i, none⟩)) w K = ld1 P b i w K := .trans (by kernel_rfl) rfl
@[simp] theorem btu (b i : Nat) (x : Int) (w : World) (K : KV) : stT P T.g (.pointer (some ⟨b, i, none⟩)) (.int .u64 x) w K = st1 P b i (.int .u64 x) w K := .trans (by kernel_rfl) rfl
@[simp] theorem bud (b i : Nat) (w : World) (K : KV) : ldT P T.al (.pointer (some ⟨b, i, none⟩)) w K = ld1 P b i w K := .trans (by kernel_rfl) rfl
@[simp] theorem bum (b i : Nat) (w : World) (K : KV) : faT P T.aa (.pointer (some ⟨b, i, none⟩)) 0 w K = K (.pointer (some ⟨b, i, none⟩)) w := .trans (by kernel_rfl) rfl
@[simp] theorem buq (b i : Nat) (w : World) (K : KV) : faT P T.ab (.pointer (some ⟨b, i, none⟩)) 0 w K = K (.pointer (some ⟨b, i, none⟩)) w := .trans (by kernel_rfl) rfl
@[simp] theorem bse (v : Value) (w : World) (K : KV) : ug P T.ae v w K = K (.iface T.ae v) w := .trans (by kernel_rfl) rfl
@[simp] theorem bui (x0 : Int) (w : World) (K : KV) : bsT P T.d 1 #[(0, (.int .u8 x0))] w K = K (.slice (some ⟨w.heap.size, 0, none⟩) 1 1) (w.alloc (.cells #[(.int .u8 x0)] T.al)) := .trans (by kernel_rfl) rfl
@[simp] theorem btt (b i : Nat) (x : Int) (w : World) (K : KV) : stT P T.p (.pointer (some ⟨b, i, none⟩)) (.int .i64 x) w K = st1 P b i (.int .i64 x) w K := .trans (by kernel_rfl) rfl
@[simp] theorem bsa (b i : Nat) (w : World) (K : KV) : faT P T.e (.pointer (some ⟨b, i, none⟩)) 0 w K = K (.pointer (some ⟨b, i, none⟩)) w := .trans (by kernel_rfl) rfl
@[simp] theorem bqe (c0_0 c0_1 c0_2 c0_3 c0_4 c0_5 c0_6 c0_7 : Value) (w : World) (K : KV) : bsT P T.f 1 #[(0, (.agg #[c0_0, c0_1, c0_2, c0_3, c0_4, c0_5, c0_6, c0_7]))] w K = K (.slice (some ⟨w.heap.size, 0, none⟩) 1 1) (w.alloc (.cells #[c0_0, c0_1, c0_2, c0_3, c0_4, c0_5, c0_6, c0_7] T.e)) := .trans (by kernel_rfl) rfl
@[simp] theorem btr (r0 : Option Nat) (w : World) (K : KV) : jw P T.am #[(0, (.map r0))] w K = K (.agg #[(.map r0), (.int .u64 0), (.int .u64 0)]) w := .trans (by kernel_rfl) rfl
theorem mt.s : ub P T.s .u64 T.e (.agg #[(.int .u64 0), (.int .u64 0), (.int .u64 0), (.int .u64 0), (.int .u64 0), (.string ⟨#[]⟩), (.string ⟨#[]⟩), (.bool false)]) := ub.mk' (key := T.g) (by kernel_rfl) (by kernel_rfl) (by kernel_rfl)
@[simp] theorem bok (c0_0 c0_1 : Value) (c1_0 c1_1 : Value) (w : World) (K : KV) : bsT P T.ay 2 #[(0, (.agg #[c0_0, c0_1])), (1, (.agg #[c1_0, c1_1]))] w K = K (.slice (some ⟨w.heap.size, 0, none⟩) 2 2) (w.alloc (.cells #[c0_0, c0_1, c1_0, c1_1] T.c)) := .trans (by kernel_rfl) rfl
@[simp] theorem brk (rx ry : Operand) (l c : Nat) (w : World) (K : KV) : gh P .eql T.f rx ry (.slice none l c) (.slice none 0 0) w K = K (.bool true) w := .trans (by kernel_rfl) rfl
@[simp] theorem brd (rx ry : Operand) (a : Addr) (l c : Nat) (w : World) (K : KV) : gh P .eql T.f rx ry (.slice (some a) l c) (.slice none 0 0) w K = K (.bool false) w := .trans (by kernel_rfl) rfl
@[simp] theorem bsn  (w : World) (K : KV) : bsT P T.f 0 #[] w K = K (.slice (some ⟨w.heap.size, 0, none⟩) 0 0) (w.alloc (.cells #[] T.e)) := .trans (by kernel_rfl) rfl
@[simp] theorem bqj (b i : Nat) (w : World) (K : KV) : faT P T.ah (.pointer (some ⟨b, i, none⟩)) 1 w K = K (.pointer (some ⟨b, i + 1, none⟩)) w := .trans (by kernel_rfl) rfl
@[simp] theorem bsv : ni P T.aw = true := .trans (by kernel_rfl) rfl
@[simp] theorem bsg : szE P T.aw = 1 := .trans (by kernel_rfl) rfl
@[simp] theorem bpg (p0 : Option Addr) (l0 c0 : Nat) (p1 : Option Addr) (l1 c1 : Nat) (w : World) (K : KV) : bsT P T.aw 2 #[(0, (.slice p0 l0 c0)), (1, (.slice p1 l1 c1))] w K = K (.slice (some ⟨w.heap.size, 0, none⟩) 2 2) (w.alloc (.cells #[(.slice p0 l0 c0), (.slice p1 l1 c1)] T.ac)) := .trans (by kernel_rfl) rfl
@[simp] theorem bqu (x0 : Int) (x1 : Int) (p2 : Option Addr) (l2 c2 : Nat) (x3 : Int) (w : World) (K : KV) : jw P T.ab #[(0, (.int .i64 x0)), (1, (.int .i64 x1)), (2, (.slice p2 l2 c2)), (3, (.int .i64 x3))] w K = K (.agg #[(.int .i64 x0), (.int .i64 x1), (.slice p2 l2 c2), (.int .i64 x3)]) w := .trans (by kernel_rfl) rfl
@[simp] theorem bph (rx ry : Operand) (l c : Nat) (w : World) (K : KV) : gh P .eql T.d rx ry (.slice none l c) (.slice none 0 0) w K = K (.bool true) w := .trans (by kernel_rfl) rfl
@[simp] theorem buy (rx ry : Operand) (a : Addr) (l c : Nat) (w : World) (K : KV) : gh P .eql T.d rx ry (.slice (some a) l c) (.slice none 0 0) w K = K (.bool false) w := .trans (by kernel_rfl) rfl
@[simp] theorem bod  (w : World) (K : KV) : bsT P T.d 0 #[] w K = K (.slice (some ⟨w.heap.size, 0, none⟩) 0 0) (w.alloc (.cells #[] T.al)) := .trans (by kernel_rfl) rfl
@[simp] theorem bns (x0 : Int) (bo1 : Bool) (p2 : Option Addr) (l2 c2 : Nat) (w : World) (K : KV) : jw P T.r #[(0, (.int .u64 x0)), (1, (.bool bo1)), (2, (.slice p2 l2 c2))] w K = K (.agg #[(.int .u64 x0), (.bool bo1), (.slice p2 l2 c2)]) w := .trans (by kernel_rfl) rfl
@[simp] theorem bqk (v : Value) (w : World) (K : KV) : ug P T.r v w K = K (.iface T.r v) w := .trans (by kernel_rfl) rfl
@[simp] theorem bsd (p0 : Option Addr) (l0 c0 : Nat) (w : World) (K : KV) : jw P T.t #[(0, (.slice p0 l0 c0))] w K = K (.agg #[(.slice p0 l0 c0)]) w := .trans (by kernel_rfl) rfl
@[simp] theorem buc (v : Value) (w : World) (K : KV) : ug P T.t v w K = K (.iface T.t v) w := .trans (by kernel_rfl) rfl
@[simp] theorem bov (x0 : Int) (c1_0 c1_1 : Value) (x2 : Int) (w : World) (K : KV) : jw P T.x #[(0, (.int .u64 x0)), (1, (.agg #[c1_0, c1_1])), (2, (.int .i64 x2))] w K = K (.agg #[(.int .u64 x0), c1_0, c1_1, (.int .i64 x2)]) w := .trans (by kernel_rfl) rfl
@[simp] theorem bru (v : Value) (w : World) (K : KV) : ug P T.x v w K = K (.iface T.x v) w := .trans (by kernel_rfl) rfl
@[simp] theorem bup (x0 : Int) (c1_0 c1_1 : Value) (bo2 : Bool) (c3_0 c3_1 : Value) (x4 : Int) (bo5 : Bool) (w : World) (K : KV) : jw P T.m #[(0, (.int .u64 x0)), (1, (.agg #[c1_0, c1_1])), (2, (.bool bo2)), (3, (.agg #[c3_0, c3_1])), (4, (.int .i64 x4)), (5, (.bool bo5))] w K = K (.agg #[(.int .u64 x0), c1_0, c1_1, (.bool bo2), c3_0, c3_1, (.int .i64 x4), (.bool bo5)]) w := .trans (by kernel_rfl) rfl
@[simp] theorem buk (v : Value) (w : World) (K : KV) : ug P T.m v w K = K (.iface T.m v) w := .trans (by kernel_rfl) rfl
@[simp] theorem bno (x0 : Int) (x1 : Int) (w : World) (K : KV) : jw P T.y #[(0, (.int .u64 x0)), (1, (.int .i64 x1))] w K = K (.agg #[(.int .u64 x0), (.int .i64 x1)]) w := .trans (by kernel_rfl) rfl
@[simp] theorem brb (v : Value) (w : World) (K : KV) : ug P T.y v w K = K (.iface T.y v) w := .trans (by kernel_rfl) rfl
@[simp] theorem bsj (x0 : Int) (c1_0 c1_1 : Value) (p2 : Option Addr) (l2 c2 : Nat) (w : World) (K : KV) : jw P T.h #[(0, (.int .u64 x0)), (1, (.agg #[c1_0, c1_1])), (2, (.slice p2 l2 c2))] w K = K (.agg #[(.int .u64 x0), c1_0, c1_1, (.slice p2 l2 c2)]) w := .trans (by kernel_rfl) rfl
@[simp] theorem bul (v : Value) (w : World) (K : KV) : ug P T.h v w K = K (.iface T.h v) w := .trans (by kernel_rfl) rfl
@[simp] theorem bnu (x0 : Int) (p1 : Option Addr) (l1 c1 : Nat) (w : World) (K : KV) : jw P T.n #[(0, (.int .u64 x0)), (1, (.slice p1 l1 c1))] w K = K (.agg #[(.int .u64 x0), (.slice p1 l1 c1)]) w := .trans (by kernel_rfl) rfl
@[simp] theorem bou (b i : Nat) (w : World) (K : KV) : faT P T.ab (.pointer (some ⟨b, i, none⟩)) 3 w K = K (.pointer (some ⟨b, i + 3, none⟩)) w := .trans (by kernel_rfl) rfl
@[simp] theorem bri (b i : Nat) (w : World) (K : KV) : faT P T.aa (.pointer (some ⟨b, i, none⟩)) 1 w K = K (.pointer (some ⟨b, i + 1, none⟩)) w := .trans (by kernel_rfl) rfl
@[simp] theorem bqw (b i : Nat) (p : Option Addr) (l c : Nat) (w : World) (K : KV) : stT P T.l (.pointer (some ⟨b, i, none⟩)) (.slice p l c) w K = st1 P b i (.slice p l c) w K := .trans (by kernel_rfl) rfl
@[simp] theorem bof (x0 : Int) (x1 : Int) (w : World) (K : KV) : jw P T.a #[(0, (.int .i64 x0)), (1, (.int .u64 x1))] w K = K (.agg #[(.int .i64 x0), (.int .u64 x1), (.int .u64 0), (.int .u64 0), (.int .u64 0), (.int .u64 0), (.int .i64 0), (.bool false), (.slice none 0 0), (.slice none 0 0), (.slice none 0 0)]) w := .trans (by kernel_rfl) rfl
@[simp] theorem bnl (b i : Nat) (p : Option Addr) (l c : Nat) (w : World) (K : KV) : stT P T.f (.pointer (some ⟨b, i, none⟩)) (.slice p l c) w K = st1 P b i (.slice p l c) w K := .trans (by kernel_rfl) rfl
@[simp] theorem bty (b i : Nat) (p : Option Addr) (l c : Nat) (w : World) (K : KV) : stT P T.i (.pointer (some ⟨b, i, none⟩)) (.slice p l c) w K = st1 P b i (.slice p l c) w K := .trans (by kernel_rfl) rfl
@[simp] theorem bsp (w : World) (K : KV) : alT P T.q w K = K (.pointer (some ⟨w.heap.size, 0, none⟩)) (w.alloc (.cells #[(.int .u64 0), (.int .u64 0), (.int .i64 0)] T.q)) := .trans (by kernel_rfl) rfl
@[simp] theorem bua (b i : Nat) (c_0 c_1 c_2 : Value) (w : World) (K : KV) : stT P T.q (.pointer (some ⟨b, i, none⟩)) (.agg #[c_0, c_1, c_2]) w K = stN P b i [c_0, c_1, c_2] w K := .trans (by kernel_rfl) rfl
@[simp] theorem boe (b i : Nat) (w : World) (K : KV) : faT P T.q (.pointer (some ⟨b, i, none⟩)) 0 w K = K (.pointer (some ⟨b, i, none⟩)) w := .trans (by kernel_rfl) rfl
@[simp] theorem bti (b i : Nat) (w : World) (K : KV) : faT P T.q (.pointer (some ⟨b, i, none⟩)) 1 w K = K (.pointer (some ⟨b, i + 1, none⟩)) w := .trans (by kernel_rfl) rfl
@[simp] theorem bnw (b i : Nat) (w : World) (K : KV) : faT P T.q (.pointer (some ⟨b, i, none⟩)) 2 w K = K (.pointer (some ⟨b, i + 2, none⟩)) w := .trans (by kernel_rfl) rfl
@[simp] theorem btd (p0 : Option Addr) (l0 c0 : Nat) (w : World) (K : KV) : jw P T.ag #[(0, (.slice p0 l0 c0))] w K = K (.agg #[(.slice p0 l0 c0), (.int .i64 0)]) w := .trans (by kernel_rfl) rfl
@[simp] theorem buz (x0 : Int) (x1 : Int) (x2 : Int) (x3 : Int) (x4 : Int) (w : World) (K : KV) : jw P T.e #[(0, (.int .u64 x0)), (1, (.int .u64 x1)), (2, (.int .u64 x2)), (3, (.int .u64 x3)), (4, (.int .u64 x4))] w K = K (.agg #[(.int .u64 x0), (.int .u64 x1), (.int .u64 x2), (.int .u64 x3), (.int .u64 x4), (.string ⟨#[]⟩), (.string ⟨#[]⟩), (.bool false)]) w := .trans (by kernel_rfl) rfl
@[simp] theorem buw (b i : Nat) (w : World) (K : KV) : faT P T.e (.pointer (some ⟨b, i, none⟩)) 7 w K = K (.pointer (some ⟨b, i + 7, none⟩)) w := .trans (by kernel_rfl) rfl
@[simp] theorem boc (b i : Nat) (s : ByteArray) (w : World) (K : KV) : stT P T.ae (.pointer (some ⟨b, i, none⟩)) (.string s) w K = st1 P b i (.string s) w K := .trans (by kernel_rfl) rfl
@[simp] theorem bpc (b i : Nat) (w : World) (K : KV) : faT P T.ag (.pointer (some ⟨b, i, none⟩)) 1 w K = K (.pointer (some ⟨b, i + 1, none⟩)) w := .trans (by kernel_rfl) rfl
@[simp] theorem bqv (b i : Nat) (w : World) (K : KV) : ldT P T.v (.pointer (some ⟨b, i, none⟩)) w K = ld1 P b i w K := .trans (by kernel_rfl) rfl
@[simp] theorem btm (b i : Nat) (x : Int) (w : World) (K : KV) : stT P T.v (.pointer (some ⟨b, i, none⟩)) (.int .i64 x) w K = st1 P b i (.int .i64 x) w K := .trans (by kernel_rfl) rfl
@[simp] theorem bun  (w : World) (K : KV) : jw P T.e #[] w K = K (.agg #[(.int .u64 0), (.int .u64 0), (.int .u64 0), (.int .u64 0), (.int .u64 0), (.string ⟨#[]⟩), (.string ⟨#[]⟩), (.bool false)]) w := .trans (by kernel_rfl) rfl
@[simp] theorem bqo (b i : Nat) (w : World) (K : KV) : faT P T.ag (.pointer (some ⟨b, i, none⟩)) 0 w K = K (.pointer (some ⟨b, i, none⟩)) w := .trans (by kernel_rfl) rfl
@[simp] theorem bnz (v : Value) (w : World) (K : KV) : taT P (.iface T.r v) T.an T.r true w K = K (.tuple #[v, .bool true]) w := .trans (by kernel_rfl) rfl
@[simp] theorem brm (w : World) (K : KV) : alT P T.r w K = K (.pointer (some ⟨w.heap.size, 0, none⟩)) (w.alloc (.cells #[(.int .u64 0), (.bool false), (.slice none 0 0)] T.r)) := .trans (by kernel_rfl) rfl
@[simp] theorem bnm (b i : Nat) (c_0 c_1 c_2 : Value) (w : World) (K : KV) : stT P T.r (.pointer (some ⟨b, i, none⟩)) (.agg #[c_0, c_1, c_2]) w K = stN P b i [c_0, c_1, c_2] w K := .trans (by kernel_rfl) rfl
@[simp] theorem bpp (b i : Nat) (w : World) (K : KV) : faT P T.r (.pointer (some ⟨b, i, none⟩)) 0 w K = K (.pointer (some ⟨b, i, none⟩)) w := .trans (by kernel_rfl) rfl
@[simp] theorem buv (b i : Nat) (w : World) (K : KV) : faT P T.r (.pointer (some ⟨b, i, none⟩)) 2 w K = K (.pointer (some ⟨b, i + 2, none⟩)) w := .trans (by kernel_rfl) rfl
@[simp] theorem brp (x0 : Int) (x1 : Int) (p2 : Option Addr) (l2 c2 : Nat) (w : World) (K : KV) : jw P T.a #[(0, (.int .i64 x0)), (1, (.int .u64 x1)), (6, (.slice p2 l2 c2))] w K = K (.agg #[(.int .i64 x0), (.int .u64 x1), (.int .u64 0), (.int .u64 0), (.int .u64 0), (.int .u64 0), (.int .i64 0), (.bool false), (.slice p2 l2 c2), (.slice none 0 0), (.slice none 0 0)]) w := .trans (by kernel_rfl) rfl
@[simp] theorem bqb (b i : Nat) (w : World) (K : KV) : faT P T.r (.pointer (some ⟨b, i, none⟩)) 1 w K = K (.pointer (some ⟨b, i + 1, none⟩)) w := .trans (by kernel_rfl) rfl
@[simp] theorem bpn (v : Value) (w : World) (K : KV) : taT P (.iface T.t v) T.an T.t true w K = K (.tuple #[v, .bool true]) w := .trans (by kernel_rfl) rfl
@[simp] theorem bug (w : World) (K : KV) : alT P T.t w K = K (.pointer (some ⟨w.heap.size, 0, none⟩)) (w.alloc (.cells #[(.slice none 0 0)] T.t)) := .trans (by kernel_rfl) rfl
@[simp] theorem buo (b i : Nat) (c_0 : Value) (w : World) (K : KV) : stT P T.t (.pointer (some ⟨b, i, none⟩)) (.agg #[c_0]) w K = stN P b i [c_0] w K := .trans (by kernel_rfl) rfl
@[simp] theorem bpm (b i : Nat) (w : World) (K : KV) : faT P T.t (.pointer (some ⟨b, i, none⟩)) 0 w K = K (.pointer (some ⟨b, i, none⟩)) w := .trans (by kernel_rfl) rfl
@[simp] theorem bst (x0 : Int) (p1 : Option Addr) (l1 c1 : Nat) (w : World) (K : KV) : jw P T.a #[(0, (.int .i64 x0)), (7, (.slice p1 l1 c1))] w K = K (.agg #[(.int .i64 x0), (.int .u64 0), (.int .u64 0), (.int .u64 0), (.int .u64 0), (.int .u64 0), (.int .i64 0), (.bool false), (.slice none 0 0), (.slice p1 l1 c1), (.slice none 0 0)]) w := .trans (by kernel_rfl) rfl
@[simp] theorem brx (v : Value) (w : World) (K : KV) : taT P (.iface T.m v) T.an T.m true w K = K (.tuple #[v, .bool true]) w := .trans (by kernel_rfl) rfl
@[simp] theorem btp (w : World) (K : KV) : alT P T.m w K = K (.pointer (some ⟨w.heap.size, 0, none⟩)) (w.alloc (.cells #[(.int .u64 0), (.int .u64 0), (.int .u64 0), (.bool false), (.int .u64 0), (.int .u64 0), (.int .i64 0), (.bool false)] T.m)) := .trans (by kernel_rfl) rfl
@[simp] theorem boz (b i : Nat) (c_0 c_1 c_2 c_3 c_4 c_5 c_6 c_7 : Value) (w : World) (K : KV) : stT P T.m (.pointer (some ⟨b, i, none⟩)) (.agg #[c_0, c_1, c_2, c_3, c_4, c_5, c_6, c_7]) w K = stN P b i [c_0, c_1, c_2, c_3, c_4, c_5, c_6, c_7] w K := .trans (by kernel_rfl) rfl
@[simp] theorem bsc (b i : Nat) (w : World) (K : KV) : faT P T.m (.pointer (some ⟨b, i, none⟩)) 0 w K = K (.pointer (some ⟨b, i, none⟩)) w := .trans (by kernel_rfl) rfl
@[simp] theorem bto (b i : Nat) (w : World) (K : KV) : faT P T.m (.pointer (some ⟨b, i, none⟩)) 1 w K = K (.pointer (some ⟨b, i + 1, none⟩)) w := .trans (by kernel_rfl) rfl
@[simp] theorem bue (b i : Nat) (w : World) (K : KV) : faT P T.m (.pointer (some ⟨b, i, none⟩)) 2 w K = K (.pointer (some ⟨b, i + 3, none⟩)) w := .trans (by kernel_rfl) rfl
@[simp] theorem bry (b i : Nat) (w : World) (K : KV) : faT P T.m (.pointer (some ⟨b, i, none⟩)) 3 w K = K (.pointer (some ⟨b, i + 4, none⟩)) w := .trans (by kernel_rfl) rfl
@[simp] theorem brg (b i : Nat) (w : World) (K : KV) : faT P T.m (.pointer (some ⟨b, i, none⟩)) 4 w K = K (.pointer (some ⟨b, i + 6, none⟩)) w := .trans (by kernel_rfl) rfl
@[simp] theorem boi (x0 : Int) (x1 : Int) (c2_0 c2_1 : Value) (bo3 : Bool) (c4_0 c4_1 : Value) (x5 : Int) (w : World) (K : KV) : jw P T.a #[(0, (.int .i64 x0)), (1, (.int .u64 x1)), (2, (.agg #[c2_0, c2_1])), (5, (.bool bo3)), (3, (.agg #[c4_0, c4_1])), (4, (.int .i64 x5))] w K = K (.agg #[(.int .i64 x0), (.int .u64 x1), c2_0, c2_1, c4_0, c4_1, (.int .i64 x5), (.bool bo3), (.slice none 0 0), (.slice none 0 0), (.slice none 0 0)]) w := .trans (by kernel_rfl) rfl
@[simp] theorem bsz (b i : Nat) (w : World) (K : KV) : faT P T.m (.pointer (some ⟨b, i, none⟩)) 5 w K = K (.pointer (some ⟨b, i + 7, none⟩)) w := .trans (by kernel_rfl) rfl
@[simp] theorem bpu (v : Value) (w : World) (K : KV) : taT P (.iface T.y v) T.an T.y true w K = K (.tuple #[v, .bool true]) w := .trans (by kernel_rfl) rfl
@[simp] theorem bqz (w : World) (K : KV) : alT P T.y w K = K (.pointer (some ⟨w.heap.size, 0, none⟩)) (w.alloc (.cells #[(.int .u64 0), (.int .i64 0)] T.y)) := .trans (by kernel_rfl) rfl
@[simp] theorem bon (b i : Nat) (c_0 c_1 : Value) (w : World) (K : KV) : stT P T.y (.pointer (some ⟨b, i, none⟩)) (.agg #[c_0, c_1]) w K = stN P b i [c_0, c_1] w K := .trans (by kernel_rfl) rfl
@[simp] theorem bnn (b i : Nat) (w : World) (K : KV) : faT P T.y (.pointer (some ⟨b, i, none⟩)) 0 w K = K (.pointer (some ⟨b, i, none⟩)) w := .trans (by kernel_rfl) rfl
@[simp] theorem bub (b i : Nat) (w : World) (K : KV) : faT P T.y (.pointer (some ⟨b, i, none⟩)) 1 w K = K (.pointer (some ⟨b, i + 1, none⟩)) w := .trans (by kernel_rfl) rfl
@[simp] theorem brw (x0 : Int) (x1 : Int) (x2 : Int) (w : World) (K : KV) : jw P T.a #[(0, (.int .i64 x0)), (1, (.int .u64 x1)), (4, (.int .i64 x2))] w K = K (.agg #[(.int .i64 x0), (.int .u64 x1), (.int .u64 0), (.int .u64 0), (.int .u64 0), (.int .u64 0), (.int .i64 x2), (.bool false), (.slice none 0 0), (.slice none 0 0), (.slice none 0 0)]) w := .trans (by kernel_rfl) rfl
@[simp] theorem bpe (v : Value) (w : World) (K : KV) : taT P (.iface T.n v) T.an T.n true w K = K (.tuple #[v, .bool true]) w := .trans (by kernel_rfl) rfl
@[simp] theorem bsr (b i : Nat) (w : World) (K : KV) : faT P T.n (.pointer (some ⟨b, i, none⟩)) 0 w K = K (.pointer (some ⟨b, i, none⟩)) w := .trans (by kernel_rfl) rfl
@[simp] theorem bqa (b i : Nat) (w : World) (K : KV) : faT P T.e (.pointer (some ⟨b, i, none⟩)) 3 w K = K (.pointer (some ⟨b, i + 3, none⟩)) w := .trans (by kernel_rfl) rfl
@[simp] theorem btk (x0 : Int) (x1 : Int) (w : World) (K : KV) : bsT P T.ac 2 #[(0, (.int .i64 x0)), (1, (.int .i64 x1))] w K = K (.slice (some ⟨w.heap.size, 0, none⟩) 2 2) (w.alloc (.cells #[(.int .i64 x0), (.int .i64 x1)] T.b)) := .trans (by kernel_rfl) rfl
@[simp] theorem bpy (rx ry : Operand)  (w : World) (K : KV) : gh P .eql T.bd rx ry (.pointer none) (.pointer none) w K = K (.bool true) w := .trans (by kernel_rfl) rfl
@[simp] theorem bsf (rx ry : Operand) (a : Addr) (w : World) (K : KV) : gh P .eql T.bd rx ry (.pointer (some a)) (.pointer none) w K = K (.bool false) w := .trans (by kernel_rfl) rfl
@[simp] theorem bpr (rx ry : Operand) (l c : Nat) (w : World) (K : KV) : gh P .eql T.i rx ry (.slice none l c) (.slice none 0 0) w K = K (.bool true) w := .trans (by kernel_rfl) rfl
@[simp] theorem bre (rx ry : Operand) (a : Addr) (l c : Nat) (w : World) (K : KV) : gh P .eql T.i rx ry (.slice (some a) l c) (.slice none 0 0) w K = K (.bool false) w := .trans (by kernel_rfl) rfl
@[simp] theorem brt  (w : World) (K : KV) : bsT P T.i 0 #[] w K = K (.slice (some ⟨w.heap.size, 0, none⟩) 0 0) (w.alloc (.cells #[] T.q)) := .trans (by kernel_rfl) rfl
@[simp] theorem brr (rx ry : Operand) (l c : Nat) (w : World) (K : KV) : gh P .eql T.j rx ry (.slice none l c) (.slice none 0 0) w K = K (.bool true) w := .trans (by kernel_rfl) rfl
@[simp] theorem bsk (rx ry : Operand) (a : Addr) (l c : Nat) (w : World) (K : KV) : gh P .eql T.j rx ry (.slice (some a) l c) (.slice none 0 0) w K = K (.bool false) w := .trans (by kernel_rfl) rfl
@[simp] theorem buu (x0 : Int) (p1 : Option Addr) (l1 c1 : Nat) (w : World) (K : KV) : jw P T.ab #[(1, (.int .i64 x0)), (2, (.slice p1 l1 c1))] w K = K (.agg #[(.int .i64 0), (.int .i64 x0), (.slice p1 l1 c1), (.int .i64 0)]) w := .trans (by kernel_rfl) rfl
@[simp] theorem bux (rx ry : Operand)  (w : World) (K : KV) : gh P .neq T.z rx ry (.pointer none) (.pointer none) w K = K (.bool false) w := .trans (by kernel_rfl) rfl
@[simp] theorem bnr (rx ry : Operand) (a : Addr) (w : World) (K : KV) : gh P .neq T.z rx ry (.pointer (some a)) (.pointer none) w K = K (.bool true) w := .trans (by kernel_rfl) rfl
@[simp] theorem bpj (b i : Nat) (w : World) (K : KV) : faT P T.ad (.pointer (some ⟨b, i, none⟩)) 0 w K = K (.pointer (some ⟨b, i, none⟩)) w := .trans (by kernel_rfl) rfl
@[simp] theorem bss  (w : World) (K : KV) : jw P T.af #[] w K = K (.agg #[(.slice none 0 0), (.slice none 0 0)]) w := .trans (by kernel_rfl) rfl
@[simp] theorem brq (b i : Nat) (w : World) (K : KV) : faT P T.e (.pointer (some ⟨b, i, none⟩)) 4 w K = K (.pointer (some ⟨b, i + 4, none⟩)) w := .trans (by kernel_rfl) rfl
@[simp] theorem btx : ni P T.bc = true := .trans (by kernel_rfl) rfl
@[simp] theorem bqn : szE P T.bc = 1 := .trans (by kernel_rfl) rfl
@[simp] theorem bnt (x0 : Int) (x1 : Int) (w : World) (K : KV) : bsT P T.bc 2 #[(0, (.int .i64 x0)), (1, (.int .i64 x1))] w K = K (.slice (some ⟨w.heap.size, 0, none⟩) 2 2) (w.alloc (.cells #[(.int .i64 x0), (.int .i64 x1)] T.v)) := .trans (by kernel_rfl) rfl
@[simp] theorem btb (b i : Nat) (w : World) (K : KV) : faT P T.e (.pointer (some ⟨b, i, none⟩)) 2 w K = K (.pointer (some ⟨b, i + 2, none⟩)) w := .trans (by kernel_rfl) rfl
@[simp] theorem btv (w : World) (K : KV) : alT P T.w w K = K (.pointer (some ⟨w.heap.size, 0, none⟩)) (w.alloc (.cells #[(.int .u64 0)] T.w)) := .trans (by kernel_rfl) rfl
@[simp] theorem bpv (b i : Nat) (x : Int) (w : World) (K : KV) : stT P T.w (.pointer (some ⟨b, i, none⟩)) (.int .u64 x) w K = st1 P b i (.int .u64 x) w K := .trans (by kernel_rfl) rfl
theorem mt.ar : ub P T.ar .u64 T.ao (.bool false) := ub.mk' (key := T.g) (by kernel_rfl) (by kernel_rfl) (by kernel_rfl)
@[simp] theorem bqd : ni P T.au = true := .trans (by kernel_rfl) rfl
@[simp] theorem bot : szE P T.au = 1 := .trans (by kernel_rfl) rfl
theorem et.au : na P T.au T.ap 1 4 := na.mk' (by kernel_rfl) (by kernel_rfl) (by kernel_rfl)
@[simp] theorem bso (b i : Nat) (w : World) (K : KV) : ldT P T.ap (.pointer (some ⟨b, i, none⟩)) w K = ld1 P b i w K := .trans (by kernel_rfl) rfl
@[simp] theorem buj (b i : Nat) (w : World) (K : KV) : ldT P T.w (.pointer (some ⟨b, i, none⟩)) w K = ld1 P b i w K := .trans (by kernel_rfl) rfl
@[simp] theorem boj (x0 : Int) (w : World) (K : KV) : bsT P T.au 1 #[(0, (.int .i32 x0))] w K = K (.slice (some ⟨w.heap.size, 0, none⟩) 1 1) (w.alloc (.cells #[(.int .i32 x0)] T.ap)) := .trans (by kernel_rfl) rfl
end Go.Proofs.YtfnhoaemapheoaaGreat
