/-
  Printed by wip/Shallow.lean: what the operations come to at this seat's types. No condition.
-/
import Derived.Test.YtfnhoaemapheoaaGreatN
import Derived.Test.YtfnhoaemapheoaaGreatZEng
set_option maxRecDepth 1000000
namespace Go.Proofs.YtfnhoaemapheoaaGreat
open Go.Eng
@[simp] theorem bqa : ki P T.am = true := .trans (by kernel_rfl) rfl
@[simp] theorem bqb : szE P T.am = 6 := .trans (by kernel_rfl) rfl
theorem et.am : ju P T.am T.k 6 112 := ju.mk' (by kernel_rfl) (by kernel_rfl) (by kernel_rfl)
@[simp] theorem bqc (rx ry : Operand) (a : Addr) (w : World) (K : KV) : en P .eql T.ag rx ry (.pointer (some a)) (.pointer none) w K = K (.bool false) w := .trans (by kernel_rfl) rfl
theorem et.ao : ju P T.ao T.ak 1 8 := ju.mk' (by kernel_rfl) (by kernel_rfl) (by kernel_rfl)
@[simp] theorem bqd (p0 : Option Addr) (w : World) (K : KV) : bsT P T.ao 1 #[(0, (.pointer p0))] w K = K (.slice (some ⟨w.heap.size, 0, none⟩) 1 1) (w.alloc (.cells #[(.pointer p0)] T.ak)) := .trans (by kernel_rfl) rfl
@[simp] theorem bpx : ki P T.w = true := .trans (by kernel_rfl) rfl
@[simp] theorem bpj : szE P T.w = 1 := .trans (by kernel_rfl) rfl
theorem et.w : ju P T.w T.ag 1 8 := ju.mk' (by kernel_rfl) (by kernel_rfl) (by kernel_rfl)
@[simp] theorem bpr (p0 : Option Addr) (w : World) (K : KV) : bsT P T.w 1 #[(0, (.pointer p0))] w K = K (.slice (some ⟨w.heap.size, 0, none⟩) 1 1) (w.alloc (.cells #[(.pointer p0)] T.ag)) := .trans (by kernel_rfl) rfl
@[simp] theorem bom (b i : Nat) (w : World) (K : KV) : ldT P T.k (.pointer (some ⟨b, i, none⟩)) w K = ldN P 6 b i w K := .trans (by kernel_rfl) rfl
@[simp] theorem bpm (w : World) (K : KV) : alT P T.k w K = K (.pointer (some ⟨w.heap.size, 0, none⟩)) (w.alloc (.cells #[(.int .u64 0), (.int .i64 0), (.slice none 0 0), (.slice none 0 0), (.slice none 0 0), (.slice none 0 0)] T.k)) := .trans (by kernel_rfl) rfl
@[simp] theorem bpl (b i : Nat) (c_0 c_1 c_2 c_3 c_4 c_5 : Value) (w : World) (K : KV) : stT P T.k (.pointer (some ⟨b, i, none⟩)) (.agg #[c_0, c_1, c_2, c_3, c_4, c_5]) w K = stN P b i [c_0, c_1, c_2, c_3, c_4, c_5] w K := .trans (by kernel_rfl) rfl
@[simp] theorem bph (b i : Nat) (w : World) (K : KV) : faT P T.k (.pointer (some ⟨b, i, none⟩)) 2 w K = K (.pointer (some ⟨b, i + 2, none⟩)) w := .trans (by kernel_rfl) rfl
@[simp] theorem boh (b i : Nat) (w : World) (K : KV) : ldT P T.g (.pointer (some ⟨b, i, none⟩)) w K = ld1 P b i w K := .trans (by kernel_rfl) rfl
@[simp] theorem bpw : ki P T.g = true := .trans (by kernel_rfl) rfl
@[simp] theorem bon : szE P T.g = 1 := .trans (by kernel_rfl) rfl
theorem et.g : ju P T.g T.b 1 8 := ju.mk' (by kernel_rfl) (by kernel_rfl) (by kernel_rfl)
@[simp] theorem bny (b i : Nat) (w : World) (K : KV) : faT P T.k (.pointer (some ⟨b, i, none⟩)) 3 w K = K (.pointer (some ⟨b, i + 3, none⟩)) w := .trans (by kernel_rfl) rfl
@[simp] theorem bos (b i : Nat) (w : World) (K : KV) : faT P T.k (.pointer (some ⟨b, i, none⟩)) 4 w K = K (.pointer (some ⟨b, i + 4, none⟩)) w := .trans (by kernel_rfl) rfl
@[simp] theorem bnz (b i : Nat) (w : World) (K : KV) : faT P T.k (.pointer (some ⟨b, i, none⟩)) 0 w K = K (.pointer (some ⟨b, i, none⟩)) w := .trans (by kernel_rfl) rfl
@[simp] theorem bok (b i : Nat) (w : World) (K : KV) : ldT P T.e (.pointer (some ⟨b, i, none⟩)) w K = ld1 P b i w K := .trans (by kernel_rfl) rfl
@[simp] theorem boc (b i : Nat) (w : World) (K : KV) : faT P T.k (.pointer (some ⟨b, i, none⟩)) 1 w K = K (.pointer (some ⟨b, i + 1, none⟩)) w := .trans (by kernel_rfl) rfl
@[simp] theorem bot (b i : Nat) (w : World) (K : KV) : ldT P T.l (.pointer (some ⟨b, i, none⟩)) w K = ld1 P b i w K := .trans (by kernel_rfl) rfl
@[simp] theorem bog (x0 : Int) (x1 : Int) (w : World) (K : KV) : ik P T.c #[(0, (.int .u64 x0)), (1, (.int .u64 x1))] w K = K (.agg #[(.int .u64 x0), (.int .u64 x1)]) w := .trans (by kernel_rfl) rfl
@[simp] theorem boy (w : World) (K : KV) : alT P T.c w K = K (.pointer (some ⟨w.heap.size, 0, none⟩)) (w.alloc (.cells #[(.int .u64 0), (.int .u64 0)] T.c)) := .trans (by kernel_rfl) rfl
@[simp] theorem bor (b i : Nat) (c_0 c_1 : Value) (w : World) (K : KV) : stT P T.c (.pointer (some ⟨b, i, none⟩)) (.agg #[c_0, c_1]) w K = stN P b i [c_0, c_1] w K := .trans (by kernel_rfl) rfl
@[simp] theorem bpg  (w : World) (K : KV) : ik P T.c #[] w K = K (.agg #[(.int .u64 0), (.int .u64 0)]) w := .trans (by kernel_rfl) rfl
@[simp] theorem boa (b i : Nat) (w : World) (K : KV) : ldT P T.b (.pointer (some ⟨b, i, none⟩)) w K = ld1 P b i w K := .trans (by kernel_rfl) rfl
@[simp] theorem bpn (b i : Nat) (w : World) (K : KV) : ldT P T.c (.pointer (some ⟨b, i, none⟩)) w K = ldN P 2 b i w K := .trans (by kernel_rfl) rfl
@[simp] theorem bpz (x0 : Int) (x1 : Int) (c2_0 c2_1 : Value) (w : World) (K : KV) : ik P T.a #[(0, (.int .i64 x0)), (1, (.int .u64 x1)), (2, (.agg #[c2_0, c2_1]))] w K = K (.agg #[(.int .i64 x0), (.int .u64 x1), c2_0, c2_1, (.int .u64 0), (.int .u64 0), (.int .i64 0), (.bool false), (.slice none 0 0), (.slice none 0 0), (.slice none 0 0)]) w := .trans (by kernel_rfl) rfl
@[simp] theorem bpb (w : World) (K : KV) : alT P T.a w K = K (.pointer (some ⟨w.heap.size, 0, none⟩)) (w.alloc (.cells #[(.int .i64 0), (.int .u64 0), (.int .u64 0), (.int .u64 0), (.int .u64 0), (.int .u64 0), (.int .i64 0), (.bool false), (.slice none 0 0), (.slice none 0 0), (.slice none 0 0)] T.a)) := .trans (by kernel_rfl) rfl
@[simp] theorem bow (b i : Nat) (c_0 c_1 c_2 c_3 c_4 c_5 c_6 c_7 c_8 c_9 c_10 : Value) (w : World) (K : KV) : stT P T.a (.pointer (some ⟨b, i, none⟩)) (.agg #[c_0, c_1, c_2, c_3, c_4, c_5, c_6, c_7, c_8, c_9, c_10]) w K = stN P b i [c_0, c_1, c_2, c_3, c_4, c_5, c_6, c_7, c_8, c_9, c_10] w K := .trans (by kernel_rfl) rfl
@[simp] theorem bof (b i : Nat) (w : World) (K : KV) : faT P T.a (.pointer (some ⟨b, i, none⟩)) 5 w K = K (.pointer (some ⟨b, i + 7, none⟩)) w := .trans (by kernel_rfl) rfl
@[simp] theorem boo (b i : Nat) (w : World) (K : KV) : ldT P T.au (.pointer (some ⟨b, i, none⟩)) w K = ld1 P b i w K := .trans (by kernel_rfl) rfl
@[simp] theorem boz : ki P T.bc = true := .trans (by kernel_rfl) rfl
@[simp] theorem bod : szE P T.bc = 1 := .trans (by kernel_rfl) rfl
@[simp] theorem boq (b i : Nat) (bo : Bool) (w : World) (K : KV) : stT P T.au (.pointer (some ⟨b, i, none⟩)) (.bool bo) w K = st1 P b i (.bool bo) w K := .trans (by kernel_rfl) rfl
@[simp] theorem boj (b i : Nat) (w : World) (K : KV) : faT P T.a (.pointer (some ⟨b, i, none⟩)) 4 w K = K (.pointer (some ⟨b, i + 6, none⟩)) w := .trans (by kernel_rfl) rfl
@[simp] theorem bpa (b i : Nat) (w : World) (K : KV) : faT P T.a (.pointer (some ⟨b, i, none⟩)) 3 w K = K (.pointer (some ⟨b, i + 4, none⟩)) w := .trans (by kernel_rfl) rfl
@[simp] theorem boe (b i : Nat) (w : World) (K : KV) : ldT P T.ak (.pointer (some ⟨b, i, none⟩)) w K = ld1 P b i w K := .trans (by kernel_rfl) rfl
@[simp] theorem bpt (b i : Nat) (w : World) (K : KV) : faT P T.k (.pointer (some ⟨b, i, none⟩)) 5 w K = K (.pointer (some ⟨b, i + 5, none⟩)) w := .trans (by kernel_rfl) rfl
@[simp] theorem bpu (b i : Nat) (p : Option Addr) (w : World) (K : KV) : stT P T.ag (.pointer (some ⟨b, i, none⟩)) (.pointer p) w K = st1 P b i (.pointer p) w K := .trans (by kernel_rfl) rfl
@[simp] theorem bps (x0 : Int) (x1 : Int) (c2_0 c2_1 : Value) (x3 : Int) (w : World) (K : KV) : ik P T.a #[(0, (.int .i64 x0)), (1, (.int .u64 x1)), (2, (.agg #[c2_0, c2_1])), (4, (.int .i64 x3))] w K = K (.agg #[(.int .i64 x0), (.int .u64 x1), c2_0, c2_1, (.int .u64 0), (.int .u64 0), (.int .i64 x3), (.bool false), (.slice none 0 0), (.slice none 0 0), (.slice none 0 0)]) w := .trans (by kernel_rfl) rfl
@[simp] theorem boi (b i : Nat) (w : World) (K : KV) : ldT P T.a (.pointer (some ⟨b, i, none⟩)) w K = ldN P 11 b i w K := .trans (by kernel_rfl) rfl
@[simp] theorem bpd : ki P T.z = true := .trans (by kernel_rfl) rfl
@[simp] theorem bpc : szE P T.z = 11 := .trans (by kernel_rfl) rfl
theorem et.z : ju P T.z T.a 11 136 := ju.mk' (by kernel_rfl) (by kernel_rfl) (by kernel_rfl)
@[simp] theorem bpk (c0_0 c0_1 c0_2 c0_3 c0_4 c0_5 c0_6 c0_7 c0_8 c0_9 c0_10 : Value) (w : World) (K : KV) : bsT P T.z 1 #[(0, (.agg #[c0_0, c0_1, c0_2, c0_3, c0_4, c0_5, c0_6, c0_7, c0_8, c0_9, c0_10]))] w K = K (.slice (some ⟨w.heap.size, 0, none⟩) 1 1) (w.alloc (.cells #[c0_0, c0_1, c0_2, c0_3, c0_4, c0_5, c0_6, c0_7, c0_8, c0_9, c0_10] T.a)) := .trans (by kernel_rfl) rfl
@[simp] theorem bop (x0 : Int) (w : World) (K : KV) : bsT P T.g 1 #[(0, (.int .i64 x0))] w K = K (.slice (some ⟨w.heap.size, 0, none⟩) 1 1) (w.alloc (.cells #[(.int .i64 x0)] T.b)) := .trans (by kernel_rfl) rfl
@[simp] theorem bpe (b i : Nat) (w : World) (K : KV) : faT P T.a (.pointer (some ⟨b, i, none⟩)) 2 w K = K (.pointer (some ⟨b, i + 2, none⟩)) w := .trans (by kernel_rfl) rfl
@[simp] theorem bou  (w : World) (K : KV) : ik P T.a #[] w K = K (.agg #[(.int .i64 0), (.int .u64 0), (.int .u64 0), (.int .u64 0), (.int .u64 0), (.int .u64 0), (.int .i64 0), (.bool false), (.slice none 0 0), (.slice none 0 0), (.slice none 0 0)]) w := .trans (by kernel_rfl) rfl
@[simp] theorem bpv (b i : Nat) (w : World) (K : KV) : faT P T.a (.pointer (some ⟨b, i, none⟩)) 1 w K = K (.pointer (some ⟨b, i + 1, none⟩)) w := .trans (by kernel_rfl) rfl
@[simp] theorem bol (b i : Nat) (w : World) (K : KV) : faT P T.a (.pointer (some ⟨b, i, none⟩)) 0 w K = K (.pointer (some ⟨b, i, none⟩)) w := .trans (by kernel_rfl) rfl
@[simp] theorem bpp : ki P T.ad = true := .trans (by kernel_rfl) rfl
@[simp] theorem bov : szE P T.ad = 8 := .trans (by kernel_rfl) rfl
theorem et.ad : ju P T.ad T.ae 8 80 := ju.mk' (by kernel_rfl) (by kernel_rfl) (by kernel_rfl)
@[simp] theorem bpy (b i : Nat) (w : World) (K : KV) : faT P T.a (.pointer (some ⟨b, i, none⟩)) 6 w K = K (.pointer (some ⟨b, i + 8, none⟩)) w := .trans (by kernel_rfl) rfl
@[simp] theorem bob (b i : Nat) (w : World) (K : KV) : ldT P T.ad (.pointer (some ⟨b, i, none⟩)) w K = ld1 P b i w K := .trans (by kernel_rfl) rfl
@[simp] theorem bpo (b i : Nat) (w : World) (K : KV) : ldT P T.ae (.pointer (some ⟨b, i, none⟩)) w K = ldN P 8 b i w K := .trans (by kernel_rfl) rfl
@[simp] theorem bpi : ki P T.h = true := .trans (by kernel_rfl) rfl
@[simp] theorem bpf : szE P T.h = 1 := .trans (by kernel_rfl) rfl
theorem et.h : ju P T.h T.e 1 8 := ju.mk' (by kernel_rfl) (by kernel_rfl) (by kernel_rfl)
@[simp] theorem bjk (rx ry : Operand) (a : Addr) (w : World) (K : KV) : en P .neq T.ag rx ry (.pointer (some a)) (.pointer none) w K = K (.bool true) w := .trans (by kernel_rfl) rfl
@[simp] theorem bnv (c_0 c_1 c_2 c_3 c_4 : Value) (w : World) (K : KV) : fdT P T.f (.agg #[c_0, c_1, c_2, c_3, c_4]) 0 w K = K (.agg #[c_0, c_1]) w := .trans (by kernel_rfl) rfl
@[simp] theorem bih (x0 : Int) (r1 : Option Nat) (w : World) (K : KV) : ik P T.ah #[(0, (.int .i64 x0)), (1, (.map r1))] w K = K (.agg #[(.int .i64 x0), (.map r1), (.int .i64 0), (.bool false), (.bool false)]) w := .trans (by kernel_rfl) rfl
@[simp] theorem blu (p0 : Option Addr) (p1 : Option Addr) (r2 : Option Nat) (w : World) (K : KV) : ik P T.m #[(0, (.pointer p0)), (1, (.pointer p1)), (2, (.map r2))] w K = K (.agg #[(.pointer p0), (.pointer p1), (.map r2), (.bool false)]) w := .trans (by kernel_rfl) rfl
@[simp] theorem bnq : ki P T.i = true := .trans (by kernel_rfl) rfl
@[simp] theorem bhy : szE P T.i = 1 := .trans (by kernel_rfl) rfl
theorem et.i : ju P T.i T.d 1 24 := ju.mk' (by kernel_rfl) (by kernel_rfl) (by kernel_rfl)
@[simp] theorem bjx (b i : Nat) (w : World) (K : KV) : ldT P T.d (.pointer (some ⟨b, i, none⟩)) w K = ld1 P b i w K := .trans (by kernel_rfl) rfl
@[simp] theorem bnu (w : World) (K : KV) : alT P T.f w K = K (.pointer (some ⟨w.heap.size, 0, none⟩)) (w.alloc (.cells #[(.int .u64 0), (.int .u64 0), (.int .u64 0), (.int .u64 0), (.int .i64 0)] T.f)) := .trans (by kernel_rfl) rfl
@[simp] theorem bjn (b i : Nat) (c_0 c_1 c_2 c_3 c_4 : Value) (w : World) (K : KV) : stT P T.f (.pointer (some ⟨b, i, none⟩)) (.agg #[c_0, c_1, c_2, c_3, c_4]) w K = stN P b i [c_0, c_1, c_2, c_3, c_4] w K := .trans (by kernel_rfl) rfl
@[simp] theorem bkx (b i : Nat) (w : World) (K : KV) : faT P T.m (.pointer (some ⟨b, i, none⟩)) 2 w K = K (.pointer (some ⟨b, i + 2, none⟩)) w := .trans (by kernel_rfl) rfl
@[simp] theorem bmg (b i : Nat) (w : World) (K : KV) : ldT P T.p (.pointer (some ⟨b, i, none⟩)) w K = ld1 P b i w K := .trans (by kernel_rfl) rfl
@[simp] theorem bhw (b i : Nat) (w : World) (K : KV) : ldT P T.f (.pointer (some ⟨b, i, none⟩)) w K = ldN P 5 b i w K := .trans (by kernel_rfl) rfl
theorem mt.p : ul P T.p .u64 T.f (.agg #[(.int .u64 0), (.int .u64 0), (.int .u64 0), (.int .u64 0), (.int .i64 0)]) := ul.mk' (key := T.e) (by kernel_rfl) (by kernel_rfl) (by kernel_rfl)
@[simp] theorem bkf (b i : Nat) (w : World) (K : KV) : ldT P T.ag (.pointer (some ⟨b, i, none⟩)) w K = ld1 P b i w K := .trans (by kernel_rfl) rfl
@[simp] theorem bhr (b i : Nat) (w : World) (K : KV) : faT P T.c (.pointer (some ⟨b, i, none⟩)) 0 w K = K (.pointer (some ⟨b, i, none⟩)) w := .trans (by kernel_rfl) rfl
@[simp] theorem bkj (b i : Nat) (w : World) (K : KV) : faT P T.c (.pointer (some ⟨b, i, none⟩)) 1 w K = K (.pointer (some ⟨b, i + 1, none⟩)) w := .trans (by kernel_rfl) rfl
@[simp] theorem bhg (rx ry : Operand) (a : Addr) (w : World) (K : KV) : en P .eql T.ak rx ry (.pointer (some a)) (.pointer none) w K = K (.bool false) w := .trans (by kernel_rfl) rfl
@[simp] theorem bmf (b i : Nat) (w : World) (K : KV) : faT P T.ah (.pointer (some ⟨b, i, none⟩)) 1 w K = K (.pointer (some ⟨b, i + 1, none⟩)) w := .trans (by kernel_rfl) rfl
@[simp] theorem bib (b i : Nat) (w : World) (K : KV) : ldT P T.o (.pointer (some ⟨b, i, none⟩)) w K = ld1 P b i w K := .trans (by kernel_rfl) rfl
theorem mt.o : ul P T.o .i64 T.bb (.pointer none) := ul.mk' (key := T.b) (by kernel_rfl) (by kernel_rfl) (by kernel_rfl)
@[simp] theorem bjt (b i : Nat) (w : World) (K : KV) : faT P T.ai (.pointer (some ⟨b, i, none⟩)) 1 w K = K (.pointer (some ⟨b, i + 1, none⟩)) w := .trans (by kernel_rfl) rfl
@[simp] theorem bju : ki P T.d = true := .trans (by kernel_rfl) rfl
@[simp] theorem bhb : szE P T.d = 1 := .trans (by kernel_rfl) rfl
theorem et.d : ju P T.d T.aq 1 1 := ju.mk' (by kernel_rfl) (by kernel_rfl) (by kernel_rfl)
@[simp] theorem bjz (b i : Nat) (w : World) (K : KV) : faT P T.ai (.pointer (some ⟨b, i, none⟩)) 0 w K = K (.pointer (some ⟨b, i, none⟩)) w := .trans (by kernel_rfl) rfl
@[simp] theorem bnh (p0 : Option Addr) (l0 c0 : Nat) (p1 : Option Addr) (l1 c1 : Nat) (w : World) (K : KV) : bsT P T.i 2 #[(0, (.slice p0 l0 c0)), (1, (.slice p1 l1 c1))] w K = K (.slice (some ⟨w.heap.size, 0, none⟩) 2 2) (w.alloc (.cells #[(.slice p0 l0 c0), (.slice p1 l1 c1)] T.d)) := .trans (by kernel_rfl) rfl
@[simp] theorem blq (b i : Nat) (p : Option Addr) (l c : Nat) (w : World) (K : KV) : stT P T.d (.pointer (some ⟨b, i, none⟩)) (.slice p l c) w K = st1 P b i (.slice p l c) w K := .trans (by kernel_rfl) rfl
@[simp] theorem blp (b i : Nat) (w : World) (K : KV) : faT P T.ah (.pointer (some ⟨b, i, none⟩)) 3 w K = K (.pointer (some ⟨b, i + 3, none⟩)) w := .trans (by kernel_rfl) rfl
@[simp] theorem bml (b i : Nat) (w : World) (K : KV) : faT P T.ah (.pointer (some ⟨b, i, none⟩)) 4 w K = K (.pointer (some ⟨b, i + 4, none⟩)) w := .trans (by kernel_rfl) rfl
@[simp] theorem bnx (v : Value) (w : World) (K : KV) : taT P (.iface T.j v) T.an T.j true w K = K (.tuple #[v, .bool true]) w := .trans (by kernel_rfl) rfl
@[simp] theorem bhl (w : World) (K : KV) : alT P T.j w K = K (.pointer (some ⟨w.heap.size, 0, none⟩)) (w.alloc (.cells #[(.int .u64 0), (.int .u64 0), (.int .u64 0), (.int .i64 0)] T.j)) := .trans (by kernel_rfl) rfl
@[simp] theorem bkz (b i : Nat) (c_0 c_1 c_2 c_3 : Value) (w : World) (K : KV) : stT P T.j (.pointer (some ⟨b, i, none⟩)) (.agg #[c_0, c_1, c_2, c_3]) w K = stN P b i [c_0, c_1, c_2, c_3] w K := .trans (by kernel_rfl) rfl
@[simp] theorem bhc (b i : Nat) (w : World) (K : KV) : faT P T.m (.pointer (some ⟨b, i, none⟩)) 3 w K = K (.pointer (some ⟨b, i + 3, none⟩)) w := .trans (by kernel_rfl) rfl
@[simp] theorem bhf (b i : Nat) (w : World) (K : KV) : faT P T.m (.pointer (some ⟨b, i, none⟩)) 0 w K = K (.pointer (some ⟨b, i, none⟩)) w := .trans (by kernel_rfl) rfl
@[simp] theorem bnr (b i : Nat) (w : World) (K : KV) : faT P T.j (.pointer (some ⟨b, i, none⟩)) 0 w K = K (.pointer (some ⟨b, i, none⟩)) w := .trans (by kernel_rfl) rfl
@[simp] theorem bho (b i : Nat) (w : World) (K : KV) : faT P T.j (.pointer (some ⟨b, i, none⟩)) 1 w K = K (.pointer (some ⟨b, i + 1, none⟩)) w := .trans (by kernel_rfl) rfl
@[simp] theorem bmx (b i : Nat) (w : World) (K : KV) : faT P T.j (.pointer (some ⟨b, i, none⟩)) 2 w K = K (.pointer (some ⟨b, i + 3, none⟩)) w := .trans (by kernel_rfl) rfl
@[simp] theorem bkw (p0 : Option Addr) (l0 c0 : Nat) (w : World) (K : KV) : bsT P T.i 1 #[(0, (.slice p0 l0 c0))] w K = K (.slice (some ⟨w.heap.size, 0, none⟩) 1 1) (w.alloc (.cells #[(.slice p0 l0 c0)] T.d)) := .trans (by kernel_rfl) rfl
@[simp] theorem bkh (b i : Nat) (w : World) (K : KV) : faT P T.a (.pointer (some ⟨b, i, none⟩)) 7 w K = K (.pointer (some ⟨b, i + 9, none⟩)) w := .trans (by kernel_rfl) rfl
@[simp] theorem bmj (b i : Nat) (w : World) (K : KV) : ldT P T.aa (.pointer (some ⟨b, i, none⟩)) w K = ld1 P b i w K := .trans (by kernel_rfl) rfl
@[simp] theorem bgx : ki P T.aa = true := .trans (by kernel_rfl) rfl
@[simp] theorem bjm : szE P T.aa = 3 := .trans (by kernel_rfl) rfl
theorem et.aa : ju P T.aa T.x 3 24 := ju.mk' (by kernel_rfl) (by kernel_rfl) (by kernel_rfl)
@[simp] theorem bir (b i : Nat) (w : World) (K : KV) : faT P T.a (.pointer (some ⟨b, i, none⟩)) 8 w K = K (.pointer (some ⟨b, i + 10, none⟩)) w := .trans (by kernel_rfl) rfl
@[simp] theorem bln (b i : Nat) (w : World) (K : KV) : ldT P T.h (.pointer (some ⟨b, i, none⟩)) w K = ld1 P b i w K := .trans (by kernel_rfl) rfl
@[simp] theorem bls (b i : Nat) (w : World) (K : KV) : ldT P T.x (.pointer (some ⟨b, i, none⟩)) w K = ldN P 3 b i w K := .trans (by kernel_rfl) rfl
@[simp] theorem bip (b i : Nat) (w : World) (K : KV) : faT P T.m (.pointer (some ⟨b, i, none⟩)) 1 w K = K (.pointer (some ⟨b, i + 1, none⟩)) w := .trans (by kernel_rfl) rfl
@[simp] theorem bnt (b i : Nat) (w : World) (K : KV) : ldT P T.ba (.pointer (some ⟨b, i, none⟩)) w K = ld1 P b i w K := .trans (by kernel_rfl) rfl
@[simp] theorem bjf  (w : World) (K : KV) : ik P T.f #[] w K = K (.agg #[(.int .u64 0), (.int .u64 0), (.int .u64 0), (.int .u64 0), (.int .i64 0)]) w := .trans (by kernel_rfl) rfl
@[simp] theorem biy (rx ry : Operand) (a : Addr) (w : World) (K : KV) : en P .neq T.ak rx ry (.pointer (some a)) (.pointer none) w K = K (.bool true) w := .trans (by kernel_rfl) rfl
@[simp] theorem bie (b i : Nat) (w : World) (K : KV) : faT P T.ah (.pointer (some ⟨b, i, none⟩)) 2 w K = K (.pointer (some ⟨b, i + 2, none⟩)) w := .trans (by kernel_rfl) rfl
@[simp] theorem bkb (b i : Nat) (x : Int) (w : World) (K : KV) : stT P T.b (.pointer (some ⟨b, i, none⟩)) (.int .i64 x) w K = st1 P b i (.int .i64 x) w K := .trans (by kernel_rfl) rfl
@[simp] theorem bmr (b i : Nat) (w : World) (K : KV) : faT P T.ae (.pointer (some ⟨b, i, none⟩)) 6 w K = K (.pointer (some ⟨b, i + 6, none⟩)) w := .trans (by kernel_rfl) rfl
@[simp] theorem blz (b i : Nat) (w : World) (K : KV) : ldT P T.ap (.pointer (some ⟨b, i, none⟩)) w K = ld1 P b i w K := .trans (by kernel_rfl) rfl
@[simp] theorem bjv (b i : Nat) (w : World) (K : KV) : faT P T.ae (.pointer (some ⟨b, i, none⟩)) 5 w K = K (.pointer (some ⟨b, i + 5, none⟩)) w := .trans (by kernel_rfl) rfl
@[simp] theorem bly (b i : Nat) (w : World) (K : KV) : faT P T.f (.pointer (some ⟨b, i, none⟩)) 0 w K = K (.pointer (some ⟨b, i, none⟩)) w := .trans (by kernel_rfl) rfl
@[simp] theorem bkp (b i : Nat) (w : World) (K : KV) : faT P T.f (.pointer (some ⟨b, i, none⟩)) 1 w K = K (.pointer (some ⟨b, i + 2, none⟩)) w := .trans (by kernel_rfl) rfl
@[simp] theorem bki (b i : Nat) (w : World) (K : KV) : faT P T.f (.pointer (some ⟨b, i, none⟩)) 2 w K = K (.pointer (some ⟨b, i + 4, none⟩)) w := .trans (by kernel_rfl) rfl
@[simp] theorem bmq (x0 : Int) (x1 : Int) (c2_0 c2_1 : Value) (p3 : Option Addr) (l3 c3 : Nat) (w : World) (K : KV) : ik P T.a #[(0, (.int .i64 x0)), (1, (.int .u64 x1)), (2, (.agg #[c2_0, c2_1])), (6, (.slice p3 l3 c3))] w K = K (.agg #[(.int .i64 x0), (.int .u64 x1), c2_0, c2_1, (.int .u64 0), (.int .u64 0), (.int .i64 0), (.bool false), (.slice p3 l3 c3), (.slice none 0 0), (.slice none 0 0)]) w := .trans (by kernel_rfl) rfl
@[simp] theorem bmi (b i : Nat) (w : World) (K : KV) : faT P T.ae (.pointer (some ⟨b, i, none⟩)) 1 w K = K (.pointer (some ⟨b, i + 1, none⟩)) w := .trans (by kernel_rfl) rfl
@[simp] theorem bhi (w : World) (K : KV) : alT P T.ae w K = K (.pointer (some ⟨w.heap.size, 0, none⟩)) (w.alloc (.cells #[(.int .u64 0), (.int .u64 0), (.int .u64 0), (.int .u64 0), (.int .u64 0), (.string ⟨#[]⟩), (.string ⟨#[]⟩), (.bool false)] T.ae)) := .trans (by kernel_rfl) rfl
@[simp] theorem bnc (b i : Nat) (c_0 c_1 c_2 c_3 c_4 c_5 c_6 c_7 : Value) (w : World) (K : KV) : stT P T.ae (.pointer (some ⟨b, i, none⟩)) (.agg #[c_0, c_1, c_2, c_3, c_4, c_5, c_6, c_7]) w K = stN P b i [c_0, c_1, c_2, c_3, c_4, c_5, c_6, c_7] w K := .trans (by kernel_rfl) rfl
@[simp] theorem bkq (v : Value) (w : World) (K : KV) : taT P (.iface T.r v) T.an T.r true w K = K (.tuple #[v, .bool true]) w := .trans (by kernel_rfl) rfl
@[simp] theorem bjg (w : World) (K : KV) : alT P T.r w K = K (.pointer (some ⟨w.heap.size, 0, none⟩)) (w.alloc (.cells #[(.int .u64 0), (.int .u64 0), (.int .u64 0), (.slice none 0 0)] T.r)) := .trans (by kernel_rfl) rfl
@[simp] theorem bix (b i : Nat) (c_0 c_1 c_2 c_3 : Value) (w : World) (K : KV) : stT P T.r (.pointer (some ⟨b, i, none⟩)) (.agg #[c_0, c_1, c_2, c_3]) w K = stN P b i [c_0, c_1, c_2, c_3] w K := .trans (by kernel_rfl) rfl
@[simp] theorem bhv (b i : Nat) (w : World) (K : KV) : faT P T.r (.pointer (some ⟨b, i, none⟩)) 2 w K = K (.pointer (some ⟨b, i + 3, none⟩)) w := .trans (by kernel_rfl) rfl
@[simp] theorem bmz (b i : Nat) (w : World) (K : KV) : faT P T.r (.pointer (some ⟨b, i, none⟩)) 1 w K = K (.pointer (some ⟨b, i + 1, none⟩)) w := .trans (by kernel_rfl) rfl
@[simp] theorem bni (b i : Nat) (w : World) (K : KV) : faT P T.r (.pointer (some ⟨b, i, none⟩)) 0 w K = K (.pointer (some ⟨b, i, none⟩)) w := .trans (by kernel_rfl) rfl
@[simp] theorem bim (w : World) (K : KV) : alT P T.v w K = K (.pointer (some ⟨w.heap.size, 0, none⟩)) (w.alloc (.cells #[(.int .u64 0), (.slice none 0 0)] T.v)) := .trans (by kernel_rfl) rfl
@[simp] theorem blx (b i : Nat) (c_0 c_1 : Value) (w : World) (K : KV) : stT P T.v (.pointer (some ⟨b, i, none⟩)) (.agg #[c_0, c_1]) w K = stN P b i [c_0, c_1] w K := .trans (by kernel_rfl) rfl
@[simp] theorem bjp (b i : Nat) (w : World) (K : KV) : faT P T.v (.pointer (some ⟨b, i, none⟩)) 1 w K = K (.pointer (some ⟨b, i + 1, none⟩)) w := .trans (by kernel_rfl) rfl
@[simp] theorem bja (v : Value) (w : World) (K : KV) : sd P T.v v w K = K (.iface T.v v) w := .trans (by kernel_rfl) rfl
@[simp] theorem bnj  (w : World) (K : KV) : bsT P T.h 0 #[] w K = K (.slice (some ⟨w.heap.size, 0, none⟩) 0 0) (w.alloc (.cells #[] T.e)) := .trans (by kernel_rfl) rfl
@[simp] theorem blw (x0 : Int) (x1 : Int) (p2 : Option Addr) (l2 c2 : Nat) (w : World) (K : KV) : ik P T.a #[(0, (.int .i64 x0)), (1, (.int .u64 x1)), (8, (.slice p2 l2 c2))] w K = K (.agg #[(.int .i64 x0), (.int .u64 x1), (.int .u64 0), (.int .u64 0), (.int .u64 0), (.int .u64 0), (.int .i64 0), (.bool false), (.slice none 0 0), (.slice none 0 0), (.slice p2 l2 c2)]) w := .trans (by kernel_rfl) rfl
@[simp] theorem bil (p0 : Option Addr) (x1 : Int) (w : World) (K : KV) : ik P T.ac #[(0, (.pointer p0)), (1, (.int .i64 x1))] w K = K (.agg #[(.pointer p0), (.int .i64 x1), (.slice none 0 0)]) w := .trans (by kernel_rfl) rfl
@[simp] theorem bin (rx ry : Operand)  (w : World) (K : KV) : en P .eql T.ab rx ry (.pointer none) (.pointer none) w K = K (.bool true) w := .trans (by kernel_rfl) rfl
@[simp] theorem bnl (rx ry : Operand) (a : Addr) (w : World) (K : KV) : en P .eql T.ab rx ry (.pointer (some a)) (.pointer none) w K = K (.bool false) w := .trans (by kernel_rfl) rfl
@[simp] theorem bnb (b i : Nat) (w : World) (K : KV) : faT P T.ac (.pointer (some ⟨b, i, none⟩)) 2 w K = K (.pointer (some ⟨b, i + 2, none⟩)) w := .trans (by kernel_rfl) rfl
@[simp] theorem bmk (b i : Nat) (w : World) (K : KV) : ldT P T.u (.pointer (some ⟨b, i, none⟩)) w K = ld1 P b i w K := .trans (by kernel_rfl) rfl
@[simp] theorem bmv : ki P T.u = true := .trans (by kernel_rfl) rfl
@[simp] theorem bhu : szE P T.u = 1 := .trans (by kernel_rfl) rfl
theorem et.u : ju P T.u T.ab 1 8 := ju.mk' (by kernel_rfl) (by kernel_rfl) (by kernel_rfl)
@[simp] theorem big (b i : Nat) (w : World) (K : KV) : faT P T.af (.pointer (some ⟨b, i, none⟩)) 1 w K = K (.pointer (some ⟨b, i + 1, none⟩)) w := .trans (by kernel_rfl) rfl
@[simp] theorem bkn (p0 : Option Addr) (w : World) (K : KV) : bsT P T.u 1 #[(0, (.pointer p0))] w K = K (.slice (some ⟨w.heap.size, 0, none⟩) 1 1) (w.alloc (.cells #[(.pointer p0)] T.ab)) := .trans (by kernel_rfl) rfl
@[simp] theorem bhp (b i : Nat) (p : Option Addr) (l c : Nat) (w : World) (K : KV) : stT P T.u (.pointer (some ⟨b, i, none⟩)) (.slice p l c) w K = st1 P b i (.slice p l c) w K := .trans (by kernel_rfl) rfl
@[simp] theorem bjj (rx ry : Operand) (a : Addr) (w : World) (K : KV) : en P .eql T.ba rx ry (.pointer (some a)) (.pointer none) w K = K (.bool false) w := .trans (by kernel_rfl) rfl
@[simp] theorem bha (b i : Nat) (w : World) (K : KV) : ldT P T.ab (.pointer (some ⟨b, i, none⟩)) w K = ld1 P b i w K := .trans (by kernel_rfl) rfl
@[simp] theorem bks (b i : Nat) (w : World) (K : KV) : faT P T.af (.pointer (some ⟨b, i, none⟩)) 2 w K = K (.pointer (some ⟨b, i + 2, none⟩)) w := .trans (by kernel_rfl) rfl
@[simp] theorem bmo (b i : Nat) (w : World) (K : KV) : ldT P T.i (.pointer (some ⟨b, i, none⟩)) w K = ld1 P b i w K := .trans (by kernel_rfl) rfl
@[simp] theorem blb (w : World) (K : KV) : alT P T.aj w K = K (.pointer (some ⟨w.heap.size, 0, none⟩)) (w.alloc (.cells #[(.int .u64 0), (.int .u64 0), (.int .u64 0), (.int .u64 0), (.int .u64 0)] T.aj)) := .trans (by kernel_rfl) rfl
@[simp] theorem bmn (b i : Nat) (x : Int) (w : World) (K : KV) : stT P T.e (.pointer (some ⟨b, i, none⟩)) (.int .u64 x) w K = st1 P b i (.int .u64 x) w K := .trans (by kernel_rfl) rfl
@[simp] theorem bjq (b i : Nat) (w : World) (K : KV) : ldT P T.aq (.pointer (some ⟨b, i, none⟩)) w K = ld1 P b i w K := .trans (by kernel_rfl) rfl
@[simp] theorem bit (c0_0 c0_1 : Value) (c1_0 c1_1 : Value) (x2 : Int) (w : World) (K : KV) : ik P T.f #[(0, (.agg #[c0_0, c0_1])), (1, (.agg #[c1_0, c1_1])), (2, (.int .i64 x2))] w K = K (.agg #[c0_0, c0_1, c1_0, c1_1, (.int .i64 x2)]) w := .trans (by kernel_rfl) rfl
@[simp] theorem bmw (b i : Nat) (w : World) (K : KV) : faT P T.ac (.pointer (some ⟨b, i, none⟩)) 0 w K = K (.pointer (some ⟨b, i, none⟩)) w := .trans (by kernel_rfl) rfl
@[simp] theorem bnm (b i : Nat) (w : World) (K : KV) : faT P T.af (.pointer (some ⟨b, i, none⟩)) 0 w K = K (.pointer (some ⟨b, i, none⟩)) w := .trans (by kernel_rfl) rfl
@[simp] theorem bik (v : Value) (w : World) (K : KV) : sd P T.ap v w K = K (.iface T.ap v) w := .trans (by kernel_rfl) rfl
@[simp] theorem biu (x0 : Int) (w : World) (K : KV) : bsT P T.d 1 #[(0, (.int .u8 x0))] w K = K (.slice (some ⟨w.heap.size, 0, none⟩) 1 1) (w.alloc (.cells #[(.int .u8 x0)] T.aq)) := .trans (by kernel_rfl) rfl
@[simp] theorem bkl (x0 : Int) (x1 : Int) (c2_0 c2_1 : Value) (bo3 : Bool) (w : World) (K : KV) : ik P T.a #[(0, (.int .i64 x0)), (1, (.int .u64 x1)), (2, (.agg #[c2_0, c2_1])), (5, (.bool bo3))] w K = K (.agg #[(.int .i64 x0), (.int .u64 x1), c2_0, c2_1, (.int .u64 0), (.int .u64 0), (.int .i64 0), (.bool bo3), (.slice none 0 0), (.slice none 0 0), (.slice none 0 0)]) w := .trans (by kernel_rfl) rfl
@[simp] theorem bmy (b i : Nat) (x : Int) (w : World) (K : KV) : stT P T.l (.pointer (some ⟨b, i, none⟩)) (.int .i64 x) w K = st1 P b i (.int .i64 x) w K := .trans (by kernel_rfl) rfl
@[simp] theorem bkv (b i : Nat) (w : World) (K : KV) : faT P T.ae (.pointer (some ⟨b, i, none⟩)) 0 w K = K (.pointer (some ⟨b, i, none⟩)) w := .trans (by kernel_rfl) rfl
@[simp] theorem bns (rx ry : Operand) (l c : Nat) (w : World) (K : KV) : en P .eql T.ad rx ry (.slice none l c) (.slice none 0 0) w K = K (.bool true) w := .trans (by kernel_rfl) rfl
@[simp] theorem bjw (rx ry : Operand) (a : Addr) (l c : Nat) (w : World) (K : KV) : en P .eql T.ad rx ry (.slice (some a) l c) (.slice none 0 0) w K = K (.bool false) w := .trans (by kernel_rfl) rfl
@[simp] theorem bhq  (w : World) (K : KV) : bsT P T.ad 0 #[] w K = K (.slice (some ⟨w.heap.size, 0, none⟩) 0 0) (w.alloc (.cells #[] T.ae)) := .trans (by kernel_rfl) rfl
@[simp] theorem bii : ki P T.av = true := .trans (by kernel_rfl) rfl
@[simp] theorem bjb : szE P T.av = 1 := .trans (by kernel_rfl) rfl
@[simp] theorem bij (p0 : Option Addr) (l0 c0 : Nat) (p1 : Option Addr) (l1 c1 : Nat) (w : World) (K : KV) : bsT P T.av 2 #[(0, (.slice p0 l0 c0)), (1, (.slice p1 l1 c1))] w K = K (.slice (some ⟨w.heap.size, 0, none⟩) 2 2) (w.alloc (.cells #[(.slice p0 l0 c0), (.slice p1 l1 c1)] T.g)) := .trans (by kernel_rfl) rfl
@[simp] theorem bhe (x0 : Int) (x1 : Int) (p2 : Option Addr) (l2 c2 : Nat) (x3 : Int) (w : World) (K : KV) : ik P T.af #[(0, (.int .i64 x0)), (1, (.int .i64 x1)), (2, (.slice p2 l2 c2)), (3, (.int .i64 x3))] w K = K (.agg #[(.int .i64 x0), (.int .i64 x1), (.slice p2 l2 c2), (.int .i64 x3)]) w := .trans (by kernel_rfl) rfl
@[simp] theorem bmu (rx ry : Operand) (l c : Nat) (w : World) (K : KV) : en P .eql T.d rx ry (.slice none l c) (.slice none 0 0) w K = K (.bool true) w := .trans (by kernel_rfl) rfl
@[simp] theorem bkc (rx ry : Operand) (a : Addr) (l c : Nat) (w : World) (K : KV) : en P .eql T.d rx ry (.slice (some a) l c) (.slice none 0 0) w K = K (.bool false) w := .trans (by kernel_rfl) rfl
@[simp] theorem blc  (w : World) (K : KV) : bsT P T.d 0 #[] w K = K (.slice (some ⟨w.heap.size, 0, none⟩) 0 0) (w.alloc (.cells #[] T.aq)) := .trans (by kernel_rfl) rfl
@[simp] theorem bla (x0 : Int) (bo1 : Bool) (p2 : Option Addr) (l2 c2 : Nat) (w : World) (K : KV) : ik P T.s #[(0, (.int .u64 x0)), (1, (.bool bo1)), (2, (.slice p2 l2 c2))] w K = K (.agg #[(.int .u64 x0), (.bool bo1), (.slice p2 l2 c2)]) w := .trans (by kernel_rfl) rfl
@[simp] theorem bno (v : Value) (w : World) (K : KV) : sd P T.s v w K = K (.iface T.s v) w := .trans (by kernel_rfl) rfl
@[simp] theorem blf (p0 : Option Addr) (l0 c0 : Nat) (w : World) (K : KV) : ik P T.t #[(0, (.slice p0 l0 c0))] w K = K (.agg #[(.slice p0 l0 c0)]) w := .trans (by kernel_rfl) rfl
@[simp] theorem bgw (v : Value) (w : World) (K : KV) : sd P T.t v w K = K (.iface T.t v) w := .trans (by kernel_rfl) rfl
@[simp] theorem blo (x0 : Int) (c1_0 c1_1 : Value) (x2 : Int) (w : World) (K : KV) : ik P T.j #[(0, (.int .u64 x0)), (1, (.agg #[c1_0, c1_1])), (2, (.int .i64 x2))] w K = K (.agg #[(.int .u64 x0), c1_0, c1_1, (.int .i64 x2)]) w := .trans (by kernel_rfl) rfl
@[simp] theorem bka (v : Value) (w : World) (K : KV) : sd P T.j v w K = K (.iface T.j v) w := .trans (by kernel_rfl) rfl
@[simp] theorem bkk (x0 : Int) (c1_0 c1_1 : Value) (bo2 : Bool) (c3_0 c3_1 : Value) (x4 : Int) (bo5 : Bool) (w : World) (K : KV) : ik P T.n #[(0, (.int .u64 x0)), (1, (.agg #[c1_0, c1_1])), (2, (.bool bo2)), (3, (.agg #[c3_0, c3_1])), (4, (.int .i64 x4)), (5, (.bool bo5))] w K = K (.agg #[(.int .u64 x0), c1_0, c1_1, (.bool bo2), c3_0, c3_1, (.int .i64 x4), (.bool bo5)]) w := .trans (by kernel_rfl) rfl
@[simp] theorem bnp (v : Value) (w : World) (K : KV) : sd P T.n v w K = K (.iface T.n v) w := .trans (by kernel_rfl) rfl
@[simp] theorem bjd (x0 : Int) (x1 : Int) (w : World) (K : KV) : ik P T.y #[(0, (.int .u64 x0)), (1, (.int .i64 x1))] w K = K (.agg #[(.int .u64 x0), (.int .i64 x1)]) w := .trans (by kernel_rfl) rfl
@[simp] theorem bis (v : Value) (w : World) (K : KV) : sd P T.y v w K = K (.iface T.y v) w := .trans (by kernel_rfl) rfl
@[simp] theorem bli (x0 : Int) (c1_0 c1_1 : Value) (p2 : Option Addr) (l2 c2 : Nat) (w : World) (K : KV) : ik P T.r #[(0, (.int .u64 x0)), (1, (.agg #[c1_0, c1_1])), (2, (.slice p2 l2 c2))] w K = K (.agg #[(.int .u64 x0), c1_0, c1_1, (.slice p2 l2 c2)]) w := .trans (by kernel_rfl) rfl
@[simp] theorem bnf (v : Value) (w : World) (K : KV) : sd P T.r v w K = K (.iface T.r v) w := .trans (by kernel_rfl) rfl
@[simp] theorem bgz (x0 : Int) (p1 : Option Addr) (l1 c1 : Nat) (w : World) (K : KV) : ik P T.v #[(0, (.int .u64 x0)), (1, (.slice p1 l1 c1))] w K = K (.agg #[(.int .u64 x0), (.slice p1 l1 c1)]) w := .trans (by kernel_rfl) rfl
@[simp] theorem bnn (b i : Nat) (w : World) (K : KV) : faT P T.af (.pointer (some ⟨b, i, none⟩)) 3 w K = K (.pointer (some ⟨b, i + 3, none⟩)) w := .trans (by kernel_rfl) rfl
@[simp] theorem bhd (b i : Nat) (w : World) (K : KV) : faT P T.ac (.pointer (some ⟨b, i, none⟩)) 1 w K = K (.pointer (some ⟨b, i + 1, none⟩)) w := .trans (by kernel_rfl) rfl
@[simp] theorem bid (b i : Nat) (p : Option Addr) (l c : Nat) (w : World) (K : KV) : stT P T.i (.pointer (some ⟨b, i, none⟩)) (.slice p l c) w K = st1 P b i (.slice p l c) w K := .trans (by kernel_rfl) rfl
@[simp] theorem bgy (w : World) (K : KV) : alT P T.x w K = K (.pointer (some ⟨w.heap.size, 0, none⟩)) (w.alloc (.cells #[(.int .u64 0), (.int .u64 0), (.int .i64 0)] T.x)) := .trans (by kernel_rfl) rfl
@[simp] theorem bhh (b i : Nat) (c_0 c_1 c_2 : Value) (w : World) (K : KV) : stT P T.x (.pointer (some ⟨b, i, none⟩)) (.agg #[c_0, c_1, c_2]) w K = stN P b i [c_0, c_1, c_2] w K := .trans (by kernel_rfl) rfl
@[simp] theorem bmb (b i : Nat) (w : World) (K : KV) : faT P T.x (.pointer (some ⟨b, i, none⟩)) 0 w K = K (.pointer (some ⟨b, i, none⟩)) w := .trans (by kernel_rfl) rfl
@[simp] theorem bjc (b i : Nat) (w : World) (K : KV) : faT P T.x (.pointer (some ⟨b, i, none⟩)) 1 w K = K (.pointer (some ⟨b, i + 1, none⟩)) w := .trans (by kernel_rfl) rfl
@[simp] theorem bkm (b i : Nat) (w : World) (K : KV) : faT P T.x (.pointer (some ⟨b, i, none⟩)) 2 w K = K (.pointer (some ⟨b, i + 2, none⟩)) w := .trans (by kernel_rfl) rfl
@[simp] theorem bmm (b i : Nat) (w : World) (K : KV) : ldT P T.al (.pointer (some ⟨b, i, none⟩)) w K = ld1 P b i w K := .trans (by kernel_rfl) rfl
@[simp] theorem bkd (v : Value) (w : World) (K : KV) : taT P (.iface T.s v) T.an T.s true w K = K (.tuple #[v, .bool true]) w := .trans (by kernel_rfl) rfl
@[simp] theorem bhs (w : World) (K : KV) : alT P T.s w K = K (.pointer (some ⟨w.heap.size, 0, none⟩)) (w.alloc (.cells #[(.int .u64 0), (.bool false), (.slice none 0 0)] T.s)) := .trans (by kernel_rfl) rfl
@[simp] theorem bht (b i : Nat) (c_0 c_1 c_2 : Value) (w : World) (K : KV) : stT P T.s (.pointer (some ⟨b, i, none⟩)) (.agg #[c_0, c_1, c_2]) w K = stN P b i [c_0, c_1, c_2] w K := .trans (by kernel_rfl) rfl
@[simp] theorem bku (b i : Nat) (w : World) (K : KV) : faT P T.s (.pointer (some ⟨b, i, none⟩)) 0 w K = K (.pointer (some ⟨b, i, none⟩)) w := .trans (by kernel_rfl) rfl
@[simp] theorem bio (b i : Nat) (w : World) (K : KV) : faT P T.s (.pointer (some ⟨b, i, none⟩)) 2 w K = K (.pointer (some ⟨b, i + 2, none⟩)) w := .trans (by kernel_rfl) rfl
@[simp] theorem bmc (x0 : Int) (x1 : Int) (p2 : Option Addr) (l2 c2 : Nat) (w : World) (K : KV) : ik P T.a #[(0, (.int .i64 x0)), (1, (.int .u64 x1)), (6, (.slice p2 l2 c2))] w K = K (.agg #[(.int .i64 x0), (.int .u64 x1), (.int .u64 0), (.int .u64 0), (.int .u64 0), (.int .u64 0), (.int .i64 0), (.bool false), (.slice p2 l2 c2), (.slice none 0 0), (.slice none 0 0)]) w := .trans (by kernel_rfl) rfl
@[simp] theorem bke (b i : Nat) (w : World) (K : KV) : faT P T.s (.pointer (some ⟨b, i, none⟩)) 1 w K = K (.pointer (some ⟨b, i + 1, none⟩)) w := .trans (by kernel_rfl) rfl
@[simp] theorem bhx (v : Value) (w : World) (K : KV) : taT P (.iface T.t v) T.an T.t true w K = K (.tuple #[v, .bool true]) w := .trans (by kernel_rfl) rfl
@[simp] theorem bic (w : World) (K : KV) : alT P T.t w K = K (.pointer (some ⟨w.heap.size, 0, none⟩)) (w.alloc (.cells #[(.slice none 0 0)] T.t)) := .trans (by kernel_rfl) rfl
@[simp] theorem bhn (b i : Nat) (c_0 : Value) (w : World) (K : KV) : stT P T.t (.pointer (some ⟨b, i, none⟩)) (.agg #[c_0]) w K = stN P b i [c_0] w K := .trans (by kernel_rfl) rfl
@[simp] theorem bjl (b i : Nat) (w : World) (K : KV) : faT P T.t (.pointer (some ⟨b, i, none⟩)) 0 w K = K (.pointer (some ⟨b, i, none⟩)) w := .trans (by kernel_rfl) rfl
@[simp] theorem biq (x0 : Int) (p1 : Option Addr) (l1 c1 : Nat) (w : World) (K : KV) : ik P T.a #[(0, (.int .i64 x0)), (7, (.slice p1 l1 c1))] w K = K (.agg #[(.int .i64 x0), (.int .u64 0), (.int .u64 0), (.int .u64 0), (.int .u64 0), (.int .u64 0), (.int .i64 0), (.bool false), (.slice none 0 0), (.slice p1 l1 c1), (.slice none 0 0)]) w := .trans (by kernel_rfl) rfl
@[simp] theorem bhj (v : Value) (w : World) (K : KV) : taT P (.iface T.n v) T.an T.n true w K = K (.tuple #[v, .bool true]) w := .trans (by kernel_rfl) rfl
@[simp] theorem bmh (w : World) (K : KV) : alT P T.n w K = K (.pointer (some ⟨w.heap.size, 0, none⟩)) (w.alloc (.cells #[(.int .u64 0), (.int .u64 0), (.int .u64 0), (.bool false), (.int .u64 0), (.int .u64 0), (.int .i64 0), (.bool false)] T.n)) := .trans (by kernel_rfl) rfl
@[simp] theorem bmd (b i : Nat) (c_0 c_1 c_2 c_3 c_4 c_5 c_6 c_7 : Value) (w : World) (K : KV) : stT P T.n (.pointer (some ⟨b, i, none⟩)) (.agg #[c_0, c_1, c_2, c_3, c_4, c_5, c_6, c_7]) w K = stN P b i [c_0, c_1, c_2, c_3, c_4, c_5, c_6, c_7] w K := .trans (by kernel_rfl) rfl
@[simp] theorem blh (b i : Nat) (w : World) (K : KV) : faT P T.n (.pointer (some ⟨b, i, none⟩)) 0 w K = K (.pointer (some ⟨b, i, none⟩)) w := .trans (by kernel_rfl) rfl
@[simp] theorem bma (b i : Nat) (w : World) (K : KV) : faT P T.n (.pointer (some ⟨b, i, none⟩)) 1 w K = K (.pointer (some ⟨b, i + 1, none⟩)) w := .trans (by kernel_rfl) rfl
@[simp] theorem blm (b i : Nat) (w : World) (K : KV) : faT P T.n (.pointer (some ⟨b, i, none⟩)) 2 w K = K (.pointer (some ⟨b, i + 3, none⟩)) w := .trans (by kernel_rfl) rfl
@[simp] theorem biz (b i : Nat) (w : World) (K : KV) : faT P T.n (.pointer (some ⟨b, i, none⟩)) 3 w K = K (.pointer (some ⟨b, i + 4, none⟩)) w := .trans (by kernel_rfl) rfl
@[simp] theorem bna (b i : Nat) (w : World) (K : KV) : faT P T.n (.pointer (some ⟨b, i, none⟩)) 4 w K = K (.pointer (some ⟨b, i + 6, none⟩)) w := .trans (by kernel_rfl) rfl
@[simp] theorem bjh (x0 : Int) (x1 : Int) (c2_0 c2_1 : Value) (bo3 : Bool) (c4_0 c4_1 : Value) (x5 : Int) (w : World) (K : KV) : ik P T.a #[(0, (.int .i64 x0)), (1, (.int .u64 x1)), (2, (.agg #[c2_0, c2_1])), (5, (.bool bo3)), (3, (.agg #[c4_0, c4_1])), (4, (.int .i64 x5))] w K = K (.agg #[(.int .i64 x0), (.int .u64 x1), c2_0, c2_1, c4_0, c4_1, (.int .i64 x5), (.bool bo3), (.slice none 0 0), (.slice none 0 0), (.slice none 0 0)]) w := .trans (by kernel_rfl) rfl
@[simp] theorem bmp (b i : Nat) (w : World) (K : KV) : faT P T.n (.pointer (some ⟨b, i, none⟩)) 5 w K = K (.pointer (some ⟨b, i + 7, none⟩)) w := .trans (by kernel_rfl) rfl
@[simp] theorem bld (v : Value) (w : World) (K : KV) : taT P (.iface T.y v) T.an T.y true w K = K (.tuple #[v, .bool true]) w := .trans (by kernel_rfl) rfl
@[simp] theorem bji (w : World) (K : KV) : alT P T.y w K = K (.pointer (some ⟨w.heap.size, 0, none⟩)) (w.alloc (.cells #[(.int .u64 0), (.int .i64 0)] T.y)) := .trans (by kernel_rfl) rfl
@[simp] theorem bne (b i : Nat) (c_0 c_1 : Value) (w : World) (K : KV) : stT P T.y (.pointer (some ⟨b, i, none⟩)) (.agg #[c_0, c_1]) w K = stN P b i [c_0, c_1] w K := .trans (by kernel_rfl) rfl
@[simp] theorem bhz (b i : Nat) (w : World) (K : KV) : faT P T.y (.pointer (some ⟨b, i, none⟩)) 0 w K = K (.pointer (some ⟨b, i, none⟩)) w := .trans (by kernel_rfl) rfl
@[simp] theorem bms (b i : Nat) (w : World) (K : KV) : faT P T.y (.pointer (some ⟨b, i, none⟩)) 1 w K = K (.pointer (some ⟨b, i + 1, none⟩)) w := .trans (by kernel_rfl) rfl
@[simp] theorem bnd (x0 : Int) (x1 : Int) (x2 : Int) (w : World) (K : KV) : ik P T.a #[(0, (.int .i64 x0)), (1, (.int .u64 x1)), (4, (.int .i64 x2))] w K = K (.agg #[(.int .i64 x0), (.int .u64 x1), (.int .u64 0), (.int .u64 0), (.int .u64 0), (.int .u64 0), (.int .i64 x2), (.bool false), (.slice none 0 0), (.slice none 0 0), (.slice none 0 0)]) w := .trans (by kernel_rfl) rfl
@[simp] theorem biw (v : Value) (w : World) (K : KV) : taT P (.iface T.v v) T.an T.v true w K = K (.tuple #[v, .bool true]) w := .trans (by kernel_rfl) rfl
@[simp] theorem bng (b i : Nat) (w : World) (K : KV) : faT P T.v (.pointer (some ⟨b, i, none⟩)) 0 w K = K (.pointer (some ⟨b, i, none⟩)) w := .trans (by kernel_rfl) rfl
@[simp] theorem bkt (b i : Nat) (w : World) (K : KV) : faT P T.ae (.pointer (some ⟨b, i, none⟩)) 3 w K = K (.pointer (some ⟨b, i + 3, none⟩)) w := .trans (by kernel_rfl) rfl
@[simp] theorem bjo (x0 : Int) (x1 : Int) (w : World) (K : KV) : bsT P T.g 2 #[(0, (.int .i64 x0)), (1, (.int .i64 x1))] w K = K (.slice (some ⟨w.heap.size, 0, none⟩) 2 2) (w.alloc (.cells #[(.int .i64 x0), (.int .i64 x1)] T.b)) := .trans (by kernel_rfl) rfl
@[simp] theorem bll (rx ry : Operand)  (w : World) (K : KV) : en P .eql T.bb rx ry (.pointer none) (.pointer none) w K = K (.bool true) w := .trans (by kernel_rfl) rfl
@[simp] theorem bnk (rx ry : Operand) (a : Addr) (w : World) (K : KV) : en P .eql T.bb rx ry (.pointer (some a)) (.pointer none) w K = K (.bool false) w := .trans (by kernel_rfl) rfl
@[simp] theorem bhk (rx ry : Operand) (l c : Nat) (w : World) (K : KV) : en P .eql T.aa rx ry (.slice none l c) (.slice none 0 0) w K = K (.bool true) w := .trans (by kernel_rfl) rfl
@[simp] theorem bky (rx ry : Operand) (a : Addr) (l c : Nat) (w : World) (K : KV) : en P .eql T.aa rx ry (.slice (some a) l c) (.slice none 0 0) w K = K (.bool false) w := .trans (by kernel_rfl) rfl
@[simp] theorem bjr  (w : World) (K : KV) : bsT P T.aa 0 #[] w K = K (.slice (some ⟨w.heap.size, 0, none⟩) 0 0) (w.alloc (.cells #[] T.x)) := .trans (by kernel_rfl) rfl
@[simp] theorem bnw (rx ry : Operand) (l c : Nat) (w : World) (K : KV) : en P .eql T.h rx ry (.slice none l c) (.slice none 0 0) w K = K (.bool true) w := .trans (by kernel_rfl) rfl
@[simp] theorem bia (rx ry : Operand) (a : Addr) (l c : Nat) (w : World) (K : KV) : en P .eql T.h rx ry (.slice (some a) l c) (.slice none 0 0) w K = K (.bool false) w := .trans (by kernel_rfl) rfl
@[simp] theorem bje (x0 : Int) (p1 : Option Addr) (l1 c1 : Nat) (w : World) (K : KV) : ik P T.af #[(1, (.int .i64 x0)), (2, (.slice p1 l1 c1))] w K = K (.agg #[(.int .i64 0), (.int .i64 x0), (.slice p1 l1 c1), (.int .i64 0)]) w := .trans (by kernel_rfl) rfl
@[simp] theorem bkr (rx ry : Operand)  (w : World) (K : KV) : en P .neq T.ab rx ry (.pointer none) (.pointer none) w K = K (.bool false) w := .trans (by kernel_rfl) rfl
@[simp] theorem blg (rx ry : Operand) (a : Addr) (w : World) (K : KV) : en P .neq T.ab rx ry (.pointer (some a)) (.pointer none) w K = K (.bool true) w := .trans (by kernel_rfl) rfl
@[simp] theorem biv (b i : Nat) (w : World) (K : KV) : faT P T.ah (.pointer (some ⟨b, i, none⟩)) 0 w K = K (.pointer (some ⟨b, i, none⟩)) w := .trans (by kernel_rfl) rfl
@[simp] theorem blj  (w : World) (K : KV) : ik P T.ai #[] w K = K (.agg #[(.slice none 0 0), (.slice none 0 0)]) w := .trans (by kernel_rfl) rfl
@[simp] theorem bhm (b i : Nat) (w : World) (K : KV) : faT P T.ae (.pointer (some ⟨b, i, none⟩)) 4 w K = K (.pointer (some ⟨b, i + 4, none⟩)) w := .trans (by kernel_rfl) rfl
@[simp] theorem bjy : ki P T.az = true := .trans (by kernel_rfl) rfl
@[simp] theorem bjs : szE P T.az = 1 := .trans (by kernel_rfl) rfl
@[simp] theorem blv (x0 : Int) (x1 : Int) (w : World) (K : KV) : bsT P T.az 2 #[(0, (.int .i64 x0)), (1, (.int .i64 x1))] w K = K (.slice (some ⟨w.heap.size, 0, none⟩) 2 2) (w.alloc (.cells #[(.int .i64 x0), (.int .i64 x1)] T.al)) := .trans (by kernel_rfl) rfl
@[simp] theorem bme (w : World) (K : KV) : alT P T.q w K = K (.pointer (some ⟨w.heap.size, 0, none⟩)) (w.alloc (.cells #[(.int .u64 0)] T.q)) := .trans (by kernel_rfl) rfl
@[simp] theorem bmt (b i : Nat) (x : Int) (w : World) (K : KV) : stT P T.q (.pointer (some ⟨b, i, none⟩)) (.int .u64 x) w K = st1 P b i (.int .u64 x) w K := .trans (by kernel_rfl) rfl
theorem mt.ar : ul P T.ar .u64 T.au (.bool false) := ul.mk' (key := T.e) (by kernel_rfl) (by kernel_rfl) (by kernel_rfl)
@[simp] theorem bkg (b i : Nat) (w : World) (K : KV) : ldT P T.q (.pointer (some ⟨b, i, none⟩)) w K = ld1 P b i w K := .trans (by kernel_rfl) rfl
end Go.Proofs.YtfnhoaemapheoaaGreat
