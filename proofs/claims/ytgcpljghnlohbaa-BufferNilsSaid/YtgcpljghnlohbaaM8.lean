/-
  Printed by wip/Shallow.lean: functions of the program, read shallow; each is what its code does. No condition.
-/
import Derived.Test.YtgcpljghnlohbaaN
set_option maxRecDepth 1000000
namespace Go.Proofs.Ytgcpljghnlohbaa
open Go.Eng

def M.slices_Grow_api_Member_api_Member.j0 (a0 : Value) (a1 : Value) (w : World) (K : KV) : Prop :=
  joinT (fun K1 =>
  biT P .cap #[T.sl_api_Member] T.int [false] [a0] w fun t10 w =>
  biT P .len #[T.sl_api_Member] T.int [false] [a0] w fun t12 w =>
  binT P .sub T.int (.tmp 10) (.tmp 12) t10 t12 w fun t13 w =>
  binT P .sub T.int (.tmp 8) (.tmp 13) a1 t13 w fun t14 w =>
  binT P .gtr T.int (.tmp 15) (.const (.int .i64 0)) t14 (.int .i64 0) w fun t16 w =>
  condT t16 (
  biT P .cap #[T.sl_api_Member] T.int [false] [a0] w fun t19 w =>
  slT P T.sl_api_Member a0 none (some t19) none w fun t20 w =>
  biT P .append #[T.sl_api_Member, T.int] T.sl_api_Member [false, false] [t20, t14] w fun t22 w =>
  biT P .len #[T.sl_api_Member] T.int [false] [a0] w fun t24 w =>
  slT P T.sl_api_Member t22 none (some t24) none w fun t25 w =>
  K1 [t14, t25] w) (
  K1 [t14, a0] w)) fun x1 w =>
  K (gv x1 1) w
/-- slices.Grow[[]winnow/api.Member,winnow/api.Member] -/
def M.slices_Grow_api_Member_api_Member (a0 a1 : Value) (w : World) (K : KV) : Prop :=
  joinT (fun K0 =>
  binT P .lss T.int (.tmp 5) (.const (.int .i64 0)) a1 (.int .i64 0) w fun t6 w =>
  condT t6 (
  mkiT P T.string (.string ⟨#[99, 97, 110, 110, 111, 116, 32, 98, 101, 32, 110, 101, 103, 97, 116, 105, 118, 101]⟩) w fun t7 w =>
  panicT w fun _ w =>
  K0 [] w) (
  K0 [] w)) fun x0 w =>
  M.slices_Grow_api_Member_api_Member.j0 a0 a1 w K
def M.slices_Grow_api_Member_api_Member.L : List Nat := [0, 1, 4]
def M.slices_Grow_api_Member_api_Member.pl : Nat → Plan := fun id => ⟨.nil, [], false⟩
theorem M.slices_Grow_api_Member_api_Member.eq (a0 a1 : Value) (w : World) (K : KV) : M.slices_Grow_api_Member_api_Member a0 a1 w K = den P M.slices_Grow_api_Member_api_Member.L M.slices_Grow_api_Member_api_Member.pl (Try.f112.body.getD .skip) (argE [a0, a1]) w (bodyQ P Try.f112.results.toList K) := by kernel_rfl
theorem M.slices_Grow_api_Member_api_Member.ok : okFn M.slices_Grow_api_Member_api_Member.L M.slices_Grow_api_Member_api_Member.pl Try.f112 (Try.f112.body.getD .skip) 2 = true := by kernel_rfl
theorem M.slices_Grow_api_Member_api_Member.calls (a0 a1 : Value) {w : World} {K : KV} (h : M.slices_Grow_api_Member_api_Member a0 a1 w K) : callT P F.slices_Grow_api_Member_api_Member [a0, a1] w K :=
  callT_of_den (by kernel_rfl) Try.func112 (by kernel_rfl) M.slices_Grow_api_Member_api_Member.ok (M.slices_Grow_api_Member_api_Member.eq a0 a1 w K ▸ h)
theorem M.slices_Grow_api_Member_api_Member.fcall (args : List Value) (w : World) (K : KV) : fcallT P F.slices_Grow_api_Member_api_Member args w K = callT P F.slices_Grow_api_Member_api_Member args w K := fcallT_eq Try.func112 (by kernel_rfl) (by kernel_rfl) args w K

def M.maps_Keys_map_uint64_api_Member_uint64_api_Member_1.j0 (t5 : Value) (a0 : Value) (K0 : KL) (w : World) (K : KV) : Prop :=
  nxT P t5 false T._ w fun t6 w =>
  exT P t6 0 w fun t7 w =>
  joinT (fun K1 =>
  condT t7 (
  K1 [] w) (
  K (.tuple #[]) w)) fun x1 w =>
  enT P t5 w fun t8 w =>
  exT P t8 0 w fun t9 w =>
  callVT P a0 [t9] w fun t12 w =>
  unT P .not t12 w fun t13 w =>
  condT t13 (
  K (.tuple #[]) w) (
  K0 [t9] w)
/-- maps.Keys[map[uint64]winnow/api.Member,uint64,winnow/api.Member]$1 -/
def M.maps_Keys_map_uint64_api_Member_uint64_api_Member_1 (a0 a1 : Value) (w : World) (K : KV) : Prop :=
  ldT P T.map_uint64_api_Member a1 w fun t4 w =>
  rgT P T.map_uint64_api_Member t4 w fun t5 w =>
  loopT [undef] w fun K0 x0 w =>
  M.maps_Keys_map_uint64_api_Member_uint64_api_Member_1.j0 t5 a0 K0 w K
def M.maps_Keys_map_uint64_api_Member_uint64_api_Member_1.L : List Nat := [0, 1, 3, 5]
def M.maps_Keys_map_uint64_api_Member_uint64_api_Member_1.pl : Nat → Plan := fun id => ⟨.nil, [], false⟩
theorem M.maps_Keys_map_uint64_api_Member_uint64_api_Member_1.eq (a0 a1 : Value) (w : World) (K : KV) : M.maps_Keys_map_uint64_api_Member_uint64_api_Member_1 a0 a1 w K = den P M.maps_Keys_map_uint64_api_Member_uint64_api_Member_1.L M.maps_Keys_map_uint64_api_Member_uint64_api_Member_1.pl (Try.f113.body.getD .skip) (argE [a0, a1]) w (bodyQ P Try.f113.results.toList K) := by kernel_rfl
theorem M.maps_Keys_map_uint64_api_Member_uint64_api_Member_1.ok : okFn M.maps_Keys_map_uint64_api_Member_uint64_api_Member_1.L M.maps_Keys_map_uint64_api_Member_uint64_api_Member_1.pl Try.f113 (Try.f113.body.getD .skip) 2 = true := by kernel_rfl
theorem M.maps_Keys_map_uint64_api_Member_uint64_api_Member_1.calls (a0 a1 : Value) {w : World} {K : KV} (h : M.maps_Keys_map_uint64_api_Member_uint64_api_Member_1 a0 a1 w K) : callT P F.maps_Keys_map_uint64_api_Member_uint64_api_Member_1 [a0, a1] w K :=
  callT_of_den (by kernel_rfl) Try.func113 (by kernel_rfl) M.maps_Keys_map_uint64_api_Member_uint64_api_Member_1.ok (M.maps_Keys_map_uint64_api_Member_uint64_api_Member_1.eq a0 a1 w K ▸ h)
theorem M.maps_Keys_map_uint64_api_Member_uint64_api_Member_1.fcall (args : List Value) (w : World) (K : KV) : fcallT P F.maps_Keys_map_uint64_api_Member_uint64_api_Member_1 args w K = callT P F.maps_Keys_map_uint64_api_Member_uint64_api_Member_1 args w K := fcallT_eq Try.func113 (by kernel_rfl) (by kernel_rfl) args w K

/-- strings.HasPrefix -/
def M.strings_HasPrefix (a0 a1 : Value) (w : World) (K : KV) : Prop :=
  fcallT P F.internal_stringslite_HasPrefix [a0, a1] w fun t7 w =>
  K t7 w
def M.strings_HasPrefix.L : List Nat := [0, 1, 4]
def M.strings_HasPrefix.pl : Nat → Plan := fun id => ⟨.nil, [], false⟩
theorem M.strings_HasPrefix.eq (a0 a1 : Value) (w : World) (K : KV) : M.strings_HasPrefix a0 a1 w K = den P M.strings_HasPrefix.L M.strings_HasPrefix.pl (Try.f114.body.getD .skip) (argE [a0, a1]) w (bodyQ P Try.f114.results.toList K) := by kernel_rfl
theorem M.strings_HasPrefix.ok : okFn M.strings_HasPrefix.L M.strings_HasPrefix.pl Try.f114 (Try.f114.body.getD .skip) 2 = true := by kernel_rfl
theorem M.strings_HasPrefix.calls (a0 a1 : Value) {w : World} {K : KV} (h : M.strings_HasPrefix a0 a1 w K) : callT P F.strings_HasPrefix [a0, a1] w K :=
  callT_of_den (by kernel_rfl) Try.func114 (by kernel_rfl) M.strings_HasPrefix.ok (M.strings_HasPrefix.eq a0 a1 w K ▸ h)
theorem M.strings_HasPrefix.fcall (args : List Value) (w : World) (K : KV) : fcallT P F.strings_HasPrefix args w K = callT P F.strings_HasPrefix args w K := fcallT_eq Try.func114 (by kernel_rfl) (by kernel_rfl) args w K

def M.heap_down.j3 (a0 : Value) (x3 : List Value) (x1 : List Value) (K0 : KL) (t14 : Value) (K1 : KL) (w : World) (K : KV) : Prop :=
  joinT (fun K4 =>
  invokeT P a0 "Less" [(gv x3 1), (gv x1 3)] w fun t38 w =>
  unT P .not t38 w fun t39 w =>
  condT t39 (
  K0 [t14, (gv x3 1), (gv x3 0), (gv x1 3)] w) (
  K4 [] w)) fun x4 w =>
  invokeT P a0 "Swap" [(gv x1 3), (gv x3 1)] w fun t43 w =>
  K1 [t14, (gv x3 1), (gv x3 0), (gv x3 1)] w
def M.heap_down.j2 (t14 : Value) (a2 : Value) (a0 : Value) (x1 : List Value) (K0 : KL) (K1 : KL) (w : World) (K : KV) : Prop :=
  joinT (fun K3 =>
  binT P .add T.int (.tmp 23) (.const (.int .i64 1)) t14 (.int .i64 1) w fun t24 w =>
  binT P .lss T.int (.tmp 25) (.tmp 26) t24 a2 w fun t27 w =>
  guardT (isB t27 true) (fun K' => K' a0 w) w fun t29 w =>
  guardT (isB t27 true) (fun K' => K' t24 w) w fun t30 w =>
  guardT (isB t27 true) (fun K' => K' t14 w) w fun t31 w =>
  guardT (isB t27 true) (fun K' => invokeT P t29 "Less" [t30, t31] w K') w fun t32 w =>
  pickT t27 t32 (.bool false) w fun t33 w =>
  condT t33 (
  K3 [t24, t24] w) (
  K3 [t24, t14] w)) fun x3 w =>
  M.heap_down.j3 a0 x3 x1 K0 t14 K1 w K
def M.heap_down.j1 (x1 : List Value) (a2 : Value) (K0 : KL) (a0 : Value) (K1 : KL) (w : World) (K : KV) : Prop :=
  binT P .mul T.int (.const (.int .i64 2)) (.tmp 12) (.int .i64 2) (gv x1 3) w fun t13 w =>
  binT P .add T.int (.tmp 13) (.const (.int .i64 1)) t13 (.int .i64 1) w fun t14 w =>
  joinT (fun K2 =>
  binT P .geq T.int (.tmp 15) (.tmp 16) t14 a2 w fun t17 w =>
  guardT (isB t17 false) (fun K' => K' t14 w) w fun t19 w =>
  guardT (isB t17 false) (fun K' => binT P .lss T.int (.tmp 19) (.const (.int .i64 0)) t19 (.int .i64 0) w K') w fun t20 w =>
  pickT t17 (.bool true) t20 w fun t21 w =>
  condT t21 (
  K0 [t14, (gv x1 1), (gv x1 2), (gv x1 3)] w) (
  K2 [] w)) fun x2 w =>
  M.heap_down.j2 t14 a2 a0 x1 K0 K1 w K
/-- container/heap.down -/
def M.heap_down (a0 a1 a2 : Value) (w : World) (K : KV) : Prop :=
  joinT (fun K0 =>
  loopT [undef, undef, undef, a1] w fun K1 x1 w =>
  M.heap_down.j1 x1 a2 K0 a0 K1 w K) fun x0 w =>
  binT P .gtr T.int (.tmp 45) (.tmp 46) (gv x0 3) a1 w fun t47 w =>
  K t47 w
def M.heap_down.L : List Nat := [0, 1, 2, 6, 7, 8, 9, 10]
def M.heap_down.pl : Nat → Plan := fun id => ⟨.nil, [], false⟩
theorem M.heap_down.eq (a0 a1 a2 : Value) (w : World) (K : KV) : M.heap_down a0 a1 a2 w K = den P M.heap_down.L M.heap_down.pl (Try.f115.body.getD .skip) (argE [a0, a1, a2]) w (bodyQ P Try.f115.results.toList K) := by kernel_rfl
theorem M.heap_down.ok : okFn M.heap_down.L M.heap_down.pl Try.f115 (Try.f115.body.getD .skip) 3 = true := by kernel_rfl
theorem M.heap_down.calls (a0 a1 a2 : Value) {w : World} {K : KV} (h : M.heap_down a0 a1 a2 w K) : callT P F.heap_down [a0, a1, a2] w K :=
  callT_of_den (by kernel_rfl) Try.func115 (by kernel_rfl) M.heap_down.ok (M.heap_down.eq a0 a1 a2 w K ▸ h)
theorem M.heap_down.fcall (args : List Value) (w : World) (K : KV) : fcallT P F.heap_down args w K = callT P F.heap_down args w K := fcallT_eq Try.func115 (by kernel_rfl) (by kernel_rfl) args w K

def M.heap_up.j0 (x0 : List Value) (a0 : Value) (K0 : KL) (w : World) (K : KV) : Prop :=
  binT P .sub T.int (.tmp 5) (.const (.int .i64 1)) (gv x0 1) (.int .i64 1) w fun t6 w =>
  binT P .quo T.int (.tmp 6) (.const (.int .i64 2)) t6 (.int .i64 2) w fun t7 w =>
  joinT (fun K1 =>
  binT P .eql T.int (.tmp 8) (.tmp 9) t7 (gv x0 1) w fun t10 w =>
  guardT (isB t10 false) (fun K' => K' a0 w) w fun t12 w =>
  guardT (isB t10 false) (fun K' => K' (gv x0 1) w) w fun t13 w =>
  guardT (isB t10 false) (fun K' => K' t7 w) w fun t14 w =>
  guardT (isB t10 false) (fun K' => invokeT P t12 "Less" [t13, t14] w K') w fun t15 w =>
  guardT (isB t10 false) (fun K' => unT P .not t15 w K') w fun t16 w =>
  pickT t10 (.bool true) t16 w fun t17 w =>
  condT t17 (
  K (.tuple #[]) w) (
  K1 [] w)) fun x1 w =>
  invokeT P a0 "Swap" [t7, (gv x0 1)] w fun t21 w =>
  K0 [t7, t7] w
/-- container/heap.up -/
def M.heap_up (a0 a1 : Value) (w : World) (K : KV) : Prop :=
  loopT [undef, a1] w fun K0 x0 w =>
  M.heap_up.j0 x0 a0 K0 w K
def M.heap_up.L : List Nat := [0, 1, 4]
def M.heap_up.pl : Nat → Plan := fun id => ⟨.nil, [], false⟩
theorem M.heap_up.eq (a0 a1 : Value) (w : World) (K : KV) : M.heap_up a0 a1 w K = den P M.heap_up.L M.heap_up.pl (Try.f116.body.getD .skip) (argE [a0, a1]) w (bodyQ P Try.f116.results.toList K) := by kernel_rfl
theorem M.heap_up.ok : okFn M.heap_up.L M.heap_up.pl Try.f116 (Try.f116.body.getD .skip) 2 = true := by kernel_rfl
theorem M.heap_up.calls (a0 a1 : Value) {w : World} {K : KV} (h : M.heap_up a0 a1 w K) : callT P F.heap_up [a0, a1] w K :=
  callT_of_den (by kernel_rfl) Try.func116 (by kernel_rfl) M.heap_up.ok (M.heap_up.eq a0 a1 w K ▸ h)
theorem M.heap_up.fcall (args : List Value) (w : World) (K : KV) : fcallT P F.heap_up args w K = callT P F.heap_up args w K := fcallT_eq Try.func116 (by kernel_rfl) (by kernel_rfl) args w K

/-- (*winnow/timers.Heap).Len -/
def M.ptimers_Heap_Len (a0 : Value) (w : World) (K : KV) : Prop :=
  joinT (fun K0 =>
  binT P .eql T.p_timers_Heap (.tmp 3) (.const (.pointer none)) a0 (.pointer none) w fun t4 w =>
  condT t4 (
  K (.int .i64 0) w) (
  K0 [(.int .i64 0)] w)) fun x0 w =>
  nilT a0 w fun t6 w =>
  faT P T.timers_Heap t6 0 w fun t7 w =>
  ldT P T.timers_line t7 w fun t8 w =>
  biT P .len #[T.timers_line] T.int [false] [t8] w fun t9 w =>
  K t9 w
def M.ptimers_Heap_Len.L : List Nat := [0, 2]
def M.ptimers_Heap_Len.pl : Nat → Plan := fun id => ⟨.nil, [], false⟩
theorem M.ptimers_Heap_Len.eq (a0 : Value) (w : World) (K : KV) : M.ptimers_Heap_Len a0 w K = den P M.ptimers_Heap_Len.L M.ptimers_Heap_Len.pl (Try.f117.body.getD .skip) (argE [a0]) w (bodyQ P Try.f117.results.toList K) := by kernel_rfl
theorem M.ptimers_Heap_Len.ok : okFn M.ptimers_Heap_Len.L M.ptimers_Heap_Len.pl Try.f117 (Try.f117.body.getD .skip) 1 = true := by kernel_rfl
theorem M.ptimers_Heap_Len.calls (a0 : Value) {w : World} {K : KV} (h : M.ptimers_Heap_Len a0 w K) : callT P F.ptimers_Heap_Len [a0] w K :=
  callT_of_den (by kernel_rfl) Try.func117 (by kernel_rfl) M.ptimers_Heap_Len.ok (M.ptimers_Heap_Len.eq a0 w K ▸ h)
theorem M.ptimers_Heap_Len.fcall (args : List Value) (w : World) (K : KV) : fcallT P F.ptimers_Heap_Len args w K = callT P F.ptimers_Heap_Len args w K := fcallT_eq Try.func117 (by kernel_rfl) (by kernel_rfl) args w K

def M.winnowref03_Rune.j8 (x5 : List Value) (a0 : Value) (K7 : KL) (x8 : List Value) (w : World) (K : KV) : Prop :=
  binT P .mul T.int32 (.tmp 71) (.const (.int .i32 64)) (gv x5 2) (.int .i32 64) w fun t72 w =>
  ixT P T.string a0 (gv x5 3) w fun t75 w =>
  cvT P T.uint8 T.int32 t75 w fun t76 w =>
  binT P .add T.int32 (.tmp 72) (.tmp 76) t72 t76 w fun t77 w =>
  binT P .sub T.int32 (.tmp 77) (.const (.int .i32 128)) t77 (.int .i32 128) w fun t78 w =>
  K7 [(gv x8 0), (gv x8 1), t78] w
def M.winnowref03_Rune.j6 (a0 : Value) (x5 : List Value) (K5 : KL) (w : World) (K : KV) : Prop :=
  joinT (fun K7 =>
  joinT (fun K8 =>
  ixT P T.string a0 (gv x5 3) w fun t63 w =>
  binT P .lss T.uint8 (.tmp 63) (.const (.int .u8 128)) t63 (.int .u8 128) w fun t64 w =>
  guardT (isB t64 false) (fun K' => K' a0 w) w fun t66 w =>
  guardT (isB t64 false) (fun K' => K' (gv x5 3) w) w fun t67 w =>
  guardT (isB t64 false) (fun K' => ixT P T.string t66 t67 w K') w fun t68 w =>
  guardT (isB t64 false) (fun K' => binT P .gtr T.uint8 (.tmp 68) (.const (.int .u8 191)) t68 (.int .u8 191) w K') w fun t69 w =>
  pickT t64 (.bool true) t69 w fun t70 w =>
  condT t70 (
  K (.tuple #[(.int .i32 0), (.int .i64 0)]) w) (
  K8 [(gv x5 0), (gv x5 1)] w)) fun x8 w =>
  M.winnowref03_Rune.j8 x5 a0 K7 x8 w K) fun x7 w =>
  binT P .add T.int (.tmp 59) (.const (.int .i64 1)) (gv x5 3) (.int .i64 1) w fun t60 w =>
  K5 [(gv x7 0), (gv x7 1), (gv x7 2), t60] w
def M.winnowref03_Rune.j4 (x4 : List Value) (x2 : List Value) (w : World) (K : KV) : Prop :=
  joinT (fun K9 =>
  binT P .lss T.int32 (.tmp 79) (.tmp 80) (gv x4 3) (gv x2 2) w fun t81 w =>
  guardT (isB t81 false) (fun K' => K' (gv x4 3) w) w fun t83 w =>
  guardT (isB t81 false) (fun K' => binT P .gtr T.int32 (.tmp 83) (.const (.int .i32 1114111)) t83 (.int .i32 1114111) w K') w fun t84 w =>
  pickT t81 (.bool true) t84 w fun t85 w =>
  guardT (isB t85 false) (fun K' => K' (gv x4 3) w) w fun t87 w =>
  guardT (isB t85 false) (fun K' => binT P .geq T.int32 (.tmp 87) (.const (.int .i32 55296)) t87 (.int .i32 55296) w K') w fun t88 w =>
  guardT (isB t85 false) (fun K' => K' t88 w) w fun t89 w =>
  guardT (isB t89 true) (fun K' => K' (gv x4 3) w) w fun t90 w =>
  guardT (isB t89 true) (fun K' => binT P .leq T.int32 (.tmp 90) (.const (.int .i32 57343)) t90 (.int .i32 57343) w K') w fun t91 w =>
  guardT (isB t85 false) (fun K' => pickT t89 t91 (.bool false) w K') w fun t92 w =>
  pickT t85 (.bool true) t92 w fun t93 w =>
  condT t93 (
  K (.tuple #[(.int .i32 0), (.int .i64 0)]) w) (
  K9 [(gv x4 1), (gv x4 2)] w)) fun x9 w =>
  K (.tuple #[(gv x4 3), (gv x2 1)]) w
def M.winnowref03_Rune.j3 (x3 : List Value) (x2 : List Value) (a0 : Value) (w : World) (K : KV) : Prop :=
  joinT (fun K4 =>
  loopT [(gv x3 0), (gv x3 1), (gv x2 3), (.int .i64 1)] w fun K5 x5 w =>
  joinT (fun K6 =>
  binT P .lss T.int (.tmp 56) (.tmp 57) (gv x5 3) (gv x2 1) w fun t58 w =>
  condT t58 (
  K6 [] w) (
  K4 [(gv x5 3), (gv x5 0), (gv x5 1), (gv x5 2)] w)) fun x6 w =>
  M.winnowref03_Rune.j6 a0 x5 K5 w K) fun x4 w =>
  M.winnowref03_Rune.j4 x4 x2 w K
def M.winnowref03_Rune.j2 (x2 : List Value) (a0 : Value) (x1 : List Value) (w : World) (K : KV) : Prop :=
  joinT (fun K3 =>
  binT P .eql T.int (.tmp 48) (.const (.int .i64 0)) (gv x2 1) (.int .i64 0) w fun t49 w =>
  guardT (isB t49 false) (fun K' => K' a0 w) w fun t51 w =>
  guardT (isB t49 false) (fun K' => biT P .len #[T.string] T.int [false] [t51] w K') w fun t52 w =>
  guardT (isB t49 false) (fun K' => K' (gv x2 1) w) w fun t53 w =>
  guardT (isB t49 false) (fun K' => binT P .lss T.int (.tmp 52) (.tmp 53) t52 t53 w K') w fun t54 w =>
  pickT t49 (.bool true) t54 w fun t55 w =>
  condT t55 (
  K (.tuple #[(.int .i32 0), (.int .i64 0)]) w) (
  K3 [(gv x1 0), (gv x1 1)] w)) fun x3 w =>
  M.winnowref03_Rune.j3 x3 x2 a0 w K
def M.winnowref03_Rune.j1 (t13 : Value) (a0 : Value) (x1 : List Value) (w : World) (K : KV) : Prop :=
  joinT (fun K2 =>
  binT P .geq T.uint8 (.tmp 19) (.const (.int .u8 194)) t13 (.int .u8 194) w fun t20 w =>
  guardT (isB t20 true) (fun K' => K' t13 w) w fun t22 w =>
  guardT (isB t20 true) (fun K' => binT P .leq T.uint8 (.tmp 22) (.const (.int .u8 223)) t22 (.int .u8 223) w K') w fun t23 w =>
  pickT t20 t23 (.bool false) w fun t24 w =>
  condT t24 (
  cvT P T.uint8 T.int32 t13 w fun t26 w =>
  binT P .sub T.int32 (.tmp 26) (.const (.int .i32 192)) t26 (.int .i32 192) w fun t27 w =>
  K2 [t24, (.int .i64 2), (.int .i32 128), t27, undef, undef] w) (
  binT P .geq T.uint8 (.tmp 29) (.const (.int .u8 224)) t13 (.int .u8 224) w fun t30 w =>
  guardT (isB t30 true) (fun K' => K' t13 w) w fun t32 w =>
  guardT (isB t30 true) (fun K' => binT P .leq T.uint8 (.tmp 32) (.const (.int .u8 239)) t32 (.int .u8 239) w K') w fun t33 w =>
  pickT t30 t33 (.bool false) w fun t34 w =>
  condT t34 (
  cvT P T.uint8 T.int32 t13 w fun t36 w =>
  binT P .sub T.int32 (.tmp 36) (.const (.int .i32 224)) t36 (.int .i32 224) w fun t37 w =>
  K2 [t24, (.int .i64 3), (.int .i32 2048), t37, t34, undef] w) (
  binT P .geq T.uint8 (.tmp 39) (.const (.int .u8 240)) t13 (.int .u8 240) w fun t40 w =>
  guardT (isB t40 true) (fun K' => K' t13 w) w fun t42 w =>
  guardT (isB t40 true) (fun K' => binT P .leq T.uint8 (.tmp 42) (.const (.int .u8 244)) t42 (.int .u8 244) w K') w fun t43 w =>
  pickT t40 t43 (.bool false) w fun t44 w =>
  condT t44 (
  cvT P T.uint8 T.int32 t13 w fun t46 w =>
  binT P .sub T.int32 (.tmp 46) (.const (.int .i32 240)) t46 (.int .i32 240) w fun t47 w =>
  K2 [t24, (.int .i64 4), (.int .i32 65536), t47, t34, t44] w) (
  K2 [t24, (.int .i64 0), (.int .i32 0), (.int .i32 0), t34, t44] w)))) fun x2 w =>
  M.winnowref03_Rune.j2 x2 a0 x1 w K
def M.winnowref03_Rune.j0 (a0 : Value) (x0 : List Value) (w : World) (K : KV) : Prop :=
  ixT P T.string a0 (.int .i64 0) w fun t13 w =>
  joinT (fun K1 =>
  binT P .lss T.uint8 (.tmp 14) (.const (.int .u8 128)) t13 (.int .u8 128) w fun t15 w =>
  condT t15 (
  cvT P T.uint8 T.int32 t13 w fun t17 w =>
  K (.tuple #[t17, (.int .i64 1)]) w) (
  K1 [(gv x0 0), (gv x0 1)] w)) fun x1 w =>
  M.winnowref03_Rune.j1 t13 a0 x1 w K
/-- winnow/winnowref03.Rune -/
def M.winnowref03_Rune (a0 : Value) (w : World) (K : KV) : Prop :=
  joinT (fun K0 =>
  biT P .len #[T.string] T.int [false] [a0] w fun t10 w =>
  binT P .eql T.int (.tmp 10) (.const (.int .i64 0)) t10 (.int .i64 0) w fun t11 w =>
  condT t11 (
  K (.tuple #[(.int .i32 0), (.int .i64 0)]) w) (
  K0 [(.int .i32 0), (.int .i64 0)] w)) fun x0 w =>
  M.winnowref03_Rune.j0 a0 x0 w K
def M.winnowref03_Rune.L : List Nat := [0, 2, 3, 4, 5, 6, 7, 18, 28, 38, 8]
def M.winnowref03_Rune.pl : Nat → Plan := fun id => ⟨.nil, [], false⟩
theorem M.winnowref03_Rune.eq (a0 : Value) (w : World) (K : KV) : M.winnowref03_Rune a0 w K = den P M.winnowref03_Rune.L M.winnowref03_Rune.pl (Try.f118.body.getD .skip) (argE [a0]) w (bodyQ P Try.f118.results.toList K) := by kernel_rfl
theorem M.winnowref03_Rune.ok : okFn M.winnowref03_Rune.L M.winnowref03_Rune.pl Try.f118 (Try.f118.body.getD .skip) 1 = true := by kernel_rfl
theorem M.winnowref03_Rune.calls (a0 : Value) {w : World} {K : KV} (h : M.winnowref03_Rune a0 w K) : callT P F.winnowref03_Rune [a0] w K :=
  callT_of_den (by kernel_rfl) Try.func118 (by kernel_rfl) M.winnowref03_Rune.ok (M.winnowref03_Rune.eq a0 w K ▸ h)
theorem M.winnowref03_Rune.fcall (args : List Value) (w : World) (K : KV) : fcallT P F.winnowref03_Rune args w K = callT P F.winnowref03_Rune args w K := fcallT_eq Try.func118 (by kernel_rfl) (by kernel_rfl) args w K

def M.slices_pdqsortOrdered_int.j6 (a0 : Value) (x6 : List Value) (x0 : List Value) (x4 : List Value) (t21 : Value) (x3 : List Value) (K0 : KL) (w : World) (K : KV) : Prop :=
  fcallT P F.slices_partitionOrdered_int [a0, (gv x6 1), (gv x0 13), (gv x4 0)] w fun t99 w =>
  exT P t99 0 w fun t100 w =>
  exT P t99 1 w fun t101 w =>
  binT P .sub T.int (.tmp 103) (.tmp 104) t100 (gv x6 1) w fun t105 w =>
  binT P .sub T.int (.tmp 106) (.tmp 107) (gv x0 13) t100 w fun t108 w =>
  binT P .quo T.int (.tmp 109) (.const (.int .i64 8)) t21 (.int .i64 8) w fun t110 w =>
  binT P .lss T.int (.tmp 111) (.tmp 112) t105 t108 w fun t113 w =>
  condT t113 (
  binT P .geq T.int (.tmp 114) (.tmp 115) t105 t110 w fun t116 w =>
  fcallT P F.slices_pdqsortOrdered_int [a0, (gv x6 1), t100, (gv x3 0)] w fun t121 w =>
  binT P .add T.int (.tmp 122) (.const (.int .i64 1)) t100 (.int .i64 1) w fun t123 w =>
  K0 [t21, (gv x3 0), (gv x4 0), (gv x4 1), (gv x6 0), t123, t100, t101, t101, t105, t108, t110, t116, (gv x0 13)] w) (
  binT P .geq T.int (.tmp 124) (.tmp 125) t108 t110 w fun t126 w =>
  binT P .add T.int (.tmp 128) (.const (.int .i64 1)) t100 (.int .i64 1) w fun t129 w =>
  fcallT P F.slices_pdqsortOrdered_int [a0, t129, (gv x0 13), (gv x3 0)] w fun t132 w =>
  K0 [t21, (gv x3 0), (gv x4 0), (gv x4 1), (gv x6 0), (gv x6 1), t100, t101, t101, t105, t108, t110, t126, t100] w)
def M.slices_pdqsortOrdered_int.j5 (x0 : List Value) (a0 : Value) (x4 : List Value) (K0 : KL) (t21 : Value) (x3 : List Value) (w : World) (K : KV) : Prop :=
  joinT (fun K6 =>
  drawT w fun w =>
  w = w ∧ quietT (fun K' => binT P .gtr T.int (.tmp 73) (.const (.int .i64 0)) (gv x0 5) (.int .i64 0) w K') w fun t74 =>
  w = w ∧ quietT (fun K' => guardT (isB t74 true) (fun K' => K' a0 w) w K') w fun t76 =>
  quietT (fun K' => guardT (isB t74 true) (fun K' => K' (gv x0 5) w) w K') w fun t77 =>
  quietT (fun K' => guardT (isB t74 true) (fun K' => binT P .sub T.int (.tmp 77) (.const (.int .i64 1)) t77 (.int .i64 1) w K') w K') w fun t78 =>
  quietT (fun K' => guardT (isB t74 true) (fun K' => iaT P T.sl_int t76 t78 w K') w K') w fun t79 =>
  quietT (fun K' => guardT (isB t74 true) (fun K' => ldT P T.int t79 w K') w K') w fun t80 =>
  quietT (fun K' => guardT (isB t74 true) (fun K' => K' a0 w) w K') w fun t81 =>
  quietT (fun K' => guardT (isB t74 true) (fun K' => K' (gv x4 0) w) w K') w fun t82 =>
  quietT (fun K' => guardT (isB t74 true) (fun K' => iaT P T.sl_int t81 t82 w K') w K') w fun t83 =>
  quietT (fun K' => guardT (isB t74 true) (fun K' => ldT P T.int t83 w K') w K') w fun t84 =>
  guardT (isB t74 true) (fun K' => fcallT P F.cmp_Less_int [t80, t84] w K') w fun t85 w =>
  quietT (fun K' => guardT (isB t74 true) (fun K' => unT P .not t85 w K') w K') w fun t86 =>
  quietT (fun K' => pickT t74 t86 (.bool false) w K') w fun t87 =>
  condT t87 (
  fcallT P F.slices_partitionEqualOrdered_int [a0, (gv x0 5), (gv x0 13), (gv x4 0)] w fun t92 w =>
  K0 [t21, (gv x3 0), (gv x4 0), (gv x4 1), t92, t92, (gv x0 6), (gv x0 7), (gv x0 8), (gv x0 9), (gv x0 10), (gv x0 11), (gv x0 12), (gv x0 13)] w) (
  K6 [(gv x0 4), (gv x0 5)] w)) fun x6 w =>
  M.slices_pdqsortOrdered_int.j6 a0 x6 x0 x4 t21 x3 K0 w K
def M.slices_pdqsortOrdered_int.j4 (x0 : List Value) (x4 : List Value) (a0 : Value) (K0 : KL) (t21 : Value) (x3 : List Value) (w : World) (K : KV) : Prop :=
  joinT (fun K5 =>
  guardT (isB (gv x0 12) true) (fun K' => K' (gv x0 8) w) w fun t63 w =>
  pickT (gv x0 12) t63 (.bool false) w fun t64 w =>
  guardT (isB t64 true) (fun K' => K' (gv x4 1) w) w fun t66 w =>
  guardT (isB t64 true) (fun K' => binT P .eql T.slices_sortedHint (.tmp 66) (.const (.int .i64 1)) t66 (.int .i64 1) w K') w fun t67 w =>
  pickT t64 t67 (.bool false) w fun t68 w =>
  condT t68 (
  fcallT P F.slices_partialInsertionSortOrdered_int [a0, (gv x0 5), (gv x0 13)] w fun t72 w =>
  condT t72 (
  K (.tuple #[]) w) (
  K5 [] w)) (
  K5 [] w)) fun x5 w =>
  M.slices_pdqsortOrdered_int.j5 x0 a0 x4 K0 t21 x3 w K
def M.slices_pdqsortOrdered_int.j3 (a0 : Value) (x0 : List Value) (K0 : KL) (t21 : Value) (x3 : List Value) (w : World) (K : KV) : Prop :=
  fcallT P F.slices_choosePivotOrdered_int [a0, (gv x0 5), (gv x0 13)] w fun t46 w =>
  exT P t46 0 w fun t47 w =>
  exT P t46 1 w fun t48 w =>
  joinT (fun K4 =>
  binT P .eql T.slices_sortedHint (.tmp 49) (.const (.int .i64 2)) t48 (.int .i64 2) w fun t50 w =>
  condT t50 (
  fcallT P F.slices_reverseRangeOrdered_int [a0, (gv x0 5), (gv x0 13)] w fun t54 w =>
  binT P .sub T.int (.tmp 55) (.const (.int .i64 1)) (gv x0 13) (.int .i64 1) w fun t56 w =>
  binT P .sub T.int (.tmp 57) (.tmp 58) t47 (gv x0 5) w fun t59 w =>
  binT P .sub T.int (.tmp 56) (.tmp 59) t56 t59 w fun t60 w =>
  K4 [t60, (.int .i64 1)] w) (
  K4 [t47, t48] w)) fun x4 w =>
  M.slices_pdqsortOrdered_int.j4 x0 x4 a0 K0 t21 x3 w K
def M.slices_pdqsortOrdered_int.j2 (x0 : List Value) (a0 : Value) (K0 : KL) (t21 : Value) (w : World) (K : KV) : Prop :=
  joinT (fun K3 =>
  unT P .not (gv x0 12) w fun t35 w =>
  condT t35 (
  fcallT P F.slices_breakPatternsOrdered_int [a0, (gv x0 5), (gv x0 13)] w fun t39 w =>
  binT P .sub T.int (.tmp 40) (.const (.int .i64 1)) (gv x0 1) (.int .i64 1) w fun t41 w =>
  K3 [t41] w) (
  K3 [(gv x0 1)] w)) fun x3 w =>
  M.slices_pdqsortOrdered_int.j3 a0 x0 K0 t21 x3 w K
def M.slices_pdqsortOrdered_int.j1 (x0 : List Value) (a0 : Value) (K0 : KL) (t21 : Value) (w : World) (K : KV) : Prop :=
  joinT (fun K2 =>
  binT P .eql T.int (.tmp 28) (.const (.int .i64 0)) (gv x0 1) (.int .i64 0) w fun t29 w =>
  condT t29 (
  fcallT P F.slices_heapSortOrdered_int [a0, (gv x0 5), (gv x0 13)] w fun t33 w =>
  K (.tuple #[]) w) (
  K2 [] w)) fun x2 w =>
  M.slices_pdqsortOrdered_int.j2 x0 a0 K0 t21 w K
def M.slices_pdqsortOrdered_int.j0 (x0 : List Value) (a0 : Value) (K0 : KL) (w : World) (K : KV) : Prop :=
  binT P .sub T.int (.tmp 19) (.tmp 20) (gv x0 13) (gv x0 5) w fun t21 w =>
  joinT (fun K1 =>
  binT P .leq T.int (.tmp 22) (.const (.int .i64 12)) t21 (.int .i64 12) w fun t23 w =>
  condT t23 (
  fcallT P F.slices_insertionSortOrdered_int [a0, (gv x0 5), (gv x0 13)] w fun t27 w =>
  K (.tuple #[]) w) (
  K1 [] w)) fun x1 w =>
  M.slices_pdqsortOrdered_int.j1 x0 a0 K0 t21 w K
/-- slices.pdqsortOrdered[int] -/
def M.slices_pdqsortOrdered_int (a0 a1 a2 a3 : Value) (w : World) (K : KV) : Prop :=
  loopT [undef, a3, undef, undef, undef, a1, undef, undef, (.bool true), undef, undef, undef, (.bool true), a2] w fun K0 x0 w =>
  M.slices_pdqsortOrdered_int.j0 x0 a0 K0 w K
def M.slices_pdqsortOrdered_int.L : List Nat := [0, 1, 2, 3, 8, 9, 10, 11, 12, 13, 14, 15, 16, 17, 18]
def M.slices_pdqsortOrdered_int.pl : Nat → Plan := fun id => cond (Nat.beq id 17) ⟨(.go 0 (.go 1 (.go 2 (.go 3 (.go 4 (.go 5 (.go 6 (.go 7 (.go 8 (.go 9 (.go 10 (.go 11 (.eff 12 (.go 13 (.go 14 .nil)) .stop))))))))))))), [12], false⟩ (⟨.nil, [], false⟩)
theorem M.slices_pdqsortOrdered_int.eq (a0 a1 a2 a3 : Value) (w : World) (K : KV) : M.slices_pdqsortOrdered_int a0 a1 a2 a3 w K = den P M.slices_pdqsortOrdered_int.L M.slices_pdqsortOrdered_int.pl (Try.f120.body.getD .skip) (argE [a0, a1, a2, a3]) w (bodyQ P Try.f120.results.toList K) := by kernel_rfl
theorem M.slices_pdqsortOrdered_int.ok : okFn M.slices_pdqsortOrdered_int.L M.slices_pdqsortOrdered_int.pl Try.f120 (Try.f120.body.getD .skip) 4 = true := by kernel_rfl
theorem M.slices_pdqsortOrdered_int.calls (a0 a1 a2 a3 : Value) {w : World} {K : KV} (h : M.slices_pdqsortOrdered_int a0 a1 a2 a3 w K) : callT P F.slices_pdqsortOrdered_int [a0, a1, a2, a3] w K :=
  callT_of_den (by kernel_rfl) Try.func120 (by kernel_rfl) M.slices_pdqsortOrdered_int.ok (M.slices_pdqsortOrdered_int.eq a0 a1 a2 a3 w K ▸ h)
theorem M.slices_pdqsortOrdered_int.fcall (args : List Value) (w : World) (K : KV) : fcallT P F.slices_pdqsortOrdered_int args w K = callT P F.slices_pdqsortOrdered_int args w K := fcallT_eq Try.func120 (by kernel_rfl) (by kernel_rfl) args w K

/-- math/bits.Len -/
def M.math_bits_Len (a0 : Value) (w : World) (K : KV) : Prop :=
  joinT (fun K0 =>
  condT (.bool false) (
  cvT P T.uint T.uint32 a0 w fun t4 w =>
  fcallT P F.math_bits_Len32 [t4] w fun t5 w =>
  K t5 w) (
  K0 [(.int .i64 0)] w)) fun x0 w =>
  fcallT P F.math_bits_Len64 [a0] w fun t7 w =>
  K t7 w
def M.math_bits_Len.L : List Nat := [0, 2]
def M.math_bits_Len.pl : Nat → Plan := fun id => ⟨.nil, [], false⟩
theorem M.math_bits_Len.eq (a0 : Value) (w : World) (K : KV) : M.math_bits_Len a0 w K = den P M.math_bits_Len.L M.math_bits_Len.pl (Try.f121.body.getD .skip) (argE [a0]) w (bodyQ P Try.f121.results.toList K) := by kernel_rfl
theorem M.math_bits_Len.ok : okFn M.math_bits_Len.L M.math_bits_Len.pl Try.f121 (Try.f121.body.getD .skip) 1 = true := by kernel_rfl
theorem M.math_bits_Len.calls (a0 : Value) {w : World} {K : KV} (h : M.math_bits_Len a0 w K) : callT P F.math_bits_Len [a0] w K :=
  callT_of_den (by kernel_rfl) Try.func121 (by kernel_rfl) M.math_bits_Len.ok (M.math_bits_Len.eq a0 w K ▸ h)
theorem M.math_bits_Len.fcall (args : List Value) (w : World) (K : KV) : fcallT P F.math_bits_Len args w K = callT P F.math_bits_Len args w K := fcallT_eq Try.func121 (by kernel_rfl) (by kernel_rfl) args w K

def M.slices_pdqsortOrdered_uint64.j6 (a0 : Value) (x6 : List Value) (x0 : List Value) (x4 : List Value) (t21 : Value) (x3 : List Value) (K0 : KL) (w : World) (K : KV) : Prop :=
  fcallT P F.slices_partitionOrdered_uint64 [a0, (gv x6 1), (gv x0 13), (gv x4 0)] w fun t99 w =>
  exT P t99 0 w fun t100 w =>
  exT P t99 1 w fun t101 w =>
  binT P .sub T.int (.tmp 103) (.tmp 104) t100 (gv x6 1) w fun t105 w =>
  binT P .sub T.int (.tmp 106) (.tmp 107) (gv x0 13) t100 w fun t108 w =>
  binT P .quo T.int (.tmp 109) (.const (.int .i64 8)) t21 (.int .i64 8) w fun t110 w =>
  binT P .lss T.int (.tmp 111) (.tmp 112) t105 t108 w fun t113 w =>
  condT t113 (
  binT P .geq T.int (.tmp 114) (.tmp 115) t105 t110 w fun t116 w =>
  fcallT P F.slices_pdqsortOrdered_uint64 [a0, (gv x6 1), t100, (gv x3 0)] w fun t121 w =>
  binT P .add T.int (.tmp 122) (.const (.int .i64 1)) t100 (.int .i64 1) w fun t123 w =>
  K0 [t21, (gv x3 0), (gv x4 0), (gv x4 1), (gv x6 0), t123, t100, t101, t101, t105, t108, t110, t116, (gv x0 13)] w) (
  binT P .geq T.int (.tmp 124) (.tmp 125) t108 t110 w fun t126 w =>
  binT P .add T.int (.tmp 128) (.const (.int .i64 1)) t100 (.int .i64 1) w fun t129 w =>
  fcallT P F.slices_pdqsortOrdered_uint64 [a0, t129, (gv x0 13), (gv x3 0)] w fun t132 w =>
  K0 [t21, (gv x3 0), (gv x4 0), (gv x4 1), (gv x6 0), (gv x6 1), t100, t101, t101, t105, t108, t110, t126, t100] w)
def M.slices_pdqsortOrdered_uint64.j5 (x0 : List Value) (a0 : Value) (x4 : List Value) (K0 : KL) (t21 : Value) (x3 : List Value) (w : World) (K : KV) : Prop :=
  joinT (fun K6 =>
  drawT w fun w =>
  w = w ∧ quietT (fun K' => binT P .gtr T.int (.tmp 73) (.const (.int .i64 0)) (gv x0 5) (.int .i64 0) w K') w fun t74 =>
  w = w ∧ quietT (fun K' => guardT (isB t74 true) (fun K' => K' a0 w) w K') w fun t76 =>
  quietT (fun K' => guardT (isB t74 true) (fun K' => K' (gv x0 5) w) w K') w fun t77 =>
  quietT (fun K' => guardT (isB t74 true) (fun K' => binT P .sub T.int (.tmp 77) (.const (.int .i64 1)) t77 (.int .i64 1) w K') w K') w fun t78 =>
  quietT (fun K' => guardT (isB t74 true) (fun K' => iaT P T.sl_uint64 t76 t78 w K') w K') w fun t79 =>
  quietT (fun K' => guardT (isB t74 true) (fun K' => ldT P T.uint64 t79 w K') w K') w fun t80 =>
  quietT (fun K' => guardT (isB t74 true) (fun K' => K' a0 w) w K') w fun t81 =>
  quietT (fun K' => guardT (isB t74 true) (fun K' => K' (gv x4 0) w) w K') w fun t82 =>
  quietT (fun K' => guardT (isB t74 true) (fun K' => iaT P T.sl_uint64 t81 t82 w K') w K') w fun t83 =>
  quietT (fun K' => guardT (isB t74 true) (fun K' => ldT P T.uint64 t83 w K') w K') w fun t84 =>
  guardT (isB t74 true) (fun K' => fcallT P F.cmp_Less_uint64 [t80, t84] w K') w fun t85 w =>
  quietT (fun K' => guardT (isB t74 true) (fun K' => unT P .not t85 w K') w K') w fun t86 =>
  quietT (fun K' => pickT t74 t86 (.bool false) w K') w fun t87 =>
  condT t87 (
  fcallT P F.slices_partitionEqualOrdered_uint64 [a0, (gv x0 5), (gv x0 13), (gv x4 0)] w fun t92 w =>
  K0 [t21, (gv x3 0), (gv x4 0), (gv x4 1), t92, t92, (gv x0 6), (gv x0 7), (gv x0 8), (gv x0 9), (gv x0 10), (gv x0 11), (gv x0 12), (gv x0 13)] w) (
  K6 [(gv x0 4), (gv x0 5)] w)) fun x6 w =>
  M.slices_pdqsortOrdered_uint64.j6 a0 x6 x0 x4 t21 x3 K0 w K
def M.slices_pdqsortOrdered_uint64.j4 (x0 : List Value) (x4 : List Value) (a0 : Value) (K0 : KL) (t21 : Value) (x3 : List Value) (w : World) (K : KV) : Prop :=
  joinT (fun K5 =>
  guardT (isB (gv x0 12) true) (fun K' => K' (gv x0 8) w) w fun t63 w =>
  pickT (gv x0 12) t63 (.bool false) w fun t64 w =>
  guardT (isB t64 true) (fun K' => K' (gv x4 1) w) w fun t66 w =>
  guardT (isB t64 true) (fun K' => binT P .eql T.slices_sortedHint (.tmp 66) (.const (.int .i64 1)) t66 (.int .i64 1) w K') w fun t67 w =>
  pickT t64 t67 (.bool false) w fun t68 w =>
  condT t68 (
  fcallT P F.slices_partialInsertionSortOrdered_uint64 [a0, (gv x0 5), (gv x0 13)] w fun t72 w =>
  condT t72 (
  K (.tuple #[]) w) (
  K5 [] w)) (
  K5 [] w)) fun x5 w =>
  M.slices_pdqsortOrdered_uint64.j5 x0 a0 x4 K0 t21 x3 w K
def M.slices_pdqsortOrdered_uint64.j3 (a0 : Value) (x0 : List Value) (K0 : KL) (t21 : Value) (x3 : List Value) (w : World) (K : KV) : Prop :=
  fcallT P F.slices_choosePivotOrdered_uint64 [a0, (gv x0 5), (gv x0 13)] w fun t46 w =>
  exT P t46 0 w fun t47 w =>
  exT P t46 1 w fun t48 w =>
  joinT (fun K4 =>
  binT P .eql T.slices_sortedHint (.tmp 49) (.const (.int .i64 2)) t48 (.int .i64 2) w fun t50 w =>
  condT t50 (
  fcallT P F.slices_reverseRangeOrdered_uint64 [a0, (gv x0 5), (gv x0 13)] w fun t54 w =>
  binT P .sub T.int (.tmp 55) (.const (.int .i64 1)) (gv x0 13) (.int .i64 1) w fun t56 w =>
  binT P .sub T.int (.tmp 57) (.tmp 58) t47 (gv x0 5) w fun t59 w =>
  binT P .sub T.int (.tmp 56) (.tmp 59) t56 t59 w fun t60 w =>
  K4 [t60, (.int .i64 1)] w) (
  K4 [t47, t48] w)) fun x4 w =>
  M.slices_pdqsortOrdered_uint64.j4 x0 x4 a0 K0 t21 x3 w K
def M.slices_pdqsortOrdered_uint64.j2 (x0 : List Value) (a0 : Value) (K0 : KL) (t21 : Value) (w : World) (K : KV) : Prop :=
  joinT (fun K3 =>
  unT P .not (gv x0 12) w fun t35 w =>
  condT t35 (
  fcallT P F.slices_breakPatternsOrdered_uint64 [a0, (gv x0 5), (gv x0 13)] w fun t39 w =>
  binT P .sub T.int (.tmp 40) (.const (.int .i64 1)) (gv x0 1) (.int .i64 1) w fun t41 w =>
  K3 [t41] w) (
  K3 [(gv x0 1)] w)) fun x3 w =>
  M.slices_pdqsortOrdered_uint64.j3 a0 x0 K0 t21 x3 w K
def M.slices_pdqsortOrdered_uint64.j1 (x0 : List Value) (a0 : Value) (K0 : KL) (t21 : Value) (w : World) (K : KV) : Prop :=
  joinT (fun K2 =>
  binT P .eql T.int (.tmp 28) (.const (.int .i64 0)) (gv x0 1) (.int .i64 0) w fun t29 w =>
  condT t29 (
  fcallT P F.slices_heapSortOrdered_uint64 [a0, (gv x0 5), (gv x0 13)] w fun t33 w =>
  K (.tuple #[]) w) (
  K2 [] w)) fun x2 w =>
  M.slices_pdqsortOrdered_uint64.j2 x0 a0 K0 t21 w K
def M.slices_pdqsortOrdered_uint64.j0 (x0 : List Value) (a0 : Value) (K0 : KL) (w : World) (K : KV) : Prop :=
  binT P .sub T.int (.tmp 19) (.tmp 20) (gv x0 13) (gv x0 5) w fun t21 w =>
  joinT (fun K1 =>
  binT P .leq T.int (.tmp 22) (.const (.int .i64 12)) t21 (.int .i64 12) w fun t23 w =>
  condT t23 (
  fcallT P F.slices_insertionSortOrdered_uint64 [a0, (gv x0 5), (gv x0 13)] w fun t27 w =>
  K (.tuple #[]) w) (
  K1 [] w)) fun x1 w =>
  M.slices_pdqsortOrdered_uint64.j1 x0 a0 K0 t21 w K
/-- slices.pdqsortOrdered[uint64] -/
def M.slices_pdqsortOrdered_uint64 (a0 a1 a2 a3 : Value) (w : World) (K : KV) : Prop :=
  loopT [undef, a3, undef, undef, undef, a1, undef, undef, (.bool true), undef, undef, undef, (.bool true), a2] w fun K0 x0 w =>
  M.slices_pdqsortOrdered_uint64.j0 x0 a0 K0 w K
def M.slices_pdqsortOrdered_uint64.L : List Nat := [0, 1, 2, 3, 8, 9, 10, 11, 12, 13, 14, 15, 16, 17, 18]
def M.slices_pdqsortOrdered_uint64.pl : Nat → Plan := fun id => cond (Nat.beq id 17) ⟨(.go 0 (.go 1 (.go 2 (.go 3 (.go 4 (.go 5 (.go 6 (.go 7 (.go 8 (.go 9 (.go 10 (.go 11 (.eff 12 (.go 13 (.go 14 .nil)) .stop))))))))))))), [12], false⟩ (⟨.nil, [], false⟩)
theorem M.slices_pdqsortOrdered_uint64.eq (a0 a1 a2 a3 : Value) (w : World) (K : KV) : M.slices_pdqsortOrdered_uint64 a0 a1 a2 a3 w K = den P M.slices_pdqsortOrdered_uint64.L M.slices_pdqsortOrdered_uint64.pl (Try.f123.body.getD .skip) (argE [a0, a1, a2, a3]) w (bodyQ P Try.f123.results.toList K) := by kernel_rfl
theorem M.slices_pdqsortOrdered_uint64.ok : okFn M.slices_pdqsortOrdered_uint64.L M.slices_pdqsortOrdered_uint64.pl Try.f123 (Try.f123.body.getD .skip) 4 = true := by kernel_rfl
theorem M.slices_pdqsortOrdered_uint64.calls (a0 a1 a2 a3 : Value) {w : World} {K : KV} (h : M.slices_pdqsortOrdered_uint64 a0 a1 a2 a3 w K) : callT P F.slices_pdqsortOrdered_uint64 [a0, a1, a2, a3] w K :=
  callT_of_den (by kernel_rfl) Try.func123 (by kernel_rfl) M.slices_pdqsortOrdered_uint64.ok (M.slices_pdqsortOrdered_uint64.eq a0 a1 a2 a3 w K ▸ h)
theorem M.slices_pdqsortOrdered_uint64.fcall (args : List Value) (w : World) (K : KV) : fcallT P F.slices_pdqsortOrdered_uint64 args w K = callT P F.slices_pdqsortOrdered_uint64 args w K := fcallT_eq Try.func123 (by kernel_rfl) (by kernel_rfl) args w K

/-- cmp.isNaN[uint64] -/
def M.cmp_isNaN_uint64 (a0 : Value) (w : World) (K : KV) : Prop :=
  binT P .neq T.uint64 (.tmp 3) (.tmp 4) a0 a0 w fun t5 w =>
  K t5 w
def M.cmp_isNaN_uint64.L : List Nat := [0, 2]
def M.cmp_isNaN_uint64.pl : Nat → Plan := fun id => ⟨.nil, [], false⟩
theorem M.cmp_isNaN_uint64.eq (a0 : Value) (w : World) (K : KV) : M.cmp_isNaN_uint64 a0 w K = den P M.cmp_isNaN_uint64.L M.cmp_isNaN_uint64.pl (Try.f124.body.getD .skip) (argE [a0]) w (bodyQ P Try.f124.results.toList K) := by kernel_rfl
theorem M.cmp_isNaN_uint64.ok : okFn M.cmp_isNaN_uint64.L M.cmp_isNaN_uint64.pl Try.f124 (Try.f124.body.getD .skip) 1 = true := by kernel_rfl
theorem M.cmp_isNaN_uint64.calls (a0 : Value) {w : World} {K : KV} (h : M.cmp_isNaN_uint64 a0 w K) : callT P F.cmp_isNaN_uint64 [a0] w K :=
  callT_of_den (by kernel_rfl) Try.func124 (by kernel_rfl) M.cmp_isNaN_uint64.ok (M.cmp_isNaN_uint64.eq a0 w K ▸ h)
theorem M.cmp_isNaN_uint64.fcall (args : List Value) (w : World) (K : KV) : fcallT P F.cmp_isNaN_uint64 args w K = callT P F.cmp_isNaN_uint64 args w K := fcallT_eq Try.func124 (by kernel_rfl) (by kernel_rfl) args w K

/-- cmp.isNaN[int] -/
def M.cmp_isNaN_int (a0 : Value) (w : World) (K : KV) : Prop :=
  binT P .neq T.int (.tmp 3) (.tmp 4) a0 a0 w fun t5 w =>
  K t5 w
def M.cmp_isNaN_int.L : List Nat := [0, 2]
def M.cmp_isNaN_int.pl : Nat → Plan := fun id => ⟨.nil, [], false⟩
theorem M.cmp_isNaN_int.eq (a0 : Value) (w : World) (K : KV) : M.cmp_isNaN_int a0 w K = den P M.cmp_isNaN_int.L M.cmp_isNaN_int.pl (Try.f125.body.getD .skip) (argE [a0]) w (bodyQ P Try.f125.results.toList K) := by kernel_rfl
theorem M.cmp_isNaN_int.ok : okFn M.cmp_isNaN_int.L M.cmp_isNaN_int.pl Try.f125 (Try.f125.body.getD .skip) 1 = true := by kernel_rfl
theorem M.cmp_isNaN_int.calls (a0 : Value) {w : World} {K : KV} (h : M.cmp_isNaN_int a0 w K) : callT P F.cmp_isNaN_int [a0] w K :=
  callT_of_den (by kernel_rfl) Try.func125 (by kernel_rfl) M.cmp_isNaN_int.ok (M.cmp_isNaN_int.eq a0 w K ▸ h)
theorem M.cmp_isNaN_int.fcall (args : List Value) (w : World) (K : KV) : fcallT P F.cmp_isNaN_int args w K = callT P F.cmp_isNaN_int args w K := fcallT_eq Try.func125 (by kernel_rfl) (by kernel_rfl) args w K

def M.message_thing.j3 (x3 : List Value) (t1 : Value) (t4 : Value) (K0 : KL) (x1 : List Value) (t19 : Value) (x2 : List Value) (w : World) (K : KV) : Prop :=
  condT (gv x3 0) (
  faT P T.api_Packet t1 1 w fun t39 w =>
  ldT P T.uint64 t39 w fun t40 w =>
  faT P T.api_Packet t1 2 w fun t41 w =>
  ldT P T.api_Ballot t41 w fun t42 w =>
  faT P T.api_Packet t1 5 w fun t43 w =>
  ldT P T.bool t43 w fun t44 w =>
  faT P T.api_Packet t1 3 w fun t45 w =>
  ldT P T.api_Ballot t45 w fun t46 w =>
  faT P T.api_Packet t1 4 w fun t47 w =>
  ldT P T.api_Verdict t47 w fun t48 w =>
  faT P T.api_Packet t1 0 w fun t49 w =>
  ldT P T.int t49 w fun t50 w =>
  binT P .eql T.int (.tmp 50) (.const (.int .i64 7)) t50 (.int .i64 7) w fun t51 w =>
  bldT P T.message_Reply #[(0, t40), (1, t42), (2, t44), (3, t46), (4, t48), (5, t51)] w fun t52 w =>
  mkiT P T.message_Reply t52 w fun t53 w =>
  K t53 w) (
  binT P .eql T.int (.tmp 4) (.const (.int .i64 8)) t4 (.int .i64 8) w fun t55 w =>
  condT t55 (
  faT P T.api_Packet t1 1 w fun t56 w =>
  ldT P T.uint64 t56 w fun t57 w =>
  faT P T.api_Packet t1 4 w fun t58 w =>
  ldT P T.api_Verdict t58 w fun t59 w =>
  bldT P T.message_Told #[(0, t57), (1, t59)] w fun t60 w =>
  mkiT P T.message_Told t60 w fun t61 w =>
  K t61 w) (
  binT P .eql T.int (.tmp 4) (.const (.int .i64 9)) t4 (.int .i64 9) w fun t63 w =>
  condT t63 (
  drawT w fun w =>
  quietT (fun K' => faT P T.api_Packet t1 1 w K') w fun t64 =>
  quietT (fun K' => ldT P T.uint64 t64 w K') w fun t65 =>
  quietT (fun K' => faT P T.api_Packet t1 2 w K') w fun t66 =>
  quietT (fun K' => ldT P T.api_Ballot t66 w K') w fun t67 =>
  quietT (fun K' => faT P T.api_Packet t1 6 w K') w fun t68 =>
  quietT (fun K' => ldT P T.sl_api_Span t68 w K') w fun t69 =>
  fcallT P F.slices_Clone_api_Span_api_Span [t69] w fun t70 w =>
  stabT (fun K' => ldT P T.api_Ballot t66 w K') w t67 ∧ stabT (fun K' => faT P T.api_Packet t1 2 w K') w t66 ∧ stabT (fun K' => ldT P T.uint64 t64 w K') w t65 ∧ stabT (fun K' => faT P T.api_Packet t1 1 w K') w t64 ∧ quietT (fun K' => bldT P T.message_Stored #[(0, t65), (1, t67), (2, t70)] w K') w fun t71 =>
  quietT (fun K' => mkiT P T.message_Stored t71 w K') w fun t72 =>
  K t72 w) (
  binT P .eql T.int (.tmp 4) (.const (.int .i64 10)) t4 (.int .i64 10) w fun t74 w =>
  condT t74 (
  drawT w fun w =>
  quietT (fun K' => faT P T.api_Packet t1 1 w K') w fun t75 =>
  quietT (fun K' => ldT P T.uint64 t75 w K') w fun t76 =>
  quietT (fun K' => faT P T.api_Packet t1 8 w K') w fun t77 =>
  quietT (fun K' => ldT P T.sl_uint64 t77 w K') w fun t78 =>
  fcallT P F.slices_Clone_uint64_uint64 [t78] w fun t79 w =>
  stabT (fun K' => ldT P T.uint64 t75 w K') w t76 ∧ stabT (fun K' => faT P T.api_Packet t1 1 w K') w t75 ∧ quietT (fun K' => bldT P T.message_Acked #[(0, t76), (1, t79)] w K') w fun t80 =>
  quietT (fun K' => mkiT P T.message_Acked t80 w K') w fun t81 =>
  K t81 w) (
  K0 [t4, (gv x1 0), .nilIface, t19, (gv x2 0), (gv x3 0), t55, t63, t74] w))))
def M.message_thing.j2 (x2 : List Value) (t1 : Value) (t4 : Value) (K0 : KL) (x1 : List Value) (t19 : Value) (w : World) (K : KV) : Prop :=
  condT (gv x2 0) (
  faT P T.api_Packet t1 1 w fun t28 w =>
  ldT P T.uint64 t28 w fun t29 w =>
  faT P T.api_Packet t1 2 w fun t30 w =>
  ldT P T.api_Ballot t30 w fun t31 w =>
  faT P T.api_Packet t1 4 w fun t32 w =>
  ldT P T.api_Verdict t32 w fun t33 w =>
  bldT P T.message_Ask #[(0, t29), (1, t31), (2, t33)] w fun t34 w =>
  mkiT P T.message_Ask t34 w fun t35 w =>
  K t35 w) (
  joinT (fun K3 =>
  binT P .eql T.int (.tmp 4) (.const (.int .i64 5)) t4 (.int .i64 5) w fun t37 w =>
  condT t37 (
  K3 [t37] w) (
  binT P .eql T.int (.tmp 4) (.const (.int .i64 7)) t4 (.int .i64 7) w fun t38 w =>
  K3 [t38] w)) fun x3 w =>
  M.message_thing.j3 x3 t1 t4 K0 x1 t19 x2 w K)
def M.message_thing.j1 (x1 : List Value) (t1 : Value) (t4 : Value) (K0 : KL) (w : World) (K : KV) : Prop :=
  condT (gv x1 0) (
  drawT w fun w =>
  quietT (fun K' => faT P T.api_Packet t1 1 w K') w fun t8 =>
  quietT (fun K' => ldT P T.uint64 t8 w K') w fun t9 =>
  quietT (fun K' => faT P T.api_Packet t1 0 w K') w fun t10 =>
  quietT (fun K' => ldT P T.int t10 w K') w fun t11 =>
  quietT (fun K' => binT P .eql T.int (.tmp 11) (.const (.int .i64 2)) t11 (.int .i64 2) w K') w fun t12 =>
  quietT (fun K' => faT P T.api_Packet t1 6 w K') w fun t13 =>
  quietT (fun K' => ldT P T.sl_api_Span t13 w K') w fun t14 =>
  fcallT P F.slices_Clone_api_Span_api_Span [t14] w fun t15 w =>
  stabT (fun K' => binT P .eql T.int (.tmp 11) (.const (.int .i64 2)) t11 (.int .i64 2) w K') w t12 ∧ stabT (fun K' => ldT P T.int t10 w K') w t11 ∧ stabT (fun K' => faT P T.api_Packet t1 0 w K') w t10 ∧ stabT (fun K' => ldT P T.uint64 t8 w K') w t9 ∧ stabT (fun K' => faT P T.api_Packet t1 1 w K') w t8 ∧ quietT (fun K' => bldT P T.message_Spans #[(0, t9), (1, t12), (2, t15)] w K') w fun t16 =>
  quietT (fun K' => mkiT P T.message_Spans t16 w K') w fun t17 =>
  K t17 w) (
  binT P .eql T.int (.tmp 4) (.const (.int .i64 3)) t4 (.int .i64 3) w fun t19 w =>
  condT t19 (
  faT P T.api_Packet t1 7 w fun t20 w =>
  ldT P T.sl_api_Member t20 w fun t21 w =>
  fcallT P F.slices_Clone_api_Member_api_Member [t21] w fun t22 w =>
  bldT P T.message_Members #[(0, t22)] w fun t23 w =>
  mkiT P T.message_Members t23 w fun t24 w =>
  K t24 w) (
  joinT (fun K2 =>
  binT P .eql T.int (.tmp 4) (.const (.int .i64 4)) t4 (.int .i64 4) w fun t26 w =>
  condT t26 (
  K2 [t26] w) (
  binT P .eql T.int (.tmp 4) (.const (.int .i64 6)) t4 (.int .i64 6) w fun t27 w =>
  K2 [t27] w)) fun x2 w =>
  M.message_thing.j2 x2 t1 t4 K0 x1 t19 w K))
/-- winnow/message.thing -/
def M.message_thing (a0 : Value) (w : World) (K : KV) : Prop :=
  boxT P T.api_Packet a0 w fun t1 w =>
  joinT (fun K0 =>
  faT P T.api_Packet t1 0 w fun t3 w =>
  ldT P T.int t3 w fun t4 w =>
  joinT (fun K1 =>
  binT P .eql T.int (.tmp 4) (.const (.int .i64 1)) t4 (.int .i64 1) w fun t6 w =>
  condT t6 (
  K1 [t6] w) (
  binT P .eql T.int (.tmp 4) (.const (.int .i64 2)) t4 (.int .i64 2) w fun t7 w =>
  K1 [t7] w)) fun x1 w =>
  M.message_thing.j1 x1 t1 t4 K0 w K) fun x0 w =>
  K .nilIface w
def M.message_thing.L : List Nat := [0, 2, 5, 18, 25, 36, 54, 62, 73, 1, 4]
def M.message_thing.pl : Nat → Plan := fun id => cond (Nat.beq id 4) ⟨(.go 0 (.go 1 (.go 2 (.go 3 (.go 4 (.go 5 (.go 6 (.eff 7 (.go 8 (.go 9 (.eff 10 .nil .stop))) .stop)))))))), [7, 10], false⟩ (cond (Nat.beq id 16) ⟨(.go 0 (.go 1 (.go 2 (.go 3 (.go 4 (.go 5 (.eff 6 (.go 7 (.go 8 (.eff 9 .nil .stop))) .stop))))))), [6, 9], false⟩ (cond (Nat.beq id 18) ⟨(.go 0 (.go 1 (.go 2 (.go 3 (.eff 4 (.go 5 (.go 6 (.eff 7 .nil .stop))) .stop))))), [4, 7], false⟩ (⟨.nil, [], false⟩)))
theorem M.message_thing.eq (a0 : Value) (w : World) (K : KV) : M.message_thing a0 w K = den P M.message_thing.L M.message_thing.pl (Try.f126.body.getD .skip) (argE [a0]) w (bodyQ P Try.f126.results.toList K) := by kernel_rfl
theorem M.message_thing.ok : okFn M.message_thing.L M.message_thing.pl Try.f126 (Try.f126.body.getD .skip) 1 = true := by kernel_rfl
theorem M.message_thing.calls (a0 : Value) {w : World} {K : KV} (h : M.message_thing a0 w K) : callT P F.message_thing [a0] w K :=
  callT_of_den (by kernel_rfl) Try.func126 (by kernel_rfl) M.message_thing.ok (M.message_thing.eq a0 w K ▸ h)
theorem M.message_thing.fcall (args : List Value) (w : World) (K : KV) : fcallT P F.message_thing args w K = callT P F.message_thing args w K := fcallT_eq Try.func126 (by kernel_rfl) (by kernel_rfl) args w K

def M.message_right.j1 (t8 : Value) (t3 : Value) (w : World) (K : KV) : Prop :=
  faT P T.message_Reply t8 4 w fun t100 w =>
  ldT P T.api_Verdict t100 w fun t101 w =>
  fcallT P F.message_told [t101] w fun t102 w =>
  guardT (isB t102 true) (fun K' => faT P T.message_Reply t8 3 w K') w fun t104 w =>
  guardT (isB t102 true) (fun K' => ldT P T.api_Ballot t104 w K') w fun t105 w =>
  guardT (isB t102 true) (fun K' => ldT P T.api_Ballot t3 w K') w fun t106 w =>
  guardT (isB t102 true) (fun K' => binT P .neq T.api_Ballot (.tmp 105) (.tmp 106) t105 t106 w K') w fun t107 w =>
  pickT t102 t107 (.bool false) w fun t108 w =>
  guardT (isB t108 false) (fun K' => faT P T.message_Reply t8 4 w K') w fun t110 w =>
  guardT (isB t108 false) (fun K' => ldT P T.api_Verdict t110 w K') w fun t111 w =>
  guardT (isB t108 false) (fun K' => binT P .eql T.api_Verdict (.tmp 111) (.const (.int .i64 0)) t111 (.int .i64 0) w K') w fun t112 w =>
  guardT (isB t108 false) (fun K' => K' t112 w) w fun t113 w =>
  guardT (isB t113 true) (fun K' => faT P T.message_Reply t8 3 w K') w fun t114 w =>
  guardT (isB t113 true) (fun K' => ldT P T.api_Ballot t114 w K') w fun t115 w =>
  guardT (isB t113 true) (fun K' => ldT P T.api_Ballot t3 w K') w fun t116 w =>
  guardT (isB t113 true) (fun K' => binT P .eql T.api_Ballot (.tmp 115) (.tmp 116) t115 t116 w K') w fun t117 w =>
  guardT (isB t108 false) (fun K' => pickT t113 t117 (.bool false) w K') w fun t118 w =>
  pickT t108 (.bool true) t118 w fun t119 w =>
  K t119 w
/-- winnow/message.right -/
def M.message_right (a0 : Value) (w : World) (K : KV) : Prop :=
  bldT P T.api_Ballot #[] w fun t12 w =>
  alT P T.api_Ballot w fun t3 w =>
  stT P T.api_Ballot t3 t12 w fun _ w =>
  joinT (fun K0 =>
  taT P a0 T.any T.message_Spans true w fun t14 w =>
  exT P t14 1 w fun t15 w =>
  exT P t14 0 w fun t16 w =>
  condT t15 (
  alT P T.message_Spans w fun t4 w =>
  stT P T.message_Spans t4 t16 w fun _ w =>
  faT P T.message_Spans t4 0 w fun t17 w =>
  ldT P T.uint64 t17 w fun t18 w =>
  binT P .gtr T.uint64 (.tmp 18) (.const (.int .u64 0)) t18 (.int .u64 0) w fun t19 w =>
  guardT (isB t19 true) (fun K' => faT P T.message_Spans t4 0 w K') w fun t21 w =>
  guardT (isB t19 true) (fun K' => ldT P T.uint64 t21 w K') w fun t22 w =>
  guardT (isB t19 true) (fun K' => faT P T.message_Spans t4 2 w K') w fun t23 w =>
  guardT (isB t19 true) (fun K' => ldT P T.sl_api_Span t23 w K') w fun t24 w =>
  guardT (isB t19 true) (fun K' => fcallT P F.message_spans [t22, t24] w K') w fun t25 w =>
  pickT t19 t25 (.bool false) w fun t26 w =>
  K t26 w) (
  taT P a0 T.any T.message_Members true w fun t27 w =>
  exT P t27 1 w fun t28 w =>
  exT P t27 0 w fun t29 w =>
  condT t28 (
  alT P T.message_Members w fun t5 w =>
  stT P T.message_Members t5 t29 w fun _ w =>
  faT P T.message_Members t5 0 w fun t30 w =>
  ldT P T.sl_api_Member t30 w fun t31 w =>
  fcallT P F.message_rise_api_Member [t31, (.int .i64 16), (.func (.func F.message_right_2) #[] #[])] w fun t32 w =>
  guardT (isB t32 true) (fun K' => faT P T.message_Members t5 0 w K') w fun t34 w =>
  guardT (isB t32 true) (fun K' => ldT P T.sl_api_Member t34 w K') w fun t35 w =>
  guardT (isB t32 true) (fun K' => K' (.func (.func F.message_right_1) #[] #[]) w) w fun t36 w =>
  guardT (isB t32 true) (fun K' => fcallT P F.slices_ContainsFunc_api_Member_api_Member [t35, t36] w K') w fun t37 w =>
  guardT (isB t32 true) (fun K' => unT P .not t37 w K') w fun t38 w =>
  pickT t32 t38 (.bool false) w fun t39 w =>
  K t39 w) (
  taT P a0 T.any T.message_Ask true w fun t40 w =>
  exT P t40 1 w fun t41 w =>
  exT P t40 0 w fun t42 w =>
  condT t41 (
  alT P T.message_Ask w fun t7 w =>
  stT P T.message_Ask t7 t42 w fun _ w =>
  faT P T.message_Ask t7 0 w fun t43 w =>
  ldT P T.uint64 t43 w fun t44 w =>
  binT P .gtr T.uint64 (.tmp 44) (.const (.int .u64 0)) t44 (.int .u64 0) w fun t45 w =>
  guardT (isB t45 true) (fun K' => faT P T.message_Ask t7 1 w K') w fun t47 w =>
  guardT (isB t45 true) (fun K' => faT P T.api_Ballot t47 0 w K') w fun t48 w =>
  guardT (isB t45 true) (fun K' => ldT P T.uint64 t48 w K') w fun t49 w =>
  guardT (isB t45 true) (fun K' => binT P .gtr T.uint64 (.tmp 49) (.const (.int .u64 0)) t49 (.int .u64 0) w K') w fun t50 w =>
  pickT t45 t50 (.bool false) w fun t51 w =>
  guardT (isB t51 true) (fun K' => faT P T.message_Ask t7 2 w K') w fun t53 w =>
  guardT (isB t51 true) (fun K' => ldT P T.api_Verdict t53 w K') w fun t54 w =>
  guardT (isB t51 true) (fun K' => binT P .eql T.api_Verdict (.tmp 54) (.const (.int .i64 0)) t54 (.int .i64 0) w K') w fun t55 w =>
  guardT (isB t51 true) (fun K' => K' t55 w) w fun t56 w =>
  guardT (isB t56 false) (fun K' => faT P T.message_Ask t7 2 w K') w fun t57 w =>
  guardT (isB t56 false) (fun K' => ldT P T.api_Verdict t57 w K') w fun t58 w =>
  guardT (isB t56 false) (fun K' => fcallT P F.message_told [t58] w K') w fun t59 w =>
  guardT (isB t51 true) (fun K' => pickT t56 (.bool true) t59 w K') w fun t60 w =>
  pickT t51 t60 (.bool false) w fun t61 w =>
  K t61 w) (
  taT P a0 T.any T.message_Reply true w fun t62 w =>
  exT P t62 1 w fun t63 w =>
  exT P t62 0 w fun t64 w =>
  condT t63 (
  alT P T.message_Reply w fun t8 w =>
  stT P T.message_Reply t8 t64 w fun _ w =>
  joinT (fun K1 =>
  faT P T.message_Reply t8 0 w fun t66 w =>
  ldT P T.uint64 t66 w fun t67 w =>
  binT P .eql T.uint64 (.tmp 67) (.const (.int .u64 0)) t67 (.int .u64 0) w fun t68 w =>
  guardT (isB t68 false) (fun K' => faT P T.message_Reply t8 1 w K') w fun t70 w =>
  guardT (isB t68 false) (fun K' => faT P T.api_Ballot t70 0 w K') w fun t71 w =>
  guardT (isB t68 false) (fun K' => ldT P T.uint64 t71 w K') w fun t72 w =>
  guardT (isB t68 false) (fun K' => binT P .eql T.uint64 (.tmp 72) (.const (.int .u64 0)) t72 (.int .u64 0) w K') w fun t73 w =>
  pickT t68 (.bool true) t73 w fun t74 w =>
  condT t74 (
  K (.bool false) w) (
  faT P T.message_Reply t8 2 w fun t76 w =>
  ldT P T.bool t76 w fun t77 w =>
  unT P .not t77 w fun t78 w =>
  condT t78 (
  faT P T.message_Reply t8 4 w fun t79 w =>
  ldT P T.api_Verdict t79 w fun t80 w =>
  binT P .eql T.api_Verdict (.tmp 80) (.const (.int .i64 0)) t80 (.int .i64 0) w fun t81 w =>
  guardT (isB t81 true) (fun K' => faT P T.message_Reply t8 3 w K') w fun t83 w =>
  guardT (isB t81 true) (fun K' => ldT P T.api_Ballot t83 w K') w fun t84 w =>
  guardT (isB t81 true) (fun K' => ldT P T.api_Ballot t3 w K') w fun t85 w =>
  guardT (isB t81 true) (fun K' => binT P .neq T.api_Ballot (.tmp 84) (.tmp 85) t84 t85 w K') w fun t86 w =>
  pickT t81 t86 (.bool false) w fun t87 w =>
  K t87 w) (
  faT P T.message_Reply t8 5 w fun t89 w =>
  ldT P T.bool t89 w fun t90 w =>
  condT t90 (
  faT P T.message_Reply t8 4 w fun t91 w =>
  ldT P T.api_Verdict t91 w fun t92 w =>
  binT P .eql T.api_Verdict (.tmp 92) (.const (.int .i64 0)) t92 (.int .i64 0) w fun t93 w =>
  guardT (isB t93 true) (fun K' => faT P T.message_Reply t8 3 w K') w fun t95 w =>
  guardT (isB t93 true) (fun K' => ldT P T.api_Ballot t95 w K') w fun t96 w =>
  guardT (isB t93 true) (fun K' => ldT P T.api_Ballot t3 w K') w fun t97 w =>
  guardT (isB t93 true) (fun K' => binT P .eql T.api_Ballot (.tmp 96) (.tmp 97) t96 t97 w K') w fun t98 w =>
  pickT t93 t98 (.bool false) w fun t99 w =>
  K t99 w) (
  K1 [t74, (.bool false), t78, t90] w)))) fun x1 w =>
  M.message_right.j1 t8 t3 w K) (
  taT P a0 T.any T.message_Told true w fun t120 w =>
  exT P t120 1 w fun t121 w =>
  exT P t120 0 w fun t122 w =>
  condT t121 (
  alT P T.message_Told w fun t9 w =>
  stT P T.message_Told t9 t122 w fun _ w =>
  faT P T.message_Told t9 0 w fun t123 w =>
  ldT P T.uint64 t123 w fun t124 w =>
  binT P .gtr T.uint64 (.tmp 124) (.const (.int .u64 0)) t124 (.int .u64 0) w fun t125 w =>
  guardT (isB t125 true) (fun K' => faT P T.message_Told t9 1 w K') w fun t127 w =>
  guardT (isB t125 true) (fun K' => ldT P T.api_Verdict t127 w K') w fun t128 w =>
  guardT (isB t125 true) (fun K' => fcallT P F.message_told [t128] w K') w fun t129 w =>
  pickT t125 t129 (.bool false) w fun t130 w =>
  K t130 w) (
  taT P a0 T.any T.message_Stored true w fun t131 w =>
  exT P t131 1 w fun t132 w =>
  exT P t131 0 w fun t133 w =>
  condT t132 (
  alT P T.message_Stored w fun t10 w =>
  stT P T.message_Stored t10 t133 w fun _ w =>
  faT P T.message_Stored t10 0 w fun t134 w =>
  ldT P T.uint64 t134 w fun t135 w =>
  binT P .gtr T.uint64 (.tmp 135) (.const (.int .u64 0)) t135 (.int .u64 0) w fun t136 w =>
  guardT (isB t136 true) (fun K' => faT P T.message_Stored t10 1 w K') w fun t138 w =>
  guardT (isB t136 true) (fun K' => faT P T.api_Ballot t138 0 w K') w fun t139 w =>
  guardT (isB t136 true) (fun K' => ldT P T.uint64 t139 w K') w fun t140 w =>
  guardT (isB t136 true) (fun K' => binT P .gtr T.uint64 (.tmp 140) (.const (.int .u64 0)) t140 (.int .u64 0) w K') w fun t141 w =>
  pickT t136 t141 (.bool false) w fun t142 w =>
  guardT (isB t142 true) (fun K' => faT P T.message_Stored t10 0 w K') w fun t144 w =>
  guardT (isB t142 true) (fun K' => ldT P T.uint64 t144 w K') w fun t145 w =>
  guardT (isB t142 true) (fun K' => faT P T.message_Stored t10 2 w K') w fun t146 w =>
  guardT (isB t142 true) (fun K' => ldT P T.sl_api_Span t146 w K') w fun t147 w =>
  guardT (isB t142 true) (fun K' => fcallT P F.message_spans [t145, t147] w K') w fun t148 w =>
  pickT t142 t148 (.bool false) w fun t149 w =>
  K t149 w) (
  taT P a0 T.any T.message_Acked true w fun t150 w =>
  exT P t150 1 w fun t151 w =>
  exT P t150 0 w fun t152 w =>
  condT t151 (
  alT P T.message_Acked w fun t11 w =>
  stT P T.message_Acked t11 t152 w fun _ w =>
  faT P T.message_Acked t11 0 w fun t153 w =>
  ldT P T.uint64 t153 w fun t154 w =>
  binT P .gtr T.uint64 (.tmp 154) (.const (.int .u64 0)) t154 (.int .u64 0) w fun t155 w =>
  guardT (isB t155 true) (fun K' => faT P T.message_Acked t11 1 w K') w fun t157 w =>
  guardT (isB t155 true) (fun K' => ldT P T.sl_uint64 t157 w K') w fun t158 w =>
  guardT (isB t155 true) (fun K' => fcallT P F.message_rise_uint64 [t158, (.int .i64 16), (.func (.func F.message_right_3) #[] #[])] w K') w fun t159 w =>
  pickT t155 t159 (.bool false) w fun t160 w =>
  K t160 w) (
  K0 [(.bool false), undef, undef, undef, undef, undef] w)))))))) fun x0 w =>
  K (.bool false) w
def M.message_right.L : List Nat := [0, 2, 6, 65, 75, 88, 8, 3]
def M.message_right.pl : Nat → Plan := fun id => ⟨.nil, [], false⟩
theorem M.message_right.eq (a0 : Value) (w : World) (K : KV) : M.message_right a0 w K = den P M.message_right.L M.message_right.pl (Try.f127.body.getD .skip) (argE [a0]) w (bodyQ P Try.f127.results.toList K) := by kernel_rfl
theorem M.message_right.ok : okFn M.message_right.L M.message_right.pl Try.f127 (Try.f127.body.getD .skip) 1 = true := by kernel_rfl
theorem M.message_right.calls (a0 : Value) {w : World} {K : KV} (h : M.message_right a0 w K) : callT P F.message_right [a0] w K :=
  callT_of_den (by kernel_rfl) Try.func127 (by kernel_rfl) M.message_right.ok (M.message_right.eq a0 w K ▸ h)
theorem M.message_right.fcall (args : List Value) (w : World) (K : KV) : fcallT P F.message_right args w K = callT P F.message_right args w K := fcallT_eq Try.func127 (by kernel_rfl) (by kernel_rfl) args w K

end Go.Proofs.Ytgcpljghnlohbaa
