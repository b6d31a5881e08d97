/-
  Printed by wip/Shallow.lean: functions of the program, read shallow; each is what its code does. No condition.
-/
import Derived.Test.YtkjhekflgghbdaaN
set_option maxRecDepth 1000000
namespace Go.Proofs.Ytkjhekflgghbdaa
open Go.Eng

/-- slices.Sort[[]uint64,uint64] -/
def M.slices_Sort_uint64_uint64 (a0 : Value) (w : World) (K : KV) : Prop :=
  biT P .len #[T.sl_uint64] T.int [false] [a0] w fun t4 w =>
  cvT P T.int T.uint t4 w fun t8 w =>
  fcallT P F.math_bits_Len [t8] w fun t9 w =>
  fcallT P F.slices_pdqsortOrdered_uint64 [a0, (.int .i64 0), t4, t9] w fun t10 w =>
  K (.tuple #[]) w
def M.slices_Sort_uint64_uint64.L : List Nat := [0, 2]
def M.slices_Sort_uint64_uint64.pl : Nat → Plan := fun id => ⟨.nil, [], false, []⟩
theorem M.slices_Sort_uint64_uint64.eq (a0 : Value) (w : World) (K : KV) : M.slices_Sort_uint64_uint64 a0 w K = den P M.slices_Sort_uint64_uint64.L M.slices_Sort_uint64_uint64.pl (Try.f111.body.getD .skip) (argE [a0]) w (bodyQ P Try.f111.results.toList K) := by kernel_rfl
theorem M.slices_Sort_uint64_uint64.ok : okFn M.slices_Sort_uint64_uint64.L M.slices_Sort_uint64_uint64.pl Try.f111 (Try.f111.body.getD .skip) 1 = true := by kernel_rfl
theorem M.slices_Sort_uint64_uint64.calls (a0 : Value) {w : World} {K : KV} (h : M.slices_Sort_uint64_uint64 a0 w K) : callT P F.slices_Sort_uint64_uint64 [a0] w K :=
  callT_of_den (by kernel_rfl) Try.func111 (by kernel_rfl) M.slices_Sort_uint64_uint64.ok (M.slices_Sort_uint64_uint64.eq a0 w K ▸ h)
theorem M.slices_Sort_uint64_uint64.fcall (args : List Value) (w : World) (K : KV) : fcallT P F.slices_Sort_uint64_uint64 args w K = callT P F.slices_Sort_uint64_uint64 args w K := fcallT_eq Try.func111 (by kernel_rfl) (by kernel_rfl) args w K
theorem M.slices_Sort_uint64_uint64.rcall (a c args : List Value) (w : World) (K : KV) : callRT P (.func (.func F.slices_Sort_uint64_uint64) a.toArray c.toArray) args w K = callT P F.slices_Sort_uint64_uint64 (a ++ args ++ c) w K := callR_fn Try.func111 (by kernel_rfl) (by kernel_rfl) a c args w K

def M.ptimers_Heap_Next.j0 (a0 : Value) (w : World) (K : KV) : Prop :=
  drawT w fun w =>
  w = w ∧ quietT (fun K' => nilT a0 w K') w fun t9 =>
  quietT (fun K' => faT P T.timers_Heap t9 0 w K') w fun t10 =>
  quietT (fun K' => ldT P T.timers_line t10 w K') w fun t11 =>
  quietT (fun K' => iaT P T.timers_line t11 (.int .i64 0) w K') w fun t12 =>
  quietT (fun K' => ldT P T.p_timers_item t12 w K') w fun t13 =>
  quietT (fun K' => nilT t13 w K') w fun t14 =>
  quietT (fun K' => faT P T.timers_item t14 0 w K') w fun t15 =>
  quietT (fun K' => ldT P T.uint64 t15 w K') w fun t16 =>
  w = w ∧ quietT (fun K' => nilT a0 w K') w fun t18 =>
  quietT (fun K' => faT P T.timers_Heap t18 0 w K') w fun t19 =>
  quietT (fun K' => ldT P T.timers_line t19 w K') w fun t20 =>
  quietT (fun K' => iaT P T.timers_line t20 (.int .i64 0) w K') w fun t21 =>
  quietT (fun K' => ldT P T.p_timers_item t21 w K') w fun t22 =>
  quietT (fun K' => nilT t22 w K') w fun t23 =>
  quietT (fun K' => faT P T.timers_item t23 1 w K') w fun t24 =>
  quietT (fun K' => ldT P T.uint64 t24 w K') w fun t25 =>
  stabT (fun K' => ldT P T.uint64 t24 w K') w t25 ∧ stabT (fun K' => faT P T.timers_item t23 1 w K') w t24 ∧ stabT (fun K' => nilT t22 w K') w t23 ∧ stabT (fun K' => ldT P T.p_timers_item t21 w K') w t22 ∧ stabT (fun K' => iaT P T.timers_line t20 (.int .i64 0) w K') w t21 ∧ stabT (fun K' => ldT P T.timers_line t19 w K') w t20 ∧ stabT (fun K' => faT P T.timers_Heap t18 0 w K') w t19 ∧ stabT (fun K' => nilT a0 w K') w t18 ∧ stabT (fun K' => K' a0 w) w a0 ∧ K (.tuple #[t16, t25, (.bool true)]) w
/-- (*winnow/timers.Heap).Next -/
def M.ptimers_Heap_Next (a0 : Value) (w : World) (K : KV) : Prop :=
  joinT (fun K0 =>
  fcallT P F.ptimers_Heap_Len [a0] w fun t6 w =>
  binT P .eql T.int (.tmp 6) (.const (.int .i64 0)) t6 (.int .i64 0) w fun t7 w =>
  condT t7 (
  K (.tuple #[(.int .u64 0), (.int .u64 0), (.bool false)]) w) (
  K0 [(.int .u64 0), (.int .u64 0), (.bool false)] w)) fun x0 w =>
  M.ptimers_Heap_Next.j0 a0 w K
def M.ptimers_Heap_Next.L : List Nat := [0, 2, 3, 4]
def M.ptimers_Heap_Next.pl : Nat → Plan := fun id => cond (Nat.beq id 3) ⟨(.go 0 (.go 1 (.go 2 (.go 3 (.go 4 (.go 5 (.go 6 (.go 7 (.go 8 (.go 9 (.go 10 (.go 11 (.go 12 (.go 13 (.go 14 (.go 15 (.go 16 (.go 17 (.eff 18 (.eff 19 (.eff 20 .nil .stop) .stop) .stop))))))))))))))))))), [18, 19, 20], false, [0, 1, 3, 7, 15, 31, 63, 127, 255, 0, 512, 1536, 3584, 7680, 15872, 32256, 65024, 130560, 511, 524287, 1048575]⟩ (⟨.nil, [], false, []⟩)
theorem M.ptimers_Heap_Next.eq (a0 : Value) (w : World) (K : KV) : M.ptimers_Heap_Next a0 w K = den P M.ptimers_Heap_Next.L M.ptimers_Heap_Next.pl (Try.f127.body.getD .skip) (argE [a0]) w (bodyQ P Try.f127.results.toList K) := by kernel_rfl
theorem M.ptimers_Heap_Next.ok : okFn M.ptimers_Heap_Next.L M.ptimers_Heap_Next.pl Try.f127 (Try.f127.body.getD .skip) 1 = true := by kernel_rfl
theorem M.ptimers_Heap_Next.calls (a0 : Value) {w : World} {K : KV} (h : M.ptimers_Heap_Next a0 w K) : callT P F.ptimers_Heap_Next [a0] w K :=
  callT_of_den (by kernel_rfl) Try.func127 (by kernel_rfl) M.ptimers_Heap_Next.ok (M.ptimers_Heap_Next.eq a0 w K ▸ h)
theorem M.ptimers_Heap_Next.fcall (args : List Value) (w : World) (K : KV) : fcallT P F.ptimers_Heap_Next args w K = callT P F.ptimers_Heap_Next args w K := fcallT_eq Try.func127 (by kernel_rfl) (by kernel_rfl) args w K
theorem M.ptimers_Heap_Next.rcall (a c args : List Value) (w : World) (K : KV) : callRT P (.func (.func F.ptimers_Heap_Next) a.toArray c.toArray) args w K = callT P F.ptimers_Heap_Next (a ++ args ++ c) w K := callR_fn Try.func127 (by kernel_rfl) (by kernel_rfl) a c args w K

/-- strings.HasPrefix -/
def M.strings_HasPrefix (a0 a1 : Value) (w : World) (K : KV) : Prop :=
  fcallT P F.internal_stringslite_HasPrefix [a0, a1] w fun t7 w =>
  K t7 w
def M.strings_HasPrefix.L : List Nat := [0, 1, 4]
def M.strings_HasPrefix.pl : Nat → Plan := fun id => ⟨.nil, [], false, []⟩
theorem M.strings_HasPrefix.eq (a0 a1 : Value) (w : World) (K : KV) : M.strings_HasPrefix a0 a1 w K = den P M.strings_HasPrefix.L M.strings_HasPrefix.pl (Try.f128.body.getD .skip) (argE [a0, a1]) w (bodyQ P Try.f128.results.toList K) := by kernel_rfl
theorem M.strings_HasPrefix.ok : okFn M.strings_HasPrefix.L M.strings_HasPrefix.pl Try.f128 (Try.f128.body.getD .skip) 2 = true := by kernel_rfl
theorem M.strings_HasPrefix.calls (a0 a1 : Value) {w : World} {K : KV} (h : M.strings_HasPrefix a0 a1 w K) : callT P F.strings_HasPrefix [a0, a1] w K :=
  callT_of_den (by kernel_rfl) Try.func128 (by kernel_rfl) M.strings_HasPrefix.ok (M.strings_HasPrefix.eq a0 a1 w K ▸ h)
theorem M.strings_HasPrefix.fcall (args : List Value) (w : World) (K : KV) : fcallT P F.strings_HasPrefix args w K = callT P F.strings_HasPrefix args w K := fcallT_eq Try.func128 (by kernel_rfl) (by kernel_rfl) args w K
theorem M.strings_HasPrefix.rcall (a c args : List Value) (w : World) (K : KV) : callRT P (.func (.func F.strings_HasPrefix) a.toArray c.toArray) args w K = callT P F.strings_HasPrefix (a ++ args ++ c) w K := callR_fn Try.func128 (by kernel_rfl) (by kernel_rfl) a c args w K

def M.heap_down.j3 (a0 : Value) (x3 : List Value) (x1 : List Value) (K0 : KL) (t14 : Value) (K1 : KL) (w : World) (K : KV) : Prop :=
  joinT (fun K4 =>
  invokeT P a0 "Less" [(gv x3 1), (gv x1 3)] w fun t38 w =>
  unT P .not t38 w fun t39 w =>
  condT t39 (
  K0 [t14, (gv x3 1), (gv x3 0), (gv x1 3)] w) (
  K4 [] w)) fun x4 w =>
  invokeT P a0 "Swap" [(gv x1 3), (gv x3 1)] w fun t43 w =>
  K1 [t14, (gv x3 1), (gv x3 0), (gv x3 1)] w
def M.heap_down.j2 (t14 : Value) (a2 : Value) (a0 : Value) (x1 : List Value) (K0 : KL) (K1 : KL) (w : World) (K : KV) : Prop :=
  joinT (fun K3 =>
  binT P .add T.int (.tmp 23) (.const (.int .i64 1)) t14 (.int .i64 1) w fun t24 w =>
  binT P .lss T.int (.tmp 25) (.tmp 26) t24 a2 w fun t27 w =>
  guardT (isB t27 true) (fun K' => K' a0 w) w fun t29 w =>
  guardT (isB t27 true) (fun K' => K' t24 w) w fun t30 w =>
  guardT (isB t27 true) (fun K' => K' t14 w) w fun t31 w =>
  guardT (isB t27 true) (fun K' => invokeT P t29 "Less" [t30, t31] w K') w fun t32 w =>
  pickT t27 t32 (.bool false) w fun t33 w =>
  condT t33 (
  K3 [t24, t24] w) (
  K3 [t24, t14] w)) fun x3 w =>
  M.heap_down.j3 a0 x3 x1 K0 t14 K1 w K
def M.heap_down.j1 (x1 : List Value) (a2 : Value) (K0 : KL) (a0 : Value) (K1 : KL) (w : World) (K : KV) : Prop :=
  binT P .mul T.int (.const (.int .i64 2)) (.tmp 12) (.int .i64 2) (gv x1 3) w fun t13 w =>
  binT P .add T.int (.tmp 13) (.const (.int .i64 1)) t13 (.int .i64 1) w fun t14 w =>
  joinT (fun K2 =>
  binT P .geq T.int (.tmp 15) (.tmp 16) t14 a2 w fun t17 w =>
  guardT (isB t17 false) (fun K' => K' t14 w) w fun t19 w =>
  guardT (isB t17 false) (fun K' => binT P .lss T.int (.tmp 19) (.const (.int .i64 0)) t19 (.int .i64 0) w K') w fun t20 w =>
  pickT t17 (.bool true) t20 w fun t21 w =>
  condT t21 (
  K0 [t14, (gv x1 1), (gv x1 2), (gv x1 3)] w) (
  K2 [] w)) fun x2 w =>
  M.heap_down.j2 t14 a2 a0 x1 K0 K1 w K
/-- container/heap.down -/
def M.heap_down (a0 a1 a2 : Value) (w : World) (K : KV) : Prop :=
  joinT (fun K0 =>
  loopT [undef, undef, undef, a1] w fun K1 x1 w =>
  M.heap_down.j1 x1 a2 K0 a0 K1 w K) fun x0 w =>
  binT P .gtr T.int (.tmp 45) (.tmp 46) (gv x0 3) a1 w fun t47 w =>
  K t47 w
def M.heap_down.L : List Nat := [0, 1, 2, 6, 7, 8, 9, 10]
def M.heap_down.pl : Nat → Plan := fun id => ⟨.nil, [], false, []⟩
theorem M.heap_down.eq (a0 a1 a2 : Value) (w : World) (K : KV) : M.heap_down a0 a1 a2 w K = den P M.heap_down.L M.heap_down.pl (Try.f129.body.getD .skip) (argE [a0, a1, a2]) w (bodyQ P Try.f129.results.toList K) := by kernel_rfl
theorem M.heap_down.ok : okFn M.heap_down.L M.heap_down.pl Try.f129 (Try.f129.body.getD .skip) 3 = true := by kernel_rfl
theorem M.heap_down.calls (a0 a1 a2 : Value) {w : World} {K : KV} (h : M.heap_down a0 a1 a2 w K) : callT P F.heap_down [a0, a1, a2] w K :=
  callT_of_den (by kernel_rfl) Try.func129 (by kernel_rfl) M.heap_down.ok (M.heap_down.eq a0 a1 a2 w K ▸ h)
theorem M.heap_down.fcall (args : List Value) (w : World) (K : KV) : fcallT P F.heap_down args w K = callT P F.heap_down args w K := fcallT_eq Try.func129 (by kernel_rfl) (by kernel_rfl) args w K
theorem M.heap_down.rcall (a c args : List Value) (w : World) (K : KV) : callRT P (.func (.func F.heap_down) a.toArray c.toArray) args w K = callT P F.heap_down (a ++ args ++ c) w K := callR_fn Try.func129 (by kernel_rfl) (by kernel_rfl) a c args w K

def M.heap_up.j0 (x0 : List Value) (a0 : Value) (K0 : KL) (w : World) (K : KV) : Prop :=
  binT P .sub T.int (.tmp 5) (.const (.int .i64 1)) (gv x0 1) (.int .i64 1) w fun t6 w =>
  binT P .quo T.int (.tmp 6) (.const (.int .i64 2)) t6 (.int .i64 2) w fun t7 w =>
  joinT (fun K1 =>
  binT P .eql T.int (.tmp 8) (.tmp 9) t7 (gv x0 1) w fun t10 w =>
  guardT (isB t10 false) (fun K' => K' a0 w) w fun t12 w =>
  guardT (isB t10 false) (fun K' => K' (gv x0 1) w) w fun t13 w =>
  guardT (isB t10 false) (fun K' => K' t7 w) w fun t14 w =>
  guardT (isB t10 false) (fun K' => invokeT P t12 "Less" [t13, t14] w K') w fun t15 w =>
  guardT (isB t10 false) (fun K' => unT P .not t15 w K') w fun t16 w =>
  pickT t10 (.bool true) t16 w fun t17 w =>
  condT t17 (
  K (.tuple #[]) w) (
  K1 [] w)) fun x1 w =>
  invokeT P a0 "Swap" [t7, (gv x0 1)] w fun t21 w =>
  K0 [t7, t7] w
/-- container/heap.up -/
def M.heap_up (a0 a1 : Value) (w : World) (K : KV) : Prop :=
  loopT [undef, a1] w fun K0 x0 w =>
  M.heap_up.j0 x0 a0 K0 w K
def M.heap_up.L : List Nat := [0, 1, 4]
def M.heap_up.pl : Nat → Plan := fun id => ⟨.nil, [], false, []⟩
theorem M.heap_up.eq (a0 a1 : Value) (w : World) (K : KV) : M.heap_up a0 a1 w K = den P M.heap_up.L M.heap_up.pl (Try.f130.body.getD .skip) (argE [a0, a1]) w (bodyQ P Try.f130.results.toList K) := by kernel_rfl
theorem M.heap_up.ok : okFn M.heap_up.L M.heap_up.pl Try.f130 (Try.f130.body.getD .skip) 2 = true := by kernel_rfl
theorem M.heap_up.calls (a0 a1 : Value) {w : World} {K : KV} (h : M.heap_up a0 a1 w K) : callT P F.heap_up [a0, a1] w K :=
  callT_of_den (by kernel_rfl) Try.func130 (by kernel_rfl) M.heap_up.ok (M.heap_up.eq a0 a1 w K ▸ h)
theorem M.heap_up.fcall (args : List Value) (w : World) (K : KV) : fcallT P F.heap_up args w K = callT P F.heap_up args w K := fcallT_eq Try.func130 (by kernel_rfl) (by kernel_rfl) args w K
theorem M.heap_up.rcall (a c args : List Value) (w : World) (K : KV) : callRT P (.func (.func F.heap_up) a.toArray c.toArray) args w K = callT P F.heap_up (a ++ args ++ c) w K := callR_fn Try.func130 (by kernel_rfl) (by kernel_rfl) a c args w K

def M.winnowref03_Runes.j3 (t13 : Value) (x1 : List Value) (t14 : Value) (K1 : KL) (x3 : List Value) (w : World) (K : KV) : Prop :=
  bsT P T.sl_int32 1 #[(0, t13)] w fun t19 w =>
  biT P .append #[T.sl_int32, T.sl_int32] T.sl_int32 [false, false] [(gv x1 4), t19] w fun t20 w =>
  slT P T.string (gv x1 5) (some t14) none none w fun t23 w =>
  K1 [t13, t14, (gv x3 0), (gv x3 1), t20, t23] w
def M.winnowref03_Runes.j2 (x1 : List Value) (K1 : KL) (w : World) (K : KV) : Prop :=
  fcallT P F.winnowref03_Rune [(gv x1 5)] w fun t12 w =>
  exT P t12 0 w fun t13 w =>
  exT P t12 1 w fun t14 w =>
  joinT (fun K3 =>
  binT P .eql T.int (.tmp 15) (.const (.int .i64 0)) t14 (.int .i64 0) w fun t16 w =>
  condT t16 (
  K (.tuple #[(.slice none 0 0), (.bool false)]) w) (
  K3 [(gv x1 2), (gv x1 3)] w)) fun x3 w =>
  M.winnowref03_Runes.j3 t13 x1 t14 K1 x3 w K
def M.winnowref03_Runes.j1 (x1 : List Value) (K0 : KL) (K1 : KL) (w : World) (K : KV) : Prop :=
  joinT (fun K2 =>
  biT P .len #[T.string] T.int [false] [(gv x1 5)] w fun t8 w =>
  binT P .gtr T.int (.tmp 8) (.const (.int .i64 0)) t8 (.int .i64 0) w fun t9 w =>
  condT t9 (
  K2 [] w) (
  K0 [(gv x1 0), (gv x1 1), (gv x1 2), (gv x1 3), (gv x1 4), (gv x1 5)] w)) fun x2 w =>
  M.winnowref03_Runes.j2 x1 K1 w K
/-- winnow/winnowref03.Runes -/
def M.winnowref03_Runes (a0 : Value) (w : World) (K : KV) : Prop :=
  joinT (fun K0 =>
  loopT [undef, undef, (.slice none 0 0), (.bool false), (.slice none 0 0), a0] w fun K1 x1 w =>
  M.winnowref03_Runes.j1 x1 K0 K1 w K) fun x0 w =>
  K (.tuple #[(gv x0 4), (.bool true)]) w
def M.winnowref03_Runes.L : List Nat := [0, 2, 3, 4, 5, 6]
def M.winnowref03_Runes.pl : Nat → Plan := fun id => ⟨.nil, [], false, []⟩
theorem M.winnowref03_Runes.eq (a0 : Value) (w : World) (K : KV) : M.winnowref03_Runes a0 w K = den P M.winnowref03_Runes.L M.winnowref03_Runes.pl (Try.f131.body.getD .skip) (argE [a0]) w (bodyQ P Try.f131.results.toList K) := by kernel_rfl
theorem M.winnowref03_Runes.ok : okFn M.winnowref03_Runes.L M.winnowref03_Runes.pl Try.f131 (Try.f131.body.getD .skip) 1 = true := by kernel_rfl
theorem M.winnowref03_Runes.calls (a0 : Value) {w : World} {K : KV} (h : M.winnowref03_Runes a0 w K) : callT P F.winnowref03_Runes [a0] w K :=
  callT_of_den (by kernel_rfl) Try.func131 (by kernel_rfl) M.winnowref03_Runes.ok (M.winnowref03_Runes.eq a0 w K ▸ h)
theorem M.winnowref03_Runes.fcall (args : List Value) (w : World) (K : KV) : fcallT P F.winnowref03_Runes args w K = callT P F.winnowref03_Runes args w K := fcallT_eq Try.func131 (by kernel_rfl) (by kernel_rfl) args w K
theorem M.winnowref03_Runes.rcall (a c args : List Value) (w : World) (K : KV) : callRT P (.func (.func F.winnowref03_Runes) a.toArray c.toArray) args w K = callT P F.winnowref03_Runes (a ++ args ++ c) w K := callR_fn Try.func131 (by kernel_rfl) (by kernel_rfl) a c args w K

def M.maps_Keys_map_uint64_buffer_entry_uint64_buffer_entry_1.j0 (t5 : Value) (a0 : Value) (K0 : KL) (w : World) (K : KV) : Prop :=
  nxT P t5 false T._ w fun t6 w =>
  exT P t6 0 w fun t7 w =>
  joinT (fun K1 =>
  condT t7 (
  K1 [] w) (
  K (.tuple #[]) w)) fun x1 w =>
  enT P t5 w fun t8 w =>
  exT P t8 0 w fun t9 w =>
  callRT P a0 [t9] w fun t12 w =>
  unT P .not t12 w fun t13 w =>
  condT t13 (
  K (.tuple #[]) w) (
  K0 [t9] w)
/-- maps.Keys[map[uint64]*winnow/buffer.entry,uint64,*winnow/buffer.entry]$1 -/
def M.maps_Keys_map_uint64_buffer_entry_uint64_buffer_entry_1 (a0 a1 : Value) (w : World) (K : KV) : Prop :=
  ldT P T.map_uint64_p_buffer_entry a1 w fun t4 w =>
  rgT P T.map_uint64_p_buffer_entry t4 w fun t5 w =>
  loopT [undef] w fun K0 x0 w =>
  M.maps_Keys_map_uint64_buffer_entry_uint64_buffer_entry_1.j0 t5 a0 K0 w K
def M.maps_Keys_map_uint64_buffer_entry_uint64_buffer_entry_1.L : List Nat := [0, 1, 3, 5]
def M.maps_Keys_map_uint64_buffer_entry_uint64_buffer_entry_1.pl : Nat → Plan := fun id => ⟨.nil, [], false, []⟩
theorem M.maps_Keys_map_uint64_buffer_entry_uint64_buffer_entry_1.eq (a0 a1 : Value) (w : World) (K : KV) : M.maps_Keys_map_uint64_buffer_entry_uint64_buffer_entry_1 a0 a1 w K = den P M.maps_Keys_map_uint64_buffer_entry_uint64_buffer_entry_1.L M.maps_Keys_map_uint64_buffer_entry_uint64_buffer_entry_1.pl (Try.f132.body.getD .skip) (argE [a0, a1]) w (bodyQ P Try.f132.results.toList K) := by kernel_rfl
theorem M.maps_Keys_map_uint64_buffer_entry_uint64_buffer_entry_1.ok : okFn M.maps_Keys_map_uint64_buffer_entry_uint64_buffer_entry_1.L M.maps_Keys_map_uint64_buffer_entry_uint64_buffer_entry_1.pl Try.f132 (Try.f132.body.getD .skip) 2 = true := by kernel_rfl
theorem M.maps_Keys_map_uint64_buffer_entry_uint64_buffer_entry_1.calls (a0 a1 : Value) {w : World} {K : KV} (h : M.maps_Keys_map_uint64_buffer_entry_uint64_buffer_entry_1 a0 a1 w K) : callT P F.maps_Keys_map_uint64_buffer_entry_uint64_buffer_entry_1 [a0, a1] w K :=
  callT_of_den (by kernel_rfl) Try.func132 (by kernel_rfl) M.maps_Keys_map_uint64_buffer_entry_uint64_buffer_entry_1.ok (M.maps_Keys_map_uint64_buffer_entry_uint64_buffer_entry_1.eq a0 a1 w K ▸ h)
theorem M.maps_Keys_map_uint64_buffer_entry_uint64_buffer_entry_1.fcall (args : List Value) (w : World) (K : KV) : fcallT P F.maps_Keys_map_uint64_buffer_entry_uint64_buffer_entry_1 args w K = callT P F.maps_Keys_map_uint64_buffer_entry_uint64_buffer_entry_1 args w K := fcallT_eq Try.func132 (by kernel_rfl) (by kernel_rfl) args w K
theorem M.maps_Keys_map_uint64_buffer_entry_uint64_buffer_entry_1.rcall (a c args : List Value) (w : World) (K : KV) : callRT P (.func (.func F.maps_Keys_map_uint64_buffer_entry_uint64_buffer_entry_1) a.toArray c.toArray) args w K = callT P F.maps_Keys_map_uint64_buffer_entry_uint64_buffer_entry_1 (a ++ args ++ c) w K := callR_fn Try.func132 (by kernel_rfl) (by kernel_rfl) a c args w K

/-- cmp.isNaN[uint64] -/
def M.cmp_isNaN_uint64 (a0 : Value) (w : World) (K : KV) : Prop :=
  binT P .neq T.uint64 (.tmp 3) (.tmp 4) a0 a0 w fun t5 w =>
  K t5 w
def M.cmp_isNaN_uint64.L : List Nat := [0, 2]
def M.cmp_isNaN_uint64.pl : Nat → Plan := fun id => ⟨.nil, [], false, []⟩
theorem M.cmp_isNaN_uint64.eq (a0 : Value) (w : World) (K : KV) : M.cmp_isNaN_uint64 a0 w K = den P M.cmp_isNaN_uint64.L M.cmp_isNaN_uint64.pl (Try.f133.body.getD .skip) (argE [a0]) w (bodyQ P Try.f133.results.toList K) := by kernel_rfl
theorem M.cmp_isNaN_uint64.ok : okFn M.cmp_isNaN_uint64.L M.cmp_isNaN_uint64.pl Try.f133 (Try.f133.body.getD .skip) 1 = true := by kernel_rfl
theorem M.cmp_isNaN_uint64.calls (a0 : Value) {w : World} {K : KV} (h : M.cmp_isNaN_uint64 a0 w K) : callT P F.cmp_isNaN_uint64 [a0] w K :=
  callT_of_den (by kernel_rfl) Try.func133 (by kernel_rfl) M.cmp_isNaN_uint64.ok (M.cmp_isNaN_uint64.eq a0 w K ▸ h)
theorem M.cmp_isNaN_uint64.fcall (args : List Value) (w : World) (K : KV) : fcallT P F.cmp_isNaN_uint64 args w K = callT P F.cmp_isNaN_uint64 args w K := fcallT_eq Try.func133 (by kernel_rfl) (by kernel_rfl) args w K
theorem M.cmp_isNaN_uint64.rcall (a c args : List Value) (w : World) (K : KV) : callRT P (.func (.func F.cmp_isNaN_uint64) a.toArray c.toArray) args w K = callT P F.cmp_isNaN_uint64 (a ++ args ++ c) w K := callR_fn Try.func133 (by kernel_rfl) (by kernel_rfl) a c args w K

def M.slices_pdqsortOrdered_uint64.j6 (a0 : Value) (x6 : List Value) (x0 : List Value) (x4 : List Value) (t21 : Value) (x3 : List Value) (K0 : KL) (w : World) (K : KV) : Prop :=
  fcallT P F.slices_partitionOrdered_uint64 [a0, (gv x6 1), (gv x0 13), (gv x4 0)] w fun t99 w =>
  exT P t99 0 w fun t100 w =>
  exT P t99 1 w fun t101 w =>
  binT P .sub T.int (.tmp 103) (.tmp 104) t100 (gv x6 1) w fun t105 w =>
  binT P .sub T.int (.tmp 106) (.tmp 107) (gv x0 13) t100 w fun t108 w =>
  binT P .quo T.int (.tmp 109) (.const (.int .i64 8)) t21 (.int .i64 8) w fun t110 w =>
  binT P .lss T.int (.tmp 111) (.tmp 112) t105 t108 w fun t113 w =>
  condT t113 (
  binT P .geq T.int (.tmp 114) (.tmp 115) t105 t110 w fun t116 w =>
  fcallT P F.slices_pdqsortOrdered_uint64 [a0, (gv x6 1), t100, (gv x3 0)] w fun t121 w =>
  binT P .add T.int (.tmp 122) (.const (.int .i64 1)) t100 (.int .i64 1) w fun t123 w =>
  K0 [t21, (gv x3 0), (gv x4 0), (gv x4 1), (gv x6 0), t123, t100, t101, t101, t105, t108, t110, t116, (gv x0 13)] w) (
  binT P .geq T.int (.tmp 124) (.tmp 125) t108 t110 w fun t126 w =>
  binT P .add T.int (.tmp 128) (.const (.int .i64 1)) t100 (.int .i64 1) w fun t129 w =>
  fcallT P F.slices_pdqsortOrdered_uint64 [a0, t129, (gv x0 13), (gv x3 0)] w fun t132 w =>
  K0 [t21, (gv x3 0), (gv x4 0), (gv x4 1), (gv x6 0), (gv x6 1), t100, t101, t101, t105, t108, t110, t126, t100] w)
def M.slices_pdqsortOrdered_uint64.j5 (x0 : List Value) (a0 : Value) (x4 : List Value) (K0 : KL) (t21 : Value) (x3 : List Value) (w : World) (K : KV) : Prop :=
  joinT (fun K6 =>
  drawT w fun w =>
  w = w ∧ quietT (fun K' => binT P .gtr T.int (.tmp 73) (.const (.int .i64 0)) (gv x0 5) (.int .i64 0) w K') w fun t74 =>
  w = w ∧ quietT (fun K' => guardT (isB t74 true) (fun K' => K' a0 w) w K') w fun t76 =>
  quietT (fun K' => guardT (isB t74 true) (fun K' => K' (gv x0 5) w) w K') w fun t77 =>
  quietT (fun K' => guardT (isB t74 true) (fun K' => binT P .sub T.int (.tmp 77) (.const (.int .i64 1)) t77 (.int .i64 1) w K') w K') w fun t78 =>
  quietT (fun K' => guardT (isB t74 true) (fun K' => iaT P T.sl_uint64 t76 t78 w K') w K') w fun t79 =>
  quietT (fun K' => guardT (isB t74 true) (fun K' => ldT P T.uint64 t79 w K') w K') w fun t80 =>
  quietT (fun K' => guardT (isB t74 true) (fun K' => K' a0 w) w K') w fun t81 =>
  quietT (fun K' => guardT (isB t74 true) (fun K' => K' (gv x4 0) w) w K') w fun t82 =>
  quietT (fun K' => guardT (isB t74 true) (fun K' => iaT P T.sl_uint64 t81 t82 w K') w K') w fun t83 =>
  quietT (fun K' => guardT (isB t74 true) (fun K' => ldT P T.uint64 t83 w K') w K') w fun t84 =>
  guardT (isB t74 true) (fun K' => fcallT P F.cmp_Less_uint64 [t80, t84] w K') w fun t85 w =>
  quietT (fun K' => guardT (isB t74 true) (fun K' => unT P .not t85 w K') w K') w fun t86 =>
  quietT (fun K' => pickT t74 t86 (.bool false) w K') w fun t87 =>
  condT t87 (
  fcallT P F.slices_partitionEqualOrdered_uint64 [a0, (gv x0 5), (gv x0 13), (gv x4 0)] w fun t92 w =>
  K0 [t21, (gv x3 0), (gv x4 0), (gv x4 1), t92, t92, (gv x0 6), (gv x0 7), (gv x0 8), (gv x0 9), (gv x0 10), (gv x0 11), (gv x0 12), (gv x0 13)] w) (
  K6 [(gv x0 4), (gv x0 5)] w)) fun x6 w =>
  M.slices_pdqsortOrdered_uint64.j6 a0 x6 x0 x4 t21 x3 K0 w K
def M.slices_pdqsortOrdered_uint64.j4 (x0 : List Value) (x4 : List Value) (a0 : Value) (K0 : KL) (t21 : Value) (x3 : List Value) (w : World) (K : KV) : Prop :=
  joinT (fun K5 =>
  guardT (isB (gv x0 12) true) (fun K' => K' (gv x0 8) w) w fun t63 w =>
  pickT (gv x0 12) t63 (.bool false) w fun t64 w =>
  guardT (isB t64 true) (fun K' => K' (gv x4 1) w) w fun t66 w =>
  guardT (isB t64 true) (fun K' => binT P .eql T.slices_sortedHint (.tmp 66) (.const (.int .i64 1)) t66 (.int .i64 1) w K') w fun t67 w =>
  pickT t64 t67 (.bool false) w fun t68 w =>
  condT t68 (
  fcallT P F.slices_partialInsertionSortOrdered_uint64 [a0, (gv x0 5), (gv x0 13)] w fun t72 w =>
  condT t72 (
  K (.tuple #[]) w) (
  K5 [] w)) (
  K5 [] w)) fun x5 w =>
  M.slices_pdqsortOrdered_uint64.j5 x0 a0 x4 K0 t21 x3 w K
def M.slices_pdqsortOrdered_uint64.j3 (a0 : Value) (x0 : List Value) (K0 : KL) (t21 : Value) (x3 : List Value) (w : World) (K : KV) : Prop :=
  fcallT P F.slices_choosePivotOrdered_uint64 [a0, (gv x0 5), (gv x0 13)] w fun t46 w =>
  exT P t46 0 w fun t47 w =>
  exT P t46 1 w fun t48 w =>
  joinT (fun K4 =>
  binT P .eql T.slices_sortedHint (.tmp 49) (.const (.int .i64 2)) t48 (.int .i64 2) w fun t50 w =>
  condT t50 (
  fcallT P F.slices_reverseRangeOrdered_uint64 [a0, (gv x0 5), (gv x0 13)] w fun t54 w =>
  binT P .sub T.int (.tmp 55) (.const (.int .i64 1)) (gv x0 13) (.int .i64 1) w fun t56 w =>
  binT P .sub T.int (.tmp 57) (.tmp 58) t47 (gv x0 5) w fun t59 w =>
  binT P .sub T.int (.tmp 56) (.tmp 59) t56 t59 w fun t60 w =>
  K4 [t60, (.int .i64 1)] w) (
  K4 [t47, t48] w)) fun x4 w =>
  M.slices_pdqsortOrdered_uint64.j4 x0 x4 a0 K0 t21 x3 w K
def M.slices_pdqsortOrdered_uint64.j2 (x0 : List Value) (a0 : Value) (K0 : KL) (t21 : Value) (w : World) (K : KV) : Prop :=
  joinT (fun K3 =>
  unT P .not (gv x0 12) w fun t35 w =>
  condT t35 (
  fcallT P F.slices_breakPatternsOrdered_uint64 [a0, (gv x0 5), (gv x0 13)] w fun t39 w =>
  binT P .sub T.int (.tmp 40) (.const (.int .i64 1)) (gv x0 1) (.int .i64 1) w fun t41 w =>
  K3 [t41] w) (
  K3 [(gv x0 1)] w)) fun x3 w =>
  M.slices_pdqsortOrdered_uint64.j3 a0 x0 K0 t21 x3 w K
def M.slices_pdqsortOrdered_uint64.j1 (x0 : List Value) (a0 : Value) (K0 : KL) (t21 : Value) (w : World) (K : KV) : Prop :=
  joinT (fun K2 =>
  binT P .eql T.int (.tmp 28) (.const (.int .i64 0)) (gv x0 1) (.int .i64 0) w fun t29 w =>
  condT t29 (
  fcallT P F.slices_heapSortOrdered_uint64 [a0, (gv x0 5), (gv x0 13)] w fun t33 w =>
  K (.tuple #[]) w) (
  K2 [] w)) fun x2 w =>
  M.slices_pdqsortOrdered_uint64.j2 x0 a0 K0 t21 w K
def M.slices_pdqsortOrdered_uint64.j0 (x0 : List Value) (a0 : Value) (K0 : KL) (w : World) (K : KV) : Prop :=
  binT P .sub T.int (.tmp 19) (.tmp 20) (gv x0 13) (gv x0 5) w fun t21 w =>
  joinT (fun K1 =>
  binT P .leq T.int (.tmp 22) (.const (.int .i64 12)) t21 (.int .i64 12) w fun t23 w =>
  condT t23 (
  fcallT P F.slices_insertionSortOrdered_uint64 [a0, (gv x0 5), (gv x0 13)] w fun t27 w =>
  K (.tuple #[]) w) (
  K1 [] w)) fun x1 w =>
  M.slices_pdqsortOrdered_uint64.j1 x0 a0 K0 t21 w K
/-- slices.pdqsortOrdered[uint64] -/
def M.slices_pdqsortOrdered_uint64 (a0 a1 a2 a3 : Value) (w : World) (K : KV) : Prop :=
  loopT [undef, a3, undef, undef, undef, a1, undef, undef, (.bool true), undef, undef, undef, (.bool true), a2] w fun K0 x0 w =>
  M.slices_pdqsortOrdered_uint64.j0 x0 a0 K0 w K
def M.slices_pdqsortOrdered_uint64.L : List Nat := [0, 1, 2, 3, 8, 9, 10, 11, 12, 13, 14, 15, 16, 17, 18]
def M.slices_pdqsortOrdered_uint64.pl : Nat → Plan := fun id => cond (Nat.beq id 17) ⟨(.go 0 (.go 1 (.go 2 (.go 3 (.go 4 (.go 5 (.go 6 (.go 7 (.go 8 (.go 9 (.go 10 (.go 11 (.eff 12 (.go 13 (.go 14 .nil)) .stop))))))))))))), [12], false, [0, 1, 3, 7, 7, 23, 63, 127, 7, 7, 775, 1799, 4095, 8191, 16383]⟩ (⟨.nil, [], false, []⟩)
theorem M.slices_pdqsortOrdered_uint64.eq (a0 a1 a2 a3 : Value) (w : World) (K : KV) : M.slices_pdqsortOrdered_uint64 a0 a1 a2 a3 w K = den P M.slices_pdqsortOrdered_uint64.L M.slices_pdqsortOrdered_uint64.pl (Try.f140.body.getD .skip) (argE [a0, a1, a2, a3]) w (bodyQ P Try.f140.results.toList K) := by kernel_rfl
theorem M.slices_pdqsortOrdered_uint64.ok : okFn M.slices_pdqsortOrdered_uint64.L M.slices_pdqsortOrdered_uint64.pl Try.f140 (Try.f140.body.getD .skip) 4 = true := by kernel_rfl
theorem M.slices_pdqsortOrdered_uint64.calls (a0 a1 a2 a3 : Value) {w : World} {K : KV} (h : M.slices_pdqsortOrdered_uint64 a0 a1 a2 a3 w K) : callT P F.slices_pdqsortOrdered_uint64 [a0, a1, a2, a3] w K :=
  callT_of_den (by kernel_rfl) Try.func140 (by kernel_rfl) M.slices_pdqsortOrdered_uint64.ok (M.slices_pdqsortOrdered_uint64.eq a0 a1 a2 a3 w K ▸ h)
theorem M.slices_pdqsortOrdered_uint64.fcall (args : List Value) (w : World) (K : KV) : fcallT P F.slices_pdqsortOrdered_uint64 args w K = callT P F.slices_pdqsortOrdered_uint64 args w K := fcallT_eq Try.func140 (by kernel_rfl) (by kernel_rfl) args w K
theorem M.slices_pdqsortOrdered_uint64.rcall (a c args : List Value) (w : World) (K : KV) : callRT P (.func (.func F.slices_pdqsortOrdered_uint64) a.toArray c.toArray) args w K = callT P F.slices_pdqsortOrdered_uint64 (a ++ args ++ c) w K := callR_fn Try.func140 (by kernel_rfl) (by kernel_rfl) a c args w K

/-- math/bits.Len -/
def M.math_bits_Len (a0 : Value) (w : World) (K : KV) : Prop :=
  joinT (fun K0 =>
  condT (.bool false) (
  cvT P T.uint T.uint32 a0 w fun t4 w =>
  fcallT P F.math_bits_Len32 [t4] w fun t5 w =>
  K t5 w) (
  K0 [(.int .i64 0)] w)) fun x0 w =>
  fcallT P F.math_bits_Len64 [a0] w fun t7 w =>
  K t7 w
def M.math_bits_Len.L : List Nat := [0, 2]
def M.math_bits_Len.pl : Nat → Plan := fun id => ⟨.nil, [], false, []⟩
theorem M.math_bits_Len.eq (a0 : Value) (w : World) (K : KV) : M.math_bits_Len a0 w K = den P M.math_bits_Len.L M.math_bits_Len.pl (Try.f141.body.getD .skip) (argE [a0]) w (bodyQ P Try.f141.results.toList K) := by kernel_rfl
theorem M.math_bits_Len.ok : okFn M.math_bits_Len.L M.math_bits_Len.pl Try.f141 (Try.f141.body.getD .skip) 1 = true := by kernel_rfl
theorem M.math_bits_Len.calls (a0 : Value) {w : World} {K : KV} (h : M.math_bits_Len a0 w K) : callT P F.math_bits_Len [a0] w K :=
  callT_of_den (by kernel_rfl) Try.func141 (by kernel_rfl) M.math_bits_Len.ok (M.math_bits_Len.eq a0 w K ▸ h)
theorem M.math_bits_Len.fcall (args : List Value) (w : World) (K : KV) : fcallT P F.math_bits_Len args w K = callT P F.math_bits_Len args w K := fcallT_eq Try.func141 (by kernel_rfl) (by kernel_rfl) args w K
theorem M.math_bits_Len.rcall (a c args : List Value) (w : World) (K : KV) : callRT P (.func (.func F.math_bits_Len) a.toArray c.toArray) args w K = callT P F.math_bits_Len (a ++ args ++ c) w K := callR_fn Try.func141 (by kernel_rfl) (by kernel_rfl) a c args w K

/-- (*winnow/timers.Heap).Len -/
def M.ptimers_Heap_Len (a0 : Value) (w : World) (K : KV) : Prop :=
  joinT (fun K0 =>
  binT P .eql T.p_timers_Heap (.tmp 3) (.const (.pointer none)) a0 (.pointer none) w fun t4 w =>
  condT t4 (
  K (.int .i64 0) w) (
  K0 [(.int .i64 0)] w)) fun x0 w =>
  nilT a0 w fun t6 w =>
  faT P T.timers_Heap t6 0 w fun t7 w =>
  ldT P T.timers_line t7 w fun t8 w =>
  biT P .len #[T.timers_line] T.int [false] [t8] w fun t9 w =>
  K t9 w
def M.ptimers_Heap_Len.L : List Nat := [0, 2]
def M.ptimers_Heap_Len.pl : Nat → Plan := fun id => ⟨.nil, [], false, []⟩
theorem M.ptimers_Heap_Len.eq (a0 : Value) (w : World) (K : KV) : M.ptimers_Heap_Len a0 w K = den P M.ptimers_Heap_Len.L M.ptimers_Heap_Len.pl (Try.f149.body.getD .skip) (argE [a0]) w (bodyQ P Try.f149.results.toList K) := by kernel_rfl
theorem M.ptimers_Heap_Len.ok : okFn M.ptimers_Heap_Len.L M.ptimers_Heap_Len.pl Try.f149 (Try.f149.body.getD .skip) 1 = true := by kernel_rfl
theorem M.ptimers_Heap_Len.calls (a0 : Value) {w : World} {K : KV} (h : M.ptimers_Heap_Len a0 w K) : callT P F.ptimers_Heap_Len [a0] w K :=
  callT_of_den (by kernel_rfl) Try.func149 (by kernel_rfl) M.ptimers_Heap_Len.ok (M.ptimers_Heap_Len.eq a0 w K ▸ h)
theorem M.ptimers_Heap_Len.fcall (args : List Value) (w : World) (K : KV) : fcallT P F.ptimers_Heap_Len args w K = callT P F.ptimers_Heap_Len args w K := fcallT_eq Try.func149 (by kernel_rfl) (by kernel_rfl) args w K
theorem M.ptimers_Heap_Len.rcall (a c args : List Value) (w : World) (K : KV) : callRT P (.func (.func F.ptimers_Heap_Len) a.toArray c.toArray) args w K = callT P F.ptimers_Heap_Len (a ++ args ++ c) w K := callR_fn Try.func149 (by kernel_rfl) (by kernel_rfl) a c args w K

/-- internal/stringslite.HasPrefix -/
def M.internal_stringslite_HasPrefix (a0 a1 : Value) (w : World) (K : KV) : Prop :=
  biT P .len #[T.string] T.int [false] [a0] w fun t6 w =>
  biT P .len #[T.string] T.int [false] [a1] w fun t8 w =>
  binT P .geq T.int (.tmp 6) (.tmp 8) t6 t8 w fun t9 w =>
  guardT (isB t9 true) (fun K' => K' a0 w) w fun t11 w =>
  guardT (isB t9 true) (fun K' => K' a1 w) w fun t12 w =>
  guardT (isB t9 true) (fun K' => biT P .len #[T.string] T.int [false] [t12] w K') w fun t13 w =>
  guardT (isB t9 true) (fun K' => slT P T.string t11 none (some t13) none w K') w fun t14 w =>
  guardT (isB t9 true) (fun K' => K' a1 w) w fun t15 w =>
  guardT (isB t9 true) (fun K' => binT P .eql T.string (.tmp 14) (.tmp 15) t14 t15 w K') w fun t16 w =>
  pickT t9 t16 (.bool false) w fun t17 w =>
  K t17 w
def M.internal_stringslite_HasPrefix.L : List Nat := [0, 1, 4]
def M.internal_stringslite_HasPrefix.pl : Nat → Plan := fun id => ⟨.nil, [], false, []⟩
theorem M.internal_stringslite_HasPrefix.eq (a0 a1 : Value) (w : World) (K : KV) : M.internal_stringslite_HasPrefix a0 a1 w K = den P M.internal_stringslite_HasPrefix.L M.internal_stringslite_HasPrefix.pl (Try.f150.body.getD .skip) (argE [a0, a1]) w (bodyQ P Try.f150.results.toList K) := by kernel_rfl
theorem M.internal_stringslite_HasPrefix.ok : okFn M.internal_stringslite_HasPrefix.L M.internal_stringslite_HasPrefix.pl Try.f150 (Try.f150.body.getD .skip) 2 = true := by kernel_rfl
theorem M.internal_stringslite_HasPrefix.calls (a0 a1 : Value) {w : World} {K : KV} (h : M.internal_stringslite_HasPrefix a0 a1 w K) : callT P F.internal_stringslite_HasPrefix [a0, a1] w K :=
  callT_of_den (by kernel_rfl) Try.func150 (by kernel_rfl) M.internal_stringslite_HasPrefix.ok (M.internal_stringslite_HasPrefix.eq a0 a1 w K ▸ h)
theorem M.internal_stringslite_HasPrefix.fcall (args : List Value) (w : World) (K : KV) : fcallT P F.internal_stringslite_HasPrefix args w K = callT P F.internal_stringslite_HasPrefix args w K := fcallT_eq Try.func150 (by kernel_rfl) (by kernel_rfl) args w K
theorem M.internal_stringslite_HasPrefix.rcall (a c args : List Value) (w : World) (K : KV) : callRT P (.func (.func F.internal_stringslite_HasPrefix) a.toArray c.toArray) args w K = callT P F.internal_stringslite_HasPrefix (a ++ args ++ c) w K := callR_fn Try.func150 (by kernel_rfl) (by kernel_rfl) a c args w K

def M.winnowref03_Rune.j8 (x5 : List Value) (a0 : Value) (K7 : KL) (x8 : List Value) (w : World) (K : KV) : Prop :=
  binT P .mul T.int32 (.tmp 71) (.const (.int .i32 64)) (gv x5 2) (.int .i32 64) w fun t72 w =>
  ixT P T.string a0 (gv x5 3) w fun t75 w =>
  cvT P T.uint8 T.int32 t75 w fun t76 w =>
  binT P .add T.int32 (.tmp 72) (.tmp 76) t72 t76 w fun t77 w =>
  binT P .sub T.int32 (.tmp 77) (.const (.int .i32 128)) t77 (.int .i32 128) w fun t78 w =>
  K7 [(gv x8 0), (gv x8 1), t78] w
def M.winnowref03_Rune.j6 (a0 : Value) (x5 : List Value) (K5 : KL) (w : World) (K : KV) : Prop :=
  joinT (fun K7 =>
  joinT (fun K8 =>
  ixT P T.string a0 (gv x5 3) w fun t63 w =>
  binT P .lss T.uint8 (.tmp 63) (.const (.int .u8 128)) t63 (.int .u8 128) w fun t64 w =>
  guardT (isB t64 false) (fun K' => K' a0 w) w fun t66 w =>
  guardT (isB t64 false) (fun K' => K' (gv x5 3) w) w fun t67 w =>
  guardT (isB t64 false) (fun K' => ixT P T.string t66 t67 w K') w fun t68 w =>
  guardT (isB t64 false) (fun K' => binT P .gtr T.uint8 (.tmp 68) (.const (.int .u8 191)) t68 (.int .u8 191) w K') w fun t69 w =>
  pickT t64 (.bool true) t69 w fun t70 w =>
  condT t70 (
  K (.tuple #[(.int .i32 0), (.int .i64 0)]) w) (
  K8 [(gv x5 0), (gv x5 1)] w)) fun x8 w =>
  M.winnowref03_Rune.j8 x5 a0 K7 x8 w K) fun x7 w =>
  binT P .add T.int (.tmp 59) (.const (.int .i64 1)) (gv x5 3) (.int .i64 1) w fun t60 w =>
  K5 [(gv x7 0), (gv x7 1), (gv x7 2), t60] w
def M.winnowref03_Rune.j4 (x4 : List Value) (x2 : List Value) (w : World) (K : KV) : Prop :=
  joinT (fun K9 =>
  binT P .lss T.int32 (.tmp 79) (.tmp 80) (gv x4 3) (gv x2 2) w fun t81 w =>
  guardT (isB t81 false) (fun K' => K' (gv x4 3) w) w fun t83 w =>
  guardT (isB t81 false) (fun K' => binT P .gtr T.int32 (.tmp 83) (.const (.int .i32 1114111)) t83 (.int .i32 1114111) w K') w fun t84 w =>
  pickT t81 (.bool true) t84 w fun t85 w =>
  guardT (isB t85 false) (fun K' => K' (gv x4 3) w) w fun t87 w =>
  guardT (isB t85 false) (fun K' => binT P .geq T.int32 (.tmp 87) (.const (.int .i32 55296)) t87 (.int .i32 55296) w K') w fun t88 w =>
  guardT (isB t85 false) (fun K' => K' t88 w) w fun t89 w =>
  guardT (isB t89 true) (fun K' => K' (gv x4 3) w) w fun t90 w =>
  guardT (isB t89 true) (fun K' => binT P .leq T.int32 (.tmp 90) (.const (.int .i32 57343)) t90 (.int .i32 57343) w K') w fun t91 w =>
  guardT (isB t85 false) (fun K' => pickT t89 t91 (.bool false) w K') w fun t92 w =>
  pickT t85 (.bool true) t92 w fun t93 w =>
  condT t93 (
  K (.tuple #[(.int .i32 0), (.int .i64 0)]) w) (
  K9 [(gv x4 1), (gv x4 2)] w)) fun x9 w =>
  K (.tuple #[(gv x4 3), (gv x2 1)]) w
def M.winnowref03_Rune.j3 (x3 : List Value) (x2 : List Value) (a0 : Value) (w : World) (K : KV) : Prop :=
  joinT (fun K4 =>
  loopT [(gv x3 0), (gv x3 1), (gv x2 3), (.int .i64 1)] w fun K5 x5 w =>
  joinT (fun K6 =>
  binT P .lss T.int (.tmp 56) (.tmp 57) (gv x5 3) (gv x2 1) w fun t58 w =>
  condT t58 (
  K6 [] w) (
  K4 [(gv x5 3), (gv x5 0), (gv x5 1), (gv x5 2)] w)) fun x6 w =>
  M.winnowref03_Rune.j6 a0 x5 K5 w K) fun x4 w =>
  M.winnowref03_Rune.j4 x4 x2 w K
def M.winnowref03_Rune.j2 (x2 : List Value) (a0 : Value) (x1 : List Value) (w : World) (K : KV) : Prop :=
  joinT (fun K3 =>
  binT P .eql T.int (.tmp 48) (.const (.int .i64 0)) (gv x2 1) (.int .i64 0) w fun t49 w =>
  guardT (isB t49 false) (fun K' => K' a0 w) w fun t51 w =>
  guardT (isB t49 false) (fun K' => biT P .len #[T.string] T.int [false] [t51] w K') w fun t52 w =>
  guardT (isB t49 false) (fun K' => K' (gv x2 1) w) w fun t53 w =>
  guardT (isB t49 false) (fun K' => binT P .lss T.int (.tmp 52) (.tmp 53) t52 t53 w K') w fun t54 w =>
  pickT t49 (.bool true) t54 w fun t55 w =>
  condT t55 (
  K (.tuple #[(.int .i32 0), (.int .i64 0)]) w) (
  K3 [(gv x1 0), (gv x1 1)] w)) fun x3 w =>
  M.winnowref03_Rune.j3 x3 x2 a0 w K
def M.winnowref03_Rune.j1 (t13 : Value) (a0 : Value) (x1 : List Value) (w : World) (K : KV) : Prop :=
  joinT (fun K2 =>
  binT P .geq T.uint8 (.tmp 19) (.const (.int .u8 194)) t13 (.int .u8 194) w fun t20 w =>
  guardT (isB t20 true) (fun K' => K' t13 w) w fun t22 w =>
  guardT (isB t20 true) (fun K' => binT P .leq T.uint8 (.tmp 22) (.const (.int .u8 223)) t22 (.int .u8 223) w K') w fun t23 w =>
  pickT t20 t23 (.bool false) w fun t24 w =>
  condT t24 (
  cvT P T.uint8 T.int32 t13 w fun t26 w =>
  binT P .sub T.int32 (.tmp 26) (.const (.int .i32 192)) t26 (.int .i32 192) w fun t27 w =>
  K2 [t24, (.int .i64 2), (.int .i32 128), t27, undef, undef] w) (
  binT P .geq T.uint8 (.tmp 29) (.const (.int .u8 224)) t13 (.int .u8 224) w fun t30 w =>
  guardT (isB t30 true) (fun K' => K' t13 w) w fun t32 w =>
  guardT (isB t30 true) (fun K' => binT P .leq T.uint8 (.tmp 32) (.const (.int .u8 239)) t32 (.int .u8 239) w K') w fun t33 w =>
  pickT t30 t33 (.bool false) w fun t34 w =>
  condT t34 (
  cvT P T.uint8 T.int32 t13 w fun t36 w =>
  binT P .sub T.int32 (.tmp 36) (.const (.int .i32 224)) t36 (.int .i32 224) w fun t37 w =>
  K2 [t24, (.int .i64 3), (.int .i32 2048), t37, t34, undef] w) (
  binT P .geq T.uint8 (.tmp 39) (.const (.int .u8 240)) t13 (.int .u8 240) w fun t40 w =>
  guardT (isB t40 true) (fun K' => K' t13 w) w fun t42 w =>
  guardT (isB t40 true) (fun K' => binT P .leq T.uint8 (.tmp 42) (.const (.int .u8 244)) t42 (.int .u8 244) w K') w fun t43 w =>
  pickT t40 t43 (.bool false) w fun t44 w =>
  condT t44 (
  cvT P T.uint8 T.int32 t13 w fun t46 w =>
  binT P .sub T.int32 (.tmp 46) (.const (.int .i32 240)) t46 (.int .i32 240) w fun t47 w =>
  K2 [t24, (.int .i64 4), (.int .i32 65536), t47, t34, t44] w) (
  K2 [t24, (.int .i64 0), (.int .i32 0), (.int .i32 0), t34, t44] w)))) fun x2 w =>
  M.winnowref03_Rune.j2 x2 a0 x1 w K
def M.winnowref03_Rune.j0 (a0 : Value) (x0 : List Value) (w : World) (K : KV) : Prop :=
  ixT P T.string a0 (.int .i64 0) w fun t13 w =>
  joinT (fun K1 =>
  binT P .lss T.uint8 (.tmp 14) (.const (.int .u8 128)) t13 (.int .u8 128) w fun t15 w =>
  condT t15 (
  cvT P T.uint8 T.int32 t13 w fun t17 w =>
  K (.tuple #[t17, (.int .i64 1)]) w) (
  K1 [(gv x0 0), (gv x0 1)] w)) fun x1 w =>
  M.winnowref03_Rune.j1 t13 a0 x1 w K
/-- winnow/winnowref03.Rune -/
def M.winnowref03_Rune (a0 : Value) (w : World) (K : KV) : Prop :=
  joinT (fun K0 =>
  biT P .len #[T.string] T.int [false] [a0] w fun t10 w =>
  binT P .eql T.int (.tmp 10) (.const (.int .i64 0)) t10 (.int .i64 0) w fun t11 w =>
  condT t11 (
  K (.tuple #[(.int .i32 0), (.int .i64 0)]) w) (
  K0 [(.int .i32 0), (.int .i64 0)] w)) fun x0 w =>
  M.winnowref03_Rune.j0 a0 x0 w K
def M.winnowref03_Rune.L : List Nat := [0, 2, 3, 4, 5, 6, 7, 18, 28, 38, 8]
def M.winnowref03_Rune.pl : Nat → Plan := fun id => ⟨.nil, [], false, []⟩
theorem M.winnowref03_Rune.eq (a0 : Value) (w : World) (K : KV) : M.winnowref03_Rune a0 w K = den P M.winnowref03_Rune.L M.winnowref03_Rune.pl (Try.f151.body.getD .skip) (argE [a0]) w (bodyQ P Try.f151.results.toList K) := by kernel_rfl
theorem M.winnowref03_Rune.ok : okFn M.winnowref03_Rune.L M.winnowref03_Rune.pl Try.f151 (Try.f151.body.getD .skip) 1 = true := by kernel_rfl
theorem M.winnowref03_Rune.calls (a0 : Value) {w : World} {K : KV} (h : M.winnowref03_Rune a0 w K) : callT P F.winnowref03_Rune [a0] w K :=
  callT_of_den (by kernel_rfl) Try.func151 (by kernel_rfl) M.winnowref03_Rune.ok (M.winnowref03_Rune.eq a0 w K ▸ h)
theorem M.winnowref03_Rune.fcall (args : List Value) (w : World) (K : KV) : fcallT P F.winnowref03_Rune args w K = callT P F.winnowref03_Rune args w K := fcallT_eq Try.func151 (by kernel_rfl) (by kernel_rfl) args w K
theorem M.winnowref03_Rune.rcall (a c args : List Value) (w : World) (K : KV) : callRT P (.func (.func F.winnowref03_Rune) a.toArray c.toArray) args w K = callT P F.winnowref03_Rune (a ++ args ++ c) w K := callR_fn Try.func151 (by kernel_rfl) (by kernel_rfl) a c args w K

def M.slices_insertionSortOrdered_uint64.j4 (x3 : List Value) (a0 : Value) (K3 : KL) (w : World) (K : KV) : Prop :=
  joinT (fun K5 =>
  drawT w fun w =>
  w = w ∧ w = w ∧ w = w ∧ w = w ∧ quietT (fun K' => binT P .sub T.int (.tmp 36) (.const (.int .i64 1)) (gv x3 0) (.int .i64 1) w K') w fun t37 =>
  w = w ∧ w = w ∧ quietT (fun K' => binT P .sub T.int (.tmp 39) (.const (.int .i64 1)) (gv x3 0) (.int .i64 1) w K') w fun t40 =>
  quietT (fun K' => iaT P T.sl_uint64 a0 t40 w K') w fun t41 =>
  quietT (fun K' => ldT P T.uint64 t41 w K') w fun t42 =>
  w = w ∧ w = w ∧ quietT (fun K' => iaT P T.sl_uint64 a0 (gv x3 0) w K') w fun t45 =>
  quietT (fun K' => ldT P T.uint64 t45 w K') w fun t46 =>
  quietT (fun K' => iaT P T.sl_uint64 a0 (gv x3 0) w K') w fun t47 =>
  stT P T.uint64 t47 t42 w fun _ w =>
  stabT (fun K' => binT P .sub T.int (.tmp 36) (.const (.int .i64 1)) (gv x3 0) (.int .i64 1) w K') w t37 ∧ stabT (fun K' => K' (gv x3 0) w) w (gv x3 0) ∧ stabT (fun K' => K' a0 w) w a0 ∧ quietT (fun K' => iaT P T.sl_uint64 a0 t37 w K') w fun t48 =>
  stT P T.uint64 t48 t46 w fun _ w =>
  K5 [] w) fun x5 w =>
  binT P .sub T.int (.tmp 31) (.const (.int .i64 1)) (gv x3 0) (.int .i64 1) w fun t32 w =>
  K3 [t32] w
def M.slices_insertionSortOrdered_uint64.j3 (x3 : List Value) (a1 : Value) (a0 : Value) (K2 : KL) (K3 : KL) (w : World) (K : KV) : Prop :=
  joinT (fun K4 =>
  drawT w fun w =>
  w = w ∧ w = w ∧ quietT (fun K' => binT P .gtr T.int (.tmp 16) (.tmp 17) (gv x3 0) a1 w K') w fun t18 =>
  w = w ∧ quietT (fun K' => guardT (isB t18 true) (fun K' => K' a0 w) w K') w fun t20 =>
  quietT (fun K' => guardT (isB t18 true) (fun K' => K' (gv x3 0) w) w K') w fun t21 =>
  quietT (fun K' => guardT (isB t18 true) (fun K' => iaT P T.sl_uint64 t20 t21 w K') w K') w fun t22 =>
  quietT (fun K' => guardT (isB t18 true) (fun K' => ldT P T.uint64 t22 w K') w K') w fun t23 =>
  quietT (fun K' => guardT (isB t18 true) (fun K' => K' a0 w) w K') w fun t24 =>
  quietT (fun K' => guardT (isB t18 true) (fun K' => K' (gv x3 0) w) w K') w fun t25 =>
  quietT (fun K' => guardT (isB t18 true) (fun K' => binT P .sub T.int (.tmp 25) (.const (.int .i64 1)) t25 (.int .i64 1) w K') w K') w fun t26 =>
  quietT (fun K' => guardT (isB t18 true) (fun K' => iaT P T.sl_uint64 t24 t26 w K') w K') w fun t27 =>
  quietT (fun K' => guardT (isB t18 true) (fun K' => ldT P T.uint64 t27 w K') w K') w fun t28 =>
  guardT (isB t18 true) (fun K' => fcallT P F.cmp_Less_uint64 [t23, t28] w K') w fun t29 w =>
  quietT (fun K' => pickT t18 t29 (.bool false) w K') w fun t30 =>
  condT t30 (
  K4 [] w) (
  K2 [(gv x3 0)] w)) fun x4 w =>
  M.slices_insertionSortOrdered_uint64.j4 x3 a0 K3 w K
def M.slices_insertionSortOrdered_uint64.j0 (x0 : List Value) (a2 : Value) (a1 : Value) (a0 : Value) (K0 : KL) (w : World) (K : KV) : Prop :=
  joinT (fun K1 =>
  binT P .lss T.int (.tmp 10) (.tmp 11) (gv x0 1) a2 w fun t12 w =>
  condT t12 (
  K1 [] w) (
  K (.tuple #[]) w)) fun x1 w =>
  joinT (fun K2 =>
  loopT [(gv x0 1)] w fun K3 x3 w =>
  M.slices_insertionSortOrdered_uint64.j3 x3 a1 a0 K2 K3 w K) fun x2 w =>
  binT P .add T.int (.tmp 13) (.const (.int .i64 1)) (gv x0 1) (.int .i64 1) w fun t14 w =>
  K0 [(gv x2 0), t14] w
/-- slices.insertionSortOrdered[uint64] -/
def M.slices_insertionSortOrdered_uint64 (a0 a1 a2 : Value) (w : World) (K : KV) : Prop :=
  binT P .add T.int (.tmp 8) (.const (.int .i64 1)) a1 (.int .i64 1) w fun t9 w =>
  loopT [undef, t9] w fun K0 x0 w =>
  M.slices_insertionSortOrdered_uint64.j0 x0 a2 a1 a0 K0 w K
def M.slices_insertionSortOrdered_uint64.L : List Nat := [0, 1, 2, 6, 7]
def M.slices_insertionSortOrdered_uint64.pl : Nat → Plan := fun id => cond (Nat.beq id 4) ⟨(.go 0 (.go 1 (.go 2 (.go 3 (.go 4 (.go 5 (.go 6 (.go 7 (.go 8 (.go 9 (.go 10 (.go 11 (.go 12 (.eff 13 (.go 14 .nil) .stop)))))))))))))), [13], false, [0, 0, 3, 7, 15, 15, 63, 127, 15, 15, 527, 1807, 3855, 8191, 16383]⟩ (cond (Nat.beq id 6) ⟨(.go 0 (.go 1 (.go 2 (.go 3 (.go 4 (.go 5 (.go 6 (.go 7 (.go 8 (.go 9 (.go 10 (.go 11 (.go 12 (.go 13 (.go 14 (.eff 15 (.go 16 (.eff 17 .nil .stop)) .stop)))))))))))))))), [15, 17], false, [0, 0, 0, 0, 8, 0, 0, 64, 224, 480, 0, 0, 3072, 7168, 16355, 32739, 65535, 131071]⟩ (⟨.nil, [], false, []⟩))
theorem M.slices_insertionSortOrdered_uint64.eq (a0 a1 a2 : Value) (w : World) (K : KV) : M.slices_insertionSortOrdered_uint64 a0 a1 a2 w K = den P M.slices_insertionSortOrdered_uint64.L M.slices_insertionSortOrdered_uint64.pl (Try.f163.body.getD .skip) (argE [a0, a1, a2]) w (bodyQ P Try.f163.results.toList K) := by kernel_rfl
theorem M.slices_insertionSortOrdered_uint64.ok : okFn M.slices_insertionSortOrdered_uint64.L M.slices_insertionSortOrdered_uint64.pl Try.f163 (Try.f163.body.getD .skip) 3 = true := by kernel_rfl
theorem M.slices_insertionSortOrdered_uint64.calls (a0 a1 a2 : Value) {w : World} {K : KV} (h : M.slices_insertionSortOrdered_uint64 a0 a1 a2 w K) : callT P F.slices_insertionSortOrdered_uint64 [a0, a1, a2] w K :=
  callT_of_den (by kernel_rfl) Try.func163 (by kernel_rfl) M.slices_insertionSortOrdered_uint64.ok (M.slices_insertionSortOrdered_uint64.eq a0 a1 a2 w K ▸ h)
theorem M.slices_insertionSortOrdered_uint64.fcall (args : List Value) (w : World) (K : KV) : fcallT P F.slices_insertionSortOrdered_uint64 args w K = callT P F.slices_insertionSortOrdered_uint64 args w K := fcallT_eq Try.func163 (by kernel_rfl) (by kernel_rfl) args w K
theorem M.slices_insertionSortOrdered_uint64.rcall (a c args : List Value) (w : World) (K : KV) : callRT P (.func (.func F.slices_insertionSortOrdered_uint64) a.toArray c.toArray) args w K = callT P F.slices_insertionSortOrdered_uint64 (a ++ args ++ c) w K := callR_fn Try.func163 (by kernel_rfl) (by kernel_rfl) a c args w K

def M.slices_heapSortOrdered_uint64.j1 (x1 : List Value) (K0 : KL) (a0 : Value) (t14 : Value) (a1 : Value) (K1 : KL) (w : World) (K : KV) : Prop :=
  joinT (fun K2 =>
  binT P .geq T.int (.tmp 18) (.const (.int .i64 0)) (gv x1 0) (.int .i64 0) w fun t19 w =>
  condT t19 (
  K2 [] w) (
  K0 [(gv x1 0)] w)) fun x2 w =>
  joinT (fun K3 =>
  fcallT P F.slices_siftDownOrdered_uint64 [a0, (gv x1 0), t14, a1] w fun t26 w =>
  K3 [] w) fun x3 w =>
  binT P .sub T.int (.tmp 20) (.const (.int .i64 1)) (gv x1 0) (.int .i64 1) w fun t21 w =>
  K1 [t21] w
def M.slices_heapSortOrdered_uint64.j5 (a1 : Value) (x4 : List Value) (a0 : Value) (K4 : KL) (w : World) (K : KV) : Prop :=
  joinT (fun K6 =>
  drawT w fun w =>
  w = w ∧ w = w ∧ w = w ∧ w = w ∧ w = w ∧ quietT (fun K' => binT P .add T.int (.tmp 36) (.tmp 37) a1 (gv x4 0) w K') w fun t38 =>
  w = w ∧ w = w ∧ w = w ∧ quietT (fun K' => binT P .add T.int (.tmp 40) (.tmp 41) a1 (gv x4 0) w K') w fun t42 =>
  quietT (fun K' => iaT P T.sl_uint64 a0 t42 w K') w fun t43 =>
  quietT (fun K' => ldT P T.uint64 t43 w K') w fun t44 =>
  w = w ∧ w = w ∧ quietT (fun K' => iaT P T.sl_uint64 a0 a1 w K') w fun t47 =>
  quietT (fun K' => ldT P T.uint64 t47 w K') w fun t48 =>
  quietT (fun K' => iaT P T.sl_uint64 a0 a1 w K') w fun t49 =>
  stT P T.uint64 t49 t44 w fun _ w =>
  stabT (fun K' => binT P .add T.int (.tmp 36) (.tmp 37) a1 (gv x4 0) w K') w t38 ∧ stabT (fun K' => K' (gv x4 0) w) w (gv x4 0) ∧ stabT (fun K' => K' a1 w) w a1 ∧ stabT (fun K' => K' a0 w) w a0 ∧ quietT (fun K' => iaT P T.sl_uint64 a0 t38 w K') w fun t50 =>
  stT P T.uint64 t50 t48 w fun _ w =>
  fcallT P F.slices_siftDownOrdered_uint64 [a0, (.int .i64 0), (gv x4 0), a1] w fun t55 w =>
  K6 [] w) fun x6 w =>
  binT P .sub T.int (.tmp 31) (.const (.int .i64 1)) (gv x4 0) (.int .i64 1) w fun t32 w =>
  K4 [t32] w
def M.slices_heapSortOrdered_uint64.j0 (t14 : Value) (a1 : Value) (a0 : Value) (w : World) (K : KV) : Prop :=
  binT P .sub T.int (.tmp 27) (.const (.int .i64 1)) t14 (.int .i64 1) w fun t28 w =>
  loopT [t28] w fun K4 x4 w =>
  joinT (fun K5 =>
  binT P .geq T.int (.tmp 29) (.const (.int .i64 0)) (gv x4 0) (.int .i64 0) w fun t30 w =>
  condT t30 (
  K5 [] w) (
  K (.tuple #[]) w)) fun x5 w =>
  M.slices_heapSortOrdered_uint64.j5 a1 x4 a0 K4 w K
/-- slices.heapSortOrdered[uint64] -/
def M.slices_heapSortOrdered_uint64 (a0 a1 a2 : Value) (w : World) (K : KV) : Prop :=
  binT P .sub T.int (.tmp 12) (.tmp 13) a2 a1 w fun t14 w =>
  joinT (fun K0 =>
  binT P .sub T.int (.tmp 15) (.const (.int .i64 1)) t14 (.int .i64 1) w fun t16 w =>
  binT P .quo T.int (.tmp 16) (.const (.int .i64 2)) t16 (.int .i64 2) w fun t17 w =>
  loopT [t17] w fun K1 x1 w =>
  M.slices_heapSortOrdered_uint64.j1 x1 K0 a0 t14 a1 K1 w K) fun x0 w =>
  M.slices_heapSortOrdered_uint64.j0 t14 a1 a0 w K
def M.slices_heapSortOrdered_uint64.L : List Nat := [0, 1, 2, 6, 7, 8, 9, 10]
def M.slices_heapSortOrdered_uint64.pl : Nat → Plan := fun id => cond (Nat.beq id 10) ⟨(.go 0 (.go 1 (.go 2 (.go 3 (.go 4 (.go 5 (.go 6 (.go 7 (.go 8 (.go 9 (.go 10 (.go 11 (.go 12 (.go 13 (.go 14 (.go 15 (.go 16 (.eff 17 (.go 18 (.eff 19 .nil .stop)) .stop)))))))))))))))))), [17, 19], false, [0, 0, 0, 0, 0, 24, 0, 0, 0, 384, 960, 1984, 0, 0, 12288, 28672, 65475, 131011, 262143, 524287]⟩ (⟨.nil, [], false, []⟩)
theorem M.slices_heapSortOrdered_uint64.eq (a0 a1 a2 : Value) (w : World) (K : KV) : M.slices_heapSortOrdered_uint64 a0 a1 a2 w K = den P M.slices_heapSortOrdered_uint64.L M.slices_heapSortOrdered_uint64.pl (Try.f164.body.getD .skip) (argE [a0, a1, a2]) w (bodyQ P Try.f164.results.toList K) := by kernel_rfl
theorem M.slices_heapSortOrdered_uint64.ok : okFn M.slices_heapSortOrdered_uint64.L M.slices_heapSortOrdered_uint64.pl Try.f164 (Try.f164.body.getD .skip) 3 = true := by kernel_rfl
theorem M.slices_heapSortOrdered_uint64.calls (a0 a1 a2 : Value) {w : World} {K : KV} (h : M.slices_heapSortOrdered_uint64 a0 a1 a2 w K) : callT P F.slices_heapSortOrdered_uint64 [a0, a1, a2] w K :=
  callT_of_den (by kernel_rfl) Try.func164 (by kernel_rfl) M.slices_heapSortOrdered_uint64.ok (M.slices_heapSortOrdered_uint64.eq a0 a1 a2 w K ▸ h)
theorem M.slices_heapSortOrdered_uint64.fcall (args : List Value) (w : World) (K : KV) : fcallT P F.slices_heapSortOrdered_uint64 args w K = callT P F.slices_heapSortOrdered_uint64 args w K := fcallT_eq Try.func164 (by kernel_rfl) (by kernel_rfl) args w K
theorem M.slices_heapSortOrdered_uint64.rcall (a c args : List Value) (w : World) (K : KV) : callRT P (.func (.func F.slices_heapSortOrdered_uint64) a.toArray c.toArray) args w K = callT P F.slices_heapSortOrdered_uint64 (a ++ args ++ c) w K := callR_fn Try.func164 (by kernel_rfl) (by kernel_rfl) a c args w K

def M.slices_breakPatternsOrdered_uint64.j3 (a1 : Value) (x3 : List Value) (a0 : Value) (x0 : List Value) (K2 : KL) (w : World) (K : KV) : Prop :=
  drawT w fun w =>
  w = w ∧ w = w ∧ w = w ∧ w = w ∧ w = w ∧ quietT (fun K' => binT P .add T.int (.tmp 50) (.tmp 51) a1 (gv x3 0) w K') w fun t52 =>
  w = w ∧ w = w ∧ w = w ∧ quietT (fun K' => binT P .add T.int (.tmp 54) (.tmp 55) a1 (gv x3 0) w K') w fun t56 =>
  quietT (fun K' => iaT P T.sl_uint64 a0 t56 w K') w fun t57 =>
  quietT (fun K' => ldT P T.uint64 t57 w K') w fun t58 =>
  w = w ∧ w = w ∧ quietT (fun K' => iaT P T.sl_uint64 a0 (gv x0 1) w K') w fun t61 =>
  quietT (fun K' => ldT P T.uint64 t61 w K') w fun t62 =>
  quietT (fun K' => iaT P T.sl_uint64 a0 (gv x0 1) w K') w fun t63 =>
  stT P T.uint64 t63 t58 w fun _ w =>
  stabT (fun K' => binT P .add T.int (.tmp 50) (.tmp 51) a1 (gv x3 0) w K') w t52 ∧ stabT (fun K' => K' (gv x3 0) w) w (gv x3 0) ∧ stabT (fun K' => K' a1 w) w a1 ∧ stabT (fun K' => K' a0 w) w a0 ∧ quietT (fun K' => iaT P T.sl_uint64 a0 t52 w K') w fun t64 =>
  stT P T.uint64 t64 t62 w fun _ w =>
  K2 [(gv x3 0)] w
def M.slices_breakPatternsOrdered_uint64.j1 (t7 : Value) (t19 : Value) (t13 : Value) (a1 : Value) (a0 : Value) (x0 : List Value) (K0 : KL) (w : World) (K : KV) : Prop :=
  joinT (fun K2 =>
  fcallT P F.pslices_xorshift_Next [t7] w fun t36 w =>
  binT P .sub T.uint (.tmp 37) (.const (.int .u64 1)) t19 (.int .u64 1) w fun t38 w =>
  binT P .and T.uint (.tmp 36) (.tmp 38) t36 t38 w fun t39 w =>
  cvT P T.uint T.int t39 w fun t40 w =>
  joinT (fun K3 =>
  binT P .geq T.int (.tmp 41) (.tmp 42) t40 t13 w fun t43 w =>
  condT t43 (
  binT P .sub T.int (.tmp 44) (.tmp 45) t40 t13 w fun t46 w =>
  K3 [t46] w) (
  K3 [t40] w)) fun x3 w =>
  M.slices_breakPatternsOrdered_uint64.j3 a1 x3 a0 x0 K2 w K) fun x2 w =>
  binT P .add T.int (.tmp 34) (.const (.int .i64 1)) (gv x0 1) (.int .i64 1) w fun t35 w =>
  K0 [(gv x2 0), t35] w
def M.slices_breakPatternsOrdered_uint64.j0 (t13 : Value) (a1 : Value) (x0 : List Value) (t7 : Value) (t19 : Value) (a0 : Value) (K0 : KL) (w : World) (K : KV) : Prop :=
  joinT (fun K1 =>
  binT P .quo T.int (.tmp 28) (.const (.int .i64 4)) t13 (.int .i64 4) w fun t29 w =>
  binT P .mul T.int (.tmp 29) (.const (.int .i64 2)) t29 (.int .i64 2) w fun t30 w =>
  binT P .add T.int (.tmp 27) (.tmp 30) a1 t30 w fun t31 w =>
  binT P .add T.int (.tmp 31) (.const (.int .i64 1)) t31 (.int .i64 1) w fun t32 w =>
  binT P .leq T.int (.tmp 26) (.tmp 32) (gv x0 1) t32 w fun t33 w =>
  condT t33 (
  K1 [] w) (
  K (.tuple #[]) w)) fun x1 w =>
  M.slices_breakPatternsOrdered_uint64.j1 t7 t19 t13 a1 a0 x0 K0 w K
/-- slices.breakPatternsOrdered[uint64] -/
def M.slices_breakPatternsOrdered_uint64 (a0 a1 a2 : Value) (w : World) (K : KV) : Prop :=
  binT P .sub T.int (.tmp 11) (.tmp 12) a2 a1 w fun t13 w =>
  binT P .geq T.int (.tmp 14) (.const (.int .i64 8)) t13 (.int .i64 8) w fun t15 w =>
  condT t15 (
  cvT P T.int T.slices_xorshift t13 w fun t17 w =>
  alT P T.slices_xorshift w fun t7 w =>
  stT P T.slices_xorshift t7 t17 w fun _ w =>
  fcallT P F.slices_nextPowerOfTwo [t13] w fun t19 w =>
  binT P .quo T.int (.tmp 21) (.const (.int .i64 4)) t13 (.int .i64 4) w fun t22 w =>
  binT P .mul T.int (.tmp 22) (.const (.int .i64 2)) t22 (.int .i64 2) w fun t23 w =>
  binT P .add T.int (.tmp 20) (.tmp 23) a1 t23 w fun t24 w =>
  binT P .sub T.int (.tmp 24) (.const (.int .i64 1)) t24 (.int .i64 1) w fun t25 w =>
  loopT [undef, t25] w fun K0 x0 w =>
  M.slices_breakPatternsOrdered_uint64.j0 t13 a1 x0 t7 t19 a0 K0 w K) (
  K (.tuple #[]) w)
def M.slices_breakPatternsOrdered_uint64.L : List Nat := [0, 1, 2, 6, 8, 9, 10, 7]
def M.slices_breakPatternsOrdered_uint64.pl : Nat → Plan := fun id => cond (Nat.beq id 10) ⟨(.go 0 (.go 1 (.go 2 (.go 3 (.go 4 (.go 5 (.go 6 (.go 7 (.go 8 (.go 9 (.go 10 (.go 11 (.go 12 (.go 13 (.go 14 (.go 15 (.go 16 (.eff 17 (.go 18 (.eff 19 .nil .stop)) .stop)))))))))))))))))), [17, 19], false, [0, 0, 0, 0, 0, 24, 0, 0, 0, 384, 960, 1984, 0, 0, 12288, 28672, 65475, 131011, 262143, 524287]⟩ (⟨.nil, [], false, []⟩)
theorem M.slices_breakPatternsOrdered_uint64.eq (a0 a1 a2 : Value) (w : World) (K : KV) : M.slices_breakPatternsOrdered_uint64 a0 a1 a2 w K = den P M.slices_breakPatternsOrdered_uint64.L M.slices_breakPatternsOrdered_uint64.pl (Try.f165.body.getD .skip) (argE [a0, a1, a2]) w (bodyQ P Try.f165.results.toList K) := by kernel_rfl
theorem M.slices_breakPatternsOrdered_uint64.ok : okFn M.slices_breakPatternsOrdered_uint64.L M.slices_breakPatternsOrdered_uint64.pl Try.f165 (Try.f165.body.getD .skip) 3 = true := by kernel_rfl
theorem M.slices_breakPatternsOrdered_uint64.calls (a0 a1 a2 : Value) {w : World} {K : KV} (h : M.slices_breakPatternsOrdered_uint64 a0 a1 a2 w K) : callT P F.slices_breakPatternsOrdered_uint64 [a0, a1, a2] w K :=
  callT_of_den (by kernel_rfl) Try.func165 (by kernel_rfl) M.slices_breakPatternsOrdered_uint64.ok (M.slices_breakPatternsOrdered_uint64.eq a0 a1 a2 w K ▸ h)
theorem M.slices_breakPatternsOrdered_uint64.fcall (args : List Value) (w : World) (K : KV) : fcallT P F.slices_breakPatternsOrdered_uint64 args w K = callT P F.slices_breakPatternsOrdered_uint64 args w K := fcallT_eq Try.func165 (by kernel_rfl) (by kernel_rfl) args w K
theorem M.slices_breakPatternsOrdered_uint64.rcall (a c args : List Value) (w : World) (K : KV) : callRT P (.func (.func F.slices_breakPatternsOrdered_uint64) a.toArray c.toArray) args w K = callT P F.slices_breakPatternsOrdered_uint64 (a ++ args ++ c) w K := callR_fn Try.func165 (by kernel_rfl) (by kernel_rfl) a c args w K

def M.slices_choosePivotOrdered_uint64.j0 (t9 : Value) (x0 : List Value) (w : World) (K : KV) : Prop :=
  ldT P T.int t9 w fun t49 w =>
  binT P .eql T.int (.tmp 49) (.const (.int .i64 0)) t49 (.int .i64 0) w fun t52 w =>
  condT t52 (
  K (.tuple #[(gv x0 1), (.int .i64 1)]) w) (
  binT P .eql T.int (.tmp 49) (.const (.int .i64 12)) t49 (.int .i64 12) w fun t55 w =>
  condT t55 (
  K (.tuple #[(gv x0 1), (.int .i64 2)]) w) (
  K (.tuple #[(gv x0 1), (.int .i64 0)]) w))
/-- slices.choosePivotOrdered[uint64] -/
def M.slices_choosePivotOrdered_uint64 (a0 a1 a2 : Value) (w : World) (K : KV) : Prop :=
  binT P .sub T.int (.tmp 13) (.tmp 14) a2 a1 w fun t15 w =>
  alT P T.int w fun t9 w =>
  binT P .quo T.int (.tmp 17) (.const (.int .i64 4)) t15 (.int .i64 4) w fun t18 w =>
  binT P .mul T.int (.tmp 18) (.const (.int .i64 1)) t18 (.int .i64 1) w fun t19 w =>
  binT P .add T.int (.tmp 16) (.tmp 19) a1 t19 w fun t20 w =>
  binT P .quo T.int (.tmp 22) (.const (.int .i64 4)) t15 (.int .i64 4) w fun t23 w =>
  binT P .mul T.int (.tmp 23) (.const (.int .i64 2)) t23 (.int .i64 2) w fun t24 w =>
  binT P .add T.int (.tmp 21) (.tmp 24) a1 t24 w fun t25 w =>
  binT P .quo T.int (.tmp 27) (.const (.int .i64 4)) t15 (.int .i64 4) w fun t28 w =>
  binT P .mul T.int (.tmp 28) (.const (.int .i64 3)) t28 (.int .i64 3) w fun t29 w =>
  binT P .add T.int (.tmp 26) (.tmp 29) a1 t29 w fun t30 w =>
  joinT (fun K0 =>
  binT P .geq T.int (.tmp 31) (.const (.int .i64 8)) t15 (.int .i64 8) w fun t32 w =>
  condT t32 (
  joinT (fun K1 =>
  binT P .geq T.int (.tmp 33) (.const (.int .i64 50)) t15 (.int .i64 50) w fun t34 w =>
  condT t34 (
  fcallT P F.slices_medianAdjacentOrdered_uint64 [a0, t20, t9] w fun t37 w =>
  fcallT P F.slices_medianAdjacentOrdered_uint64 [a0, t25, t9] w fun t40 w =>
  fcallT P F.slices_medianAdjacentOrdered_uint64 [a0, t30, t9] w fun t43 w =>
  K1 [t37, t40, t43] w) (
  K1 [t20, t25, t30] w)) fun x1 w =>
  fcallT P F.slices_medianOrdered_uint64 [a0, (gv x1 0), (gv x1 1), (gv x1 2), t9] w fun t48 w =>
  K0 [(gv x1 0), t48, (gv x1 2)] w) (
  K0 [t20, t25, t30] w)) fun x0 w =>
  M.slices_choosePivotOrdered_uint64.j0 t9 x0 w K
def M.slices_choosePivotOrdered_uint64.L : List Nat := [0, 1, 2, 6, 7, 8, 10, 11, 12, 51, 54, 9]
def M.slices_choosePivotOrdered_uint64.pl : Nat → Plan := fun id => ⟨.nil, [], false, []⟩
theorem M.slices_choosePivotOrdered_uint64.eq (a0 a1 a2 : Value) (w : World) (K : KV) : M.slices_choosePivotOrdered_uint64 a0 a1 a2 w K = den P M.slices_choosePivotOrdered_uint64.L M.slices_choosePivotOrdered_uint64.pl (Try.f166.body.getD .skip) (argE [a0, a1, a2]) w (bodyQ P Try.f166.results.toList K) := by kernel_rfl
theorem M.slices_choosePivotOrdered_uint64.ok : okFn M.slices_choosePivotOrdered_uint64.L M.slices_choosePivotOrdered_uint64.pl Try.f166 (Try.f166.body.getD .skip) 3 = true := by kernel_rfl
theorem M.slices_choosePivotOrdered_uint64.calls (a0 a1 a2 : Value) {w : World} {K : KV} (h : M.slices_choosePivotOrdered_uint64 a0 a1 a2 w K) : callT P F.slices_choosePivotOrdered_uint64 [a0, a1, a2] w K :=
  callT_of_den (by kernel_rfl) Try.func166 (by kernel_rfl) M.slices_choosePivotOrdered_uint64.ok (M.slices_choosePivotOrdered_uint64.eq a0 a1 a2 w K ▸ h)
theorem M.slices_choosePivotOrdered_uint64.fcall (args : List Value) (w : World) (K : KV) : fcallT P F.slices_choosePivotOrdered_uint64 args w K = callT P F.slices_choosePivotOrdered_uint64 args w K := fcallT_eq Try.func166 (by kernel_rfl) (by kernel_rfl) args w K
theorem M.slices_choosePivotOrdered_uint64.rcall (a c args : List Value) (w : World) (K : KV) : callRT P (.func (.func F.slices_choosePivotOrdered_uint64) a.toArray c.toArray) args w K = callT P F.slices_choosePivotOrdered_uint64 (a ++ args ++ c) w K := callR_fn Try.func166 (by kernel_rfl) (by kernel_rfl) a c args w K

def M.slices_reverseRangeOrdered_uint64.j1 (a0 : Value) (x0 : List Value) (K0 : KL) (w : World) (K : KV) : Prop :=
  drawT w fun w =>
  w = w ∧ w = w ∧ w = w ∧ w = w ∧ w = w ∧ w = w ∧ quietT (fun K' => iaT P T.sl_uint64 a0 (gv x0 1) w K') w fun t20 =>
  quietT (fun K' => ldT P T.uint64 t20 w K') w fun t21 =>
  w = w ∧ w = w ∧ quietT (fun K' => iaT P T.sl_uint64 a0 (gv x0 0) w K') w fun t24 =>
  quietT (fun K' => ldT P T.uint64 t24 w K') w fun t25 =>
  quietT (fun K' => iaT P T.sl_uint64 a0 (gv x0 0) w K') w fun t26 =>
  stT P T.uint64 t26 t21 w fun _ w =>
  stabT (fun K' => K' (gv x0 1) w) w (gv x0 1) ∧ stabT (fun K' => K' a0 w) w a0 ∧ quietT (fun K' => iaT P T.sl_uint64 a0 (gv x0 1) w K') w fun t27 =>
  stT P T.uint64 t27 t25 w fun _ w =>
  binT P .add T.int (.tmp 28) (.const (.int .i64 1)) (gv x0 0) (.int .i64 1) w fun t29 w =>
  binT P .sub T.int (.tmp 30) (.const (.int .i64 1)) (gv x0 1) (.int .i64 1) w fun t31 w =>
  K0 [t29, t31] w
/-- slices.reverseRangeOrdered[uint64] -/
def M.slices_reverseRangeOrdered_uint64 (a0 a1 a2 : Value) (w : World) (K : KV) : Prop :=
  binT P .sub T.int (.tmp 9) (.const (.int .i64 1)) a2 (.int .i64 1) w fun t10 w =>
  loopT [a1, t10] w fun K0 x0 w =>
  joinT (fun K1 =>
  binT P .lss T.int (.tmp 11) (.tmp 12) (gv x0 0) (gv x0 1) w fun t13 w =>
  condT t13 (
  K1 [] w) (
  K (.tuple #[]) w)) fun x1 w =>
  M.slices_reverseRangeOrdered_uint64.j1 a0 x0 K0 w K
def M.slices_reverseRangeOrdered_uint64.L : List Nat := [0, 1, 2, 6, 7]
def M.slices_reverseRangeOrdered_uint64.pl : Nat → Plan := fun id => cond (Nat.beq id 3) ⟨(.go 0 (.go 1 (.go 2 (.go 3 (.go 4 (.go 5 (.go 6 (.go 7 (.go 8 (.go 9 (.go 10 (.go 11 (.go 12 (.eff 13 (.go 14 (.eff 15 .nil .stop)) .stop)))))))))))))), [13, 15], false, [0, 0, 0, 0, 0, 0, 48, 112, 0, 0, 768, 1792, 4083, 8179, 16383, 32767]⟩ (⟨.nil, [], false, []⟩)
theorem M.slices_reverseRangeOrdered_uint64.eq (a0 a1 a2 : Value) (w : World) (K : KV) : M.slices_reverseRangeOrdered_uint64 a0 a1 a2 w K = den P M.slices_reverseRangeOrdered_uint64.L M.slices_reverseRangeOrdered_uint64.pl (Try.f167.body.getD .skip) (argE [a0, a1, a2]) w (bodyQ P Try.f167.results.toList K) := by kernel_rfl
theorem M.slices_reverseRangeOrdered_uint64.ok : okFn M.slices_reverseRangeOrdered_uint64.L M.slices_reverseRangeOrdered_uint64.pl Try.f167 (Try.f167.body.getD .skip) 3 = true := by kernel_rfl
theorem M.slices_reverseRangeOrdered_uint64.calls (a0 a1 a2 : Value) {w : World} {K : KV} (h : M.slices_reverseRangeOrdered_uint64 a0 a1 a2 w K) : callT P F.slices_reverseRangeOrdered_uint64 [a0, a1, a2] w K :=
  callT_of_den (by kernel_rfl) Try.func167 (by kernel_rfl) M.slices_reverseRangeOrdered_uint64.ok (M.slices_reverseRangeOrdered_uint64.eq a0 a1 a2 w K ▸ h)
theorem M.slices_reverseRangeOrdered_uint64.fcall (args : List Value) (w : World) (K : KV) : fcallT P F.slices_reverseRangeOrdered_uint64 args w K = callT P F.slices_reverseRangeOrdered_uint64 args w K := fcallT_eq Try.func167 (by kernel_rfl) (by kernel_rfl) args w K
theorem M.slices_reverseRangeOrdered_uint64.rcall (a c args : List Value) (w : World) (K : KV) : callRT P (.func (.func F.slices_reverseRangeOrdered_uint64) a.toArray c.toArray) args w K = callT P F.slices_reverseRangeOrdered_uint64 (a ++ args ++ c) w K := callR_fn Try.func167 (by kernel_rfl) (by kernel_rfl) a c args w K

def M.slices_partialInsertionSortOrdered_uint64.j5 (x5 : List Value) (a2 : Value) (a0 : Value) (K4 : KL) (K5 : KL) (w : World) (K : KV) : Prop :=
  joinT (fun K6 =>
  drawT w fun w =>
  w = w ∧ w = w ∧ quietT (fun K' => binT P .lss T.int (.tmp 17) (.tmp 18) (gv x5 0) a2 w K') w fun t19 =>
  w = w ∧ quietT (fun K' => guardT (isB t19 true) (fun K' => K' a0 w) w K') w fun t21 =>
  quietT (fun K' => guardT (isB t19 true) (fun K' => K' (gv x5 0) w) w K') w fun t22 =>
  quietT (fun K' => guardT (isB t19 true) (fun K' => iaT P T.sl_uint64 t21 t22 w K') w K') w fun t23 =>
  quietT (fun K' => guardT (isB t19 true) (fun K' => ldT P T.uint64 t23 w K') w K') w fun t24 =>
  quietT (fun K' => guardT (isB t19 true) (fun K' => K' a0 w) w K') w fun t25 =>
  quietT (fun K' => guardT (isB t19 true) (fun K' => K' (gv x5 0) w) w K') w fun t26 =>
  quietT (fun K' => guardT (isB t19 true) (fun K' => binT P .sub T.int (.tmp 26) (.const (.int .i64 1)) t26 (.int .i64 1) w K') w K') w fun t27 =>
  quietT (fun K' => guardT (isB t19 true) (fun K' => iaT P T.sl_uint64 t25 t27 w K') w K') w fun t28 =>
  quietT (fun K' => guardT (isB t19 true) (fun K' => ldT P T.uint64 t28 w K') w K') w fun t29 =>
  guardT (isB t19 true) (fun K' => fcallT P F.cmp_Less_uint64 [t24, t29] w K') w fun t30 w =>
  quietT (fun K' => guardT (isB t19 true) (fun K' => unT P .not t30 w K') w K') w fun t31 =>
  quietT (fun K' => pickT t19 t31 (.bool false) w K') w fun t32 =>
  condT t32 (
  K6 [] w) (
  K4 [(gv x5 0)] w)) fun x6 w =>
  binT P .add T.int (.tmp 33) (.const (.int .i64 1)) (gv x5 0) (.int .i64 1) w fun t34 w =>
  K5 [t34] w
def M.slices_partialInsertionSortOrdered_uint64.j13 (x10 : List Value) (a0 : Value) (K12 : KL) (w : World) (K : KV) : Prop :=
  drawT w fun w =>
  w = w ∧ w = w ∧ w = w ∧ w = w ∧ quietT (fun K' => binT P .sub T.int (.tmp 82) (.const (.int .i64 1)) (gv x10 0) (.int .i64 1) w K') w fun t83 =>
  w = w ∧ w = w ∧ quietT (fun K' => binT P .sub T.int (.tmp 85) (.const (.int .i64 1)) (gv x10 0) (.int .i64 1) w K') w fun t86 =>
  quietT (fun K' => iaT P T.sl_uint64 a0 t86 w K') w fun t87 =>
  quietT (fun K' => ldT P T.uint64 t87 w K') w fun t88 =>
  w = w ∧ w = w ∧ quietT (fun K' => iaT P T.sl_uint64 a0 (gv x10 0) w K') w fun t91 =>
  quietT (fun K' => ldT P T.uint64 t91 w K') w fun t92 =>
  quietT (fun K' => iaT P T.sl_uint64 a0 (gv x10 0) w K') w fun t93 =>
  stT P T.uint64 t93 t88 w fun _ w =>
  stabT (fun K' => binT P .sub T.int (.tmp 82) (.const (.int .i64 1)) (gv x10 0) (.int .i64 1) w K') w t83 ∧ stabT (fun K' => K' (gv x10 0) w) w (gv x10 0) ∧ stabT (fun K' => K' a0 w) w a0 ∧ quietT (fun K' => iaT P T.sl_uint64 a0 t83 w K') w fun t94 =>
  stT P T.uint64 t94 t92 w fun _ w =>
  K12 [] w
def M.slices_partialInsertionSortOrdered_uint64.j11 (a0 : Value) (x10 : List Value) (K9 : KL) (K10 : KL) (w : World) (K : KV) : Prop :=
  joinT (fun K12 =>
  joinT (fun K13 =>
  drawT w fun w =>
  w = w ∧ w = w ∧ quietT (fun K' => iaT P T.sl_uint64 a0 (gv x10 0) w K') w fun t70 =>
  quietT (fun K' => ldT P T.uint64 t70 w K') w fun t71 =>
  w = w ∧ w = w ∧ quietT (fun K' => binT P .sub T.int (.tmp 73) (.const (.int .i64 1)) (gv x10 0) (.int .i64 1) w K') w fun t74 =>
  quietT (fun K' => iaT P T.sl_uint64 a0 t74 w K') w fun t75 =>
  quietT (fun K' => ldT P T.uint64 t75 w K') w fun t76 =>
  fcallT P F.cmp_Less_uint64 [t71, t76] w fun t77 w =>
  quietT (fun K' => unT P .not t77 w K') w fun t78 =>
  condT t78 (
  K9 [(gv x10 0)] w) (
  K13 [] w)) fun x13 w =>
  M.slices_partialInsertionSortOrdered_uint64.j13 x10 a0 K12 w K) fun x12 w =>
  binT P .sub T.int (.tmp 66) (.const (.int .i64 1)) (gv x10 0) (.int .i64 1) w fun t67 w =>
  K10 [t67] w
def M.slices_partialInsertionSortOrdered_uint64.j17 (x14 : List Value) (a0 : Value) (K16 : KL) (w : World) (K : KV) : Prop :=
  drawT w fun w =>
  w = w ∧ w = w ∧ w = w ∧ w = w ∧ quietT (fun K' => binT P .sub T.int (.tmp 120) (.const (.int .i64 1)) (gv x14 0) (.int .i64 1) w K') w fun t121 =>
  w = w ∧ w = w ∧ quietT (fun K' => binT P .sub T.int (.tmp 123) (.const (.int .i64 1)) (gv x14 0) (.int .i64 1) w K') w fun t124 =>
  quietT (fun K' => iaT P T.sl_uint64 a0 t124 w K') w fun t125 =>
  quietT (fun K' => ldT P T.uint64 t125 w K') w fun t126 =>
  w = w ∧ w = w ∧ quietT (fun K' => iaT P T.sl_uint64 a0 (gv x14 0) w K') w fun t129 =>
  quietT (fun K' => ldT P T.uint64 t129 w K') w fun t130 =>
  quietT (fun K' => iaT P T.sl_uint64 a0 (gv x14 0) w K') w fun t131 =>
  stT P T.uint64 t131 t126 w fun _ w =>
  stabT (fun K' => binT P .sub T.int (.tmp 120) (.const (.int .i64 1)) (gv x14 0) (.int .i64 1) w K') w t121 ∧ stabT (fun K' => K' (gv x14 0) w) w (gv x14 0) ∧ stabT (fun K' => K' a0 w) w a0 ∧ quietT (fun K' => iaT P T.sl_uint64 a0 t121 w K') w fun t132 =>
  stT P T.uint64 t132 t130 w fun _ w =>
  K16 [] w
def M.slices_partialInsertionSortOrdered_uint64.j15 (a0 : Value) (x14 : List Value) (K3 : KL) (x4 : List Value) (x8 : List Value) (x9 : List Value) (K14 : KL) (w : World) (K : KV) : Prop :=
  joinT (fun K16 =>
  joinT (fun K17 =>
  drawT w fun w =>
  w = w ∧ w = w ∧ quietT (fun K' => iaT P T.sl_uint64 a0 (gv x14 0) w K') w fun t108 =>
  quietT (fun K' => ldT P T.uint64 t108 w K') w fun t109 =>
  w = w ∧ w = w ∧ quietT (fun K' => binT P .sub T.int (.tmp 111) (.const (.int .i64 1)) (gv x14 0) (.int .i64 1) w K') w fun t112 =>
  quietT (fun K' => iaT P T.sl_uint64 a0 t112 w K') w fun t113 =>
  quietT (fun K' => ldT P T.uint64 t113 w K') w fun t114 =>
  fcallT P F.cmp_Less_uint64 [t109, t114] w fun t115 w =>
  quietT (fun K' => unT P .not t115 w K') w fun t116 =>
  condT t116 (
  K3 [(gv x4 0), (gv x8 0), (gv x9 0), (gv x14 0)] w) (
  K17 [] w)) fun x17 w =>
  M.slices_partialInsertionSortOrdered_uint64.j17 x14 a0 K16 w K) fun x16 w =>
  binT P .add T.int (.tmp 104) (.const (.int .i64 1)) (gv x14 0) (.int .i64 1) w fun t105 w =>
  K14 [t105] w
def M.slices_partialInsertionSortOrdered_uint64.j14 (x14 : List Value) (a2 : Value) (K3 : KL) (x4 : List Value) (x8 : List Value) (x9 : List Value) (a0 : Value) (K14 : KL) (w : World) (K : KV) : Prop :=
  joinT (fun K15 =>
  binT P .lss T.int (.tmp 101) (.tmp 102) (gv x14 0) a2 w fun t103 w =>
  condT t103 (
  K15 [] w) (
  K3 [(gv x4 0), (gv x8 0), (gv x9 0), (gv x14 0)] w)) fun x15 w =>
  M.slices_partialInsertionSortOrdered_uint64.j15 a0 x14 K3 x4 x8 x9 K14 w K
def M.slices_partialInsertionSortOrdered_uint64.j9 (a2 : Value) (x4 : List Value) (K3 : KL) (x8 : List Value) (x9 : List Value) (a0 : Value) (x1 : List Value) (w : World) (K : KV) : Prop :=
  binT P .sub T.int (.tmp 95) (.tmp 96) a2 (gv x4 0) w fun t97 w =>
  binT P .geq T.int (.tmp 97) (.const (.int .i64 2)) t97 (.int .i64 2) w fun t98 w =>
  condT t98 (
  binT P .add T.int (.tmp 99) (.const (.int .i64 1)) (gv x4 0) (.int .i64 1) w fun t100 w =>
  loopT [t100] w fun K14 x14 w =>
  M.slices_partialInsertionSortOrdered_uint64.j14 x14 a2 K3 x4 x8 x9 a0 K14 w K) (
  K3 [(gv x4 0), (gv x8 0), (gv x9 0), (gv x1 3)] w)
def M.slices_partialInsertionSortOrdered_uint64.j8 (x4 : List Value) (a0 : Value) (a1 : Value) (x1 : List Value) (a2 : Value) (K3 : KL) (x8 : List Value) (w : World) (K : KV) : Prop :=
  drawT w fun w =>
  w = w ∧ w = w ∧ w = w ∧ w = w ∧ quietT (fun K' => binT P .sub T.int (.tmp 45) (.const (.int .i64 1)) (gv x4 0) (.int .i64 1) w K') w fun t46 =>
  w = w ∧ w = w ∧ quietT (fun K' => binT P .sub T.int (.tmp 48) (.const (.int .i64 1)) (gv x4 0) (.int .i64 1) w K') w fun t49 =>
  quietT (fun K' => iaT P T.sl_uint64 a0 t49 w K') w fun t50 =>
  quietT (fun K' => ldT P T.uint64 t50 w K') w fun t51 =>
  w = w ∧ w = w ∧ quietT (fun K' => iaT P T.sl_uint64 a0 (gv x4 0) w K') w fun t54 =>
  quietT (fun K' => ldT P T.uint64 t54 w K') w fun t55 =>
  quietT (fun K' => iaT P T.sl_uint64 a0 (gv x4 0) w K') w fun t56 =>
  stT P T.uint64 t56 t51 w fun _ w =>
  stabT (fun K' => binT P .sub T.int (.tmp 45) (.const (.int .i64 1)) (gv x4 0) (.int .i64 1) w K') w t46 ∧ stabT (fun K' => K' (gv x4 0) w) w (gv x4 0) ∧ stabT (fun K' => K' a0 w) w a0 ∧ quietT (fun K' => iaT P T.sl_uint64 a0 t46 w K') w fun t57 =>
  stT P T.uint64 t57 t55 w fun _ w =>
  joinT (fun K9 =>
  binT P .sub T.int (.tmp 58) (.tmp 59) (gv x4 0) a1 w fun t60 w =>
  binT P .geq T.int (.tmp 60) (.const (.int .i64 2)) t60 (.int .i64 2) w fun t61 w =>
  condT t61 (
  binT P .sub T.int (.tmp 62) (.const (.int .i64 1)) (gv x4 0) (.int .i64 1) w fun t63 w =>
  loopT [t63] w fun K10 x10 w =>
  joinT (fun K11 =>
  binT P .geq T.int (.tmp 64) (.const (.int .i64 1)) (gv x10 0) (.int .i64 1) w fun t65 w =>
  condT t65 (
  K11 [] w) (
  K9 [(gv x10 0)] w)) fun x11 w =>
  M.slices_partialInsertionSortOrdered_uint64.j11 a0 x10 K9 K10 w K) (
  K9 [(gv x1 2)] w)) fun x9 w =>
  M.slices_partialInsertionSortOrdered_uint64.j9 a2 x4 K3 x8 x9 a0 x1 w K
def M.slices_partialInsertionSortOrdered_uint64.j7 (a2 : Value) (a1 : Value) (x7 : List Value) (x4 : List Value) (a0 : Value) (x1 : List Value) (K3 : KL) (w : World) (K : KV) : Prop :=
  joinT (fun K8 =>
  binT P .sub T.int (.tmp 38) (.tmp 39) a2 a1 w fun t40 w =>
  binT P .lss T.int (.tmp 40) (.const (.int .i64 50)) t40 (.int .i64 50) w fun t41 w =>
  condT t41 (
  K (.bool false) w) (
  K8 [(gv x7 0)] w)) fun x8 w =>
  M.slices_partialInsertionSortOrdered_uint64.j8 x4 a0 a1 x1 a2 K3 x8 w K
def M.slices_partialInsertionSortOrdered_uint64.j2 (x1 : List Value) (a2 : Value) (a0 : Value) (a1 : Value) (K1 : KL) (w : World) (K : KV) : Prop :=
  joinT (fun K3 =>
  joinT (fun K4 =>
  loopT [(gv x1 0)] w fun K5 x5 w =>
  M.slices_partialInsertionSortOrdered_uint64.j5 x5 a2 a0 K4 K5 w K) fun x4 w =>
  joinT (fun K7 =>
  binT P .eql T.int (.tmp 35) (.tmp 36) (gv x4 0) a2 w fun t37 w =>
  condT t37 (
  K (.bool true) w) (
  K7 [(gv x1 1)] w)) fun x7 w =>
  M.slices_partialInsertionSortOrdered_uint64.j7 a2 a1 x7 x4 a0 x1 K3 w K) fun x3 w =>
  binT P .add T.int (.tmp 15) (.const (.int .i64 1)) (gv x1 4) (.int .i64 1) w fun t16 w =>
  K1 [(gv x3 0), (gv x3 1), (gv x3 2), (gv x3 3), t16] w
def M.slices_partialInsertionSortOrdered_uint64.j1 (x1 : List Value) (K0 : KL) (a2 : Value) (a0 : Value) (a1 : Value) (K1 : KL) (w : World) (K : KV) : Prop :=
  joinT (fun K2 =>
  binT P .lss T.int (.tmp 13) (.const (.int .i64 5)) (gv x1 4) (.int .i64 5) w fun t14 w =>
  condT t14 (
  K2 [] w) (
  K0 [(gv x1 4), (gv x1 0), (gv x1 1), (gv x1 2), (gv x1 3)] w)) fun x2 w =>
  M.slices_partialInsertionSortOrdered_uint64.j2 x1 a2 a0 a1 K1 w K
/-- slices.partialInsertionSortOrdered[uint64] -/
def M.slices_partialInsertionSortOrdered_uint64 (a0 a1 a2 : Value) (w : World) (K : KV) : Prop :=
  binT P .add T.int (.tmp 11) (.const (.int .i64 1)) a1 (.int .i64 1) w fun t12 w =>
  joinT (fun K0 =>
  loopT [t12, (.bool false), undef, undef, (.int .i64 0)] w fun K1 x1 w =>
  M.slices_partialInsertionSortOrdered_uint64.j1 x1 K0 a2 a0 a1 K1 w K) fun x0 w =>
  K (.bool false) w
def M.slices_partialInsertionSortOrdered_uint64.L : List Nat := [0, 1, 2, 6, 7, 8, 9, 10]
def M.slices_partialInsertionSortOrdered_uint64.pl : Nat → Plan := fun id => cond (Nat.beq id 5) ⟨(.go 0 (.go 1 (.go 2 (.go 3 (.go 4 (.go 5 (.go 6 (.go 7 (.go 8 (.go 9 (.go 10 (.go 11 (.go 12 (.eff 13 (.go 14 (.go 15 .nil)) .stop)))))))))))))), [13], false, [0, 0, 3, 7, 15, 15, 63, 127, 15, 15, 527, 1807, 3855, 8191, 16383, 32767]⟩ (cond (Nat.beq id 11) ⟨(.go 0 (.go 1 (.go 2 (.go 3 (.go 4 (.go 5 (.go 6 (.go 7 (.go 8 (.go 9 (.go 10 (.go 11 (.go 12 (.go 13 (.go 14 (.eff 15 (.go 16 (.eff 17 .nil .stop)) .stop)))))))))))))))), [15, 17], false, [0, 0, 0, 0, 8, 0, 0, 64, 224, 480, 0, 0, 3072, 7168, 16355, 32739, 65535, 131071]⟩ (cond (Nat.beq id 16) ⟨(.go 0 (.go 1 (.go 2 (.go 3 (.go 4 (.go 5 (.go 6 (.go 7 (.go 8 (.eff 9 (.go 10 .nil) .stop)))))))))), [9], false, [0, 0, 3, 7, 0, 0, 32, 112, 240, 511, 1023]⟩ (cond (Nat.beq id 17) ⟨(.go 0 (.go 1 (.go 2 (.go 3 (.go 4 (.go 5 (.go 6 (.go 7 (.go 8 (.go 9 (.go 10 (.go 11 (.go 12 (.go 13 (.go 14 (.eff 15 (.go 16 (.eff 17 .nil .stop)) .stop)))))))))))))))), [15, 17], false, [0, 0, 0, 0, 8, 0, 0, 64, 224, 480, 0, 0, 3072, 7168, 16355, 32739, 65535, 131071]⟩ (cond (Nat.beq id 22) ⟨(.go 0 (.go 1 (.go 2 (.go 3 (.go 4 (.go 5 (.go 6 (.go 7 (.go 8 (.eff 9 (.go 10 .nil) .stop)))))))))), [9], false, [0, 0, 3, 7, 0, 0, 32, 112, 240, 511, 1023]⟩ (cond (Nat.beq id 23) ⟨(.go 0 (.go 1 (.go 2 (.go 3 (.go 4 (.go 5 (.go 6 (.go 7 (.go 8 (.go 9 (.go 10 (.go 11 (.go 12 (.go 13 (.go 14 (.eff 15 (.go 16 (.eff 17 .nil .stop)) .stop)))))))))))))))), [15, 17], false, [0, 0, 0, 0, 8, 0, 0, 64, 224, 480, 0, 0, 3072, 7168, 16355, 32739, 65535, 131071]⟩ (⟨.nil, [], false, []⟩))))))
theorem M.slices_partialInsertionSortOrdered_uint64.eq (a0 a1 a2 : Value) (w : World) (K : KV) : M.slices_partialInsertionSortOrdered_uint64 a0 a1 a2 w K = den P M.slices_partialInsertionSortOrdered_uint64.L M.slices_partialInsertionSortOrdered_uint64.pl (Try.f168.body.getD .skip) (argE [a0, a1, a2]) w (bodyQ P Try.f168.results.toList K) := by kernel_rfl
theorem M.slices_partialInsertionSortOrdered_uint64.ok : okFn M.slices_partialInsertionSortOrdered_uint64.L M.slices_partialInsertionSortOrdered_uint64.pl Try.f168 (Try.f168.body.getD .skip) 3 = true := by kernel_rfl
theorem M.slices_partialInsertionSortOrdered_uint64.calls (a0 a1 a2 : Value) {w : World} {K : KV} (h : M.slices_partialInsertionSortOrdered_uint64 a0 a1 a2 w K) : callT P F.slices_partialInsertionSortOrdered_uint64 [a0, a1, a2] w K :=
  callT_of_den (by kernel_rfl) Try.func168 (by kernel_rfl) M.slices_partialInsertionSortOrdered_uint64.ok (M.slices_partialInsertionSortOrdered_uint64.eq a0 a1 a2 w K ▸ h)
theorem M.slices_partialInsertionSortOrdered_uint64.fcall (args : List Value) (w : World) (K : KV) : fcallT P F.slices_partialInsertionSortOrdered_uint64 args w K = callT P F.slices_partialInsertionSortOrdered_uint64 args w K := fcallT_eq Try.func168 (by kernel_rfl) (by kernel_rfl) args w K
theorem M.slices_partialInsertionSortOrdered_uint64.rcall (a c args : List Value) (w : World) (K : KV) : callRT P (.func (.func F.slices_partialInsertionSortOrdered_uint64) a.toArray c.toArray) args w K = callT P F.slices_partialInsertionSortOrdered_uint64 (a ++ args ++ c) w K := callR_fn Try.func168 (by kernel_rfl) (by kernel_rfl) a c args w K

/-- cmp.Less[uint64] -/
def M.cmp_Less_uint64 (a0 a1 : Value) (w : World) (K : KV) : Prop :=
  fcallT P F.cmp_isNaN_uint64 [a0] w fun t6 w =>
  guardT (isB t6 true) (fun K' => K' a1 w) w fun t8 w =>
  guardT (isB t6 true) (fun K' => fcallT P F.cmp_isNaN_uint64 [t8] w K') w fun t9 w =>
  guardT (isB t6 true) (fun K' => unT P .not t9 w K') w fun t10 w =>
  pickT t6 t10 (.bool false) w fun t11 w =>
  guardT (isB t11 false) (fun K' => K' a0 w) w fun t13 w =>
  guardT (isB t11 false) (fun K' => K' a1 w) w fun t14 w =>
  guardT (isB t11 false) (fun K' => binT P .lss T.uint64 (.tmp 13) (.tmp 14) t13 t14 w K') w fun t15 w =>
  pickT t11 (.bool true) t15 w fun t16 w =>
  K t16 w
def M.cmp_Less_uint64.L : List Nat := [0, 1, 4]
def M.cmp_Less_uint64.pl : Nat → Plan := fun id => ⟨.nil, [], false, []⟩
theorem M.cmp_Less_uint64.eq (a0 a1 : Value) (w : World) (K : KV) : M.cmp_Less_uint64 a0 a1 w K = den P M.cmp_Less_uint64.L M.cmp_Less_uint64.pl (Try.f169.body.getD .skip) (argE [a0, a1]) w (bodyQ P Try.f169.results.toList K) := by kernel_rfl
theorem M.cmp_Less_uint64.ok : okFn M.cmp_Less_uint64.L M.cmp_Less_uint64.pl Try.f169 (Try.f169.body.getD .skip) 2 = true := by kernel_rfl
theorem M.cmp_Less_uint64.calls (a0 a1 : Value) {w : World} {K : KV} (h : M.cmp_Less_uint64 a0 a1 w K) : callT P F.cmp_Less_uint64 [a0, a1] w K :=
  callT_of_den (by kernel_rfl) Try.func169 (by kernel_rfl) M.cmp_Less_uint64.ok (M.cmp_Less_uint64.eq a0 a1 w K ▸ h)
theorem M.cmp_Less_uint64.fcall (args : List Value) (w : World) (K : KV) : fcallT P F.cmp_Less_uint64 args w K = callT P F.cmp_Less_uint64 args w K := fcallT_eq Try.func169 (by kernel_rfl) (by kernel_rfl) args w K
theorem M.cmp_Less_uint64.rcall (a c args : List Value) (w : World) (K : KV) : callRT P (.func (.func F.cmp_Less_uint64) a.toArray c.toArray) args w K = callT P F.cmp_Less_uint64 (a ++ args ++ c) w K := callR_fn Try.func169 (by kernel_rfl) (by kernel_rfl) a c args w K

def M.slices_partitionEqualOrdered_uint64.j3 (x3 : List Value) (x1 : List Value) (a0 : Value) (a1 : Value) (K2 : KL) (K3 : KL) (w : World) (K : KV) : Prop :=
  joinT (fun K4 =>
  drawT w fun w =>
  w = w ∧ w = w ∧ quietT (fun K' => binT P .leq T.int (.tmp 29) (.tmp 30) (gv x3 0) (gv x1 1) w K') w fun t31 =>
  w = w ∧ quietT (fun K' => guardT (isB t31 true) (fun K' => K' a0 w) w K') w fun t33 =>
  quietT (fun K' => guardT (isB t31 true) (fun K' => K' a1 w) w K') w fun t34 =>
  quietT (fun K' => guardT (isB t31 true) (fun K' => iaT P T.sl_uint64 t33 t34 w K') w K') w fun t35 =>
  quietT (fun K' => guardT (isB t31 true) (fun K' => ldT P T.uint64 t35 w K') w K') w fun t36 =>
  quietT (fun K' => guardT (isB t31 true) (fun K' => K' a0 w) w K') w fun t37 =>
  quietT (fun K' => guardT (isB t31 true) (fun K' => K' (gv x3 0) w) w K') w fun t38 =>
  quietT (fun K' => guardT (isB t31 true) (fun K' => iaT P T.sl_uint64 t37 t38 w K') w K') w fun t39 =>
  quietT (fun K' => guardT (isB t31 true) (fun K' => ldT P T.uint64 t39 w K') w K') w fun t40 =>
  guardT (isB t31 true) (fun K' => fcallT P F.cmp_Less_uint64 [t36, t40] w K') w fun t41 w =>
  quietT (fun K' => guardT (isB t31 true) (fun K' => unT P .not t41 w K') w K') w fun t42 =>
  quietT (fun K' => pickT t31 t42 (.bool false) w K') w fun t43 =>
  condT t43 (
  K4 [] w) (
  K2 [(gv x3 0)] w)) fun x4 w =>
  binT P .add T.int (.tmp 44) (.const (.int .i64 1)) (gv x3 0) (.int .i64 1) w fun t45 w =>
  K3 [t45] w
def M.slices_partitionEqualOrdered_uint64.j6 (x2 : List Value) (x6 : List Value) (a0 : Value) (a1 : Value) (K5 : KL) (K6 : KL) (w : World) (K : KV) : Prop :=
  joinT (fun K7 =>
  drawT w fun w =>
  w = w ∧ w = w ∧ quietT (fun K' => binT P .leq T.int (.tmp 46) (.tmp 47) (gv x2 0) (gv x6 0) w K') w fun t48 =>
  w = w ∧ quietT (fun K' => guardT (isB t48 true) (fun K' => K' a0 w) w K') w fun t50 =>
  quietT (fun K' => guardT (isB t48 true) (fun K' => K' a1 w) w K') w fun t51 =>
  quietT (fun K' => guardT (isB t48 true) (fun K' => iaT P T.sl_uint64 t50 t51 w K') w K') w fun t52 =>
  quietT (fun K' => guardT (isB t48 true) (fun K' => ldT P T.uint64 t52 w K') w K') w fun t53 =>
  quietT (fun K' => guardT (isB t48 true) (fun K' => K' a0 w) w K') w fun t54 =>
  quietT (fun K' => guardT (isB t48 true) (fun K' => K' (gv x6 0) w) w K') w fun t55 =>
  quietT (fun K' => guardT (isB t48 true) (fun K' => iaT P T.sl_uint64 t54 t55 w K') w K') w fun t56 =>
  quietT (fun K' => guardT (isB t48 true) (fun K' => ldT P T.uint64 t56 w K') w K') w fun t57 =>
  guardT (isB t48 true) (fun K' => fcallT P F.cmp_Less_uint64 [t53, t57] w K') w fun t58 w =>
  quietT (fun K' => pickT t48 t58 (.bool false) w K') w fun t59 =>
  condT t59 (
  K7 [] w) (
  K5 [(gv x6 0)] w)) fun x7 w =>
  binT P .sub T.int (.tmp 60) (.const (.int .i64 1)) (gv x6 0) (.int .i64 1) w fun t61 w =>
  K6 [t61] w
def M.slices_partitionEqualOrdered_uint64.j8 (a0 : Value) (x5 : List Value) (x2 : List Value) (K1 : KL) (w : World) (K : KV) : Prop :=
  drawT w fun w =>
  w = w ∧ w = w ∧ w = w ∧ w = w ∧ w = w ∧ w = w ∧ quietT (fun K' => iaT P T.sl_uint64 a0 (gv x5 0) w K') w fun t71 =>
  quietT (fun K' => ldT P T.uint64 t71 w K') w fun t72 =>
  w = w ∧ w = w ∧ quietT (fun K' => iaT P T.sl_uint64 a0 (gv x2 0) w K') w fun t75 =>
  quietT (fun K' => ldT P T.uint64 t75 w K') w fun t76 =>
  quietT (fun K' => iaT P T.sl_uint64 a0 (gv x2 0) w K') w fun t77 =>
  stT P T.uint64 t77 t72 w fun _ w =>
  stabT (fun K' => K' (gv x5 0) w) w (gv x5 0) ∧ stabT (fun K' => K' a0 w) w a0 ∧ quietT (fun K' => iaT P T.sl_uint64 a0 (gv x5 0) w K') w fun t78 =>
  stT P T.uint64 t78 t76 w fun _ w =>
  binT P .add T.int (.tmp 79) (.const (.int .i64 1)) (gv x2 0) (.int .i64 1) w fun t80 w =>
  binT P .sub T.int (.tmp 81) (.const (.int .i64 1)) (gv x5 0) (.int .i64 1) w fun t82 w =>
  K1 [t80, t82] w
def M.slices_partitionEqualOrdered_uint64.j2 (x1 : List Value) (x2 : List Value) (a0 : Value) (a1 : Value) (K0 : KL) (K1 : KL) (w : World) (K : KV) : Prop :=
  joinT (fun K5 =>
  loopT [(gv x1 1)] w fun K6 x6 w =>
  M.slices_partitionEqualOrdered_uint64.j6 x2 x6 a0 a1 K5 K6 w K) fun x5 w =>
  joinT (fun K8 =>
  binT P .gtr T.int (.tmp 62) (.tmp 63) (gv x2 0) (gv x5 0) w fun t64 w =>
  condT t64 (
  K0 [(gv x2 0), (gv x5 0)] w) (
  K8 [] w)) fun x8 w =>
  M.slices_partitionEqualOrdered_uint64.j8 a0 x5 x2 K1 w K
/-- slices.partitionEqualOrdered[uint64] -/
def M.slices_partitionEqualOrdered_uint64 (a0 a1 a2 a3 : Value) (w : World) (K : KV) : Prop :=
  drawT w fun w =>
  w = w ∧ w = w ∧ w = w ∧ w = w ∧ w = w ∧ w = w ∧ quietT (fun K' => iaT P T.sl_uint64 a0 a3 w K') w fun t17 =>
  quietT (fun K' => ldT P T.uint64 t17 w K') w fun t18 =>
  w = w ∧ w = w ∧ quietT (fun K' => iaT P T.sl_uint64 a0 a1 w K') w fun t21 =>
  quietT (fun K' => ldT P T.uint64 t21 w K') w fun t22 =>
  quietT (fun K' => iaT P T.sl_uint64 a0 a1 w K') w fun t23 =>
  stT P T.uint64 t23 t18 w fun _ w =>
  stabT (fun K' => K' a3 w) w a3 ∧ stabT (fun K' => K' a0 w) w a0 ∧ quietT (fun K' => iaT P T.sl_uint64 a0 a3 w K') w fun t24 =>
  stT P T.uint64 t24 t22 w fun _ w =>
  binT P .add T.int (.tmp 25) (.const (.int .i64 1)) a1 (.int .i64 1) w fun t26 w =>
  binT P .sub T.int (.tmp 27) (.const (.int .i64 1)) a2 (.int .i64 1) w fun t28 w =>
  joinT (fun K0 =>
  loopT [t26, t28] w fun K1 x1 w =>
  joinT (fun K2 =>
  loopT [(gv x1 0)] w fun K3 x3 w =>
  M.slices_partitionEqualOrdered_uint64.j3 x3 x1 a0 a1 K2 K3 w K) fun x2 w =>
  M.slices_partitionEqualOrdered_uint64.j2 x1 x2 a0 a1 K0 K1 w K) fun x0 w =>
  K (gv x0 0) w
def M.slices_partitionEqualOrdered_uint64.L : List Nat := [0, 1, 2, 3, 8, 9, 10]
def M.slices_partitionEqualOrdered_uint64.pl : Nat → Plan := fun id => cond (Nat.beq id 1) ⟨(.go 0 (.go 1 (.go 2 (.go 3 (.go 4 (.go 5 (.go 6 (.go 7 (.go 8 (.go 9 (.go 10 (.go 11 (.go 12 (.eff 13 (.go 14 (.eff 15 .nil .stop)) .stop)))))))))))))), [13, 15], false, [0, 0, 0, 0, 0, 0, 48, 112, 0, 0, 768, 1792, 4083, 8179, 16383, 32767]⟩ (cond (Nat.beq id 3) ⟨(.go 0 (.go 1 (.go 2 (.go 3 (.go 4 (.go 5 (.go 6 (.go 7 (.go 8 (.go 9 (.go 10 (.go 11 (.eff 12 (.go 13 (.go 14 .nil)) .stop))))))))))))), [12], false, [0, 0, 3, 7, 15, 15, 63, 127, 15, 15, 783, 1807, 4095, 8191, 16383]⟩ (cond (Nat.beq id 5) ⟨(.go 0 (.go 1 (.go 2 (.go 3 (.go 4 (.go 5 (.go 6 (.go 7 (.go 8 (.go 9 (.go 10 (.go 11 (.eff 12 (.go 13 .nil) .stop))))))))))))), [12], false, [0, 0, 3, 7, 15, 15, 63, 127, 15, 15, 783, 1807, 4095, 8191]⟩ (cond (Nat.beq id 8) ⟨(.go 0 (.go 1 (.go 2 (.go 3 (.go 4 (.go 5 (.go 6 (.go 7 (.go 8 (.go 9 (.go 10 (.go 11 (.go 12 (.eff 13 (.go 14 (.eff 15 .nil .stop)) .stop)))))))))))))), [13, 15], false, [0, 0, 0, 0, 0, 0, 48, 112, 0, 0, 768, 1792, 4083, 8179, 16383, 32767]⟩ (⟨.nil, [], false, []⟩))))
theorem M.slices_partitionEqualOrdered_uint64.eq (a0 a1 a2 a3 : Value) (w : World) (K : KV) : M.slices_partitionEqualOrdered_uint64 a0 a1 a2 a3 w K = den P M.slices_partitionEqualOrdered_uint64.L M.slices_partitionEqualOrdered_uint64.pl (Try.f170.body.getD .skip) (argE [a0, a1, a2, a3]) w (bodyQ P Try.f170.results.toList K) := by kernel_rfl
theorem M.slices_partitionEqualOrdered_uint64.ok : okFn M.slices_partitionEqualOrdered_uint64.L M.slices_partitionEqualOrdered_uint64.pl Try.f170 (Try.f170.body.getD .skip) 4 = true := by kernel_rfl
theorem M.slices_partitionEqualOrdered_uint64.calls (a0 a1 a2 a3 : Value) {w : World} {K : KV} (h : M.slices_partitionEqualOrdered_uint64 a0 a1 a2 a3 w K) : callT P F.slices_partitionEqualOrdered_uint64 [a0, a1, a2, a3] w K :=
  callT_of_den (by kernel_rfl) Try.func170 (by kernel_rfl) M.slices_partitionEqualOrdered_uint64.ok (M.slices_partitionEqualOrdered_uint64.eq a0 a1 a2 a3 w K ▸ h)
theorem M.slices_partitionEqualOrdered_uint64.fcall (args : List Value) (w : World) (K : KV) : fcallT P F.slices_partitionEqualOrdered_uint64 args w K = callT P F.slices_partitionEqualOrdered_uint64 args w K := fcallT_eq Try.func170 (by kernel_rfl) (by kernel_rfl) args w K
theorem M.slices_partitionEqualOrdered_uint64.rcall (a c args : List Value) (w : World) (K : KV) : callRT P (.func (.func F.slices_partitionEqualOrdered_uint64) a.toArray c.toArray) args w K = callT P F.slices_partitionEqualOrdered_uint64 (a ++ args ++ c) w K := callR_fn Try.func170 (by kernel_rfl) (by kernel_rfl) a c args w K

end Go.Proofs.Ytkjhekflgghbdaa
