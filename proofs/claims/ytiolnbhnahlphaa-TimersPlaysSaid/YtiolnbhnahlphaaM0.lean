/-
  Printed by wip/Shallow.lean: functions of the program, read shallow; each is what its code does. No condition.
-/
import Derived.Test.YtiolnbhnahlphaaN
set_option maxRecDepth 1000000
namespace Go.Proofs.Ytiolnbhnahlphaa
open Go.Eng

/-- gosem.cut.init -/
def M.gosem_cut_init (w : World) (K : KV) : Prop :=
  fcallT P F.gosem_cut [] w fun t0 w =>
  K (.tuple #[]) w
def M.gosem_cut_init.L : List Nat := []
def M.gosem_cut_init.pl : Nat → Plan := fun id => ⟨.nil, [], false⟩
theorem M.gosem_cut_init.eq (w : World) (K : KV) : M.gosem_cut_init  w K = den P M.gosem_cut_init.L M.gosem_cut_init.pl (Try.f2.body.getD .skip) (argE []) w (bodyQ P Try.f2.results.toList K) := by kernel_rfl
theorem M.gosem_cut_init.ok : okFn M.gosem_cut_init.L M.gosem_cut_init.pl Try.f2 (Try.f2.body.getD .skip) 0 = true := by kernel_rfl
theorem M.gosem_cut_init.calls {w : World} {K : KV} (h : M.gosem_cut_init  w K) : callT P F.gosem_cut_init [] w K :=
  callT_of_den (by kernel_rfl) Try.func2 (by kernel_rfl) M.gosem_cut_init.ok (M.gosem_cut_init.eq  w K ▸ h)
theorem M.gosem_cut_init.fcall (args : List Value) (w : World) (K : KV) : fcallT P F.gosem_cut_init args w K = callT P F.gosem_cut_init args w K := fcallT_eq Try.func2 (by kernel_rfl) (by kernel_rfl) args w K

def M.winnowlaw15_TimersSorted.j3 (a0 : Value) (x2 : List Value) (t21 : Value) (K2 : KL) (w : World) (K : KV) : Prop :=
  joinT (fun K4 =>
  drawT w fun w =>
  w = w ∧ w = w ∧ w = w ∧ quietT (fun K' => iaT P T.sl_winnowref15_Due a0 (gv x2 1) w K') w fun t31 =>
  quietT (fun K' => faT P T.winnowref15_Due t31 0 w K') w fun t32 =>
  quietT (fun K' => ldT P T.uint64 t32 w K') w fun t33 =>
  w = w ∧ w = w ∧ quietT (fun K' => iaT P T.sl_winnowref15_Due a0 (gv x2 1) w K') w fun t36 =>
  quietT (fun K' => faT P T.winnowref15_Due t36 1 w K') w fun t37 =>
  quietT (fun K' => ldT P T.uint64 t37 w K') w fun t38 =>
  fcallT P F.ptimers_Heap_Set [t21, t33, t38] w fun t39 w =>
  iaT P T.sl_winnowref15_Due a0 (gv x2 1) w fun t44 w =>
  faT P T.winnowref15_Due t44 0 w fun t45 w =>
  ldT P T.uint64 t45 w fun t46 w =>
  fcallT P F.winnowref15_Del [(gv x2 0), t46] w fun t47 w =>
  exT P t47 0 w fun t48 w =>
  exT P t47 1 w fun t49 w =>
  iaT P T.sl_winnowref15_Due a0 (gv x2 1) w fun t53 w =>
  ldT P T.winnowref15_Due t53 w fun t54 w =>
  bsT P T.sl_winnowref15_Due 1 #[(0, t54)] w fun t55 w =>
  biT P .append #[T.sl_winnowref15_Due, T.sl_winnowref15_Due] T.sl_winnowref15_Due [false, false] [t48, t55] w fun t56 w =>
  K4 [t56] w) fun x4 w =>
  binT P .add T.int (.tmp 26) (.const (.int .i64 1)) (gv x2 1) (.int .i64 1) w fun t27 w =>
  K2 [(gv x4 0), t27] w
def M.winnowlaw15_TimersSorted.j2 (a0 : Value) (x2 : List Value) (K1 : KL) (t21 : Value) (K2 : KL) (w : World) (K : KV) : Prop :=
  joinT (fun K3 =>
  biT P .len #[T.sl_winnowref15_Due] T.int [false] [a0] w fun t24 w =>
  binT P .lss T.int (.tmp 22) (.tmp 24) (gv x2 1) t24 w fun t25 w =>
  condT t25 (
  K3 [] w) (
  K1 [(gv x2 1), (gv x2 0)] w)) fun x3 w =>
  M.winnowlaw15_TimersSorted.j3 a0 x2 t21 K2 w K
def M.winnowlaw15_TimersSorted.j7 (t21 : Value) (x1 : List Value) (x6 : List Value) (t6 : Value) (K6 : KL) (w : World) (K : KV) : Prop :=
  joinT (fun K8 =>
  fcallT P F.ptimers_Heap_Next [t21] w fun t66 w =>
  exT P t66 0 w fun t67 w =>
  exT P t66 1 w fun t68 w =>
  exT P t66 2 w fun t69 w =>
  fcallT P F.winnowref15_At [(gv x1 1), t67] w fun t73 w =>
  exT P t73 0 w fun t74 w =>
  exT P t73 1 w fun t75 w =>
  joinT (fun K9 =>
  unT P .not t69 w fun t77 w =>
  guardT (isB t77 false) (fun K' => K' t75 w) w fun t79 w =>
  guardT (isB t77 false) (fun K' => unT P .not t79 w K') w fun t80 w =>
  pickT t77 (.bool true) t80 w fun t81 w =>
  guardT (isB t81 false) (fun K' => K' t74 w) w fun t83 w =>
  guardT (isB t81 false) (fun K' => K' t68 w) w fun t84 w =>
  guardT (isB t81 false) (fun K' => binT P .neq T.uint64 (.tmp 83) (.tmp 84) t83 t84 w K') w fun t85 w =>
  pickT t81 (.bool true) t85 w fun t86 w =>
  guardT (isB t86 false) (fun K' => K' (gv x6 6) w) w fun t88 w =>
  guardT (isB t86 false) (fun K' => binT P .gtr T.int (.tmp 88) (.const (.int .i64 0)) t88 (.int .i64 0) w K') w fun t89 w =>
  guardT (isB t86 false) (fun K' => K' t89 w) w fun t90 w =>
  guardT (isB t90 true) (fun K' => faT P T.winnowref15_Due t6 1 w K') w fun t91 w =>
  guardT (isB t90 true) (fun K' => ldT P T.uint64 t91 w K') w fun t92 w =>
  guardT (isB t90 true) (fun K' => K' t68 w) w fun t93 w =>
  guardT (isB t90 true) (fun K' => binT P .gtr T.uint64 (.tmp 92) (.tmp 93) t92 t93 w K') w fun t94 w =>
  guardT (isB t90 true) (fun K' => K' t94 w) w fun t95 w =>
  guardT (isB t95 false) (fun K' => faT P T.winnowref15_Due t6 1 w K') w fun t96 w =>
  guardT (isB t95 false) (fun K' => ldT P T.uint64 t96 w K') w fun t97 w =>
  guardT (isB t95 false) (fun K' => K' t68 w) w fun t98 w =>
  guardT (isB t95 false) (fun K' => binT P .eql T.uint64 (.tmp 97) (.tmp 98) t97 t98 w K') w fun t99 w =>
  guardT (isB t95 false) (fun K' => K' t99 w) w fun t100 w =>
  guardT (isB t100 true) (fun K' => faT P T.winnowref15_Due t6 0 w K') w fun t101 w =>
  guardT (isB t100 true) (fun K' => ldT P T.uint64 t101 w K') w fun t102 w =>
  guardT (isB t100 true) (fun K' => K' t67 w) w fun t103 w =>
  guardT (isB t100 true) (fun K' => binT P .geq T.uint64 (.tmp 102) (.tmp 103) t102 t103 w K') w fun t104 w =>
  guardT (isB t95 false) (fun K' => pickT t100 t104 (.bool false) w K') w fun t105 w =>
  guardT (isB t90 true) (fun K' => pickT t95 (.bool true) t105 w K') w fun t106 w =>
  guardT (isB t86 false) (fun K' => pickT t90 t106 (.bool false) w K') w fun t107 w =>
  pickT t86 (.bool true) t107 w fun t108 w =>
  guardT (isB t108 false) (fun K' => K' t21 w) w fun t110 w =>
  guardT (isB t108 false) (fun K' => K' t67 w) w fun t111 w =>
  guardT (isB t108 false) (fun K' => fcallT P F.ptimers_Heap_Del [t110, t111] w K') w fun t112 w =>
  guardT (isB t108 false) (fun K' => unT P .not t112 w K') w fun t113 w =>
  pickT t108 (.bool true) t113 w fun t114 w =>
  guardT (isB t114 false) (fun K' => K' t21 w) w fun t116 w =>
  guardT (isB t114 false) (fun K' => K' t67 w) w fun t117 w =>
  guardT (isB t114 false) (fun K' => fcallT P F.ptimers_Heap_Del [t116, t117] w K') w fun t118 w =>
  pickT t114 (.bool true) t118 w fun t119 w =>
  condT t119 (
  K (.bool false) w) (
  K9 [(gv x6 5)] w)) fun x9 w =>
  bldT P T.winnowref15_Due #[(0, t67), (1, t68)] w fun t122 w =>
  stT P T.winnowref15_Due t6 t122 w fun _ w =>
  K8 [t67, t68, t69, t74, t75, (gv x9 0)] w) fun x8 w =>
  binT P .add T.int (.tmp 62) (.const (.int .i64 1)) (gv x6 6) (.int .i64 1) w fun t63 w =>
  K6 [(gv x8 0), (gv x8 1), (gv x8 2), (gv x8 3), (gv x8 4), (gv x8 5), t63] w
def M.winnowlaw15_TimersSorted.j6 (x1 : List Value) (x6 : List Value) (K5 : KL) (t21 : Value) (t6 : Value) (K6 : KL) (w : World) (K : KV) : Prop :=
  joinT (fun K7 =>
  biT P .len #[T.sl_winnowref15_Due] T.int [false] [(gv x1 1)] w fun t60 w =>
  binT P .lss T.int (.tmp 58) (.tmp 60) (gv x6 6) t60 w fun t61 w =>
  condT t61 (
  K7 [] w) (
  K5 [(gv x6 6), (gv x6 0), (gv x6 1), (gv x6 2), (gv x6 3), (gv x6 4), (gv x6 5)] w)) fun x7 w =>
  M.winnowlaw15_TimersSorted.j7 t21 x1 x6 t6 K6 w K
def M.winnowlaw15_TimersSorted.j5 (t21 : Value) (w : World) (K : KV) : Prop :=
  fcallT P F.ptimers_Heap_Next [t21] w fun t125 w =>
  exT P t125 0 w fun t126 w =>
  exT P t125 1 w fun t127 w =>
  exT P t125 2 w fun t128 w =>
  unT P .not t128 w fun t130 w =>
  guardT (isB t130 true) (fun K' => K' t21 w) w fun t132 w =>
  guardT (isB t130 true) (fun K' => fcallT P F.ptimers_Heap_Len [t132] w K') w fun t133 w =>
  guardT (isB t130 true) (fun K' => binT P .eql T.int (.tmp 133) (.const (.int .i64 0)) t133 (.int .i64 0) w K') w fun t134 w =>
  pickT t130 t134 (.bool false) w fun t135 w =>
  guardT (isB t135 true) (fun K' => K' t21 w) w fun t137 w =>
  guardT (isB t135 true) (fun K' => fcallT P F.ptimers_Heap_Pop [t137, (.int .u64 18446744073709551615)] w K') w fun t138 w =>
  guardT (isB t135 true) (fun K' => biT P .len #[T.sl_uint64] T.int [false] [t138] w K') w fun t139 w =>
  guardT (isB t135 true) (fun K' => binT P .eql T.int (.tmp 139) (.const (.int .i64 0)) t139 (.int .i64 0) w K') w fun t140 w =>
  pickT t135 t140 (.bool false) w fun t141 w =>
  guardT (isB t141 true) (fun K' => fcallT P F.winnowlaw15_alive [] w K') w fun t143 w =>
  pickT t141 t143 (.bool false) w fun t144 w =>
  K t144 w
def M.winnowlaw15_TimersSorted.j1 (x0 : List Value) (x1 : List Value) (t21 : Value) (w : World) (K : KV) : Prop :=
  bldT P T.winnowref15_Due #[] w fun t57 w =>
  alT P T.winnowref15_Due w fun t6 w =>
  stT P T.winnowref15_Due t6 t57 w fun _ w =>
  joinT (fun K5 =>
  loopT [undef, undef, undef, undef, undef, (gv x0 0), (.int .i64 0)] w fun K6 x6 w =>
  M.winnowlaw15_TimersSorted.j6 x1 x6 K5 t21 t6 K6 w K) fun x5 w =>
  M.winnowlaw15_TimersSorted.j5 t21 w K
def M.winnowlaw15_TimersSorted.j0 (a0 : Value) (x0 : List Value) (w : World) (K : KV) : Prop :=
  bldT P T.timers_Heap #[] w fun t20 w =>
  boxT P T.timers_Heap t20 w fun t21 w =>
  joinT (fun K1 =>
  loopT [(.slice none 0 0), (.int .i64 0)] w fun K2 x2 w =>
  M.winnowlaw15_TimersSorted.j2 a0 x2 K1 t21 K2 w K) fun x1 w =>
  M.winnowlaw15_TimersSorted.j1 x0 x1 t21 w K
/-- winnow/winnowlaw15.TimersSorted -/
def M.winnowlaw15_TimersSorted (a0 : Value) (w : World) (K : KV) : Prop :=
  joinT (fun K0 =>
  biT P .len #[T.sl_winnowref15_Due] T.int [false] [a0] w fun t17 w =>
  binT P .gtr T.int (.tmp 17) (.const (.int .i64 200)) t17 (.int .i64 200) w fun t18 w =>
  condT t18 (
  fcallT P F.winnowlaw15_alive [] w fun t19 w =>
  K t19 w) (
  K0 [(.bool false)] w)) fun x0 w =>
  M.winnowlaw15_TimersSorted.j0 a0 x0 w K
def M.winnowlaw15_TimersSorted.L : List Nat := [0, 2, 3, 4, 5, 7, 8, 9, 10, 11, 12, 13, 14, 15, 6]
def M.winnowlaw15_TimersSorted.pl : Nat → Plan := fun id => cond (Nat.beq id 8) ⟨(.go 0 (.go 1 (.go 2 (.go 3 (.go 4 (.go 5 (.go 6 (.go 7 (.go 8 (.go 9 (.go 10 (.eff 11 .nil .stop)))))))))))), [11], false⟩ (⟨.nil, [], false⟩)
theorem M.winnowlaw15_TimersSorted.eq (a0 : Value) (w : World) (K : KV) : M.winnowlaw15_TimersSorted a0 w K = den P M.winnowlaw15_TimersSorted.L M.winnowlaw15_TimersSorted.pl (Try.f3.body.getD .skip) (argE [a0]) w (bodyQ P Try.f3.results.toList K) := by kernel_rfl
theorem M.winnowlaw15_TimersSorted.ok : okFn M.winnowlaw15_TimersSorted.L M.winnowlaw15_TimersSorted.pl Try.f3 (Try.f3.body.getD .skip) 1 = true := by kernel_rfl
theorem M.winnowlaw15_TimersSorted.calls (a0 : Value) {w : World} {K : KV} (h : M.winnowlaw15_TimersSorted a0 w K) : callT P F.winnowlaw15_TimersSorted [a0] w K :=
  callT_of_den (by kernel_rfl) Try.func3 (by kernel_rfl) M.winnowlaw15_TimersSorted.ok (M.winnowlaw15_TimersSorted.eq a0 w K ▸ h)
theorem M.winnowlaw15_TimersSorted.fcall (args : List Value) (w : World) (K : KV) : fcallT P F.winnowlaw15_TimersSorted args w K = callT P F.winnowlaw15_TimersSorted args w K := fcallT_eq Try.func3 (by kernel_rfl) (by kernel_rfl) args w K

def M.winnowlaw15_TimersPlays.j8 (t108 : Value) (t106 : Value) (x5 : List Value) (t107 : Value) (K4 : KL) (x8 : List Value) (t91 : Value) (t92 : Value) (t101 : Value) (t102 : Value) (w : World) (K : KV) : Prop :=
  guardT (isB t108 true) (fun K' => K' t106 w) w fun t133 w =>
  guardT (isB t108 true) (fun K' => K' (gv x5 1) w) w fun t134 w =>
  guardT (isB t108 true) (fun K' => iaT P T.sl_winnowref15_Due t134 (.int .i64 0) w K') w fun t135 w =>
  guardT (isB t108 true) (fun K' => faT P T.winnowref15_Due t135 0 w K') w fun t136 w =>
  guardT (isB t108 true) (fun K' => ldT P T.uint64 t136 w K') w fun t137 w =>
  guardT (isB t108 true) (fun K' => binT P .neq T.uint64 (.tmp 133) (.tmp 137) t133 t137 w K') w fun t138 w =>
  guardT (isB t108 true) (fun K' => K' t138 w) w fun t139 w =>
  guardT (isB t139 false) (fun K' => K' t107 w) w fun t140 w =>
  guardT (isB t139 false) (fun K' => K' (gv x5 1) w) w fun t141 w =>
  guardT (isB t139 false) (fun K' => iaT P T.sl_winnowref15_Due t141 (.int .i64 0) w K') w fun t142 w =>
  guardT (isB t139 false) (fun K' => faT P T.winnowref15_Due t142 1 w K') w fun t143 w =>
  guardT (isB t139 false) (fun K' => ldT P T.uint64 t143 w K') w fun t144 w =>
  guardT (isB t139 false) (fun K' => binT P .neq T.uint64 (.tmp 140) (.tmp 144) t140 t144 w K') w fun t145 w =>
  guardT (isB t108 true) (fun K' => pickT t139 (.bool true) t145 w K') w fun t146 w =>
  pickT t108 t146 (.bool false) w fun t147 w =>
  guardT (isB t147 false) (fun K' => K' t108 w) w fun t149 w =>
  guardT (isB t147 false) (fun K' => unT P .not t149 w K') w fun t150 w =>
  guardT (isB t147 false) (fun K' => K' t150 w) w fun t151 w =>
  guardT (isB t151 true) (fun K' => K' t106 w) w fun t152 w =>
  guardT (isB t151 true) (fun K' => K' t107 w) w fun t153 w =>
  guardT (isB t151 true) (fun K' => binT P .add T.uint64 (.tmp 152) (.tmp 153) t152 t153 w K') w fun t154 w =>
  guardT (isB t151 true) (fun K' => binT P .neq T.uint64 (.tmp 154) (.const (.int .u64 0)) t154 (.int .u64 0) w K') w fun t155 w =>
  guardT (isB t147 false) (fun K' => pickT t151 t155 (.bool false) w K') w fun t156 w =>
  pickT t147 (.bool true) t156 w fun t157 w =>
  condT t157 (
  K (.bool false) w) (
  K4 [(gv x5 0), (gv x5 1), (gv x5 2), (gv x5 3), (gv x5 4), (gv x8 0), (gv x5 6), (gv x5 7), (gv x5 8), t91, t92, t101, t102, t106, t107, t108] w)
def M.winnowlaw15_TimersPlays.j5 (a0 : Value) (x2 : List Value) (t23 : Value) (x5 : List Value) (K4 : KL) (w : World) (K : KV) : Prop :=
  iaT P T.sl_winnowlaw15_Op a0 (gv x2 16) w fun t87 w =>
  faT P T.winnowlaw15_Op t87 1 w fun t88 w =>
  ldT P T.uint64 t88 w fun t89 w =>
  fcallT P F.ptimers_Heap_At [t23, t89] w fun t90 w =>
  exT P t90 0 w fun t91 w =>
  exT P t90 1 w fun t92 w =>
  iaT P T.sl_winnowlaw15_Op a0 (gv x2 16) w fun t97 w =>
  faT P T.winnowlaw15_Op t97 1 w fun t98 w =>
  ldT P T.uint64 t98 w fun t99 w =>
  fcallT P F.winnowref15_At [(gv x5 1), t99] w fun t100 w =>
  exT P t100 0 w fun t101 w =>
  exT P t100 1 w fun t102 w =>
  fcallT P F.ptimers_Heap_Next [t23] w fun t105 w =>
  exT P t105 0 w fun t106 w =>
  exT P t105 1 w fun t107 w =>
  exT P t105 2 w fun t108 w =>
  joinT (fun K8 =>
  binT P .neq T.uint64 (.tmp 109) (.tmp 110) t91 t101 w fun t111 w =>
  guardT (isB t111 false) (fun K' => K' t92 w) w fun t113 w =>
  guardT (isB t111 false) (fun K' => K' t102 w) w fun t114 w =>
  guardT (isB t111 false) (fun K' => binT P .neq T.bool (.tmp 113) (.tmp 114) t113 t114 w K') w fun t115 w =>
  pickT t111 (.bool true) t115 w fun t116 w =>
  guardT (isB t116 false) (fun K' => K' t23 w) w fun t118 w =>
  guardT (isB t116 false) (fun K' => fcallT P F.ptimers_Heap_Len [t118] w K') w fun t119 w =>
  guardT (isB t116 false) (fun K' => K' (gv x5 1) w) w fun t120 w =>
  guardT (isB t116 false) (fun K' => biT P .len #[T.sl_winnowref15_Due] T.int [false] [t120] w K') w fun t121 w =>
  guardT (isB t116 false) (fun K' => binT P .neq T.int (.tmp 119) (.tmp 121) t119 t121 w K') w fun t122 w =>
  pickT t116 (.bool true) t122 w fun t123 w =>
  guardT (isB t123 false) (fun K' => K' t108 w) w fun t125 w =>
  guardT (isB t123 false) (fun K' => K' (gv x5 1) w) w fun t126 w =>
  guardT (isB t123 false) (fun K' => biT P .len #[T.sl_winnowref15_Due] T.int [false] [t126] w K') w fun t127 w =>
  guardT (isB t123 false) (fun K' => binT P .gtr T.int (.tmp 127) (.const (.int .i64 0)) t127 (.int .i64 0) w K') w fun t128 w =>
  guardT (isB t123 false) (fun K' => binT P .neq T.bool (.tmp 125) (.tmp 128) t125 t128 w K') w fun t129 w =>
  pickT t123 (.bool true) t129 w fun t130 w =>
  condT t130 (
  K (.bool false) w) (
  K8 [(gv x5 5)] w)) fun x8 w =>
  M.winnowlaw15_TimersPlays.j8 t108 t106 x5 t107 K4 x8 t91 t92 t101 t102 w K
def M.winnowlaw15_TimersPlays.j4 (x2 : List Value) (K2 : KL) (x4 : List Value) (w : World) (K : KV) : Prop :=
  binT P .add T.int (.tmp 28) (.const (.int .i64 1)) (gv x2 16) (.int .i64 1) w fun t29 w =>
  K2 [(gv x4 0), (gv x4 1), (gv x4 2), (gv x4 3), (gv x4 4), (gv x4 5), (gv x4 6), (gv x4 7), (gv x4 8), (gv x4 9), (gv x4 10), (gv x4 11), (gv x4 12), (gv x4 13), (gv x4 14), (gv x4 15), t29] w
def M.winnowlaw15_TimersPlays.j3 (a0 : Value) (x2 : List Value) (t23 : Value) (K2 : KL) (w : World) (K : KV) : Prop :=
  joinT (fun K4 =>
  joinT (fun K5 =>
  iaT P T.sl_winnowlaw15_Op a0 (gv x2 16) w fun t32 w =>
  ldT P T.winnowlaw15_Op t32 w fun t33 w =>
  alT P T.winnowlaw15_Op w fun t6 w =>
  stT P T.winnowlaw15_Op t6 t33 w fun _ w =>
  faT P T.winnowlaw15_Op t6 0 w fun t34 w =>
  ldT P T.int t34 w fun t35 w =>
  binT P .eql T.int (.tmp 35) (.const (.int .i64 0)) t35 (.int .i64 0) w fun t37 w =>
  condT t37 (
  faT P T.winnowlaw15_Op t6 1 w fun t39 w =>
  ldT P T.uint64 t39 w fun t40 w =>
  faT P T.winnowlaw15_Op t6 2 w fun t41 w =>
  ldT P T.uint64 t41 w fun t42 w =>
  fcallT P F.ptimers_Heap_Set [t23, t40, t42] w fun t43 w =>
  faT P T.winnowlaw15_Op t6 1 w fun t45 w =>
  ldT P T.uint64 t45 w fun t46 w =>
  faT P T.winnowlaw15_Op t6 2 w fun t47 w =>
  ldT P T.uint64 t47 w fun t48 w =>
  fcallT P F.winnowref15_Set [(gv x2 1), t46, t48] w fun t49 w =>
  K5 [t37, t49, (gv x2 2), (gv x2 3), (gv x2 4), (gv x2 5), (gv x2 6), (gv x2 7), (gv x2 8)] w) (
  binT P .eql T.int (.tmp 35) (.const (.int .i64 1)) t35 (.int .i64 1) w fun t51 w =>
  condT t51 (
  faT P T.winnowlaw15_Op t6 1 w fun t54 w =>
  ldT P T.uint64 t54 w fun t55 w =>
  fcallT P F.winnowref15_Del [(gv x2 1), t55] w fun t56 w =>
  exT P t56 0 w fun t57 w =>
  exT P t56 1 w fun t58 w =>
  joinT (fun K6 =>
  faT P T.winnowlaw15_Op t6 1 w fun t60 w =>
  ldT P T.uint64 t60 w fun t61 w =>
  fcallT P F.ptimers_Heap_Del [t23, t61] w fun t62 w =>
  binT P .neq T.bool (.tmp 62) (.tmp 63) t62 t58 w fun t64 w =>
  condT t64 (
  K (.bool false) w) (
  K6 [(gv x2 5)] w)) fun x6 w =>
  K5 [t37, t57, t51, t57, t58, (gv x6 0), (gv x2 6), (gv x2 7), (gv x2 8)] w) (
  binT P .eql T.int (.tmp 35) (.const (.int .i64 2)) t35 (.int .i64 2) w fun t67 w =>
  condT t67 (
  faT P T.winnowlaw15_Op t6 2 w fun t70 w =>
  ldT P T.uint64 t70 w fun t71 w =>
  fcallT P F.winnowref15_Pop [(gv x2 1), t71] w fun t72 w =>
  exT P t72 0 w fun t73 w =>
  exT P t72 1 w fun t74 w =>
  joinT (fun K7 =>
  faT P T.winnowlaw15_Op t6 2 w fun t76 w =>
  ldT P T.uint64 t76 w fun t77 w =>
  fcallT P F.ptimers_Heap_Pop [t23, t77] w fun t78 w =>
  fcallT P F.winnowlaw15_uints [t78, t73] w fun t80 w =>
  unT P .not t80 w fun t81 w =>
  condT t81 (
  K (.bool false) w) (
  K7 [(gv x2 5)] w)) fun x7 w =>
  K5 [t37, t74, t51, (gv x2 3), (gv x2 4), (gv x7 0), t67, t73, t74] w) (
  K5 [t37, (gv x2 1), t51, (gv x2 3), (gv x2 4), (gv x2 5), t67, (gv x2 7), (gv x2 8)] w)))) fun x5 w =>
  M.winnowlaw15_TimersPlays.j5 a0 x2 t23 x5 K4 w K) fun x4 w =>
  M.winnowlaw15_TimersPlays.j4 x2 K2 x4 w K
def M.winnowlaw15_TimersPlays.j2 (a0 : Value) (x2 : List Value) (K1 : KL) (t23 : Value) (K2 : KL) (w : World) (K : KV) : Prop :=
  joinT (fun K3 =>
  biT P .len #[T.sl_winnowlaw15_Op] T.int [false] [a0] w fun t26 w =>
  binT P .lss T.int (.tmp 24) (.tmp 26) (gv x2 16) t26 w fun t27 w =>
  condT t27 (
  K3 [] w) (
  K1 [(gv x2 16), (gv x2 0), (gv x2 1), (gv x2 2), (gv x2 3), (gv x2 4), (gv x2 5), (gv x2 6), (gv x2 7), (gv x2 8), (gv x2 9), (gv x2 10), (gv x2 11), (gv x2 12), (gv x2 13), (gv x2 14), (gv x2 15)] w)) fun x3 w =>
  M.winnowlaw15_TimersPlays.j3 a0 x2 t23 K2 w K
def M.winnowlaw15_TimersPlays.j0 (x0 : List Value) (a0 : Value) (w : World) (K : KV) : Prop :=
  bldT P T.timers_Heap #[] w fun t22 w =>
  boxT P T.timers_Heap t22 w fun t23 w =>
  joinT (fun K1 =>
  loopT [undef, (.slice none 0 0), undef, undef, undef, (gv x0 0), undef, undef, undef, undef, undef, undef, undef, undef, undef, undef, (.int .i64 0)] w fun K2 x2 w =>
  M.winnowlaw15_TimersPlays.j2 a0 x2 K1 t23 K2 w K) fun x1 w =>
  fcallT P F.winnowlaw15_alive [] w fun t158 w =>
  K t158 w
/-- winnow/winnowlaw15.TimersPlays -/
def M.winnowlaw15_TimersPlays (a0 : Value) (w : World) (K : KV) : Prop :=
  joinT (fun K0 =>
  biT P .len #[T.sl_winnowlaw15_Op] T.int [false] [a0] w fun t19 w =>
  binT P .gtr T.int (.tmp 19) (.const (.int .i64 200)) t19 (.int .i64 200) w fun t20 w =>
  condT t20 (
  fcallT P F.winnowlaw15_alive [] w fun t21 w =>
  K t21 w) (
  K0 [(.bool false)] w)) fun x0 w =>
  M.winnowlaw15_TimersPlays.j0 x0 a0 w K
def M.winnowlaw15_TimersPlays.L : List Nat := [0, 2, 3, 4, 5, 36, 50, 7, 8, 66, 9, 10, 11, 12, 13, 14, 15, 16, 17]
def M.winnowlaw15_TimersPlays.pl : Nat → Plan := fun id => ⟨.nil, [], false⟩
theorem M.winnowlaw15_TimersPlays.eq (a0 : Value) (w : World) (K : KV) : M.winnowlaw15_TimersPlays a0 w K = den P M.winnowlaw15_TimersPlays.L M.winnowlaw15_TimersPlays.pl (Try.f4.body.getD .skip) (argE [a0]) w (bodyQ P Try.f4.results.toList K) := by kernel_rfl
theorem M.winnowlaw15_TimersPlays.ok : okFn M.winnowlaw15_TimersPlays.L M.winnowlaw15_TimersPlays.pl Try.f4 (Try.f4.body.getD .skip) 1 = true := by kernel_rfl
theorem M.winnowlaw15_TimersPlays.calls (a0 : Value) {w : World} {K : KV} (h : M.winnowlaw15_TimersPlays a0 w K) : callT P F.winnowlaw15_TimersPlays [a0] w K :=
  callT_of_den (by kernel_rfl) Try.func4 (by kernel_rfl) M.winnowlaw15_TimersPlays.ok (M.winnowlaw15_TimersPlays.eq a0 w K ▸ h)
theorem M.winnowlaw15_TimersPlays.fcall (args : List Value) (w : World) (K : KV) : fcallT P F.winnowlaw15_TimersPlays args w K = callT P F.winnowlaw15_TimersPlays args w K := fcallT_eq Try.func4 (by kernel_rfl) (by kernel_rfl) args w K

/-- winnow/winnowlaw15.TimersNils -/
def M.winnowlaw15_TimersNils (a0 a1 : Value) (w : World) (K : KV) : Prop :=
  fcallT P F.ptimers_Heap_Set [(.pointer none), a0, a1] w fun t14 w =>
  fcallT P F.ptimers_Heap_At [(.pointer none), a0] w fun t18 w =>
  exT P t18 0 w fun t19 w =>
  exT P t18 1 w fun t20 w =>
  fcallT P F.ptimers_Heap_Next [(.pointer none)] w fun t23 w =>
  exT P t23 0 w fun t24 w =>
  exT P t23 1 w fun t25 w =>
  exT P t23 2 w fun t26 w =>
  fcallT P F.ptimers_Heap_Del [(.pointer none), a0] w fun t29 w =>
  unT P .not t29 w fun t30 w =>
  guardT (isB t30 true) (fun K' => K' t20 w) w fun t32 w =>
  guardT (isB t30 true) (fun K' => unT P .not t32 w K') w fun t33 w =>
  pickT t30 t33 (.bool false) w fun t34 w =>
  guardT (isB t34 true) (fun K' => K' t26 w) w fun t36 w =>
  guardT (isB t34 true) (fun K' => unT P .not t36 w K') w fun t37 w =>
  pickT t34 t37 (.bool false) w fun t38 w =>
  guardT (isB t38 true) (fun K' => K' (.pointer none) w) w fun t40 w =>
  guardT (isB t38 true) (fun K' => K' a1 w) w fun t41 w =>
  guardT (isB t38 true) (fun K' => fcallT P F.ptimers_Heap_Pop [t40, t41] w K') w fun t42 w =>
  guardT (isB t38 true) (fun K' => biT P .len #[T.sl_uint64] T.int [false] [t42] w K') w fun t43 w =>
  guardT (isB t38 true) (fun K' => binT P .eql T.int (.tmp 43) (.const (.int .i64 0)) t43 (.int .i64 0) w K') w fun t44 w =>
  pickT t38 t44 (.bool false) w fun t45 w =>
  guardT (isB t45 true) (fun K' => K' (.pointer none) w) w fun t47 w =>
  guardT (isB t45 true) (fun K' => fcallT P F.ptimers_Heap_Len [t47] w K') w fun t48 w =>
  guardT (isB t45 true) (fun K' => binT P .eql T.int (.tmp 48) (.const (.int .i64 0)) t48 (.int .i64 0) w K') w fun t49 w =>
  pickT t45 t49 (.bool false) w fun t50 w =>
  guardT (isB t50 true) (fun K' => fcallT P F.winnowlaw15_alive [] w K') w fun t52 w =>
  pickT t50 t52 (.bool false) w fun t53 w =>
  K t53 w
def M.winnowlaw15_TimersNils.L : List Nat := [0, 1, 4, 5, 6, 7, 8, 9, 10]
def M.winnowlaw15_TimersNils.pl : Nat → Plan := fun id => ⟨.nil, [], false⟩
theorem M.winnowlaw15_TimersNils.eq (a0 a1 : Value) (w : World) (K : KV) : M.winnowlaw15_TimersNils a0 a1 w K = den P M.winnowlaw15_TimersNils.L M.winnowlaw15_TimersNils.pl (Try.f5.body.getD .skip) (argE [a0, a1]) w (bodyQ P Try.f5.results.toList K) := by kernel_rfl
theorem M.winnowlaw15_TimersNils.ok : okFn M.winnowlaw15_TimersNils.L M.winnowlaw15_TimersNils.pl Try.f5 (Try.f5.body.getD .skip) 2 = true := by kernel_rfl
theorem M.winnowlaw15_TimersNils.calls (a0 a1 : Value) {w : World} {K : KV} (h : M.winnowlaw15_TimersNils a0 a1 w K) : callT P F.winnowlaw15_TimersNils [a0, a1] w K :=
  callT_of_den (by kernel_rfl) Try.func5 (by kernel_rfl) M.winnowlaw15_TimersNils.ok (M.winnowlaw15_TimersNils.eq a0 a1 w K ▸ h)
theorem M.winnowlaw15_TimersNils.fcall (args : List Value) (w : World) (K : KV) : fcallT P F.winnowlaw15_TimersNils args w K = callT P F.winnowlaw15_TimersNils args w K := fcallT_eq Try.func5 (by kernel_rfl) (by kernel_rfl) args w K

def M.winnowlaw15_TimersLast.j3 (a0 : Value) (x2 : List Value) (t17 : Value) (t19 : Value) (K2 : KL) (w : World) (K : KV) : Prop :=
  joinT (fun K4 =>
  drawT w fun w =>
  w = w ∧ w = w ∧ w = w ∧ quietT (fun K' => iaT P T.sl_winnowref15_Due a0 (gv x2 0) w K') w fun t29 =>
  quietT (fun K' => faT P T.winnowref15_Due t29 0 w K') w fun t30 =>
  quietT (fun K' => ldT P T.uint64 t30 w K') w fun t31 =>
  w = w ∧ w = w ∧ quietT (fun K' => iaT P T.sl_winnowref15_Due a0 (gv x2 0) w K') w fun t34 =>
  quietT (fun K' => faT P T.winnowref15_Due t34 1 w K') w fun t35 =>
  quietT (fun K' => ldT P T.uint64 t35 w K') w fun t36 =>
  fcallT P F.ptimers_Heap_Set [t17, t31, t36] w fun t37 w =>
  drawT w fun w =>
  w = w ∧ w = w ∧ w = w ∧ quietT (fun K' => iaT P T.sl_winnowref15_Due a0 (gv x2 0) w K') w fun t41 =>
  quietT (fun K' => faT P T.winnowref15_Due t41 0 w K') w fun t42 =>
  quietT (fun K' => ldT P T.uint64 t42 w K') w fun t43 =>
  w = w ∧ w = w ∧ quietT (fun K' => iaT P T.sl_winnowref15_Due a0 (gv x2 0) w K') w fun t46 =>
  quietT (fun K' => faT P T.winnowref15_Due t46 1 w K') w fun t47 =>
  quietT (fun K' => ldT P T.uint64 t47 w K') w fun t48 =>
  fcallT P F.ptimers_Heap_Set [t19, t43, t48] w fun t49 w =>
  K4 [] w) fun x4 w =>
  binT P .add T.int (.tmp 24) (.const (.int .i64 1)) (gv x2 0) (.int .i64 1) w fun t25 w =>
  K2 [t25] w
def M.winnowlaw15_TimersLast.j2 (a0 : Value) (x2 : List Value) (K1 : KL) (t17 : Value) (t19 : Value) (K2 : KL) (w : World) (K : KV) : Prop :=
  joinT (fun K3 =>
  biT P .len #[T.sl_winnowref15_Due] T.int [false] [a0] w fun t22 w =>
  binT P .lss T.int (.tmp 20) (.tmp 22) (gv x2 0) t22 w fun t23 w =>
  condT t23 (
  K3 [] w) (
  K1 [(gv x2 0)] w)) fun x3 w =>
  M.winnowlaw15_TimersLast.j3 a0 x2 t17 t19 K2 w K
def M.winnowlaw15_TimersLast.j1 (t17 : Value) (a1 : Value) (a2 : Value) (t19 : Value) (w : World) (K : KV) : Prop :=
  fcallT P F.ptimers_Heap_Set [t17, a1, a2] w fun t53 w =>
  fcallT P F.ptimers_Heap_Set [t17, a1, a2] w fun t57 w =>
  fcallT P F.ptimers_Heap_Del [t19, a1] w fun t60 w =>
  fcallT P F.ptimers_Heap_Set [t19, a1, a2] w fun t64 w =>
  fcallT P F.ptimers_Heap_At [t17, a1] w fun t68 w =>
  exT P t68 0 w fun t69 w =>
  exT P t68 1 w fun t70 w =>
  binT P .eql T.uint64 (.tmp 71) (.tmp 72) t69 a2 w fun t73 w =>
  guardT (isB t73 true) (fun K' => K' t70 w) w fun t75 w =>
  pickT t73 t75 (.bool false) w fun t76 w =>
  guardT (isB t76 true) (fun K' => K' t17 w) w fun t78 w =>
  guardT (isB t76 true) (fun K' => fcallT P F.ptimers_Heap_Len [t78] w K') w fun t79 w =>
  guardT (isB t76 true) (fun K' => K' t19 w) w fun t80 w =>
  guardT (isB t76 true) (fun K' => fcallT P F.ptimers_Heap_Len [t80] w K') w fun t81 w =>
  guardT (isB t76 true) (fun K' => binT P .eql T.int (.tmp 79) (.tmp 81) t79 t81 w K') w fun t82 w =>
  pickT t76 t82 (.bool false) w fun t83 w =>
  guardT (isB t83 true) (fun K' => K' t17 w) w fun t85 w =>
  guardT (isB t83 true) (fun K' => K' a2 w) w fun t86 w =>
  guardT (isB t83 true) (fun K' => fcallT P F.ptimers_Heap_Pop [t85, t86] w K') w fun t87 w =>
  guardT (isB t83 true) (fun K' => K' t19 w) w fun t88 w =>
  guardT (isB t83 true) (fun K' => K' a2 w) w fun t89 w =>
  guardT (isB t83 true) (fun K' => fcallT P F.ptimers_Heap_Pop [t88, t89] w K') w fun t90 w =>
  guardT (isB t83 true) (fun K' => fcallT P F.winnowlaw15_uints [t87, t90] w K') w fun t91 w =>
  pickT t83 t91 (.bool false) w fun t92 w =>
  guardT (isB t92 true) (fun K' => K' t17 w) w fun t94 w =>
  guardT (isB t92 true) (fun K' => fcallT P F.ptimers_Heap_Pop [t94, (.int .u64 18446744073709551615)] w K') w fun t95 w =>
  guardT (isB t92 true) (fun K' => K' t19 w) w fun t96 w =>
  guardT (isB t92 true) (fun K' => fcallT P F.ptimers_Heap_Pop [t96, (.int .u64 18446744073709551615)] w K') w fun t97 w =>
  guardT (isB t92 true) (fun K' => fcallT P F.winnowlaw15_uints [t95, t97] w K') w fun t98 w =>
  pickT t92 t98 (.bool false) w fun t99 w =>
  guardT (isB t99 true) (fun K' => fcallT P F.winnowlaw15_alive [] w K') w fun t101 w =>
  pickT t99 t101 (.bool false) w fun t102 w =>
  K t102 w
def M.winnowlaw15_TimersLast.j0 (a0 : Value) (a1 : Value) (a2 : Value) (w : World) (K : KV) : Prop :=
  bldT P T.timers_Heap #[] w fun t16 w =>
  boxT P T.timers_Heap t16 w fun t17 w =>
  bldT P T.timers_Heap #[] w fun t18 w =>
  boxT P T.timers_Heap t18 w fun t19 w =>
  joinT (fun K1 =>
  loopT [(.int .i64 0)] w fun K2 x2 w =>
  M.winnowlaw15_TimersLast.j2 a0 x2 K1 t17 t19 K2 w K) fun x1 w =>
  M.winnowlaw15_TimersLast.j1 t17 a1 a2 t19 w K
/-- winnow/winnowlaw15.TimersLast -/
def M.winnowlaw15_TimersLast (a0 a1 a2 : Value) (w : World) (K : KV) : Prop :=
  joinT (fun K0 =>
  biT P .len #[T.sl_winnowref15_Due] T.int [false] [a0] w fun t13 w =>
  binT P .gtr T.int (.tmp 13) (.const (.int .i64 200)) t13 (.int .i64 200) w fun t14 w =>
  condT t14 (
  fcallT P F.winnowlaw15_alive [] w fun t15 w =>
  K t15 w) (
  K0 [(.bool false)] w)) fun x0 w =>
  M.winnowlaw15_TimersLast.j0 a0 a1 a2 w K
def M.winnowlaw15_TimersLast.L : List Nat := [0, 1, 2, 6, 7, 8, 9, 10, 11]
def M.winnowlaw15_TimersLast.pl : Nat → Plan := fun id => cond (Nat.beq id 7) ⟨(.go 0 (.go 1 (.go 2 (.go 3 (.go 4 (.go 5 (.go 6 (.go 7 (.go 8 (.go 9 (.go 10 (.eff 11 .nil .stop)))))))))))), [11], false⟩ (cond (Nat.beq id 8) ⟨(.go 0 (.go 1 (.go 2 (.go 3 (.go 4 (.go 5 (.go 6 (.go 7 (.go 8 (.go 9 (.go 10 (.eff 11 .nil .stop)))))))))))), [11], false⟩ (⟨.nil, [], false⟩))
theorem M.winnowlaw15_TimersLast.eq (a0 a1 a2 : Value) (w : World) (K : KV) : M.winnowlaw15_TimersLast a0 a1 a2 w K = den P M.winnowlaw15_TimersLast.L M.winnowlaw15_TimersLast.pl (Try.f6.body.getD .skip) (argE [a0, a1, a2]) w (bodyQ P Try.f6.results.toList K) := by kernel_rfl
theorem M.winnowlaw15_TimersLast.ok : okFn M.winnowlaw15_TimersLast.L M.winnowlaw15_TimersLast.pl Try.f6 (Try.f6.body.getD .skip) 3 = true := by kernel_rfl
theorem M.winnowlaw15_TimersLast.calls (a0 a1 a2 : Value) {w : World} {K : KV} (h : M.winnowlaw15_TimersLast a0 a1 a2 w K) : callT P F.winnowlaw15_TimersLast [a0, a1, a2] w K :=
  callT_of_den (by kernel_rfl) Try.func6 (by kernel_rfl) M.winnowlaw15_TimersLast.ok (M.winnowlaw15_TimersLast.eq a0 a1 a2 w K ▸ h)
theorem M.winnowlaw15_TimersLast.fcall (args : List Value) (w : World) (K : KV) : fcallT P F.winnowlaw15_TimersLast args w K = callT P F.winnowlaw15_TimersLast args w K := fcallT_eq Try.func6 (by kernel_rfl) (by kernel_rfl) args w K

/-- winnow/winnowlaw15.alive -/
def M.winnowlaw15_alive (w : World) (K : KV) : Prop :=
  bldT P T.timers_Heap #[] w fun t3 w =>
  boxT P T.timers_Heap t3 w fun t4 w =>
  fcallT P F.ptimers_Heap_Set [t4, (.int .u64 5), (.int .u64 3)] w fun t6 w =>
  fcallT P F.ptimers_Heap_Set [t4, (.int .u64 4), (.int .u64 3)] w fun t8 w =>
  fcallT P F.ptimers_Heap_Pop [t4, (.int .u64 3)] w fun t10 w =>
  biT P .len #[T.sl_uint64] T.int [false] [t10] w fun t12 w =>
  binT P .eql T.int (.tmp 12) (.const (.int .i64 2)) t12 (.int .i64 2) w fun t13 w =>
  guardT (isB t13 true) (fun K' => K' t10 w) w fun t15 w =>
  guardT (isB t13 true) (fun K' => iaT P T.sl_uint64 t15 (.int .i64 0) w K') w fun t16 w =>
  guardT (isB t13 true) (fun K' => ldT P T.uint64 t16 w K') w fun t17 w =>
  guardT (isB t13 true) (fun K' => binT P .eql T.uint64 (.tmp 17) (.const (.int .u64 4)) t17 (.int .u64 4) w K') w fun t18 w =>
  pickT t13 t18 (.bool false) w fun t19 w =>
  guardT (isB t19 true) (fun K' => K' t10 w) w fun t21 w =>
  guardT (isB t19 true) (fun K' => iaT P T.sl_uint64 t21 (.int .i64 1) w K') w fun t22 w =>
  guardT (isB t19 true) (fun K' => ldT P T.uint64 t22 w K') w fun t23 w =>
  guardT (isB t19 true) (fun K' => binT P .eql T.uint64 (.tmp 23) (.const (.int .u64 5)) t23 (.int .u64 5) w K') w fun t24 w =>
  pickT t19 t24 (.bool false) w fun t25 w =>
  guardT (isB t25 true) (fun K' => K' t4 w) w fun t27 w =>
  guardT (isB t25 true) (fun K' => fcallT P F.ptimers_Heap_Len [t27] w K') w fun t28 w =>
  guardT (isB t25 true) (fun K' => binT P .eql T.int (.tmp 28) (.const (.int .i64 0)) t28 (.int .i64 0) w K') w fun t29 w =>
  pickT t25 t29 (.bool false) w fun t30 w =>
  K t30 w
def M.winnowlaw15_alive.L : List Nat := [0, 1, 2]
def M.winnowlaw15_alive.pl : Nat → Plan := fun id => ⟨.nil, [], false⟩
theorem M.winnowlaw15_alive.eq (w : World) (K : KV) : M.winnowlaw15_alive  w K = den P M.winnowlaw15_alive.L M.winnowlaw15_alive.pl (Try.f7.body.getD .skip) (argE []) w (bodyQ P Try.f7.results.toList K) := by kernel_rfl
theorem M.winnowlaw15_alive.ok : okFn M.winnowlaw15_alive.L M.winnowlaw15_alive.pl Try.f7 (Try.f7.body.getD .skip) 0 = true := by kernel_rfl
theorem M.winnowlaw15_alive.calls {w : World} {K : KV} (h : M.winnowlaw15_alive  w K) : callT P F.winnowlaw15_alive [] w K :=
  callT_of_den (by kernel_rfl) Try.func7 (by kernel_rfl) M.winnowlaw15_alive.ok (M.winnowlaw15_alive.eq  w K ▸ h)
theorem M.winnowlaw15_alive.fcall (args : List Value) (w : World) (K : KV) : fcallT P F.winnowlaw15_alive args w K = callT P F.winnowlaw15_alive args w K := fcallT_eq Try.func7 (by kernel_rfl) (by kernel_rfl) args w K

def M.ptimers_Heap_Set.j1 (a1 : Value) (a2 : Value) (a0 : Value) (w : World) (K : KV) : Prop :=
  bldT P T.timers_item #[(0, a1), (1, a2)] w fun t47 w =>
  boxT P T.timers_item t47 w fun t48 w =>
  nilT a0 w fun t50 w =>
  faT P T.timers_Heap t50 1 w fun t51 w =>
  ldT P T.map_uint64_p_timers_item t51 w fun t52 w =>
  muT P T.map_uint64_p_timers_item t52 a1 t48 w fun _ w =>
  nilT a0 w fun t56 w =>
  faT P T.timers_Heap t56 0 w fun t57 w =>
  mkiT P T.p_timers_line t57 w fun t58 w =>
  mkiT P T.p_timers_item t48 w fun t60 w =>
  fcallT P F.heap_Push [t58, t60] w fun t61 w =>
  K (.tuple #[]) w
def M.ptimers_Heap_Set.j0 (a0 : Value) (a1 : Value) (a2 : Value) (w : World) (K : KV) : Prop :=
  joinT (fun K1 =>
  nilT a0 w fun t24 w =>
  faT P T.timers_Heap t24 1 w fun t25 w =>
  ldT P T.map_uint64_p_timers_item t25 w fun t26 w =>
  luT P T.map_uint64_p_timers_item t26 a1 true w fun t28 w =>
  exT P t28 0 w fun t29 w =>
  exT P t28 1 w fun t30 w =>
  condT t30 (
  nilT t29 w fun t34 w =>
  faT P T.timers_item t34 1 w fun t35 w =>
  stT P T.uint64 t35 a2 w fun _ w =>
  drawT w fun w =>
  w = w ∧ quietT (fun K' => nilT a0 w K') w fun t37 =>
  quietT (fun K' => faT P T.timers_Heap t37 0 w K') w fun t38 =>
  quietT (fun K' => mkiT P T.p_timers_line t38 w K') w fun t39 =>
  w = w ∧ quietT (fun K' => nilT t29 w K') w fun t41 =>
  quietT (fun K' => faT P T.timers_item t41 2 w K') w fun t42 =>
  quietT (fun K' => ldT P T.int t42 w K') w fun t43 =>
  fcallT P F.heap_Fix [t39, t43] w fun t44 w =>
  K (.tuple #[]) w) (
  K1 [t29, t30] w)) fun x1 w =>
  M.ptimers_Heap_Set.j1 a1 a2 a0 w K
/-- (*winnow/timers.Heap).Set -/
def M.ptimers_Heap_Set (a0 a1 a2 : Value) (w : World) (K : KV) : Prop :=
  joinT (fun K0 =>
  binT P .eql T.p_timers_Heap (.tmp 10) (.const (.pointer none)) a0 (.pointer none) w fun t11 w =>
  condT t11 (
  K (.tuple #[]) w) (
  nilT a0 w fun t14 w =>
  faT P T.timers_Heap t14 1 w fun t15 w =>
  ldT P T.map_uint64_p_timers_item t15 w fun t16 w =>
  binT P .eql T.map_uint64_p_timers_item (.tmp 16) (.const (.map none)) t16 (.map none) w fun t17 w =>
  condT t17 (
  mkmT P T.map_uint64_p_timers_item none w fun t19 w =>
  nilT a0 w fun t20 w =>
  faT P T.timers_Heap t20 1 w fun t21 w =>
  stT P T.map_uint64_p_timers_item t21 t19 w fun _ w =>
  K0 [t11, t17] w) (
  K0 [t11, t17] w))) fun x0 w =>
  M.ptimers_Heap_Set.j0 a0 a1 a2 w K
def M.ptimers_Heap_Set.L : List Nat := [0, 1, 2, 9, 12, 6, 7, 8]
def M.ptimers_Heap_Set.pl : Nat → Plan := fun id => cond (Nat.beq id 6) ⟨(.go 0 (.go 1 (.go 2 (.go 3 (.go 4 (.go 5 (.go 6 (.go 7 (.eff 8 .nil .stop))))))))), [8], false⟩ (⟨.nil, [], false⟩)
theorem M.ptimers_Heap_Set.eq (a0 a1 a2 : Value) (w : World) (K : KV) : M.ptimers_Heap_Set a0 a1 a2 w K = den P M.ptimers_Heap_Set.L M.ptimers_Heap_Set.pl (Try.f8.body.getD .skip) (argE [a0, a1, a2]) w (bodyQ P Try.f8.results.toList K) := by kernel_rfl
theorem M.ptimers_Heap_Set.ok : okFn M.ptimers_Heap_Set.L M.ptimers_Heap_Set.pl Try.f8 (Try.f8.body.getD .skip) 3 = true := by kernel_rfl
theorem M.ptimers_Heap_Set.calls (a0 a1 a2 : Value) {w : World} {K : KV} (h : M.ptimers_Heap_Set a0 a1 a2 w K) : callT P F.ptimers_Heap_Set [a0, a1, a2] w K :=
  callT_of_den (by kernel_rfl) Try.func8 (by kernel_rfl) M.ptimers_Heap_Set.ok (M.ptimers_Heap_Set.eq a0 a1 a2 w K ▸ h)
theorem M.ptimers_Heap_Set.fcall (args : List Value) (w : World) (K : KV) : fcallT P F.ptimers_Heap_Set args w K = callT P F.ptimers_Heap_Set args w K := fcallT_eq Try.func8 (by kernel_rfl) (by kernel_rfl) args w K

def M.winnowref15_Del.j2 (a0 : Value) (x1 : List Value) (a1 : Value) (K1 : KL) (w : World) (K : KV) : Prop :=
  joinT (fun K3 =>
  iaT P T.sl_winnowref15_Due a0 (gv x1 2) w fun t15 w =>
  faT P T.winnowref15_Due t15 0 w fun t16 w =>
  ldT P T.uint64 t16 w fun t17 w =>
  binT P .eql T.uint64 (.tmp 17) (.tmp 18) t17 a1 w fun t19 w =>
  condT t19 (
  drawT w fun w =>
  w = w ∧ w = w ∧ quietT (fun K' => slT P T.sl_winnowref15_Due a0 none (some (gv x1 2)) none w K') w fun t23 =>
  w = w ∧ w = w ∧ quietT (fun K' => binT P .add T.int (.tmp 26) (.const (.int .i64 1)) (gv x1 2) (.int .i64 1) w K') w fun t27 =>
  quietT (fun K' => slT P T.sl_winnowref15_Due a0 (some t27) none none w K') w fun t28 =>
  bsT P T.sl_winnowref15_Due 0 #[] w fun t20 w =>
  stabT (fun K' => slT P T.sl_winnowref15_Due a0 (some t27) none none w K') w t28 ∧ stabT (fun K' => binT P .add T.int (.tmp 26) (.const (.int .i64 1)) (gv x1 2) (.int .i64 1) w K') w t27 ∧ stabT (fun K' => K' (gv x1 2) w) w (gv x1 2) ∧ stabT (fun K' => K' a0 w) w a0 ∧ stabT (fun K' => slT P T.sl_winnowref15_Due a0 none (some (gv x1 2)) none w K') w t23 ∧ stabT (fun K' => K' (gv x1 2) w) w (gv x1 2) ∧ stabT (fun K' => K' a0 w) w a0 ∧ biT P .append #[T.sl_winnowref15_Due, T.sl_winnowref15_Due] T.sl_winnowref15_Due [false, false] [t20, t23] w fun t24 w =>
  stabT (fun K' => slT P T.sl_winnowref15_Due a0 (some t27) none none w K') w t28 ∧ stabT (fun K' => binT P .add T.int (.tmp 26) (.const (.int .i64 1)) (gv x1 2) (.int .i64 1) w K') w t27 ∧ stabT (fun K' => K' (gv x1 2) w) w (gv x1 2) ∧ stabT (fun K' => K' a0 w) w a0 ∧ biT P .append #[T.sl_winnowref15_Due, T.sl_winnowref15_Due] T.sl_winnowref15_Due [false, false] [t24, t28] w fun t29 w =>
  K (.tuple #[t29, (.bool true)]) w) (
  K3 [(gv x1 0), (gv x1 1)] w)) fun x3 w =>
  binT P .add T.int (.tmp 11) (.const (.int .i64 1)) (gv x1 2) (.int .i64 1) w fun t12 w =>
  K1 [(gv x3 0), (gv x3 1), t12] w
def M.winnowref15_Del.j1 (a0 : Value) (x1 : List Value) (K0 : KL) (a1 : Value) (K1 : KL) (w : World) (K : KV) : Prop :=
  joinT (fun K2 =>
  biT P .len #[T.sl_winnowref15_Due] T.int [false] [a0] w fun t9 w =>
  binT P .lss T.int (.tmp 7) (.tmp 9) (gv x1 2) t9 w fun t10 w =>
  condT t10 (
  K2 [] w) (
  K0 [(gv x1 2), (gv x1 0), (gv x1 1)] w)) fun x2 w =>
  M.winnowref15_Del.j2 a0 x1 a1 K1 w K
/-- winnow/winnowref15.Del -/
def M.winnowref15_Del (a0 a1 : Value) (w : World) (K : KV) : Prop :=
  joinT (fun K0 =>
  loopT [(.slice none 0 0), (.bool false), (.int .i64 0)] w fun K1 x1 w =>
  M.winnowref15_Del.j1 a0 x1 K0 a1 K1 w K) fun x0 w =>
  K (.tuple #[a0, (.bool false)]) w
def M.winnowref15_Del.L : List Nat := [0, 1, 4, 5, 6]
def M.winnowref15_Del.pl : Nat → Plan := fun id => cond (Nat.beq id 5) ⟨(.go 1 (.go 2 (.go 3 (.go 5 (.go 6 (.go 7 (.go 8 (.eff 0 (.eff 4 (.eff 9 (.eff 10 (.eff 11 .nil .stop) .stop) .stop) .stop) .stop)))))))), [0, 4, 9, 10, 11], false⟩ (⟨.nil, [], false⟩)
theorem M.winnowref15_Del.eq (a0 a1 : Value) (w : World) (K : KV) : M.winnowref15_Del a0 a1 w K = den P M.winnowref15_Del.L M.winnowref15_Del.pl (Try.f9.body.getD .skip) (argE [a0, a1]) w (bodyQ P Try.f9.results.toList K) := by kernel_rfl
theorem M.winnowref15_Del.ok : okFn M.winnowref15_Del.L M.winnowref15_Del.pl Try.f9 (Try.f9.body.getD .skip) 2 = true := by kernel_rfl
theorem M.winnowref15_Del.calls (a0 a1 : Value) {w : World} {K : KV} (h : M.winnowref15_Del a0 a1 w K) : callT P F.winnowref15_Del [a0, a1] w K :=
  callT_of_den (by kernel_rfl) Try.func9 (by kernel_rfl) M.winnowref15_Del.ok (M.winnowref15_Del.eq a0 a1 w K ▸ h)
theorem M.winnowref15_Del.fcall (args : List Value) (w : World) (K : KV) : fcallT P F.winnowref15_Del args w K = callT P F.winnowref15_Del args w K := fcallT_eq Try.func9 (by kernel_rfl) (by kernel_rfl) args w K

def M.ptimers_Heap_Next.j0 (a0 : Value) (w : World) (K : KV) : Prop :=
  drawT w fun w =>
  w = w ∧ quietT (fun K' => nilT a0 w K') w fun t9 =>
  quietT (fun K' => faT P T.timers_Heap t9 0 w K') w fun t10 =>
  quietT (fun K' => ldT P T.timers_line t10 w K') w fun t11 =>
  quietT (fun K' => iaT P T.timers_line t11 (.int .i64 0) w K') w fun t12 =>
  quietT (fun K' => ldT P T.p_timers_item t12 w K') w fun t13 =>
  quietT (fun K' => nilT t13 w K') w fun t14 =>
  quietT (fun K' => faT P T.timers_item t14 0 w K') w fun t15 =>
  quietT (fun K' => ldT P T.uint64 t15 w K') w fun t16 =>
  w = w ∧ quietT (fun K' => nilT a0 w K') w fun t18 =>
  quietT (fun K' => faT P T.timers_Heap t18 0 w K') w fun t19 =>
  quietT (fun K' => ldT P T.timers_line t19 w K') w fun t20 =>
  quietT (fun K' => iaT P T.timers_line t20 (.int .i64 0) w K') w fun t21 =>
  quietT (fun K' => ldT P T.p_timers_item t21 w K') w fun t22 =>
  quietT (fun K' => nilT t22 w K') w fun t23 =>
  quietT (fun K' => faT P T.timers_item t23 1 w K') w fun t24 =>
  quietT (fun K' => ldT P T.uint64 t24 w K') w fun t25 =>
  stabT (fun K' => ldT P T.uint64 t24 w K') w t25 ∧ stabT (fun K' => faT P T.timers_item t23 1 w K') w t24 ∧ stabT (fun K' => nilT t22 w K') w t23 ∧ stabT (fun K' => ldT P T.p_timers_item t21 w K') w t22 ∧ stabT (fun K' => iaT P T.timers_line t20 (.int .i64 0) w K') w t21 ∧ stabT (fun K' => ldT P T.timers_line t19 w K') w t20 ∧ stabT (fun K' => faT P T.timers_Heap t18 0 w K') w t19 ∧ stabT (fun K' => nilT a0 w K') w t18 ∧ stabT (fun K' => K' a0 w) w a0 ∧ K (.tuple #[t16, t25, (.bool true)]) w
/-- (*winnow/timers.Heap).Next -/
def M.ptimers_Heap_Next (a0 : Value) (w : World) (K : KV) : Prop :=
  joinT (fun K0 =>
  fcallT P F.ptimers_Heap_Len [a0] w fun t6 w =>
  binT P .eql T.int (.tmp 6) (.const (.int .i64 0)) t6 (.int .i64 0) w fun t7 w =>
  condT t7 (
  K (.tuple #[(.int .u64 0), (.int .u64 0), (.bool false)]) w) (
  K0 [(.int .u64 0), (.int .u64 0), (.bool false)] w)) fun x0 w =>
  M.ptimers_Heap_Next.j0 a0 w K
def M.ptimers_Heap_Next.L : List Nat := [0, 2, 3, 4]
def M.ptimers_Heap_Next.pl : Nat → Plan := fun id => cond (Nat.beq id 3) ⟨(.go 0 (.go 1 (.go 2 (.go 3 (.go 4 (.go 5 (.go 6 (.go 7 (.go 8 (.go 9 (.go 10 (.go 11 (.go 12 (.go 13 (.go 14 (.go 15 (.go 16 (.go 17 (.eff 18 (.eff 19 (.eff 20 .nil .stop) .stop) .stop))))))))))))))))))), [18, 19, 20], false⟩ (⟨.nil, [], false⟩)
theorem M.ptimers_Heap_Next.eq (a0 : Value) (w : World) (K : KV) : M.ptimers_Heap_Next a0 w K = den P M.ptimers_Heap_Next.L M.ptimers_Heap_Next.pl (Try.f10.body.getD .skip) (argE [a0]) w (bodyQ P Try.f10.results.toList K) := by kernel_rfl
theorem M.ptimers_Heap_Next.ok : okFn M.ptimers_Heap_Next.L M.ptimers_Heap_Next.pl Try.f10 (Try.f10.body.getD .skip) 1 = true := by kernel_rfl
theorem M.ptimers_Heap_Next.calls (a0 : Value) {w : World} {K : KV} (h : M.ptimers_Heap_Next a0 w K) : callT P F.ptimers_Heap_Next [a0] w K :=
  callT_of_den (by kernel_rfl) Try.func10 (by kernel_rfl) M.ptimers_Heap_Next.ok (M.ptimers_Heap_Next.eq a0 w K ▸ h)
theorem M.ptimers_Heap_Next.fcall (args : List Value) (w : World) (K : KV) : fcallT P F.ptimers_Heap_Next args w K = callT P F.ptimers_Heap_Next args w K := fcallT_eq Try.func10 (by kernel_rfl) (by kernel_rfl) args w K

def M.winnowref15_At.j2 (a0 : Value) (x1 : List Value) (a1 : Value) (K1 : KL) (w : World) (K : KV) : Prop :=
  joinT (fun K3 =>
  iaT P T.sl_winnowref15_Due a0 (gv x1 2) w fun t15 w =>
  faT P T.winnowref15_Due t15 0 w fun t16 w =>
  ldT P T.uint64 t16 w fun t17 w =>
  binT P .eql T.uint64 (.tmp 17) (.tmp 18) t17 a1 w fun t19 w =>
  condT t19 (
  iaT P T.sl_winnowref15_Due a0 (gv x1 2) w fun t22 w =>
  faT P T.winnowref15_Due t22 1 w fun t23 w =>
  ldT P T.uint64 t23 w fun t24 w =>
  K (.tuple #[t24, (.bool true)]) w) (
  K3 [(gv x1 0), (gv x1 1)] w)) fun x3 w =>
  binT P .add T.int (.tmp 11) (.const (.int .i64 1)) (gv x1 2) (.int .i64 1) w fun t12 w =>
  K1 [(gv x3 0), (gv x3 1), t12] w
def M.winnowref15_At.j1 (a0 : Value) (x1 : List Value) (K0 : KL) (a1 : Value) (K1 : KL) (w : World) (K : KV) : Prop :=
  joinT (fun K2 =>
  biT P .len #[T.sl_winnowref15_Due] T.int [false] [a0] w fun t9 w =>
  binT P .lss T.int (.tmp 7) (.tmp 9) (gv x1 2) t9 w fun t10 w =>
  condT t10 (
  K2 [] w) (
  K0 [(gv x1 2), (gv x1 0), (gv x1 1)] w)) fun x2 w =>
  M.winnowref15_At.j2 a0 x1 a1 K1 w K
/-- winnow/winnowref15.At -/
def M.winnowref15_At (a0 a1 : Value) (w : World) (K : KV) : Prop :=
  joinT (fun K0 =>
  loopT [(.int .u64 0), (.bool false), (.int .i64 0)] w fun K1 x1 w =>
  M.winnowref15_At.j1 a0 x1 K0 a1 K1 w K) fun x0 w =>
  K (.tuple #[(.int .u64 0), (.bool false)]) w
def M.winnowref15_At.L : List Nat := [0, 1, 4, 5, 6]
def M.winnowref15_At.pl : Nat → Plan := fun id => ⟨.nil, [], false⟩
theorem M.winnowref15_At.eq (a0 a1 : Value) (w : World) (K : KV) : M.winnowref15_At a0 a1 w K = den P M.winnowref15_At.L M.winnowref15_At.pl (Try.f11.body.getD .skip) (argE [a0, a1]) w (bodyQ P Try.f11.results.toList K) := by kernel_rfl
theorem M.winnowref15_At.ok : okFn M.winnowref15_At.L M.winnowref15_At.pl Try.f11 (Try.f11.body.getD .skip) 2 = true := by kernel_rfl
theorem M.winnowref15_At.calls (a0 a1 : Value) {w : World} {K : KV} (h : M.winnowref15_At a0 a1 w K) : callT P F.winnowref15_At [a0, a1] w K :=
  callT_of_den (by kernel_rfl) Try.func11 (by kernel_rfl) M.winnowref15_At.ok (M.winnowref15_At.eq a0 a1 w K ▸ h)
theorem M.winnowref15_At.fcall (args : List Value) (w : World) (K : KV) : fcallT P F.winnowref15_At args w K = callT P F.winnowref15_At args w K := fcallT_eq Try.func11 (by kernel_rfl) (by kernel_rfl) args w K

def M.ptimers_Heap_Del.j0 (a0 : Value) (a1 : Value) (w : World) (K : KV) : Prop :=
  drawT w fun w =>
  w = w ∧ quietT (fun K' => nilT a0 w K') w fun t17 =>
  quietT (fun K' => faT P T.timers_Heap t17 0 w K') w fun t18 =>
  quietT (fun K' => mkiT P T.p_timers_line t18 w K') w fun t19 =>
  w = w ∧ quietT (fun K' => nilT a0 w K') w fun t21 =>
  quietT (fun K' => faT P T.timers_Heap t21 1 w K') w fun t22 =>
  quietT (fun K' => ldT P T.map_uint64_p_timers_item t22 w K') w fun t23 =>
  w = w ∧ quietT (fun K' => luT P T.map_uint64_p_timers_item t23 a1 false w K') w fun t25 =>
  quietT (fun K' => nilT t25 w K') w fun t26 =>
  quietT (fun K' => faT P T.timers_item t26 2 w K') w fun t27 =>
  quietT (fun K' => ldT P T.int t27 w K') w fun t28 =>
  fcallT P F.heap_Remove [t19, t28] w fun t29 w =>
  nilT a0 w fun t31 w =>
  faT P T.timers_Heap t31 1 w fun t32 w =>
  ldT P T.map_uint64_p_timers_item t32 w fun t33 w =>
  biT P .delete #[T.map_uint64_p_timers_item, T.uint64] T._ [false, false] [t33, a1] w fun _ w =>
  K (.bool true) w
/-- (*winnow/timers.Heap).Del -/
def M.ptimers_Heap_Del (a0 a1 : Value) (w : World) (K : KV) : Prop :=
  joinT (fun K0 =>
  binT P .eql T.p_timers_Heap (.tmp 5) (.const (.pointer none)) a0 (.pointer none) w fun t6 w =>
  guardT (isB t6 false) (fun K' => K' a0 w) w fun t8 w =>
  guardT (isB t6 false) (fun K' => nilT t8 w K') w fun t9 w =>
  guardT (isB t6 false) (fun K' => faT P T.timers_Heap t9 1 w K') w fun t10 w =>
  guardT (isB t6 false) (fun K' => ldT P T.map_uint64_p_timers_item t10 w K') w fun t11 w =>
  guardT (isB t6 false) (fun K' => K' a1 w) w fun t12 w =>
  guardT (isB t6 false) (fun K' => luT P T.map_uint64_p_timers_item t11 t12 false w K') w fun t13 w =>
  guardT (isB t6 false) (fun K' => binT P .eql T.p_timers_item (.tmp 13) (.const (.pointer none)) t13 (.pointer none) w K') w fun t14 w =>
  pickT t6 (.bool true) t14 w fun t15 w =>
  condT t15 (
  K (.bool false) w) (
  K0 [(.bool false)] w)) fun x0 w =>
  M.ptimers_Heap_Del.j0 a0 a1 w K
def M.ptimers_Heap_Del.L : List Nat := [0, 1, 4]
def M.ptimers_Heap_Del.pl : Nat → Plan := fun id => cond (Nat.beq id 3) ⟨(.go 0 (.go 1 (.go 2 (.go 3 (.go 4 (.go 5 (.go 6 (.go 7 (.go 8 (.go 9 (.go 10 (.go 11 (.go 12 (.eff 13 .nil .stop)))))))))))))), [13], false⟩ (⟨.nil, [], false⟩)
theorem M.ptimers_Heap_Del.eq (a0 a1 : Value) (w : World) (K : KV) : M.ptimers_Heap_Del a0 a1 w K = den P M.ptimers_Heap_Del.L M.ptimers_Heap_Del.pl (Try.f12.body.getD .skip) (argE [a0, a1]) w (bodyQ P Try.f12.results.toList K) := by kernel_rfl
theorem M.ptimers_Heap_Del.ok : okFn M.ptimers_Heap_Del.L M.ptimers_Heap_Del.pl Try.f12 (Try.f12.body.getD .skip) 2 = true := by kernel_rfl
theorem M.ptimers_Heap_Del.calls (a0 a1 : Value) {w : World} {K : KV} (h : M.ptimers_Heap_Del a0 a1 w K) : callT P F.ptimers_Heap_Del [a0, a1] w K :=
  callT_of_den (by kernel_rfl) Try.func12 (by kernel_rfl) M.ptimers_Heap_Del.ok (M.ptimers_Heap_Del.eq a0 a1 w K ▸ h)
theorem M.ptimers_Heap_Del.fcall (args : List Value) (w : World) (K : KV) : fcallT P F.ptimers_Heap_Del args w K = callT P F.ptimers_Heap_Del args w K := fcallT_eq Try.func12 (by kernel_rfl) (by kernel_rfl) args w K

/-- (*winnow/timers.Heap).Len -/
def M.ptimers_Heap_Len (a0 : Value) (w : World) (K : KV) : Prop :=
  joinT (fun K0 =>
  binT P .eql T.p_timers_Heap (.tmp 3) (.const (.pointer none)) a0 (.pointer none) w fun t4 w =>
  condT t4 (
  K (.int .i64 0) w) (
  K0 [(.int .i64 0)] w)) fun x0 w =>
  nilT a0 w fun t6 w =>
  faT P T.timers_Heap t6 0 w fun t7 w =>
  ldT P T.timers_line t7 w fun t8 w =>
  biT P .len #[T.timers_line] T.int [false] [t8] w fun t9 w =>
  K t9 w
def M.ptimers_Heap_Len.L : List Nat := [0, 2]
def M.ptimers_Heap_Len.pl : Nat → Plan := fun id => ⟨.nil, [], false⟩
theorem M.ptimers_Heap_Len.eq (a0 : Value) (w : World) (K : KV) : M.ptimers_Heap_Len a0 w K = den P M.ptimers_Heap_Len.L M.ptimers_Heap_Len.pl (Try.f13.body.getD .skip) (argE [a0]) w (bodyQ P Try.f13.results.toList K) := by kernel_rfl
theorem M.ptimers_Heap_Len.ok : okFn M.ptimers_Heap_Len.L M.ptimers_Heap_Len.pl Try.f13 (Try.f13.body.getD .skip) 1 = true := by kernel_rfl
theorem M.ptimers_Heap_Len.calls (a0 : Value) {w : World} {K : KV} (h : M.ptimers_Heap_Len a0 w K) : callT P F.ptimers_Heap_Len [a0] w K :=
  callT_of_den (by kernel_rfl) Try.func13 (by kernel_rfl) M.ptimers_Heap_Len.ok (M.ptimers_Heap_Len.eq a0 w K ▸ h)
theorem M.ptimers_Heap_Len.fcall (args : List Value) (w : World) (K : KV) : fcallT P F.ptimers_Heap_Len args w K = callT P F.ptimers_Heap_Len args w K := fcallT_eq Try.func13 (by kernel_rfl) (by kernel_rfl) args w K

def M.ptimers_Heap_Pop.j0 (a0 : Value) (a1 : Value) (x0 : List Value) (K0 : KL) (w : World) (K : KV) : Prop :=
  fcallT P F.ptimers_Heap_Next [a0] w fun t10 w =>
  exT P t10 0 w fun t11 w =>
  exT P t10 1 w fun t12 w =>
  exT P t10 2 w fun t13 w =>
  joinT (fun K1 =>
  unT P .not t13 w fun t15 w =>
  guardT (isB t15 false) (fun K' => K' t12 w) w fun t17 w =>
  guardT (isB t15 false) (fun K' => K' a1 w) w fun t18 w =>
  guardT (isB t15 false) (fun K' => binT P .gtr T.uint64 (.tmp 17) (.tmp 18) t17 t18 w K') w fun t19 w =>
  pickT t15 (.bool true) t19 w fun t20 w =>
  condT t20 (
  K (gv x0 3) w) (
  K1 [(gv x0 3)] w)) fun x1 w =>
  bsT P T.sl_uint64 1 #[(0, t11)] w fun t24 w =>
  biT P .append #[T.sl_uint64, T.sl_uint64] T.sl_uint64 [false, false] [(gv x1 0), t24] w fun t25 w =>
  fcallT P F.ptimers_Heap_Del [a0, t11] w fun t28 w =>
  K0 [t11, t12, t13, t25] w
/-- (*winnow/timers.Heap).Pop -/
def M.ptimers_Heap_Pop (a0 a1 : Value) (w : World) (K : KV) : Prop :=
  loopT [undef, undef, undef, (.slice none 0 0)] w fun K0 x0 w =>
  M.ptimers_Heap_Pop.j0 a0 a1 x0 K0 w K
def M.ptimers_Heap_Pop.L : List Nat := [0, 1, 4, 5, 6, 7]
def M.ptimers_Heap_Pop.pl : Nat → Plan := fun id => ⟨.nil, [], false⟩
theorem M.ptimers_Heap_Pop.eq (a0 a1 : Value) (w : World) (K : KV) : M.ptimers_Heap_Pop a0 a1 w K = den P M.ptimers_Heap_Pop.L M.ptimers_Heap_Pop.pl (Try.f14.body.getD .skip) (argE [a0, a1]) w (bodyQ P Try.f14.results.toList K) := by kernel_rfl
theorem M.ptimers_Heap_Pop.ok : okFn M.ptimers_Heap_Pop.L M.ptimers_Heap_Pop.pl Try.f14 (Try.f14.body.getD .skip) 2 = true := by kernel_rfl
theorem M.ptimers_Heap_Pop.calls (a0 a1 : Value) {w : World} {K : KV} (h : M.ptimers_Heap_Pop a0 a1 w K) : callT P F.ptimers_Heap_Pop [a0, a1] w K :=
  callT_of_den (by kernel_rfl) Try.func14 (by kernel_rfl) M.ptimers_Heap_Pop.ok (M.ptimers_Heap_Pop.eq a0 a1 w K ▸ h)
theorem M.ptimers_Heap_Pop.fcall (args : List Value) (w : World) (K : KV) : fcallT P F.ptimers_Heap_Pop args w K = callT P F.ptimers_Heap_Pop args w K := fcallT_eq Try.func14 (by kernel_rfl) (by kernel_rfl) args w K

end Go.Proofs.Ytiolnbhnahlphaa
