/-
  Printed by wip/Shallow.lean: functions of the program, read shallow; each is what its code does. No condition.
-/
import Derived.Test.YtgcpljghnlohbaaN
set_option maxRecDepth 1000000
namespace Go.Proofs.Ytgcpljghnlohbaa
open Go.Eng

/-- gosem.cut.init -/
def M.gosem_cut_init (w : World) (K : KV) : Prop :=
  fcallT P F.gosem_cut [] w fun t0 w =>
  K (.tuple #[]) w
def M.gosem_cut_init.L : List Nat := []
def M.gosem_cut_init.pl : Nat → Plan := fun id => ⟨.nil, [], false⟩
theorem M.gosem_cut_init.eq (w : World) (K : KV) : M.gosem_cut_init  w K = den P M.gosem_cut_init.L M.gosem_cut_init.pl (Try.f2.body.getD .skip) (argE []) w (bodyQ P Try.f2.results.toList K) := by kernel_rfl
theorem M.gosem_cut_init.ok : okFn M.gosem_cut_init.L M.gosem_cut_init.pl Try.f2 (Try.f2.body.getD .skip) 0 = true := by kernel_rfl
theorem M.gosem_cut_init.calls {w : World} {K : KV} (h : M.gosem_cut_init  w K) : callT P F.gosem_cut_init [] w K :=
  callT_of_den (by kernel_rfl) Try.func2 (by kernel_rfl) M.gosem_cut_init.ok (M.gosem_cut_init.eq  w K ▸ h)
theorem M.gosem_cut_init.fcall (args : List Value) (w : World) (K : KV) : fcallT P F.gosem_cut_init args w K = callT P F.gosem_cut_init args w K := fcallT_eq Try.func2 (by kernel_rfl) (by kernel_rfl) args w K

def M.winnowlaw16_BufferDue.j8 (x7 : List Value) (x2 : List Value) (a1 : Value) (K7 : KL) (w : World) (K : KV) : Prop :=
  joinT (fun K9 =>
  drawT w fun w =>
  w = w ∧ w = w ∧ quietT (fun K' => guardT (isB (gv x7 0) false) (fun K' => K' (gv x2 3) w) w K') w fun t89 =>
  quietT (fun K' => guardT (isB (gv x7 0) false) (fun K' => K' (gv x7 1) w) w K') w fun t90 =>
  quietT (fun K' => guardT (isB (gv x7 0) false) (fun K' => iaT P T.sl_uint64 t89 t90 w K') w K') w fun t91 =>
  quietT (fun K' => guardT (isB (gv x7 0) false) (fun K' => ldT P T.uint64 t91 w K') w K') w fun t92 =>
  quietT (fun K' => guardT (isB (gv x7 0) false) (fun K' => K' a1 w) w K') w fun t93 =>
  quietT (fun K' => guardT (isB (gv x7 0) false) (fun K' => K' (gv x2 6) w) w K') w fun t94 =>
  quietT (fun K' => guardT (isB (gv x7 0) false) (fun K' => iaT P T.sl_api_Span t93 t94 w K') w K') w fun t95 =>
  quietT (fun K' => guardT (isB (gv x7 0) false) (fun K' => faT P T.api_Span t95 0 w K') w K') w fun t96 =>
  quietT (fun K' => guardT (isB (gv x7 0) false) (fun K' => ldT P T.uint64 t96 w K') w K') w fun t97 =>
  quietT (fun K' => guardT (isB (gv x7 0) false) (fun K' => binT P .eql T.uint64 (.tmp 92) (.tmp 97) t92 t97 w K') w K') w fun t98 =>
  quietT (fun K' => pickT (gv x7 0) (.bool true) t98 w K') w fun t99 =>
  K9 [t99] w) fun x9 w =>
  binT P .add T.int (.tmp 85) (.const (.int .i64 1)) (gv x7 1) (.int .i64 1) w fun t86 w =>
  K7 [(gv x9 0), t86] w
def M.winnowlaw16_BufferDue.j7 (x2 : List Value) (x7 : List Value) (K6 : KL) (a1 : Value) (K7 : KL) (w : World) (K : KV) : Prop :=
  joinT (fun K8 =>
  biT P .len #[T.sl_uint64] T.int [false] [(gv x2 3)] w fun t83 w =>
  binT P .lss T.int (.tmp 81) (.tmp 83) (gv x7 1) t83 w fun t84 w =>
  condT t84 (
  K8 [] w) (
  K6 [(gv x7 1), (gv x7 0)] w)) fun x8 w =>
  M.winnowlaw16_BufferDue.j8 x7 x2 a1 K7 w K
def M.winnowlaw16_BufferDue.j6 (x6 : List Value) (a1 : Value) (x2 : List Value) (a0 : Value) (a2 : Value) (K4 : KL) (x5 : List Value) (w : World) (K : KV) : Prop :=
  joinT (fun K10 =>
  unT P .not (gv x6 1) w fun t101 w =>
  condT t101 (
  iaT P T.sl_api_Span a1 (gv x2 6) w fun t105 w =>
  faT P T.api_Span t105 0 w fun t106 w =>
  ldT P T.uint64 t106 w fun t107 w =>
  bsT P T.sl_uint64 1 #[(0, t107)] w fun t108 w =>
  biT P .append #[T.sl_uint64, T.sl_uint64] T.sl_uint64 [false, false] [(gv x2 3), t108] w fun t109 w =>
  binT P .add T.uint64 (.tmp 111) (.tmp 112) (gv x2 5) a0 w fun t113 w =>
  bsT P T.sl_uint64 1 #[(0, t113)] w fun t114 w =>
  biT P .append #[T.sl_uint64, T.sl_uint64] T.sl_uint64 [false, false] [(gv x2 4), t114] w fun t115 w =>
  K10 [t109, t115] w) (
  K10 [(gv x2 3), (gv x2 4)] w)) fun x10 w =>
  binT P .add T.uint64 (.tmp 116) (.tmp 117) (gv x2 5) a2 w fun t118 w =>
  K4 [(gv x5 0), (gv x6 1), (gv x6 0), (gv x10 0), (gv x10 1), t118] w
def M.winnowlaw16_BufferDue.j3 (a1 : Value) (x2 : List Value) (t26 : Value) (a0 : Value) (a2 : Value) (K2 : KL) (w : World) (K : KV) : Prop :=
  joinT (fun K4 =>
  joinT (fun K5 =>
  iaT P T.sl_api_Span a1 (gv x2 6) w fun t56 w =>
  faT P T.api_Span t56 6 w fun t57 w =>
  ldT P T.string t57 w fun t58 w =>
  biT P .len #[T.string] T.int [false] [t58] w fun t59 w =>
  binT P .gtr T.int (.tmp 59) (.const (.int .i64 200)) t59 (.int .i64 200) w fun t60 w =>
  guardT (isB t60 false) (fun K' => K' a1 w) w fun t62 w =>
  guardT (isB t60 false) (fun K' => K' (gv x2 6) w) w fun t63 w =>
  guardT (isB t60 false) (fun K' => iaT P T.sl_api_Span t62 t63 w K') w fun t64 w =>
  guardT (isB t60 false) (fun K' => faT P T.api_Span t64 5 w K') w fun t65 w =>
  guardT (isB t60 false) (fun K' => ldT P T.string t65 w K') w fun t66 w =>
  guardT (isB t60 false) (fun K' => biT P .len #[T.string] T.int [false] [t66] w K') w fun t67 w =>
  guardT (isB t60 false) (fun K' => binT P .gtr T.int (.tmp 67) (.const (.int .i64 200)) t67 (.int .i64 200) w K') w fun t68 w =>
  pickT t60 (.bool true) t68 w fun t69 w =>
  guardT (isB t69 false) (fun K' => K' t26 w) w fun t71 w =>
  guardT (isB t69 false) (fun K' => K' a1 w) w fun t72 w =>
  guardT (isB t69 false) (fun K' => K' (gv x2 6) w) w fun t73 w =>
  guardT (isB t69 false) (fun K' => iaT P T.sl_api_Span t72 t73 w K') w fun t74 w =>
  guardT (isB t69 false) (fun K' => ldT P T.api_Span t74 w K') w fun t75 w =>
  guardT (isB t69 false) (fun K' => K' (gv x2 5) w) w fun t76 w =>
  guardT (isB t69 false) (fun K' => fcallT P F.pbuffer_Buffer_Put [t71, t75, t76] w K') w fun t77 w =>
  guardT (isB t69 false) (fun K' => binT P .neq T.api_Kind (.tmp 77) (.const (.int .i64 0)) t77 (.int .i64 0) w K') w fun t78 w =>
  pickT t69 (.bool true) t78 w fun t79 w =>
  condT t79 (
  fcallT P F.winnowlaw16_alive [] w fun t80 w =>
  K t80 w) (
  K5 [(gv x2 0)] w)) fun x5 w =>
  joinT (fun K6 =>
  loopT [(.bool false), (.int .i64 0)] w fun K7 x7 w =>
  M.winnowlaw16_BufferDue.j7 x2 x7 K6 a1 K7 w K) fun x6 w =>
  M.winnowlaw16_BufferDue.j6 x6 a1 x2 a0 a2 K4 x5 w K) fun x4 w =>
  binT P .add T.int (.tmp 52) (.const (.int .i64 1)) (gv x2 6) (.int .i64 1) w fun t53 w =>
  K2 [(gv x4 0), (gv x4 1), (gv x4 2), (gv x4 3), (gv x4 4), (gv x4 5), t53] w
def M.winnowlaw16_BufferDue.j2 (a1 : Value) (x2 : List Value) (K1 : KL) (t26 : Value) (a0 : Value) (a2 : Value) (K2 : KL) (w : World) (K : KV) : Prop :=
  joinT (fun K3 =>
  biT P .len #[T.sl_api_Span] T.int [false] [a1] w fun t50 w =>
  binT P .lss T.int (.tmp 48) (.tmp 50) (gv x2 6) t50 w fun t51 w =>
  condT t51 (
  K3 [] w) (
  K1 [(gv x2 6), (gv x2 0), (gv x2 1), (gv x2 2), (gv x2 3), (gv x2 4), (gv x2 5)] w)) fun x3 w =>
  M.winnowlaw16_BufferDue.j3 a1 x2 t26 a0 a2 K2 w K
def M.winnowlaw16_BufferDue.j17 (x16 : List Value) (t121 : Value) (x1 : List Value) (x12 : List Value) (K16 : KL) (w : World) (K : KV) : Prop :=
  joinT (fun K18 =>
  drawT w fun w =>
  w = w ∧ w = w ∧ quietT (fun K' => guardT (isB (gv x16 0) false) (fun K' => K' t121 w) w K') w fun t136 =>
  quietT (fun K' => guardT (isB (gv x16 0) false) (fun K' => K' (gv x16 1) w) w K') w fun t137 =>
  quietT (fun K' => guardT (isB (gv x16 0) false) (fun K' => iaT P T.sl_uint64 t136 t137 w K') w K') w fun t138 =>
  quietT (fun K' => guardT (isB (gv x16 0) false) (fun K' => ldT P T.uint64 t138 w K') w K') w fun t139 =>
  quietT (fun K' => guardT (isB (gv x16 0) false) (fun K' => K' (gv x1 4) w) w K') w fun t140 =>
  quietT (fun K' => guardT (isB (gv x16 0) false) (fun K' => K' (gv x12 4) w) w K') w fun t141 =>
  quietT (fun K' => guardT (isB (gv x16 0) false) (fun K' => iaT P T.sl_uint64 t140 t141 w K') w K') w fun t142 =>
  quietT (fun K' => guardT (isB (gv x16 0) false) (fun K' => ldT P T.uint64 t142 w K') w K') w fun t143 =>
  quietT (fun K' => guardT (isB (gv x16 0) false) (fun K' => binT P .eql T.uint64 (.tmp 139) (.tmp 143) t139 t143 w K') w K') w fun t144 =>
  quietT (fun K' => pickT (gv x16 0) (.bool true) t144 w K') w fun t145 =>
  K18 [t145] w) fun x18 w =>
  binT P .add T.int (.tmp 132) (.const (.int .i64 1)) (gv x16 1) (.int .i64 1) w fun t133 w =>
  K16 [(gv x18 0), t133] w
def M.winnowlaw16_BufferDue.j16 (t121 : Value) (x16 : List Value) (K15 : KL) (x1 : List Value) (x12 : List Value) (K16 : KL) (w : World) (K : KV) : Prop :=
  joinT (fun K17 =>
  biT P .len #[T.sl_uint64] T.int [false] [t121] w fun t130 w =>
  binT P .lss T.int (.tmp 128) (.tmp 130) (gv x16 1) t130 w fun t131 w =>
  condT t131 (
  K17 [] w) (
  K15 [(gv x16 1), (gv x16 0)] w)) fun x17 w =>
  M.winnowlaw16_BufferDue.j17 x16 t121 x1 x12 K16 w K
def M.winnowlaw16_BufferDue.j15 (x1 : List Value) (x12 : List Value) (a3 : Value) (x15 : List Value) (K14 : KL) (w : World) (K : KV) : Prop :=
  joinT (fun K19 =>
  iaT P T.sl_uint64 (gv x1 5) (gv x12 4) w fun t149 w =>
  ldT P T.uint64 t149 w fun t150 w =>
  binT P .leq T.uint64 (.tmp 150) (.tmp 151) t150 a3 w fun t152 w =>
  binT P .neq T.bool (.tmp 146) (.tmp 152) (gv x15 1) t152 w fun t153 w =>
  condT t153 (
  K (.bool false) w) (
  K19 [(gv x12 2)] w)) fun x19 w =>
  condT (gv x15 1) (
  binT P .add T.int (.tmp 155) (.const (.int .i64 1)) (gv x12 3) (.int .i64 1) w fun t156 w =>
  K14 [(gv x15 1), (gv x15 0), (gv x19 0), t156] w) (
  K14 [(gv x15 1), (gv x15 0), (gv x19 0), (gv x12 3)] w)
def M.winnowlaw16_BufferDue.j13 (t121 : Value) (x1 : List Value) (x12 : List Value) (a3 : Value) (K12 : KL) (w : World) (K : KV) : Prop :=
  joinT (fun K14 =>
  joinT (fun K15 =>
  loopT [(.bool false), (.int .i64 0)] w fun K16 x16 w =>
  M.winnowlaw16_BufferDue.j16 t121 x16 K15 x1 x12 K16 w K) fun x15 w =>
  M.winnowlaw16_BufferDue.j15 x1 x12 a3 x15 K14 w K) fun x14 w =>
  binT P .add T.int (.tmp 126) (.const (.int .i64 1)) (gv x12 4) (.int .i64 1) w fun t127 w =>
  K12 [(gv x14 0), (gv x14 1), (gv x14 2), (gv x14 3), t127] w
def M.winnowlaw16_BufferDue.j12 (x1 : List Value) (x12 : List Value) (K11 : KL) (t121 : Value) (a3 : Value) (K12 : KL) (w : World) (K : KV) : Prop :=
  joinT (fun K13 =>
  biT P .len #[T.sl_uint64] T.int [false] [(gv x1 4)] w fun t124 w =>
  binT P .lss T.int (.tmp 122) (.tmp 124) (gv x12 4) t124 w fun t125 w =>
  condT t125 (
  K13 [] w) (
  K11 [(gv x12 4), (gv x12 0), (gv x12 1), (gv x12 2), (gv x12 3)] w)) fun x13 w =>
  M.winnowlaw16_BufferDue.j13 t121 x1 x12 a3 K12 w K
def M.winnowlaw16_BufferDue.j11 (a3 : Value) (t26 : Value) (t121 : Value) (x11 : List Value) (w : World) (K : KV) : Prop :=
  binT P .add T.uint64 (.tmp 158) (.const (.int .u64 5)) a3 (.int .u64 5) w fun t159 w =>
  fcallT P F.pbuffer_Buffer_Due [t26, t159] w fun t160 w =>
  biT P .len #[T.sl_uint64] T.int [false] [t121] w fun t163 w =>
  binT P .eql T.int (.tmp 161) (.tmp 163) (gv x11 4) t163 w fun t164 w =>
  guardT (isB t164 true) (fun K' => K' t160 w) w fun t166 w =>
  guardT (isB t164 true) (fun K' => biT P .len #[T.sl_uint64] T.int [false] [t166] w K') w fun t167 w =>
  guardT (isB t164 true) (fun K' => K' t121 w) w fun t168 w =>
  guardT (isB t164 true) (fun K' => biT P .len #[T.sl_uint64] T.int [false] [t168] w K') w fun t169 w =>
  guardT (isB t164 true) (fun K' => binT P .geq T.int (.tmp 167) (.tmp 169) t167 t169 w K') w fun t170 w =>
  pickT t164 t170 (.bool false) w fun t171 w =>
  guardT (isB t171 true) (fun K' => K' t160 w) w fun t173 w =>
  guardT (isB t171 true) (fun K' => K' t121 w) w fun t174 w =>
  guardT (isB t171 true) (fun K' => biT P .len #[T.sl_uint64] T.int [false] [t174] w K') w fun t175 w =>
  guardT (isB t171 true) (fun K' => slT P T.sl_uint64 t173 none (some t175) none w K') w fun t176 w =>
  guardT (isB t171 true) (fun K' => K' t121 w) w fun t177 w =>
  guardT (isB t171 true) (fun K' => fcallT P F.winnowlaw16_uints [t176, t177] w K') w fun t178 w =>
  pickT t171 t178 (.bool false) w fun t179 w =>
  guardT (isB t179 true) (fun K' => K' t26 w) w fun t181 w =>
  guardT (isB t179 true) (fun K' => K' a3 w) w fun t182 w =>
  guardT (isB t179 true) (fun K' => fcallT P F.pbuffer_Buffer_Due [t181, t182] w K') w fun t183 w =>
  guardT (isB t179 true) (fun K' => K' t121 w) w fun t184 w =>
  guardT (isB t179 true) (fun K' => fcallT P F.winnowlaw16_uints [t183, t184] w K') w fun t185 w =>
  pickT t179 t185 (.bool false) w fun t186 w =>
  guardT (isB t186 true) (fun K' => fcallT P F.winnowlaw16_alive [] w K') w fun t188 w =>
  pickT t186 t188 (.bool false) w fun t189 w =>
  K t189 w
def M.winnowlaw16_BufferDue.j1 (t26 : Value) (a3 : Value) (x1 : List Value) (w : World) (K : KV) : Prop :=
  fcallT P F.pbuffer_Buffer_Due [t26, a3] w fun t121 w =>
  joinT (fun K11 =>
  loopT [undef, undef, (gv x1 1), (.int .i64 0), (.int .i64 0)] w fun K12 x12 w =>
  M.winnowlaw16_BufferDue.j12 x1 x12 K11 t121 a3 K12 w K) fun x11 w =>
  M.winnowlaw16_BufferDue.j11 a3 t26 t121 x11 w K
/-- winnow/winnowlaw16.BufferDue -/
def M.winnowlaw16_BufferDue (a0 a1 a2 a3 : Value) (w : World) (K : KV) : Prop :=
  fcallT P F.buffer_New [(.int .i64 16), (.int .i64 16), a0] w fun t25 w =>
  exT P t25 0 w fun t26 w =>
  exT P t25 1 w fun t27 w =>
  joinT (fun K0 =>
  biT P .len #[T.sl_api_Span] T.int [false] [a1] w fun t29 w =>
  binT P .gtr T.int (.tmp 29) (.const (.int .i64 20)) t29 (.int .i64 20) w fun t30 w =>
  guardT (isB t30 false) (fun K' => K' t27 w) w fun t32 w =>
  guardT (isB t30 false) (fun K' => binT P .neq T.api_Kind (.tmp 32) (.const (.int .i64 0)) t32 (.int .i64 0) w K') w fun t33 w =>
  pickT t30 (.bool true) t33 w fun t34 w =>
  guardT (isB t34 false) (fun K' => K' t26 w) w fun t36 w =>
  guardT (isB t34 false) (fun K' => binT P .eql T.p_buffer_Buffer (.tmp 36) (.const (.pointer none)) t36 (.pointer none) w K') w fun t37 w =>
  pickT t34 (.bool true) t37 w fun t38 w =>
  guardT (isB t38 false) (fun K' => K' a2 w) w fun t40 w =>
  guardT (isB t38 false) (fun K' => binT P .gtr T.uint64 (.tmp 40) (.const (.int .u64 1000)) t40 (.int .u64 1000) w K') w fun t41 w =>
  pickT t38 (.bool true) t41 w fun t42 w =>
  guardT (isB t42 false) (fun K' => K' a3 w) w fun t44 w =>
  guardT (isB t42 false) (fun K' => binT P .gtr T.uint64 (.tmp 44) (.const (.int .u64 1099511627776)) t44 (.int .u64 1099511627776) w K') w fun t45 w =>
  pickT t42 (.bool true) t45 w fun t46 w =>
  condT t46 (
  fcallT P F.winnowlaw16_alive [] w fun t47 w =>
  K t47 w) (
  K0 [(.bool false)] w)) fun x0 w =>
  joinT (fun K1 =>
  loopT [(gv x0 0), undef, undef, (.slice none 0 0), (.slice none 0 0), (.int .u64 0), (.int .i64 0)] w fun K2 x2 w =>
  M.winnowlaw16_BufferDue.j2 a1 x2 K1 t26 a0 a2 K2 w K) fun x1 w =>
  M.winnowlaw16_BufferDue.j1 t26 a3 x1 w K
def M.winnowlaw16_BufferDue.L : List Nat := [0, 1, 2, 3, 8, 9, 10, 11, 12, 13, 14, 15, 16, 17, 18, 19, 20, 21, 22]
def M.winnowlaw16_BufferDue.pl : Nat → Plan := fun id => cond (Nat.beq id 16) ⟨(.go 0 (.go 1 (.go 2 (.go 3 (.go 4 (.go 5 (.go 6 (.go 7 (.go 8 (.go 9 (.go 10 (.go 11 (.go 12 (.eff 13 .nil .stop)))))))))))))), [13], false⟩ (cond (Nat.beq id 29) ⟨(.go 0 (.go 1 (.go 2 (.go 3 (.go 4 (.go 5 (.go 6 (.go 7 (.go 8 (.go 9 (.go 10 (.go 11 (.eff 12 .nil .stop))))))))))))), [12], false⟩ (⟨.nil, [], false⟩))
theorem M.winnowlaw16_BufferDue.eq (a0 a1 a2 a3 : Value) (w : World) (K : KV) : M.winnowlaw16_BufferDue a0 a1 a2 a3 w K = den P M.winnowlaw16_BufferDue.L M.winnowlaw16_BufferDue.pl (Try.f3.body.getD .skip) (argE [a0, a1, a2, a3]) w (bodyQ P Try.f3.results.toList K) := by kernel_rfl
theorem M.winnowlaw16_BufferDue.ok : okFn M.winnowlaw16_BufferDue.L M.winnowlaw16_BufferDue.pl Try.f3 (Try.f3.body.getD .skip) 4 = true := by kernel_rfl
theorem M.winnowlaw16_BufferDue.calls (a0 a1 a2 a3 : Value) {w : World} {K : KV} (h : M.winnowlaw16_BufferDue a0 a1 a2 a3 w K) : callT P F.winnowlaw16_BufferDue [a0, a1, a2, a3] w K :=
  callT_of_den (by kernel_rfl) Try.func3 (by kernel_rfl) M.winnowlaw16_BufferDue.ok (M.winnowlaw16_BufferDue.eq a0 a1 a2 a3 w K ▸ h)
theorem M.winnowlaw16_BufferDue.fcall (args : List Value) (w : World) (K : KV) : fcallT P F.winnowlaw16_BufferDue args w K = callT P F.winnowlaw16_BufferDue args w K := fcallT_eq Try.func3 (by kernel_rfl) (by kernel_rfl) args w K

def M.winnowlaw16_BufferTwice.j6 (a0 : Value) (x3 : List Value) (t34 : Value) (K5 : KL) (x6 : List Value) (w : World) (K : KV) : Prop :=
  iaT P T.sl_api_Span a0 (gv x3 1) w fun t68 w =>
  ldT P T.api_Span t68 w fun t69 w =>
  fcallT P F.pbuffer_Buffer_Put [t34, t69, (.int .u64 0)] w fun t70 w =>
  binT P .neq T.api_Kind (.tmp 70) (.const (.int .i64 0)) t70 (.int .i64 0) w fun t71 w =>
  condT t71 (
  fcallT P F.winnowlaw16_alive [] w fun t72 w =>
  K t72 w) (
  K5 [(gv x6 0)] w)
def M.winnowlaw16_BufferTwice.j4 (a0 : Value) (x3 : List Value) (t34 : Value) (K3 : KL) (w : World) (K : KV) : Prop :=
  joinT (fun K5 =>
  joinT (fun K6 =>
  iaT P T.sl_api_Span a0 (gv x3 1) w fun t50 w =>
  faT P T.api_Span t50 6 w fun t51 w =>
  ldT P T.string t51 w fun t52 w =>
  biT P .len #[T.string] T.int [false] [t52] w fun t53 w =>
  binT P .gtr T.int (.tmp 53) (.const (.int .i64 200)) t53 (.int .i64 200) w fun t54 w =>
  guardT (isB t54 false) (fun K' => K' a0 w) w fun t56 w =>
  guardT (isB t54 false) (fun K' => K' (gv x3 1) w) w fun t57 w =>
  guardT (isB t54 false) (fun K' => iaT P T.sl_api_Span t56 t57 w K') w fun t58 w =>
  guardT (isB t54 false) (fun K' => faT P T.api_Span t58 5 w K') w fun t59 w =>
  guardT (isB t54 false) (fun K' => ldT P T.string t59 w K') w fun t60 w =>
  guardT (isB t54 false) (fun K' => biT P .len #[T.string] T.int [false] [t60] w K') w fun t61 w =>
  guardT (isB t54 false) (fun K' => binT P .gtr T.int (.tmp 61) (.const (.int .i64 200)) t61 (.int .i64 200) w K') w fun t62 w =>
  pickT t54 (.bool true) t62 w fun t63 w =>
  condT t63 (
  fcallT P F.winnowlaw16_alive [] w fun t64 w =>
  K t64 w) (
  K6 [(gv x3 0)] w)) fun x6 w =>
  M.winnowlaw16_BufferTwice.j6 a0 x3 t34 K5 x6 w K) fun x5 w =>
  binT P .add T.int (.tmp 46) (.const (.int .i64 1)) (gv x3 1) (.int .i64 1) w fun t47 w =>
  K3 [(gv x5 0), t47] w
def M.winnowlaw16_BufferTwice.j3 (a0 : Value) (x3 : List Value) (K2 : KL) (t34 : Value) (K3 : KL) (w : World) (K : KV) : Prop :=
  joinT (fun K4 =>
  biT P .len #[T.sl_api_Span] T.int [false] [a0] w fun t44 w =>
  binT P .lss T.int (.tmp 42) (.tmp 44) (gv x3 1) t44 w fun t45 w =>
  condT t45 (
  K4 [] w) (
  K2 [(gv x3 1), (gv x3 0)] w)) fun x4 w =>
  M.winnowlaw16_BufferTwice.j4 a0 x3 t34 K3 w K
def M.winnowlaw16_BufferTwice.j7 (a0 : Value) (a1 : Value) (t34 : Value) (t81 : Value) (w : World) (K : KV) : Prop :=
  iaT P T.sl_api_Span a0 a1 w fun t129 w =>
  faT P T.api_Span t129 0 w fun t130 w =>
  ldT P T.uint64 t130 w fun t131 w =>
  fcallT P F.pbuffer_Buffer_Take [t34, t131] w fun t132 w =>
  iaT P T.sl_api_Span a0 a1 w fun t137 w =>
  faT P T.api_Span t137 0 w fun t138 w =>
  ldT P T.uint64 t138 w fun t139 w =>
  fcallT P F.pbuffer_Buffer_Get [t34, t139] w fun t140 w =>
  exT P t140 0 w fun t141 w =>
  exT P t140 1 w fun t142 w =>
  exT P t140 2 w fun t143 w =>
  fcallT P F.winnowref03_Spans [t132, t81] w fun t146 w =>
  guardT (isB t146 true) (fun K' => K' t143 w) w fun t148 w =>
  guardT (isB t146 true) (fun K' => unT P .not t148 w K') w fun t149 w =>
  pickT t146 t149 (.bool false) w fun t150 w =>
  guardT (isB t150 true) (fun K' => K' t34 w) w fun t152 w =>
  guardT (isB t150 true) (fun K' => K' a0 w) w fun t153 w =>
  guardT (isB t150 true) (fun K' => K' a1 w) w fun t154 w =>
  guardT (isB t150 true) (fun K' => iaT P T.sl_api_Span t153 t154 w K') w fun t155 w =>
  guardT (isB t150 true) (fun K' => faT P T.api_Span t155 0 w K') w fun t156 w =>
  guardT (isB t150 true) (fun K' => ldT P T.uint64 t156 w K') w fun t157 w =>
  guardT (isB t150 true) (fun K' => fcallT P F.pbuffer_Buffer_Take [t152, t157] w K') w fun t158 w =>
  guardT (isB t150 true) (fun K' => biT P .len #[T.sl_api_Span] T.int [false] [t158] w K') w fun t159 w =>
  guardT (isB t150 true) (fun K' => binT P .eql T.int (.tmp 159) (.const (.int .i64 0)) t159 (.int .i64 0) w K') w fun t160 w =>
  pickT t150 t160 (.bool false) w fun t161 w =>
  guardT (isB t161 true) (fun K' => K' t34 w) w fun t163 w =>
  guardT (isB t161 true) (fun K' => K' a0 w) w fun t164 w =>
  guardT (isB t161 true) (fun K' => K' a1 w) w fun t165 w =>
  guardT (isB t161 true) (fun K' => iaT P T.sl_api_Span t164 t165 w K') w fun t166 w =>
  guardT (isB t161 true) (fun K' => faT P T.api_Span t166 0 w K') w fun t167 w =>
  guardT (isB t161 true) (fun K' => ldT P T.uint64 t167 w K') w fun t168 w =>
  guardT (isB t161 true) (fun K' => fcallT P F.pbuffer_Buffer_Delay [t163, t168, (.int .u64 5)] w K') w fun t169 w =>
  guardT (isB t161 true) (fun K' => unT P .not t169 w K') w fun t170 w =>
  pickT t161 t170 (.bool false) w fun t171 w =>
  guardT (isB t171 true) (fun K' => fcallT P F.winnowlaw16_alive [] w K') w fun t173 w =>
  pickT t171 t173 (.bool false) w fun t174 w =>
  K t174 w
def M.winnowlaw16_BufferTwice.j2 (a0 : Value) (a1 : Value) (t34 : Value) (t5 : Value) (x2 : List Value) (w : World) (K : KV) : Prop :=
  iaT P T.sl_api_Span a0 a1 w fun t77 w =>
  faT P T.api_Span t77 0 w fun t78 w =>
  ldT P T.uint64 t78 w fun t79 w =>
  fcallT P F.pbuffer_Buffer_Get [t34, t79] w fun t80 w =>
  exT P t80 0 w fun t81 w =>
  exT P t80 1 w fun t82 w =>
  exT P t80 2 w fun t83 w =>
  drawT w fun w =>
  w = w ∧ w = w ∧ quietT (fun K' => iaT P T.sl_api_Span a0 a1 w K') w fun t86 =>
  quietT (fun K' => faT P T.api_Span t86 0 w K') w fun t87 =>
  quietT (fun K' => ldT P T.uint64 t87 w K') w fun t88 =>
  w = w ∧ w = w ∧ quietT (fun K' => iaT P T.sl_api_Span a0 a1 w K') w fun t91 =>
  quietT (fun K' => faT P T.api_Span t91 1 w K') w fun t92 =>
  quietT (fun K' => ldT P T.uint64 t92 w K') w fun t93 =>
  quietT (fun K' => faT P T.api_Span t5 0 w K') w fun t94 =>
  stT P T.uint64 t94 t88 w fun _ w =>
  stabT (fun K' => ldT P T.uint64 t92 w K') w t93 ∧ stabT (fun K' => faT P T.api_Span t91 1 w K') w t92 ∧ stabT (fun K' => iaT P T.sl_api_Span a0 a1 w K') w t91 ∧ stabT (fun K' => K' a1 w) w a1 ∧ stabT (fun K' => K' a0 w) w a0 ∧ quietT (fun K' => faT P T.api_Span t5 1 w K') w fun t95 =>
  stT P T.uint64 t95 t93 w fun _ w =>
  ldT P T.api_Span t5 w fun t97 w =>
  fcallT P F.pbuffer_Buffer_Put [t34, t97, (.int .u64 9)] w fun t98 w =>
  iaT P T.sl_api_Span a0 a1 w fun t103 w =>
  faT P T.api_Span t103 0 w fun t104 w =>
  ldT P T.uint64 t104 w fun t105 w =>
  fcallT P F.pbuffer_Buffer_Get [t34, t105] w fun t106 w =>
  exT P t106 0 w fun t107 w =>
  exT P t106 1 w fun t108 w =>
  exT P t106 2 w fun t109 w =>
  joinT (fun K7 =>
  binT P .eql T.api_Kind (.tmp 110) (.const (.int .i64 0)) t98 (.int .i64 0) w fun t111 w =>
  ldT P T.api_Span t5 w fun t112 w =>
  fcallT P F.winnowref03_Right [t112] w fun t113 w =>
  binT P .eql T.api_Kind (.tmp 113) (.const (.int .i64 0)) t113 (.int .i64 0) w fun t114 w =>
  binT P .neq T.bool (.tmp 111) (.tmp 114) t111 t114 w fun t115 w =>
  guardT (isB t115 false) (fun K' => K' t81 w) w fun t117 w =>
  guardT (isB t115 false) (fun K' => K' t107 w) w fun t118 w =>
  guardT (isB t115 false) (fun K' => fcallT P F.winnowref03_Spans [t117, t118] w K') w fun t119 w =>
  guardT (isB t115 false) (fun K' => unT P .not t119 w K') w fun t120 w =>
  pickT t115 (.bool true) t120 w fun t121 w =>
  guardT (isB t121 false) (fun K' => K' t109 w) w fun t123 w =>
  guardT (isB t121 false) (fun K' => unT P .not t123 w K') w fun t124 w =>
  pickT t121 (.bool true) t124 w fun t125 w =>
  condT t125 (
  K (.bool false) w) (
  K7 [(gv x2 1)] w)) fun x7 w =>
  M.winnowlaw16_BufferTwice.j7 a0 a1 t34 t81 w K
def M.winnowlaw16_BufferTwice.j0 (x0 : List Value) (a0 : Value) (a1 : Value) (t5 : Value) (w : World) (K : KV) : Prop :=
  fcallT P F.buffer_New [(.int .i64 8), (.int .i64 8), (.int .u64 5)] w fun t33 w =>
  exT P t33 0 w fun t34 w =>
  exT P t33 1 w fun t35 w =>
  joinT (fun K1 =>
  binT P .neq T.api_Kind (.tmp 36) (.const (.int .i64 0)) t35 (.int .i64 0) w fun t37 w =>
  guardT (isB t37 false) (fun K' => K' t34 w) w fun t39 w =>
  guardT (isB t37 false) (fun K' => binT P .eql T.p_buffer_Buffer (.tmp 39) (.const (.pointer none)) t39 (.pointer none) w K') w fun t40 w =>
  pickT t37 (.bool true) t40 w fun t41 w =>
  condT t41 (
  K (.bool false) w) (
  K1 [(gv x0 0)] w)) fun x1 w =>
  joinT (fun K2 =>
  loopT [(gv x1 0), (.int .i64 0)] w fun K3 x3 w =>
  M.winnowlaw16_BufferTwice.j3 a0 x3 K2 t34 K3 w K) fun x2 w =>
  M.winnowlaw16_BufferTwice.j2 a0 a1 t34 t5 x2 w K
/-- winnow/winnowlaw16.BufferTwice -/
def M.winnowlaw16_BufferTwice (a0 a1 a2 : Value) (w : World) (K : KV) : Prop :=
  boxT P T.api_Span a2 w fun t5 w =>
  joinT (fun K0 =>
  biT P .len #[T.sl_api_Span] T.int [false] [a0] w fun t19 w =>
  binT P .gtr T.int (.tmp 19) (.const (.int .i64 60)) t19 (.int .i64 60) w fun t20 w =>
  guardT (isB t20 false) (fun K' => K' a1 w) w fun t22 w =>
  guardT (isB t20 false) (fun K' => binT P .lss T.int (.tmp 22) (.const (.int .i64 0)) t22 (.int .i64 0) w K') w fun t23 w =>
  pickT t20 (.bool true) t23 w fun t24 w =>
  guardT (isB t24 false) (fun K' => K' a1 w) w fun t26 w =>
  guardT (isB t24 false) (fun K' => K' a0 w) w fun t27 w =>
  guardT (isB t24 false) (fun K' => biT P .len #[T.sl_api_Span] T.int [false] [t27] w K') w fun t28 w =>
  guardT (isB t24 false) (fun K' => binT P .geq T.int (.tmp 26) (.tmp 28) t26 t28 w K') w fun t29 w =>
  pickT t24 (.bool true) t29 w fun t30 w =>
  condT t30 (
  fcallT P F.winnowlaw16_alive [] w fun t31 w =>
  K t31 w) (
  K0 [(.bool false)] w)) fun x0 w =>
  M.winnowlaw16_BufferTwice.j0 x0 a0 a1 t5 w K
def M.winnowlaw16_BufferTwice.L : List Nat := [0, 1, 2, 6, 7, 8, 9, 10, 11, 12, 13, 14, 15, 16, 17, 5]
def M.winnowlaw16_BufferTwice.pl : Nat → Plan := fun id => cond (Nat.beq id 14) ⟨(.go 0 (.go 1 (.go 2 (.go 3 (.go 4 (.go 5 (.go 6 (.go 7 (.go 8 (.go 9 (.go 10 (.eff 11 (.go 12 (.eff 13 .nil .stop)) .stop)))))))))))), [11, 13], false⟩ (⟨.nil, [], false⟩)
theorem M.winnowlaw16_BufferTwice.eq (a0 a1 a2 : Value) (w : World) (K : KV) : M.winnowlaw16_BufferTwice a0 a1 a2 w K = den P M.winnowlaw16_BufferTwice.L M.winnowlaw16_BufferTwice.pl (Try.f4.body.getD .skip) (argE [a0, a1, a2]) w (bodyQ P Try.f4.results.toList K) := by kernel_rfl
theorem M.winnowlaw16_BufferTwice.ok : okFn M.winnowlaw16_BufferTwice.L M.winnowlaw16_BufferTwice.pl Try.f4 (Try.f4.body.getD .skip) 3 = true := by kernel_rfl
theorem M.winnowlaw16_BufferTwice.calls (a0 a1 a2 : Value) {w : World} {K : KV} (h : M.winnowlaw16_BufferTwice a0 a1 a2 w K) : callT P F.winnowlaw16_BufferTwice [a0, a1, a2] w K :=
  callT_of_den (by kernel_rfl) Try.func4 (by kernel_rfl) M.winnowlaw16_BufferTwice.ok (M.winnowlaw16_BufferTwice.eq a0 a1 a2 w K ▸ h)
theorem M.winnowlaw16_BufferTwice.fcall (args : List Value) (w : World) (K : KV) : fcallT P F.winnowlaw16_BufferTwice args w K = callT P F.winnowlaw16_BufferTwice args w K := fcallT_eq Try.func4 (by kernel_rfl) (by kernel_rfl) args w K

def M.winnowlaw06_DiskTwice.j6 (a0 : Value) (x3 : List Value) (t27 : Value) (t31 : Value) (K5 : KL) (x6 : List Value) (w : World) (K : KV) : Prop :=
  drawT w fun w =>
  w = w ∧ w = w ∧ quietT (fun K' => iaT P T.sl_winnowlaw06_Op a0 (gv x3 1) w K') w fun t86 =>
  quietT (fun K' => faT P T.winnowlaw06_Op t86 0 w K') w fun t87 =>
  quietT (fun K' => ldT P T.int t87 w K') w fun t88 =>
  quietT (fun K' => binT P .eql T.int (.tmp 88) (.const (.int .i64 1)) t88 (.int .i64 1) w K') w fun t89 =>
  w = w ∧ quietT (fun K' => guardT (isB t89 true) (fun K' => K' t27 w) w K') w fun t91 =>
  quietT (fun K' => guardT (isB t89 true) (fun K' => K' a0 w) w K') w fun t92 =>
  quietT (fun K' => guardT (isB t89 true) (fun K' => K' (gv x3 1) w) w K') w fun t93 =>
  quietT (fun K' => guardT (isB t89 true) (fun K' => iaT P T.sl_winnowlaw06_Op t92 t93 w K') w K') w fun t94 =>
  quietT (fun K' => guardT (isB t89 true) (fun K' => faT P T.winnowlaw06_Op t94 1 w K') w K') w fun t95 =>
  quietT (fun K' => guardT (isB t89 true) (fun K' => ldT P T.int t95 w K') w K') w fun t96 =>
  quietT (fun K' => guardT (isB t89 true) (fun K' => K' t31 w) w K') w fun t98 =>
  quietT (fun K' => guardT (isB t89 true) (fun K' => K' a0 w) w K') w fun t99 =>
  quietT (fun K' => guardT (isB t89 true) (fun K' => K' (gv x3 1) w) w K') w fun t100 =>
  quietT (fun K' => guardT (isB t89 true) (fun K' => iaT P T.sl_winnowlaw06_Op t99 t100 w K') w K') w fun t101 =>
  quietT (fun K' => guardT (isB t89 true) (fun K' => faT P T.winnowlaw06_Op t101 1 w K') w K') w fun t102 =>
  quietT (fun K' => guardT (isB t89 true) (fun K' => ldT P T.int t102 w K') w K') w fun t103 =>
  guardT (isB t89 true) (fun K' => fcallT P F.pdisk_Disk_Sync [t91, t96] w K') w fun t97 w =>
  stabT (fun K' => guardT (isB t89 true) (fun K' => ldT P T.int t102 w K') w K') w t103 ∧ stabT (fun K' => guardT (isB t89 true) (fun K' => faT P T.winnowlaw06_Op t101 1 w K') w K') w t102 ∧ stabT (fun K' => guardT (isB t89 true) (fun K' => iaT P T.sl_winnowlaw06_Op t99 t100 w K') w K') w t101 ∧ stabT (fun K' => guardT (isB t89 true) (fun K' => K' (gv x3 1) w) w K') w t100 ∧ stabT (fun K' => guardT (isB t89 true) (fun K' => K' a0 w) w K') w t99 ∧ stabT (fun K' => guardT (isB t89 true) (fun K' => K' t31 w) w K') w t98 ∧ guardT (isB t89 true) (fun K' => fcallT P F.pdisk_Disk_Sync [t98, t103] w K') w fun t104 w =>
  quietT (fun K' => guardT (isB t89 true) (fun K' => binT P .neq T.api_Kind (.tmp 97) (.tmp 104) t97 t104 w K') w K') w fun t105 =>
  quietT (fun K' => pickT t89 t105 (.bool false) w K') w fun t106 =>
  condT t106 (
  K (.bool false) w) (
  K5 [(gv x6 0)] w)
def M.winnowlaw06_DiskTwice.j4 (a0 : Value) (x3 : List Value) (t27 : Value) (t31 : Value) (K3 : KL) (w : World) (K : KV) : Prop :=
  joinT (fun K5 =>
  joinT (fun K6 =>
  iaT P T.sl_winnowlaw06_Op a0 (gv x3 1) w fun t55 w =>
  faT P T.winnowlaw06_Op t55 0 w fun t56 w =>
  ldT P T.int t56 w fun t57 w =>
  binT P .eql T.int (.tmp 57) (.const (.int .i64 0)) t57 (.int .i64 0) w fun t58 w =>
  condT t58 (
  drawT w fun w =>
  w = w ∧ w = w ∧ w = w ∧ quietT (fun K' => iaT P T.sl_winnowlaw06_Op a0 (gv x3 1) w K') w fun t62 =>
  quietT (fun K' => faT P T.winnowlaw06_Op t62 1 w K') w fun t63 =>
  quietT (fun K' => ldT P T.int t63 w K') w fun t64 =>
  w = w ∧ w = w ∧ quietT (fun K' => iaT P T.sl_winnowlaw06_Op a0 (gv x3 1) w K') w fun t67 =>
  quietT (fun K' => faT P T.winnowlaw06_Op t67 3 w K') w fun t68 =>
  quietT (fun K' => ldT P T.sl_uint8 t68 w K') w fun t69 =>
  w = w ∧ w = w ∧ w = w ∧ quietT (fun K' => iaT P T.sl_winnowlaw06_Op a0 (gv x3 1) w K') w fun t74 =>
  quietT (fun K' => faT P T.winnowlaw06_Op t74 1 w K') w fun t75 =>
  quietT (fun K' => ldT P T.int t75 w K') w fun t76 =>
  w = w ∧ w = w ∧ quietT (fun K' => iaT P T.sl_winnowlaw06_Op a0 (gv x3 1) w K') w fun t79 =>
  quietT (fun K' => faT P T.winnowlaw06_Op t79 3 w K') w fun t80 =>
  quietT (fun K' => ldT P T.sl_uint8 t80 w K') w fun t81 =>
  fcallT P F.pdisk_Disk_Append [t27, t64, t69] w fun t70 w =>
  stabT (fun K' => ldT P T.sl_uint8 t80 w K') w t81 ∧ stabT (fun K' => faT P T.winnowlaw06_Op t79 3 w K') w t80 ∧ stabT (fun K' => iaT P T.sl_winnowlaw06_Op a0 (gv x3 1) w K') w t79 ∧ stabT (fun K' => K' (gv x3 1) w) w (gv x3 1) ∧ stabT (fun K' => K' a0 w) w a0 ∧ stabT (fun K' => ldT P T.int t75 w K') w t76 ∧ stabT (fun K' => faT P T.winnowlaw06_Op t74 1 w K') w t75 ∧ stabT (fun K' => iaT P T.sl_winnowlaw06_Op a0 (gv x3 1) w K') w t74 ∧ stabT (fun K' => K' (gv x3 1) w) w (gv x3 1) ∧ stabT (fun K' => K' a0 w) w a0 ∧ stabT (fun K' => K' t31 w) w t31 ∧ fcallT P F.pdisk_Disk_Append [t31, t76, t81] w fun t82 w =>
  quietT (fun K' => binT P .neq T.api_Kind (.tmp 70) (.tmp 82) t70 t82 w K') w fun t83 =>
  condT t83 (
  K (.bool false) w) (
  K6 [(gv x3 0)] w)) (
  K6 [(gv x3 0)] w)) fun x6 w =>
  M.winnowlaw06_DiskTwice.j6 a0 x3 t27 t31 K5 x6 w K) fun x5 w =>
  binT P .add T.int (.tmp 51) (.const (.int .i64 1)) (gv x3 1) (.int .i64 1) w fun t52 w =>
  K3 [(gv x5 0), t52] w
def M.winnowlaw06_DiskTwice.j3 (a0 : Value) (x3 : List Value) (K2 : KL) (t27 : Value) (t31 : Value) (K3 : KL) (w : World) (K : KV) : Prop :=
  joinT (fun K4 =>
  biT P .len #[T.sl_winnowlaw06_Op] T.int [false] [a0] w fun t49 w =>
  binT P .lss T.int (.tmp 47) (.tmp 49) (gv x3 1) t49 w fun t50 w =>
  condT t50 (
  K4 [] w) (
  K2 [(gv x3 1), (gv x3 0)] w)) fun x4 w =>
  M.winnowlaw06_DiskTwice.j4 a0 x3 t27 t31 K3 w K
def M.winnowlaw06_DiskTwice.j10 (t116 : Value) (x9 : List Value) (t27 : Value) (t31 : Value) (K9 : KL) (w : World) (K : KV) : Prop :=
  joinT (fun K11 =>
  iaT P T.sl_int t116 (gv x9 5) w fun t139 w =>
  ldT P T.int t139 w fun t140 w =>
  fcallT P F.pdisk_Disk_Read [t27, t140] w fun t141 w =>
  exT P t141 0 w fun t142 w =>
  exT P t141 1 w fun t143 w =>
  iaT P T.sl_int t116 (gv x9 5) w fun t148 w =>
  ldT P T.int t148 w fun t149 w =>
  fcallT P F.pdisk_Disk_Read [t31, t149] w fun t150 w =>
  exT P t150 0 w fun t151 w =>
  exT P t150 1 w fun t152 w =>
  binT P .neq T.api_Kind (.tmp 153) (.const (.int .i64 0)) t143 (.int .i64 0) w fun t154 w =>
  guardT (isB t154 false) (fun K' => K' t152 w) w fun t156 w =>
  guardT (isB t154 false) (fun K' => binT P .neq T.api_Kind (.tmp 156) (.const (.int .i64 0)) t156 (.int .i64 0) w K') w fun t157 w =>
  pickT t154 (.bool true) t157 w fun t158 w =>
  guardT (isB t158 false) (fun K' => K' t142 w) w fun t160 w =>
  guardT (isB t158 false) (fun K' => K' t151 w) w fun t161 w =>
  guardT (isB t158 false) (fun K' => fcallT P F.winnowref01_Same [t160, t161] w K') w fun t162 w =>
  guardT (isB t158 false) (fun K' => unT P .not t162 w K') w fun t163 w =>
  pickT t158 (.bool true) t163 w fun t164 w =>
  condT t164 (
  K (.bool false) w) (
  K11 [t142, t143, t151, t152, (gv x9 4)] w)) fun x11 w =>
  binT P .add T.int (.tmp 133) (.const (.int .i64 1)) (gv x9 5) (.int .i64 1) w fun t134 w =>
  K9 [(gv x11 0), (gv x11 1), (gv x11 2), (gv x11 3), (gv x11 4), t134] w
def M.winnowlaw06_DiskTwice.j9 (t116 : Value) (x9 : List Value) (K8 : KL) (t27 : Value) (t31 : Value) (K9 : KL) (w : World) (K : KV) : Prop :=
  joinT (fun K10 =>
  biT P .len #[T.sl_int] T.int [false] [t116] w fun t131 w =>
  binT P .lss T.int (.tmp 129) (.tmp 131) (gv x9 5) t131 w fun t132 w =>
  condT t132 (
  K10 [] w) (
  K8 [(gv x9 5), (gv x9 0), (gv x9 1), (gv x9 2), (gv x9 3), (gv x9 4)] w)) fun x10 w =>
  M.winnowlaw06_DiskTwice.j10 t116 x9 t27 t31 K9 w K
def M.winnowlaw06_DiskTwice.j2 (t27 : Value) (a1 : Value) (t31 : Value) (x2 : List Value) (w : World) (K : KV) : Prop :=
  fcallT P F.pdisk_Disk_Crash [t27, a1] w fun t109 w =>
  fcallT P F.pdisk_Disk_Crash [t31, a1] w fun t112 w =>
  fcallT P F.pdisk_Disk_Crash [t31, (.slice none 0 0)] w fun t114 w =>
  fcallT P F.pdisk_Disk_Files [t27] w fun t116 w =>
  joinT (fun K7 =>
  fcallT P F.pdisk_Disk_Files [t31] w fun t119 w =>
  fcallT P F.winnowlaw06_ints [t116, t119] w fun t120 w =>
  unT P .not t120 w fun t121 w =>
  guardT (isB t121 false) (fun K' => K' t27 w) w fun t123 w =>
  guardT (isB t121 false) (fun K' => fcallT P F.pdisk_Disk_Used [t123] w K') w fun t124 w =>
  guardT (isB t121 false) (fun K' => K' t31 w) w fun t125 w =>
  guardT (isB t121 false) (fun K' => fcallT P F.pdisk_Disk_Used [t125] w K') w fun t126 w =>
  guardT (isB t121 false) (fun K' => binT P .neq T.int (.tmp 124) (.tmp 126) t124 t126 w K') w fun t127 w =>
  pickT t121 (.bool true) t127 w fun t128 w =>
  condT t128 (
  K (.bool false) w) (
  K7 [(gv x2 1)] w)) fun x7 w =>
  joinT (fun K8 =>
  loopT [undef, undef, undef, undef, (gv x7 0), (.int .i64 0)] w fun K9 x9 w =>
  M.winnowlaw06_DiskTwice.j9 t116 x9 K8 t27 t31 K9 w K) fun x8 w =>
  fcallT P F.winnowlaw06_alive [] w fun t165 w =>
  K t165 w
def M.winnowlaw06_DiskTwice.j0 (x0 : List Value) (a0 : Value) (a1 : Value) (w : World) (K : KV) : Prop :=
  fcallT P F.disk_New [(.int .i64 100000)] w fun t26 w =>
  exT P t26 0 w fun t27 w =>
  exT P t26 1 w fun t28 w =>
  fcallT P F.disk_New [(.int .i64 100000)] w fun t30 w =>
  exT P t30 0 w fun t31 w =>
  exT P t30 1 w fun t32 w =>
  joinT (fun K1 =>
  binT P .neq T.api_Kind (.tmp 33) (.const (.int .i64 0)) t28 (.int .i64 0) w fun t34 w =>
  guardT (isB t34 false) (fun K' => K' t32 w) w fun t36 w =>
  guardT (isB t34 false) (fun K' => binT P .neq T.api_Kind (.tmp 36) (.const (.int .i64 0)) t36 (.int .i64 0) w K') w fun t37 w =>
  pickT t34 (.bool true) t37 w fun t38 w =>
  guardT (isB t38 false) (fun K' => K' t27 w) w fun t40 w =>
  guardT (isB t38 false) (fun K' => binT P .eql T.p_disk_Disk (.tmp 40) (.const (.pointer none)) t40 (.pointer none) w K') w fun t41 w =>
  pickT t38 (.bool true) t41 w fun t42 w =>
  guardT (isB t42 false) (fun K' => K' t31 w) w fun t44 w =>
  guardT (isB t42 false) (fun K' => binT P .eql T.p_disk_Disk (.tmp 44) (.const (.pointer none)) t44 (.pointer none) w K') w fun t45 w =>
  pickT t42 (.bool true) t45 w fun t46 w =>
  condT t46 (
  K (.bool false) w) (
  K1 [(gv x0 0)] w)) fun x1 w =>
  joinT (fun K2 =>
  loopT [(gv x1 0), (.int .i64 0)] w fun K3 x3 w =>
  M.winnowlaw06_DiskTwice.j3 a0 x3 K2 t27 t31 K3 w K) fun x2 w =>
  M.winnowlaw06_DiskTwice.j2 t27 a1 t31 x2 w K
/-- winnow/winnowlaw06.DiskTwice -/
def M.winnowlaw06_DiskTwice (a0 a1 : Value) (w : World) (K : KV) : Prop :=
  joinT (fun K0 =>
  fcallT P F.winnowlaw06_light [a0] w fun t17 w =>
  unT P .not t17 w fun t18 w =>
  guardT (isB t18 false) (fun K' => K' a1 w) w fun t20 w =>
  guardT (isB t18 false) (fun K' => biT P .len #[T.sl_int] T.int [false] [t20] w K') w fun t21 w =>
  guardT (isB t18 false) (fun K' => binT P .gtr T.int (.tmp 21) (.const (.int .i64 100)) t21 (.int .i64 100) w K') w fun t22 w =>
  pickT t18 (.bool true) t22 w fun t23 w =>
  condT t23 (
  fcallT P F.winnowlaw06_alive [] w fun t24 w =>
  K t24 w) (
  K0 [(.bool false)] w)) fun x0 w =>
  M.winnowlaw06_DiskTwice.j0 x0 a0 a1 w K
def M.winnowlaw06_DiskTwice.L : List Nat := [0, 1, 4, 5, 6, 7, 8, 9, 10, 11, 12, 13, 14, 15]
def M.winnowlaw06_DiskTwice.pl : Nat → Plan := fun id => cond (Nat.beq id 11) ⟨(.go 0 (.go 1 (.go 2 (.go 3 (.go 4 (.go 5 (.go 6 (.go 7 (.go 8 (.go 9 (.go 10 (.go 12 (.go 13 (.go 14 (.go 15 (.go 16 (.go 17 (.go 18 (.go 19 (.go 20 (.go 21 (.go 22 (.eff 11 (.eff 23 (.go 24 .nil) .stop) .stop))))))))))))))))))))))), [11, 23], false⟩ (cond (Nat.beq id 13) ⟨(.go 0 (.go 1 (.go 2 (.go 3 (.go 4 (.go 5 (.go 6 (.go 7 (.go 8 (.go 9 (.go 10 (.go 11 (.go 12 (.go 14 (.go 15 (.go 16 (.go 17 (.go 18 (.go 19 (.eff 13 (.eff 20 (.go 21 (.go 22 .nil)) .stop) .stop)))))))))))))))))))), [13, 20], false⟩ (⟨.nil, [], false⟩))
theorem M.winnowlaw06_DiskTwice.eq (a0 a1 : Value) (w : World) (K : KV) : M.winnowlaw06_DiskTwice a0 a1 w K = den P M.winnowlaw06_DiskTwice.L M.winnowlaw06_DiskTwice.pl (Try.f5.body.getD .skip) (argE [a0, a1]) w (bodyQ P Try.f5.results.toList K) := by kernel_rfl
theorem M.winnowlaw06_DiskTwice.ok : okFn M.winnowlaw06_DiskTwice.L M.winnowlaw06_DiskTwice.pl Try.f5 (Try.f5.body.getD .skip) 2 = true := by kernel_rfl
theorem M.winnowlaw06_DiskTwice.calls (a0 a1 : Value) {w : World} {K : KV} (h : M.winnowlaw06_DiskTwice a0 a1 w K) : callT P F.winnowlaw06_DiskTwice [a0, a1] w K :=
  callT_of_den (by kernel_rfl) Try.func5 (by kernel_rfl) M.winnowlaw06_DiskTwice.ok (M.winnowlaw06_DiskTwice.eq a0 a1 w K ▸ h)
theorem M.winnowlaw06_DiskTwice.fcall (args : List Value) (w : World) (K : KV) : fcallT P F.winnowlaw06_DiskTwice args w K = callT P F.winnowlaw06_DiskTwice args w K := fcallT_eq Try.func5 (by kernel_rfl) (by kernel_rfl) args w K

def M.winnowlaw06_DiskArmed.j9 (t53 : Value) (t24 : Value) (K5 : KL) (x7 : List Value) (t67 : Value) (x9 : List Value) (w : World) (K : KV) : Prop :=
  binT P .neq T.api_Kind (.tmp 106) (.const (.int .i64 10)) t53 (.int .i64 10) w fun t107 w =>
  guardT (isB t107 false) (fun K' => K' t24 w) w fun t109 w =>
  guardT (isB t107 false) (fun K' => fcallT P F.pdisk_Disk_Down [t109] w K') w fun t110 w =>
  guardT (isB t107 false) (fun K' => unT P .not t110 w K') w fun t111 w =>
  pickT t107 (.bool true) t111 w fun t112 w =>
  condT t112 (
  K (.bool false) w) (
  K5 [(gv x7 0), t53, t67, (gv x9 1), (gv x9 0)] w)
def M.winnowlaw06_DiskArmed.j8 (x8 : List Value) (a1 : Value) (a0 : Value) (x3 : List Value) (t53 : Value) (t24 : Value) (K5 : KL) (x7 : List Value) (t67 : Value) (w : World) (K : KV) : Prop :=
  joinT (fun K9 =>
  biT P .len #[T.sl_uint8] T.int [false] [(gv x8 1)] w fun t87 w =>
  binT P .lss T.int (.tmp 87) (.tmp 88) t87 a1 w fun t89 w =>
  guardT (isB t89 true) (fun K' => K' (gv x8 0) w) w fun t91 w =>
  guardT (isB t89 true) (fun K' => K' a1 w) w fun t92 w =>
  guardT (isB t89 true) (fun K' => binT P .lss T.int (.tmp 91) (.tmp 92) t91 t92 w K') w fun t93 w =>
  pickT t89 t93 (.bool false) w fun t94 w =>
  condT t94 (
  iaT P T.sl_sl_uint8 a0 (gv x3 5) w fun t98 w =>
  ldT P T.sl_uint8 t98 w fun t99 w =>
  binT P .sub T.int (.tmp 100) (.tmp 101) a1 (gv x8 0) w fun t102 w =>
  slT P T.sl_uint8 t99 none (some t102) none w fun t103 w =>
  biT P .append #[T.sl_uint8, T.sl_uint8] T.sl_uint8 [false, false] [(gv x8 1), t103] w fun t104 w =>
  K9 [t104, a1] w) (
  K9 [(gv x8 1), (gv x8 0)] w)) fun x9 w =>
  M.winnowlaw06_DiskArmed.j9 t53 t24 K5 x7 t67 x9 w K
def M.winnowlaw06_DiskArmed.j7 (t67 : Value) (a0 : Value) (x3 : List Value) (K5 : KL) (x7 : List Value) (t53 : Value) (a1 : Value) (t24 : Value) (w : World) (K : KV) : Prop :=
  joinT (fun K8 =>
  condT t67 (
  iaT P T.sl_sl_uint8 a0 (gv x3 5) w fun t76 w =>
  ldT P T.sl_uint8 t76 w fun t77 w =>
  biT P .len #[T.sl_uint8] T.int [false] [t77] w fun t78 w =>
  binT P .add T.int (.tmp 73) (.tmp 78) (gv x3 3) t78 w fun t79 w =>
  iaT P T.sl_sl_uint8 a0 (gv x3 5) w fun t83 w =>
  ldT P T.sl_uint8 t83 w fun t84 w =>
  biT P .append #[T.sl_uint8, T.sl_uint8] T.sl_uint8 [false, false] [(gv x3 4), t84] w fun t85 w =>
  K5 [(gv x7 0), t53, t67, t79, t85] w) (
  K8 [(gv x3 3), (gv x3 4)] w)) fun x8 w =>
  M.winnowlaw06_DiskArmed.j8 x8 a1 a0 x3 t53 t24 K5 x7 t67 w K
def M.winnowlaw06_DiskArmed.j6 (a0 : Value) (x3 : List Value) (t24 : Value) (a1 : Value) (x6 : List Value) (K5 : KL) (w : World) (K : KV) : Prop :=
  iaT P T.sl_sl_uint8 a0 (gv x3 5) w fun t51 w =>
  ldT P T.sl_uint8 t51 w fun t52 w =>
  fcallT P F.pdisk_Disk_Append [t24, (.int .i64 0), t52] w fun t53 w =>
  iaT P T.sl_sl_uint8 a0 (gv x3 5) w fun t56 w =>
  ldT P T.sl_uint8 t56 w fun t57 w =>
  biT P .len #[T.sl_uint8] T.int [false] [t57] w fun t58 w =>
  binT P .sub T.int (.tmp 59) (.tmp 60) a1 (gv x3 3) w fun t61 w =>
  binT P .leq T.int (.tmp 58) (.tmp 61) t58 t61 w fun t62 w =>
  guardT (isB t62 true) (fun K' => K' t24 w) w fun t64 w =>
  guardT (isB t62 true) (fun K' => fcallT P F.pdisk_Disk_Down [t64] w K') w fun t65 w =>
  guardT (isB t62 true) (fun K' => unT P .not t65 w K') w fun t66 w =>
  pickT t62 t66 (.bool false) w fun t67 w =>
  joinT (fun K7 =>
  binT P .eql T.api_Kind (.tmp 68) (.const (.int .i64 0)) t53 (.int .i64 0) w fun t69 w =>
  binT P .neq T.bool (.tmp 69) (.tmp 70) t69 t67 w fun t71 w =>
  condT t71 (
  K (.bool false) w) (
  K7 [(gv x6 0)] w)) fun x7 w =>
  M.winnowlaw06_DiskArmed.j7 t67 a0 x3 K5 x7 t53 a1 t24 w K
def M.winnowlaw06_DiskArmed.j4 (a0 : Value) (x3 : List Value) (t24 : Value) (a1 : Value) (K3 : KL) (w : World) (K : KV) : Prop :=
  joinT (fun K5 =>
  joinT (fun K6 =>
  iaT P T.sl_sl_uint8 a0 (gv x3 5) w fun t43 w =>
  ldT P T.sl_uint8 t43 w fun t44 w =>
  biT P .len #[T.sl_uint8] T.int [false] [t44] w fun t45 w =>
  binT P .gtr T.int (.tmp 45) (.const (.int .i64 1000)) t45 (.int .i64 1000) w fun t46 w =>
  condT t46 (
  fcallT P F.winnowlaw06_alive [] w fun t47 w =>
  K t47 w) (
  K6 [(gv x3 0)] w)) fun x6 w =>
  M.winnowlaw06_DiskArmed.j6 a0 x3 t24 a1 x6 K5 w K) fun x5 w =>
  binT P .add T.int (.tmp 39) (.const (.int .i64 1)) (gv x3 5) (.int .i64 1) w fun t40 w =>
  K3 [(gv x5 0), (gv x5 1), (gv x5 2), (gv x5 3), (gv x5 4), t40] w
def M.winnowlaw06_DiskArmed.j3 (a0 : Value) (x3 : List Value) (K2 : KL) (t24 : Value) (a1 : Value) (K3 : KL) (w : World) (K : KV) : Prop :=
  joinT (fun K4 =>
  biT P .len #[T.sl_sl_uint8] T.int [false] [a0] w fun t37 w =>
  binT P .lss T.int (.tmp 35) (.tmp 37) (gv x3 5) t37 w fun t38 w =>
  condT t38 (
  K4 [] w) (
  K2 [(gv x3 5), (gv x3 0), (gv x3 1), (gv x3 2), (gv x3 3), (gv x3 4)] w)) fun x4 w =>
  M.winnowlaw06_DiskArmed.j4 a0 x3 t24 a1 K3 w K
def M.winnowlaw06_DiskArmed.j10 (t120 : Value) (t119 : Value) (x2 : List Value) (w : World) (K : KV) : Prop :=
  binT P .eql T.api_Kind (.tmp 129) (.const (.int .i64 0)) t120 (.int .i64 0) w fun t130 w =>
  guardT (isB t130 true) (fun K' => K' t119 w) w fun t132 w =>
  guardT (isB t130 true) (fun K' => K' (gv x2 5) w) w fun t133 w =>
  guardT (isB t130 true) (fun K' => fcallT P F.winnowref01_Same [t132, t133] w K') w fun t134 w =>
  pickT t130 t134 (.bool false) w fun t135 w =>
  guardT (isB t135 true) (fun K' => fcallT P F.winnowlaw06_alive [] w K') w fun t137 w =>
  pickT t135 t137 (.bool false) w fun t138 w =>
  K t138 w
def M.winnowlaw06_DiskArmed.j2 (t24 : Value) (a0 : Value) (x2 : List Value) (w : World) (K : KV) : Prop :=
  bsT P T.sl_int 1 #[(0, (.int .i64 1048576))] w fun t114 w =>
  fcallT P F.pdisk_Disk_Crash [t24, t114] w fun t115 w =>
  fcallT P F.pdisk_Disk_Read [t24, (.int .i64 0)] w fun t118 w =>
  exT P t118 0 w fun t119 w =>
  exT P t118 1 w fun t120 w =>
  joinT (fun K10 =>
  biT P .len #[T.sl_sl_uint8] T.int [false] [a0] w fun t122 w =>
  binT P .eql T.int (.tmp 122) (.const (.int .i64 0)) t122 (.int .i64 0) w fun t123 w =>
  condT t123 (
  binT P .eql T.api_Kind (.tmp 124) (.const (.int .i64 11)) t120 (.int .i64 11) w fun t125 w =>
  guardT (isB t125 true) (fun K' => fcallT P F.winnowlaw06_alive [] w K') w fun t127 w =>
  pickT t125 t127 (.bool false) w fun t128 w =>
  K t128 w) (
  K10 [(gv x2 1)] w)) fun x10 w =>
  M.winnowlaw06_DiskArmed.j10 t120 t119 x2 w K
def M.winnowlaw06_DiskArmed.j1 (t24 : Value) (a1 : Value) (x1 : List Value) (a0 : Value) (w : World) (K : KV) : Prop :=
  fcallT P F.pdisk_Disk_Arm [t24, a1] w fun t34 w =>
  joinT (fun K2 =>
  loopT [(gv x1 0), undef, undef, (.int .i64 0), (.slice none 0 0), (.int .i64 0)] w fun K3 x3 w =>
  M.winnowlaw06_DiskArmed.j3 a0 x3 K2 t24 a1 K3 w K) fun x2 w =>
  M.winnowlaw06_DiskArmed.j2 t24 a0 x2 w K
def M.winnowlaw06_DiskArmed.j0 (x0 : List Value) (a1 : Value) (a0 : Value) (w : World) (K : KV) : Prop :=
  fcallT P F.disk_New [(.int .i64 1048576)] w fun t23 w =>
  exT P t23 0 w fun t24 w =>
  exT P t23 1 w fun t25 w =>
  joinT (fun K1 =>
  binT P .neq T.api_Kind (.tmp 26) (.const (.int .i64 0)) t25 (.int .i64 0) w fun t27 w =>
  guardT (isB t27 false) (fun K' => K' t24 w) w fun t29 w =>
  guardT (isB t27 false) (fun K' => binT P .eql T.p_disk_Disk (.tmp 29) (.const (.pointer none)) t29 (.pointer none) w K') w fun t30 w =>
  pickT t27 (.bool true) t30 w fun t31 w =>
  condT t31 (
  K (.bool false) w) (
  K1 [(gv x0 0)] w)) fun x1 w =>
  M.winnowlaw06_DiskArmed.j1 t24 a1 x1 a0 w K
/-- winnow/winnowlaw06.DiskArmed -/
def M.winnowlaw06_DiskArmed (a0 a1 : Value) (w : World) (K : KV) : Prop :=
  joinT (fun K0 =>
  biT P .len #[T.sl_sl_uint8] T.int [false] [a0] w fun t15 w =>
  binT P .gtr T.int (.tmp 15) (.const (.int .i64 40)) t15 (.int .i64 40) w fun t16 w =>
  guardT (isB t16 false) (fun K' => K' a1 w) w fun t18 w =>
  guardT (isB t16 false) (fun K' => binT P .lss T.int (.tmp 18) (.const (.int .i64 0)) t18 (.int .i64 0) w K') w fun t19 w =>
  pickT t16 (.bool true) t19 w fun t20 w =>
  condT t20 (
  fcallT P F.winnowlaw06_alive [] w fun t21 w =>
  K t21 w) (
  K0 [(.bool false)] w)) fun x0 w =>
  M.winnowlaw06_DiskArmed.j0 x0 a1 a0 w K
def M.winnowlaw06_DiskArmed.L : List Nat := [0, 1, 4, 5, 6, 7, 8, 9, 10, 11, 12, 13]
def M.winnowlaw06_DiskArmed.pl : Nat → Plan := fun id => ⟨.nil, [], false⟩
theorem M.winnowlaw06_DiskArmed.eq (a0 a1 : Value) (w : World) (K : KV) : M.winnowlaw06_DiskArmed a0 a1 w K = den P M.winnowlaw06_DiskArmed.L M.winnowlaw06_DiskArmed.pl (Try.f6.body.getD .skip) (argE [a0, a1]) w (bodyQ P Try.f6.results.toList K) := by kernel_rfl
theorem M.winnowlaw06_DiskArmed.ok : okFn M.winnowlaw06_DiskArmed.L M.winnowlaw06_DiskArmed.pl Try.f6 (Try.f6.body.getD .skip) 2 = true := by kernel_rfl
theorem M.winnowlaw06_DiskArmed.calls (a0 a1 : Value) {w : World} {K : KV} (h : M.winnowlaw06_DiskArmed a0 a1 w K) : callT P F.winnowlaw06_DiskArmed [a0, a1] w K :=
  callT_of_den (by kernel_rfl) Try.func6 (by kernel_rfl) M.winnowlaw06_DiskArmed.ok (M.winnowlaw06_DiskArmed.eq a0 a1 w K ▸ h)
theorem M.winnowlaw06_DiskArmed.fcall (args : List Value) (w : World) (K : KV) : fcallT P F.winnowlaw06_DiskArmed args w K = callT P F.winnowlaw06_DiskArmed args w K := fcallT_eq Try.func6 (by kernel_rfl) (by kernel_rfl) args w K

def M.winnowlaw06_DiskFast.j4 (a1 : Value) (x3 : List Value) (t22 : Value) (K3 : KL) (w : World) (K : KV) : Prop :=
  joinT (fun K5 =>
  iaT P T.sl_winnowlaw06_Op a1 (gv x3 5) w fun t49 w =>
  ldT P T.winnowlaw06_Op t49 w fun t50 w =>
  alT P T.winnowlaw06_Op w fun t8 w =>
  stT P T.winnowlaw06_Op t8 t50 w fun _ w =>
  faT P T.winnowlaw06_Op t8 0 w fun t52 w =>
  ldT P T.int t52 w fun t53 w =>
  binT P .eql T.int (.tmp 53) (.const (.int .i64 0)) t53 (.int .i64 0) w fun t54 w =>
  condT t54 (
  faT P T.winnowlaw06_Op t8 1 w fun t56 w =>
  ldT P T.int t56 w fun t57 w =>
  faT P T.winnowlaw06_Op t8 3 w fun t58 w =>
  ldT P T.sl_uint8 t58 w fun t59 w =>
  fcallT P F.pdisk_Disk_Append [t22, t57, t59] w fun t60 w =>
  K5 [t54, (gv x3 1), (gv x3 2), (gv x3 3), (gv x3 4)] w) (
  faT P T.winnowlaw06_Op t8 0 w fun t62 w =>
  ldT P T.int t62 w fun t63 w =>
  binT P .eql T.int (.tmp 63) (.const (.int .i64 1)) t63 (.int .i64 1) w fun t64 w =>
  condT t64 (
  faT P T.winnowlaw06_Op t8 1 w fun t66 w =>
  ldT P T.int t66 w fun t67 w =>
  fcallT P F.pdisk_Disk_Sync [t22, t67] w fun t68 w =>
  K5 [t54, t64, (gv x3 2), (gv x3 3), (gv x3 4)] w) (
  faT P T.winnowlaw06_Op t8 0 w fun t70 w =>
  ldT P T.int t70 w fun t71 w =>
  binT P .eql T.int (.tmp 71) (.const (.int .i64 3)) t71 (.int .i64 3) w fun t72 w =>
  guardT (isB t72 true) (fun K' => faT P T.winnowlaw06_Op t8 1 w K') w fun t74 w =>
  guardT (isB t72 true) (fun K' => ldT P T.int t74 w K') w fun t75 w =>
  guardT (isB t72 true) (fun K' => binT P .neq T.int (.tmp 75) (.const (.int .i64 3)) t75 (.int .i64 3) w K') w fun t76 w =>
  pickT t72 t76 (.bool false) w fun t77 w =>
  condT t77 (
  faT P T.winnowlaw06_Op t8 1 w fun t79 w =>
  ldT P T.int t79 w fun t80 w =>
  fcallT P F.pdisk_Disk_Remove [t22, t80] w fun t81 w =>
  K5 [t54, t64, t77, (gv x3 3), (gv x3 4)] w) (
  faT P T.winnowlaw06_Op t8 0 w fun t83 w =>
  ldT P T.int t83 w fun t84 w =>
  binT P .eql T.int (.tmp 84) (.const (.int .i64 4)) t84 (.int .i64 4) w fun t85 w =>
  condT t85 (
  faT P T.winnowlaw06_Op t8 2 w fun t87 w =>
  ldT P T.int t87 w fun t88 w =>
  fcallT P F.pdisk_Disk_Arm [t22, t88] w fun t89 w =>
  K5 [t54, t64, t77, t85, (gv x3 4)] w) (
  faT P T.winnowlaw06_Op t8 0 w fun t91 w =>
  ldT P T.int t91 w fun t92 w =>
  binT P .eql T.int (.tmp 92) (.const (.int .i64 5)) t92 (.int .i64 5) w fun t93 w =>
  condT t93 (
  faT P T.winnowlaw06_Op t8 4 w fun t95 w =>
  ldT P T.sl_int t95 w fun t96 w =>
  fcallT P F.pdisk_Disk_Crash [t22, t96] w fun t97 w =>
  K5 [t54, t64, t77, t85, t93] w) (
  K5 [t54, t64, t77, t85, t93] w)))))) fun x5 w =>
  binT P .add T.int (.tmp 45) (.const (.int .i64 1)) (gv x3 5) (.int .i64 1) w fun t46 w =>
  K3 [(gv x5 0), (gv x5 1), (gv x5 2), (gv x5 3), (gv x5 4), t46] w
def M.winnowlaw06_DiskFast.j3 (a1 : Value) (x3 : List Value) (K2 : KL) (t22 : Value) (K3 : KL) (w : World) (K : KV) : Prop :=
  joinT (fun K4 =>
  biT P .len #[T.sl_winnowlaw06_Op] T.int [false] [a1] w fun t43 w =>
  binT P .lss T.int (.tmp 41) (.tmp 43) (gv x3 5) t43 w fun t44 w =>
  condT t44 (
  K4 [] w) (
  K2 [(gv x3 5), (gv x3 0), (gv x3 1), (gv x3 2), (gv x3 3), (gv x3 4)] w)) fun x4 w =>
  M.winnowlaw06_DiskFast.j4 a1 x3 t22 K3 w K
def M.winnowlaw06_DiskFast.j2 (t22 : Value) (a0 : Value) (w : World) (K : KV) : Prop :=
  fcallT P F.pdisk_Disk_Crash [t22, (.slice none 0 0)] w fun t99 w =>
  fcallT P F.pdisk_Disk_Read [t22, (.int .i64 3)] w fun t102 w =>
  exT P t102 0 w fun t103 w =>
  exT P t102 1 w fun t104 w =>
  binT P .eql T.api_Kind (.tmp 105) (.const (.int .i64 0)) t104 (.int .i64 0) w fun t106 w =>
  guardT (isB t106 true) (fun K' => K' t103 w) w fun t108 w =>
  guardT (isB t106 true) (fun K' => biT P .len #[T.sl_uint8] T.int [false] [t108] w K') w fun t109 w =>
  guardT (isB t106 true) (fun K' => K' a0 w) w fun t110 w =>
  guardT (isB t106 true) (fun K' => biT P .len #[T.sl_uint8] T.int [false] [t110] w K') w fun t111 w =>
  guardT (isB t106 true) (fun K' => binT P .geq T.int (.tmp 109) (.tmp 111) t109 t111 w K') w fun t112 w =>
  pickT t106 t112 (.bool false) w fun t113 w =>
  guardT (isB t113 true) (fun K' => K' t103 w) w fun t115 w =>
  guardT (isB t113 true) (fun K' => K' a0 w) w fun t116 w =>
  guardT (isB t113 true) (fun K' => biT P .len #[T.sl_uint8] T.int [false] [t116] w K') w fun t117 w =>
  guardT (isB t113 true) (fun K' => slT P T.sl_uint8 t115 none (some t117) none w K') w fun t118 w =>
  guardT (isB t113 true) (fun K' => K' a0 w) w fun t119 w =>
  guardT (isB t113 true) (fun K' => fcallT P F.winnowref01_Same [t118, t119] w K') w fun t120 w =>
  pickT t113 t120 (.bool false) w fun t121 w =>
  guardT (isB t121 true) (fun K' => fcallT P F.winnowlaw06_alive [] w K') w fun t123 w =>
  pickT t121 t123 (.bool false) w fun t124 w =>
  K t124 w
def M.winnowlaw06_DiskFast.j0 (a0 : Value) (x0 : List Value) (a1 : Value) (w : World) (K : KV) : Prop :=
  fcallT P F.disk_New [(.int .i64 100000)] w fun t21 w =>
  exT P t21 0 w fun t22 w =>
  exT P t21 1 w fun t23 w =>
  joinT (fun K1 =>
  binT P .neq T.api_Kind (.tmp 24) (.const (.int .i64 0)) t23 (.int .i64 0) w fun t25 w =>
  guardT (isB t25 false) (fun K' => K' t22 w) w fun t27 w =>
  guardT (isB t25 false) (fun K' => binT P .eql T.p_disk_Disk (.tmp 27) (.const (.pointer none)) t27 (.pointer none) w K') w fun t28 w =>
  pickT t25 (.bool true) t28 w fun t29 w =>
  guardT (isB t29 false) (fun K' => K' t22 w) w fun t31 w =>
  guardT (isB t29 false) (fun K' => K' a0 w) w fun t32 w =>
  guardT (isB t29 false) (fun K' => fcallT P F.pdisk_Disk_Append [t31, (.int .i64 3), t32] w K') w fun t33 w =>
  guardT (isB t29 false) (fun K' => binT P .neq T.api_Kind (.tmp 33) (.const (.int .i64 0)) t33 (.int .i64 0) w K') w fun t34 w =>
  pickT t29 (.bool true) t34 w fun t35 w =>
  guardT (isB t35 false) (fun K' => K' t22 w) w fun t37 w =>
  guardT (isB t35 false) (fun K' => fcallT P F.pdisk_Disk_Sync [t37, (.int .i64 3)] w K') w fun t38 w =>
  guardT (isB t35 false) (fun K' => binT P .neq T.api_Kind (.tmp 38) (.const (.int .i64 0)) t38 (.int .i64 0) w K') w fun t39 w =>
  pickT t35 (.bool true) t39 w fun t40 w =>
  condT t40 (
  K (.bool false) w) (
  K1 [(gv x0 0)] w)) fun x1 w =>
  joinT (fun K2 =>
  loopT [undef, undef, undef, undef, undef, (.int .i64 0)] w fun K3 x3 w =>
  M.winnowlaw06_DiskFast.j3 a1 x3 K2 t22 K3 w K) fun x2 w =>
  M.winnowlaw06_DiskFast.j2 t22 a0 w K
/-- winnow/winnowlaw06.DiskFast -/
def M.winnowlaw06_DiskFast (a0 a1 : Value) (w : World) (K : KV) : Prop :=
  joinT (fun K0 =>
  fcallT P F.winnowlaw06_light [a1] w fun t12 w =>
  unT P .not t12 w fun t13 w =>
  guardT (isB t13 false) (fun K' => K' a0 w) w fun t15 w =>
  guardT (isB t13 false) (fun K' => biT P .len #[T.sl_uint8] T.int [false] [t15] w K') w fun t16 w =>
  guardT (isB t13 false) (fun K' => binT P .gtr T.int (.tmp 16) (.const (.int .i64 1000)) t16 (.int .i64 1000) w K') w fun t17 w =>
  pickT t13 (.bool true) t17 w fun t18 w =>
  condT t18 (
  fcallT P F.winnowlaw06_alive [] w fun t19 w =>
  K t19 w) (
  K0 [(.bool false)] w)) fun x0 w =>
  M.winnowlaw06_DiskFast.j0 a0 x0 a1 w K
def M.winnowlaw06_DiskFast.L : List Nat := [0, 1, 4, 5, 6, 7, 51, 61, 69, 82, 90, 9, 10]
def M.winnowlaw06_DiskFast.pl : Nat → Plan := fun id => ⟨.nil, [], false⟩
theorem M.winnowlaw06_DiskFast.eq (a0 a1 : Value) (w : World) (K : KV) : M.winnowlaw06_DiskFast a0 a1 w K = den P M.winnowlaw06_DiskFast.L M.winnowlaw06_DiskFast.pl (Try.f7.body.getD .skip) (argE [a0, a1]) w (bodyQ P Try.f7.results.toList K) := by kernel_rfl
theorem M.winnowlaw06_DiskFast.ok : okFn M.winnowlaw06_DiskFast.L M.winnowlaw06_DiskFast.pl Try.f7 (Try.f7.body.getD .skip) 2 = true := by kernel_rfl
theorem M.winnowlaw06_DiskFast.calls (a0 a1 : Value) {w : World} {K : KV} (h : M.winnowlaw06_DiskFast a0 a1 w K) : callT P F.winnowlaw06_DiskFast [a0, a1] w K :=
  callT_of_den (by kernel_rfl) Try.func7 (by kernel_rfl) M.winnowlaw06_DiskFast.ok (M.winnowlaw06_DiskFast.eq a0 a1 w K ▸ h)
theorem M.winnowlaw06_DiskFast.fcall (args : List Value) (w : World) (K : KV) : fcallT P F.winnowlaw06_DiskFast args w K = callT P F.winnowlaw06_DiskFast args w K := fcallT_eq Try.func7 (by kernel_rfl) (by kernel_rfl) args w K

end Go.Proofs.Ytgcpljghnlohbaa
