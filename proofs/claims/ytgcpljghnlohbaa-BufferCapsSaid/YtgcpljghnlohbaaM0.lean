/-
  Printed by wip/Shallow.lean: functions of the program, read shallow; each is what its code does. No condition.
-/
import Derived.Test.YtgcpljghnlohbaaN
set_option maxRecDepth 1000000
namespace Go.Proofs.Ytgcpljghnlohbaa
open Go.Eng

def M.winnowlaw16_BufferDue.j8 (x7 : List Value) (x2 : List Value) (a1 : Value) (K7 : KL) (w : World) (K : KV) : Prop :=
  joinT (fun K9 =>
  drawT w fun w =>
  w = w ∧ w = w ∧ quietT (fun K' => guardT (isB (gv x7 0) false) (fun K' => K' (gv x2 3) w) w K') w fun t89 =>
  quietT (fun K' => guardT (isB (gv x7 0) false) (fun K' => K' (gv x7 1) w) w K') w fun t90 =>
  quietT (fun K' => guardT (isB (gv x7 0) false) (fun K' => iaT P T.sl_uint64 t89 t90 w K') w K') w fun t91 =>
  quietT (fun K' => guardT (isB (gv x7 0) false) (fun K' => ldT P T.uint64 t91 w K') w K') w fun t92 =>
  quietT (fun K' => guardT (isB (gv x7 0) false) (fun K' => K' a1 w) w K') w fun t93 =>
  quietT (fun K' => guardT (isB (gv x7 0) false) (fun K' => K' (gv x2 6) w) w K') w fun t94 =>
  quietT (fun K' => guardT (isB (gv x7 0) false) (fun K' => iaT P T.sl_api_Span t93 t94 w K') w K') w fun t95 =>
  quietT (fun K' => guardT (isB (gv x7 0) false) (fun K' => faT P T.api_Span t95 0 w K') w K') w fun t96 =>
  quietT (fun K' => guardT (isB (gv x7 0) false) (fun K' => ldT P T.uint64 t96 w K') w K') w fun t97 =>
  quietT (fun K' => guardT (isB (gv x7 0) false) (fun K' => binT P .eql T.uint64 (.tmp 92) (.tmp 97) t92 t97 w K') w K') w fun t98 =>
  quietT (fun K' => pickT (gv x7 0) (.bool true) t98 w K') w fun t99 =>
  K9 [t99] w) fun x9 w =>
  binT P .add T.int (.tmp 85) (.const (.int .i64 1)) (gv x7 1) (.int .i64 1) w fun t86 w =>
  K7 [(gv x9 0), t86] w
def M.winnowlaw16_BufferDue.j7 (x2 : List Value) (x7 : List Value) (K6 : KL) (a1 : Value) (K7 : KL) (w : World) (K : KV) : Prop :=
  joinT (fun K8 =>
  biT P .len #[T.sl_uint64] T.int [false] [(gv x2 3)] w fun t83 w =>
  binT P .lss T.int (.tmp 81) (.tmp 83) (gv x7 1) t83 w fun t84 w =>
  condT t84 (
  K8 [] w) (
  K6 [(gv x7 1), (gv x7 0)] w)) fun x8 w =>
  M.winnowlaw16_BufferDue.j8 x7 x2 a1 K7 w K
def M.winnowlaw16_BufferDue.j6 (x6 : List Value) (a1 : Value) (x2 : List Value) (a0 : Value) (a2 : Value) (K4 : KL) (x5 : List Value) (w : World) (K : KV) : Prop :=
  joinT (fun K10 =>
  unT P .not (gv x6 1) w fun t101 w =>
  condT t101 (
  iaT P T.sl_api_Span a1 (gv x2 6) w fun t105 w =>
  faT P T.api_Span t105 0 w fun t106 w =>
  ldT P T.uint64 t106 w fun t107 w =>
  bsT P T.sl_uint64 1 #[(0, t107)] w fun t108 w =>
  biT P .append #[T.sl_uint64, T.sl_uint64] T.sl_uint64 [false, false] [(gv x2 3), t108] w fun t109 w =>
  binT P .add T.uint64 (.tmp 111) (.tmp 112) (gv x2 5) a0 w fun t113 w =>
  bsT P T.sl_uint64 1 #[(0, t113)] w fun t114 w =>
  biT P .append #[T.sl_uint64, T.sl_uint64] T.sl_uint64 [false, false] [(gv x2 4), t114] w fun t115 w =>
  K10 [t109, t115] w) (
  K10 [(gv x2 3), (gv x2 4)] w)) fun x10 w =>
  binT P .add T.uint64 (.tmp 116) (.tmp 117) (gv x2 5) a2 w fun t118 w =>
  K4 [(gv x5 0), (gv x6 1), (gv x6 0), (gv x10 0), (gv x10 1), t118] w
def M.winnowlaw16_BufferDue.j3 (a1 : Value) (x2 : List Value) (t26 : Value) (a0 : Value) (a2 : Value) (K2 : KL) (w : World) (K : KV) : Prop :=
  joinT (fun K4 =>
  joinT (fun K5 =>
  iaT P T.sl_api_Span a1 (gv x2 6) w fun t56 w =>
  faT P T.api_Span t56 6 w fun t57 w =>
  ldT P T.string t57 w fun t58 w =>
  biT P .len #[T.string] T.int [false] [t58] w fun t59 w =>
  binT P .gtr T.int (.tmp 59) (.const (.int .i64 200)) t59 (.int .i64 200) w fun t60 w =>
  guardT (isB t60 false) (fun K' => K' a1 w) w fun t62 w =>
  guardT (isB t60 false) (fun K' => K' (gv x2 6) w) w fun t63 w =>
  guardT (isB t60 false) (fun K' => iaT P T.sl_api_Span t62 t63 w K') w fun t64 w =>
  guardT (isB t60 false) (fun K' => faT P T.api_Span t64 5 w K') w fun t65 w =>
  guardT (isB t60 false) (fun K' => ldT P T.string t65 w K') w fun t66 w =>
  guardT (isB t60 false) (fun K' => biT P .len #[T.string] T.int [false] [t66] w K') w fun t67 w =>
  guardT (isB t60 false) (fun K' => binT P .gtr T.int (.tmp 67) (.const (.int .i64 200)) t67 (.int .i64 200) w K') w fun t68 w =>
  pickT t60 (.bool true) t68 w fun t69 w =>
  guardT (isB t69 false) (fun K' => K' t26 w) w fun t71 w =>
  guardT (isB t69 false) (fun K' => K' a1 w) w fun t72 w =>
  guardT (isB t69 false) (fun K' => K' (gv x2 6) w) w fun t73 w =>
  guardT (isB t69 false) (fun K' => iaT P T.sl_api_Span t72 t73 w K') w fun t74 w =>
  guardT (isB t69 false) (fun K' => ldT P T.api_Span t74 w K') w fun t75 w =>
  guardT (isB t69 false) (fun K' => K' (gv x2 5) w) w fun t76 w =>
  guardT (isB t69 false) (fun K' => fcallT P F.pbuffer_Buffer_Put [t71, t75, t76] w K') w fun t77 w =>
  guardT (isB t69 false) (fun K' => binT P .neq T.api_Kind (.tmp 77) (.const (.int .i64 0)) t77 (.int .i64 0) w K') w fun t78 w =>
  pickT t69 (.bool true) t78 w fun t79 w =>
  condT t79 (
  fcallT P F.winnowlaw16_alive [] w fun t80 w =>
  K t80 w) (
  K5 [(gv x2 0)] w)) fun x5 w =>
  joinT (fun K6 =>
  loopT [(.bool false), (.int .i64 0)] w fun K7 x7 w =>
  M.winnowlaw16_BufferDue.j7 x2 x7 K6 a1 K7 w K) fun x6 w =>
  M.winnowlaw16_BufferDue.j6 x6 a1 x2 a0 a2 K4 x5 w K) fun x4 w =>
  binT P .add T.int (.tmp 52) (.const (.int .i64 1)) (gv x2 6) (.int .i64 1) w fun t53 w =>
  K2 [(gv x4 0), (gv x4 1), (gv x4 2), (gv x4 3), (gv x4 4), (gv x4 5), t53] w
def M.winnowlaw16_BufferDue.j2 (a1 : Value) (x2 : List Value) (K1 : KL) (t26 : Value) (a0 : Value) (a2 : Value) (K2 : KL) (w : World) (K : KV) : Prop :=
  joinT (fun K3 =>
  biT P .len #[T.sl_api_Span] T.int [false] [a1] w fun t50 w =>
  binT P .lss T.int (.tmp 48) (.tmp 50) (gv x2 6) t50 w fun t51 w =>
  condT t51 (
  K3 [] w) (
  K1 [(gv x2 6), (gv x2 0), (gv x2 1), (gv x2 2), (gv x2 3), (gv x2 4), (gv x2 5)] w)) fun x3 w =>
  M.winnowlaw16_BufferDue.j3 a1 x2 t26 a0 a2 K2 w K
def M.winnowlaw16_BufferDue.j17 (x16 : List Value) (t121 : Value) (x1 : List Value) (x12 : List Value) (K16 : KL) (w : World) (K : KV) : Prop :=
  joinT (fun K18 =>
  drawT w fun w =>
  w = w ∧ w = w ∧ quietT (fun K' => guardT (isB (gv x16 0) false) (fun K' => K' t121 w) w K') w fun t136 =>
  quietT (fun K' => guardT (isB (gv x16 0) false) (fun K' => K' (gv x16 1) w) w K') w fun t137 =>
  quietT (fun K' => guardT (isB (gv x16 0) false) (fun K' => iaT P T.sl_uint64 t136 t137 w K') w K') w fun t138 =>
  quietT (fun K' => guardT (isB (gv x16 0) false) (fun K' => ldT P T.uint64 t138 w K') w K') w fun t139 =>
  quietT (fun K' => guardT (isB (gv x16 0) false) (fun K' => K' (gv x1 4) w) w K') w fun t140 =>
  quietT (fun K' => guardT (isB (gv x16 0) false) (fun K' => K' (gv x12 4) w) w K') w fun t141 =>
  quietT (fun K' => guardT (isB (gv x16 0) false) (fun K' => iaT P T.sl_uint64 t140 t141 w K') w K') w fun t142 =>
  quietT (fun K' => guardT (isB (gv x16 0) false) (fun K' => ldT P T.uint64 t142 w K') w K') w fun t143 =>
  quietT (fun K' => guardT (isB (gv x16 0) false) (fun K' => binT P .eql T.uint64 (.tmp 139) (.tmp 143) t139 t143 w K') w K') w fun t144 =>
  quietT (fun K' => pickT (gv x16 0) (.bool true) t144 w K') w fun t145 =>
  K18 [t145] w) fun x18 w =>
  binT P .add T.int (.tmp 132) (.const (.int .i64 1)) (gv x16 1) (.int .i64 1) w fun t133 w =>
  K16 [(gv x18 0), t133] w
def M.winnowlaw16_BufferDue.j16 (t121 : Value) (x16 : List Value) (K15 : KL) (x1 : List Value) (x12 : List Value) (K16 : KL) (w : World) (K : KV) : Prop :=
  joinT (fun K17 =>
  biT P .len #[T.sl_uint64] T.int [false] [t121] w fun t130 w =>
  binT P .lss T.int (.tmp 128) (.tmp 130) (gv x16 1) t130 w fun t131 w =>
  condT t131 (
  K17 [] w) (
  K15 [(gv x16 1), (gv x16 0)] w)) fun x17 w =>
  M.winnowlaw16_BufferDue.j17 x16 t121 x1 x12 K16 w K
def M.winnowlaw16_BufferDue.j15 (x1 : List Value) (x12 : List Value) (a3 : Value) (x15 : List Value) (K14 : KL) (w : World) (K : KV) : Prop :=
  joinT (fun K19 =>
  iaT P T.sl_uint64 (gv x1 5) (gv x12 4) w fun t149 w =>
  ldT P T.uint64 t149 w fun t150 w =>
  binT P .leq T.uint64 (.tmp 150) (.tmp 151) t150 a3 w fun t152 w =>
  binT P .neq T.bool (.tmp 146) (.tmp 152) (gv x15 1) t152 w fun t153 w =>
  condT t153 (
  K (.bool false) w) (
  K19 [(gv x12 2)] w)) fun x19 w =>
  condT (gv x15 1) (
  binT P .add T.int (.tmp 155) (.const (.int .i64 1)) (gv x12 3) (.int .i64 1) w fun t156 w =>
  K14 [(gv x15 1), (gv x15 0), (gv x19 0), t156] w) (
  K14 [(gv x15 1), (gv x15 0), (gv x19 0), (gv x12 3)] w)
def M.winnowlaw16_BufferDue.j13 (t121 : Value) (x1 : List Value) (x12 : List Value) (a3 : Value) (K12 : KL) (w : World) (K : KV) : Prop :=
  joinT (fun K14 =>
  joinT (fun K15 =>
  loopT [(.bool false), (.int .i64 0)] w fun K16 x16 w =>
  M.winnowlaw16_BufferDue.j16 t121 x16 K15 x1 x12 K16 w K) fun x15 w =>
  M.winnowlaw16_BufferDue.j15 x1 x12 a3 x15 K14 w K) fun x14 w =>
  binT P .add T.int (.tmp 126) (.const (.int .i64 1)) (gv x12 4) (.int .i64 1) w fun t127 w =>
  K12 [(gv x14 0), (gv x14 1), (gv x14 2), (gv x14 3), t127] w
def M.winnowlaw16_BufferDue.j12 (x1 : List Value) (x12 : List Value) (K11 : KL) (t121 : Value) (a3 : Value) (K12 : KL) (w : World) (K : KV) : Prop :=
  joinT (fun K13 =>
  biT P .len #[T.sl_uint64] T.int [false] [(gv x1 4)] w fun t124 w =>
  binT P .lss T.int (.tmp 122) (.tmp 124) (gv x12 4) t124 w fun t125 w =>
  condT t125 (
  K13 [] w) (
  K11 [(gv x12 4), (gv x12 0), (gv x12 1), (gv x12 2), (gv x12 3)] w)) fun x13 w =>
  M.winnowlaw16_BufferDue.j13 t121 x1 x12 a3 K12 w K
def M.winnowlaw16_BufferDue.j11 (a3 : Value) (t26 : Value) (t121 : Value) (x11 : List Value) (w : World) (K : KV) : Prop :=
  binT P .add T.uint64 (.tmp 158) (.const (.int .u64 5)) a3 (.int .u64 5) w fun t159 w =>
  fcallT P F.pbuffer_Buffer_Due [t26, t159] w fun t160 w =>
  biT P .len #[T.sl_uint64] T.int [false] [t121] w fun t163 w =>
  binT P .eql T.int (.tmp 161) (.tmp 163) (gv x11 4) t163 w fun t164 w =>
  guardT (isB t164 true) (fun K' => K' t160 w) w fun t166 w =>
  guardT (isB t164 true) (fun K' => biT P .len #[T.sl_uint64] T.int [false] [t166] w K') w fun t167 w =>
  guardT (isB t164 true) (fun K' => K' t121 w) w fun t168 w =>
  guardT (isB t164 true) (fun K' => biT P .len #[T.sl_uint64] T.int [false] [t168] w K') w fun t169 w =>
  guardT (isB t164 true) (fun K' => binT P .geq T.int (.tmp 167) (.tmp 169) t167 t169 w K') w fun t170 w =>
  pickT t164 t170 (.bool false) w fun t171 w =>
  guardT (isB t171 true) (fun K' => K' t160 w) w fun t173 w =>
  guardT (isB t171 true) (fun K' => K' t121 w) w fun t174 w =>
  guardT (isB t171 true) (fun K' => biT P .len #[T.sl_uint64] T.int [false] [t174] w K') w fun t175 w =>
  guardT (isB t171 true) (fun K' => slT P T.sl_uint64 t173 none (some t175) none w K') w fun t176 w =>
  guardT (isB t171 true) (fun K' => K' t121 w) w fun t177 w =>
  guardT (isB t171 true) (fun K' => fcallT P F.winnowlaw16_uints [t176, t177] w K') w fun t178 w =>
  pickT t171 t178 (.bool false) w fun t179 w =>
  guardT (isB t179 true) (fun K' => K' t26 w) w fun t181 w =>
  guardT (isB t179 true) (fun K' => K' a3 w) w fun t182 w =>
  guardT (isB t179 true) (fun K' => fcallT P F.pbuffer_Buffer_Due [t181, t182] w K') w fun t183 w =>
  guardT (isB t179 true) (fun K' => K' t121 w) w fun t184 w =>
  guardT (isB t179 true) (fun K' => fcallT P F.winnowlaw16_uints [t183, t184] w K') w fun t185 w =>
  pickT t179 t185 (.bool false) w fun t186 w =>
  guardT (isB t186 true) (fun K' => fcallT P F.winnowlaw16_alive [] w K') w fun t188 w =>
  pickT t186 t188 (.bool false) w fun t189 w =>
  K t189 w
def M.winnowlaw16_BufferDue.j1 (t26 : Value) (a3 : Value) (x1 : List Value) (w : World) (K : KV) : Prop :=
  fcallT P F.pbuffer_Buffer_Due [t26, a3] w fun t121 w =>
  joinT (fun K11 =>
  loopT [undef, undef, (gv x1 1), (.int .i64 0), (.int .i64 0)] w fun K12 x12 w =>
  M.winnowlaw16_BufferDue.j12 x1 x12 K11 t121 a3 K12 w K) fun x11 w =>
  M.winnowlaw16_BufferDue.j11 a3 t26 t121 x11 w K
/-- winnow/winnowlaw16.BufferDue -/
def M.winnowlaw16_BufferDue (a0 a1 a2 a3 : Value) (w : World) (K : KV) : Prop :=
  fcallT P F.buffer_New [(.int .i64 16), (.int .i64 16), a0] w fun t25 w =>
  exT P t25 0 w fun t26 w =>
  exT P t25 1 w fun t27 w =>
  joinT (fun K0 =>
  biT P .len #[T.sl_api_Span] T.int [false] [a1] w fun t29 w =>
  binT P .gtr T.int (.tmp 29) (.const (.int .i64 20)) t29 (.int .i64 20) w fun t30 w =>
  guardT (isB t30 false) (fun K' => K' t27 w) w fun t32 w =>
  guardT (isB t30 false) (fun K' => binT P .neq T.api_Kind (.tmp 32) (.const (.int .i64 0)) t32 (.int .i64 0) w K') w fun t33 w =>
  pickT t30 (.bool true) t33 w fun t34 w =>
  guardT (isB t34 false) (fun K' => K' t26 w) w fun t36 w =>
  guardT (isB t34 false) (fun K' => binT P .eql T.p_buffer_Buffer (.tmp 36) (.const (.pointer none)) t36 (.pointer none) w K') w fun t37 w =>
  pickT t34 (.bool true) t37 w fun t38 w =>
  guardT (isB t38 false) (fun K' => K' a2 w) w fun t40 w =>
  guardT (isB t38 false) (fun K' => binT P .gtr T.uint64 (.tmp 40) (.const (.int .u64 1000)) t40 (.int .u64 1000) w K') w fun t41 w =>
  pickT t38 (.bool true) t41 w fun t42 w =>
  guardT (isB t42 false) (fun K' => K' a3 w) w fun t44 w =>
  guardT (isB t42 false) (fun K' => binT P .gtr T.uint64 (.tmp 44) (.const (.int .u64 1099511627776)) t44 (.int .u64 1099511627776) w K') w fun t45 w =>
  pickT t42 (.bool true) t45 w fun t46 w =>
  condT t46 (
  fcallT P F.winnowlaw16_alive [] w fun t47 w =>
  K t47 w) (
  K0 [(.bool false)] w)) fun x0 w =>
  joinT (fun K1 =>
  loopT [(gv x0 0), undef, undef, (.slice none 0 0), (.slice none 0 0), (.int .u64 0), (.int .i64 0)] w fun K2 x2 w =>
  M.winnowlaw16_BufferDue.j2 a1 x2 K1 t26 a0 a2 K2 w K) fun x1 w =>
  M.winnowlaw16_BufferDue.j1 t26 a3 x1 w K
def M.winnowlaw16_BufferDue.L : List Nat := [0, 1, 2, 3, 8, 9, 10, 11, 12, 13, 14, 15, 16, 17, 18, 19, 20, 21, 22]
def M.winnowlaw16_BufferDue.pl : Nat → Plan := fun id => cond (Nat.beq id 16) ⟨(.go 0 (.go 1 (.go 2 (.go 3 (.go 4 (.go 5 (.go 6 (.go 7 (.go 8 (.go 9 (.go 10 (.go 11 (.go 12 (.eff 13 .nil .stop)))))))))))))), [13], false⟩ (cond (Nat.beq id 29) ⟨(.go 0 (.go 1 (.go 2 (.go 3 (.go 4 (.go 5 (.go 6 (.go 7 (.go 8 (.go 9 (.go 10 (.go 11 (.eff 12 .nil .stop))))))))))))), [12], false⟩ (⟨.nil, [], false⟩))
theorem M.winnowlaw16_BufferDue.eq (a0 a1 a2 a3 : Value) (w : World) (K : KV) : M.winnowlaw16_BufferDue a0 a1 a2 a3 w K = den P M.winnowlaw16_BufferDue.L M.winnowlaw16_BufferDue.pl (Try.f3.body.getD .skip) (argE [a0, a1, a2, a3]) w (bodyQ P Try.f3.results.toList K) := by kernel_rfl
theorem M.winnowlaw16_BufferDue.ok : okFn M.winnowlaw16_BufferDue.L M.winnowlaw16_BufferDue.pl Try.f3 (Try.f3.body.getD .skip) 4 = true := by kernel_rfl
theorem M.winnowlaw16_BufferDue.calls (a0 a1 a2 a3 : Value) {w : World} {K : KV} (h : M.winnowlaw16_BufferDue a0 a1 a2 a3 w K) : callT P F.winnowlaw16_BufferDue [a0, a1, a2, a3] w K :=
  callT_of_den (by kernel_rfl) Try.func3 (by kernel_rfl) M.winnowlaw16_BufferDue.ok (M.winnowlaw16_BufferDue.eq a0 a1 a2 a3 w K ▸ h)
theorem M.winnowlaw16_BufferDue.fcall (args : List Value) (w : World) (K : KV) : fcallT P F.winnowlaw16_BufferDue args w K = callT P F.winnowlaw16_BufferDue args w K := fcallT_eq Try.func3 (by kernel_rfl) (by kernel_rfl) args w K
theorem M.winnowlaw16_BufferDue.rcall (a c args : List Value) (w : World) (K : KV) : callRT P (.func (.func F.winnowlaw16_BufferDue) a.toArray c.toArray) args w K = callT P F.winnowlaw16_BufferDue (a ++ args ++ c) w K := callR_fn Try.func3 (by kernel_rfl) (by kernel_rfl) a c args w K

def M.winnowlaw16_BufferTwice.j6 (a0 : Value) (x3 : List Value) (t34 : Value) (K5 : KL) (x6 : List Value) (w : World) (K : KV) : Prop :=
  iaT P T.sl_api_Span a0 (gv x3 1) w fun t68 w =>
  ldT P T.api_Span t68 w fun t69 w =>
  fcallT P F.pbuffer_Buffer_Put [t34, t69, (.int .u64 0)] w fun t70 w =>
  binT P .neq T.api_Kind (.tmp 70) (.const (.int .i64 0)) t70 (.int .i64 0) w fun t71 w =>
  condT t71 (
  fcallT P F.winnowlaw16_alive [] w fun t72 w =>
  K t72 w) (
  K5 [(gv x6 0)] w)
def M.winnowlaw16_BufferTwice.j4 (a0 : Value) (x3 : List Value) (t34 : Value) (K3 : KL) (w : World) (K : KV) : Prop :=
  joinT (fun K5 =>
  joinT (fun K6 =>
  iaT P T.sl_api_Span a0 (gv x3 1) w fun t50 w =>
  faT P T.api_Span t50 6 w fun t51 w =>
  ldT P T.string t51 w fun t52 w =>
  biT P .len #[T.string] T.int [false] [t52] w fun t53 w =>
  binT P .gtr T.int (.tmp 53) (.const (.int .i64 200)) t53 (.int .i64 200) w fun t54 w =>
  guardT (isB t54 false) (fun K' => K' a0 w) w fun t56 w =>
  guardT (isB t54 false) (fun K' => K' (gv x3 1) w) w fun t57 w =>
  guardT (isB t54 false) (fun K' => iaT P T.sl_api_Span t56 t57 w K') w fun t58 w =>
  guardT (isB t54 false) (fun K' => faT P T.api_Span t58 5 w K') w fun t59 w =>
  guardT (isB t54 false) (fun K' => ldT P T.string t59 w K') w fun t60 w =>
  guardT (isB t54 false) (fun K' => biT P .len #[T.string] T.int [false] [t60] w K') w fun t61 w =>
  guardT (isB t54 false) (fun K' => binT P .gtr T.int (.tmp 61) (.const (.int .i64 200)) t61 (.int .i64 200) w K') w fun t62 w =>
  pickT t54 (.bool true) t62 w fun t63 w =>
  condT t63 (
  fcallT P F.winnowlaw16_alive [] w fun t64 w =>
  K t64 w) (
  K6 [(gv x3 0)] w)) fun x6 w =>
  M.winnowlaw16_BufferTwice.j6 a0 x3 t34 K5 x6 w K) fun x5 w =>
  binT P .add T.int (.tmp 46) (.const (.int .i64 1)) (gv x3 1) (.int .i64 1) w fun t47 w =>
  K3 [(gv x5 0), t47] w
def M.winnowlaw16_BufferTwice.j3 (a0 : Value) (x3 : List Value) (K2 : KL) (t34 : Value) (K3 : KL) (w : World) (K : KV) : Prop :=
  joinT (fun K4 =>
  biT P .len #[T.sl_api_Span] T.int [false] [a0] w fun t44 w =>
  binT P .lss T.int (.tmp 42) (.tmp 44) (gv x3 1) t44 w fun t45 w =>
  condT t45 (
  K4 [] w) (
  K2 [(gv x3 1), (gv x3 0)] w)) fun x4 w =>
  M.winnowlaw16_BufferTwice.j4 a0 x3 t34 K3 w K
def M.winnowlaw16_BufferTwice.j7 (a0 : Value) (a1 : Value) (t34 : Value) (t81 : Value) (w : World) (K : KV) : Prop :=
  iaT P T.sl_api_Span a0 a1 w fun t129 w =>
  faT P T.api_Span t129 0 w fun t130 w =>
  ldT P T.uint64 t130 w fun t131 w =>
  fcallT P F.pbuffer_Buffer_Take [t34, t131] w fun t132 w =>
  iaT P T.sl_api_Span a0 a1 w fun t137 w =>
  faT P T.api_Span t137 0 w fun t138 w =>
  ldT P T.uint64 t138 w fun t139 w =>
  fcallT P F.pbuffer_Buffer_Get [t34, t139] w fun t140 w =>
  exT P t140 0 w fun t141 w =>
  exT P t140 1 w fun t142 w =>
  exT P t140 2 w fun t143 w =>
  fcallT P F.winnowref03_Spans [t132, t81] w fun t146 w =>
  guardT (isB t146 true) (fun K' => K' t143 w) w fun t148 w =>
  guardT (isB t146 true) (fun K' => unT P .not t148 w K') w fun t149 w =>
  pickT t146 t149 (.bool false) w fun t150 w =>
  guardT (isB t150 true) (fun K' => K' t34 w) w fun t152 w =>
  guardT (isB t150 true) (fun K' => K' a0 w) w fun t153 w =>
  guardT (isB t150 true) (fun K' => K' a1 w) w fun t154 w =>
  guardT (isB t150 true) (fun K' => iaT P T.sl_api_Span t153 t154 w K') w fun t155 w =>
  guardT (isB t150 true) (fun K' => faT P T.api_Span t155 0 w K') w fun t156 w =>
  guardT (isB t150 true) (fun K' => ldT P T.uint64 t156 w K') w fun t157 w =>
  guardT (isB t150 true) (fun K' => fcallT P F.pbuffer_Buffer_Take [t152, t157] w K') w fun t158 w =>
  guardT (isB t150 true) (fun K' => biT P .len #[T.sl_api_Span] T.int [false] [t158] w K') w fun t159 w =>
  guardT (isB t150 true) (fun K' => binT P .eql T.int (.tmp 159) (.const (.int .i64 0)) t159 (.int .i64 0) w K') w fun t160 w =>
  pickT t150 t160 (.bool false) w fun t161 w =>
  guardT (isB t161 true) (fun K' => K' t34 w) w fun t163 w =>
  guardT (isB t161 true) (fun K' => K' a0 w) w fun t164 w =>
  guardT (isB t161 true) (fun K' => K' a1 w) w fun t165 w =>
  guardT (isB t161 true) (fun K' => iaT P T.sl_api_Span t164 t165 w K') w fun t166 w =>
  guardT (isB t161 true) (fun K' => faT P T.api_Span t166 0 w K') w fun t167 w =>
  guardT (isB t161 true) (fun K' => ldT P T.uint64 t167 w K') w fun t168 w =>
  guardT (isB t161 true) (fun K' => fcallT P F.pbuffer_Buffer_Delay [t163, t168, (.int .u64 5)] w K') w fun t169 w =>
  guardT (isB t161 true) (fun K' => unT P .not t169 w K') w fun t170 w =>
  pickT t161 t170 (.bool false) w fun t171 w =>
  guardT (isB t171 true) (fun K' => fcallT P F.winnowlaw16_alive [] w K') w fun t173 w =>
  pickT t171 t173 (.bool false) w fun t174 w =>
  K t174 w
def M.winnowlaw16_BufferTwice.j2 (a0 : Value) (a1 : Value) (t34 : Value) (t5 : Value) (x2 : List Value) (w : World) (K : KV) : Prop :=
  iaT P T.sl_api_Span a0 a1 w fun t77 w =>
  faT P T.api_Span t77 0 w fun t78 w =>
  ldT P T.uint64 t78 w fun t79 w =>
  fcallT P F.pbuffer_Buffer_Get [t34, t79] w fun t80 w =>
  exT P t80 0 w fun t81 w =>
  exT P t80 1 w fun t82 w =>
  exT P t80 2 w fun t83 w =>
  drawT w fun w =>
  w = w ∧ w = w ∧ quietT (fun K' => iaT P T.sl_api_Span a0 a1 w K') w fun t86 =>
  quietT (fun K' => faT P T.api_Span t86 0 w K') w fun t87 =>
  quietT (fun K' => ldT P T.uint64 t87 w K') w fun t88 =>
  w = w ∧ w = w ∧ quietT (fun K' => iaT P T.sl_api_Span a0 a1 w K') w fun t91 =>
  quietT (fun K' => faT P T.api_Span t91 1 w K') w fun t92 =>
  quietT (fun K' => ldT P T.uint64 t92 w K') w fun t93 =>
  quietT (fun K' => faT P T.api_Span t5 0 w K') w fun t94 =>
  stT P T.uint64 t94 t88 w fun _ w =>
  stabT (fun K' => ldT P T.uint64 t92 w K') w t93 ∧ stabT (fun K' => faT P T.api_Span t91 1 w K') w t92 ∧ stabT (fun K' => iaT P T.sl_api_Span a0 a1 w K') w t91 ∧ stabT (fun K' => K' a1 w) w a1 ∧ stabT (fun K' => K' a0 w) w a0 ∧ quietT (fun K' => faT P T.api_Span t5 1 w K') w fun t95 =>
  stT P T.uint64 t95 t93 w fun _ w =>
  ldT P T.api_Span t5 w fun t97 w =>
  fcallT P F.pbuffer_Buffer_Put [t34, t97, (.int .u64 9)] w fun t98 w =>
  iaT P T.sl_api_Span a0 a1 w fun t103 w =>
  faT P T.api_Span t103 0 w fun t104 w =>
  ldT P T.uint64 t104 w fun t105 w =>
  fcallT P F.pbuffer_Buffer_Get [t34, t105] w fun t106 w =>
  exT P t106 0 w fun t107 w =>
  exT P t106 1 w fun t108 w =>
  exT P t106 2 w fun t109 w =>
  joinT (fun K7 =>
  binT P .eql T.api_Kind (.tmp 110) (.const (.int .i64 0)) t98 (.int .i64 0) w fun t111 w =>
  ldT P T.api_Span t5 w fun t112 w =>
  fcallT P F.winnowref03_Right [t112] w fun t113 w =>
  binT P .eql T.api_Kind (.tmp 113) (.const (.int .i64 0)) t113 (.int .i64 0) w fun t114 w =>
  binT P .neq T.bool (.tmp 111) (.tmp 114) t111 t114 w fun t115 w =>
  guardT (isB t115 false) (fun K' => K' t81 w) w fun t117 w =>
  guardT (isB t115 false) (fun K' => K' t107 w) w fun t118 w =>
  guardT (isB t115 false) (fun K' => fcallT P F.winnowref03_Spans [t117, t118] w K') w fun t119 w =>
  guardT (isB t115 false) (fun K' => unT P .not t119 w K') w fun t120 w =>
  pickT t115 (.bool true) t120 w fun t121 w =>
  guardT (isB t121 false) (fun K' => K' t109 w) w fun t123 w =>
  guardT (isB t121 false) (fun K' => unT P .not t123 w K') w fun t124 w =>
  pickT t121 (.bool true) t124 w fun t125 w =>
  condT t125 (
  K (.bool false) w) (
  K7 [(gv x2 1)] w)) fun x7 w =>
  M.winnowlaw16_BufferTwice.j7 a0 a1 t34 t81 w K
def M.winnowlaw16_BufferTwice.j0 (x0 : List Value) (a0 : Value) (a1 : Value) (t5 : Value) (w : World) (K : KV) : Prop :=
  fcallT P F.buffer_New [(.int .i64 8), (.int .i64 8), (.int .u64 5)] w fun t33 w =>
  exT P t33 0 w fun t34 w =>
  exT P t33 1 w fun t35 w =>
  joinT (fun K1 =>
  binT P .neq T.api_Kind (.tmp 36) (.const (.int .i64 0)) t35 (.int .i64 0) w fun t37 w =>
  guardT (isB t37 false) (fun K' => K' t34 w) w fun t39 w =>
  guardT (isB t37 false) (fun K' => binT P .eql T.p_buffer_Buffer (.tmp 39) (.const (.pointer none)) t39 (.pointer none) w K') w fun t40 w =>
  pickT t37 (.bool true) t40 w fun t41 w =>
  condT t41 (
  K (.bool false) w) (
  K1 [(gv x0 0)] w)) fun x1 w =>
  joinT (fun K2 =>
  loopT [(gv x1 0), (.int .i64 0)] w fun K3 x3 w =>
  M.winnowlaw16_BufferTwice.j3 a0 x3 K2 t34 K3 w K) fun x2 w =>
  M.winnowlaw16_BufferTwice.j2 a0 a1 t34 t5 x2 w K
/-- winnow/winnowlaw16.BufferTwice -/
def M.winnowlaw16_BufferTwice (a0 a1 a2 : Value) (w : World) (K : KV) : Prop :=
  boxT P T.api_Span a2 w fun t5 w =>
  joinT (fun K0 =>
  biT P .len #[T.sl_api_Span] T.int [false] [a0] w fun t19 w =>
  binT P .gtr T.int (.tmp 19) (.const (.int .i64 60)) t19 (.int .i64 60) w fun t20 w =>
  guardT (isB t20 false) (fun K' => K' a1 w) w fun t22 w =>
  guardT (isB t20 false) (fun K' => binT P .lss T.int (.tmp 22) (.const (.int .i64 0)) t22 (.int .i64 0) w K') w fun t23 w =>
  pickT t20 (.bool true) t23 w fun t24 w =>
  guardT (isB t24 false) (fun K' => K' a1 w) w fun t26 w =>
  guardT (isB t24 false) (fun K' => K' a0 w) w fun t27 w =>
  guardT (isB t24 false) (fun K' => biT P .len #[T.sl_api_Span] T.int [false] [t27] w K') w fun t28 w =>
  guardT (isB t24 false) (fun K' => binT P .geq T.int (.tmp 26) (.tmp 28) t26 t28 w K') w fun t29 w =>
  pickT t24 (.bool true) t29 w fun t30 w =>
  condT t30 (
  fcallT P F.winnowlaw16_alive [] w fun t31 w =>
  K t31 w) (
  K0 [(.bool false)] w)) fun x0 w =>
  M.winnowlaw16_BufferTwice.j0 x0 a0 a1 t5 w K
def M.winnowlaw16_BufferTwice.L : List Nat := [0, 1, 2, 6, 7, 8, 9, 10, 11, 12, 13, 14, 15, 16, 17, 5]
def M.winnowlaw16_BufferTwice.pl : Nat → Plan := fun id => cond (Nat.beq id 14) ⟨(.go 0 (.go 1 (.go 2 (.go 3 (.go 4 (.go 5 (.go 6 (.go 7 (.go 8 (.go 9 (.go 10 (.eff 11 (.go 12 (.eff 13 .nil .stop)) .stop)))))))))))), [11, 13], false⟩ (⟨.nil, [], false⟩)
theorem M.winnowlaw16_BufferTwice.eq (a0 a1 a2 : Value) (w : World) (K : KV) : M.winnowlaw16_BufferTwice a0 a1 a2 w K = den P M.winnowlaw16_BufferTwice.L M.winnowlaw16_BufferTwice.pl (Try.f4.body.getD .skip) (argE [a0, a1, a2]) w (bodyQ P Try.f4.results.toList K) := by kernel_rfl
theorem M.winnowlaw16_BufferTwice.ok : okFn M.winnowlaw16_BufferTwice.L M.winnowlaw16_BufferTwice.pl Try.f4 (Try.f4.body.getD .skip) 3 = true := by kernel_rfl
theorem M.winnowlaw16_BufferTwice.calls (a0 a1 a2 : Value) {w : World} {K : KV} (h : M.winnowlaw16_BufferTwice a0 a1 a2 w K) : callT P F.winnowlaw16_BufferTwice [a0, a1, a2] w K :=
  callT_of_den (by kernel_rfl) Try.func4 (by kernel_rfl) M.winnowlaw16_BufferTwice.ok (M.winnowlaw16_BufferTwice.eq a0 a1 a2 w K ▸ h)
theorem M.winnowlaw16_BufferTwice.fcall (args : List Value) (w : World) (K : KV) : fcallT P F.winnowlaw16_BufferTwice args w K = callT P F.winnowlaw16_BufferTwice args w K := fcallT_eq Try.func4 (by kernel_rfl) (by kernel_rfl) args w K
theorem M.winnowlaw16_BufferTwice.rcall (a c args : List Value) (w : World) (K : KV) : callRT P (.func (.func F.winnowlaw16_BufferTwice) a.toArray c.toArray) args w K = callT P F.winnowlaw16_BufferTwice (a ++ args ++ c) w K := callR_fn Try.func4 (by kernel_rfl) (by kernel_rfl) a c args w K

def M.winnowlaw16_BufferCaps.j6 (a2 : Value) (x3 : List Value) (t28 : Value) (t37 : Value) (K5 : KL) (x6 : List Value) (w : World) (K : KV) : Prop :=
  iaT P T.sl_api_Span a2 (gv x3 1) w fun t64 w =>
  ldT P T.api_Span t64 w fun t65 w =>
  fcallT P F.pbuffer_Buffer_Put [t28, t65, (.int .u64 0)] w fun t66 w =>
  binT P .eql T.api_Kind (.tmp 66) (.const (.int .i64 9)) t66 (.int .i64 9) w fun t67 w =>
  condT t67 (
  iaT P T.sl_api_Span a2 (gv x3 1) w fun t71 w =>
  faT P T.api_Span t71 0 w fun t72 w =>
  ldT P T.uint64 t72 w fun t73 w =>
  muT P T.map_uint64_bool t37 t73 (.bool true) w fun _ w =>
  K5 [(gv x6 0)] w) (
  K5 [(gv x6 0)] w)
def M.winnowlaw16_BufferCaps.j4 (a2 : Value) (x3 : List Value) (t28 : Value) (t37 : Value) (K3 : KL) (w : World) (K : KV) : Prop :=
  joinT (fun K5 =>
  joinT (fun K6 =>
  iaT P T.sl_api_Span a2 (gv x3 1) w fun t46 w =>
  faT P T.api_Span t46 6 w fun t47 w =>
  ldT P T.string t47 w fun t48 w =>
  biT P .len #[T.string] T.int [false] [t48] w fun t49 w =>
  binT P .gtr T.int (.tmp 49) (.const (.int .i64 200)) t49 (.int .i64 200) w fun t50 w =>
  guardT (isB t50 false) (fun K' => K' a2 w) w fun t52 w =>
  guardT (isB t50 false) (fun K' => K' (gv x3 1) w) w fun t53 w =>
  guardT (isB t50 false) (fun K' => iaT P T.sl_api_Span t52 t53 w K') w fun t54 w =>
  guardT (isB t50 false) (fun K' => faT P T.api_Span t54 5 w K') w fun t55 w =>
  guardT (isB t50 false) (fun K' => ldT P T.string t55 w K') w fun t56 w =>
  guardT (isB t50 false) (fun K' => biT P .len #[T.string] T.int [false] [t56] w K') w fun t57 w =>
  guardT (isB t50 false) (fun K' => binT P .gtr T.int (.tmp 57) (.const (.int .i64 200)) t57 (.int .i64 200) w K') w fun t58 w =>
  pickT t50 (.bool true) t58 w fun t59 w =>
  condT t59 (
  fcallT P F.winnowlaw16_alive [] w fun t60 w =>
  K t60 w) (
  K6 [(gv x3 0)] w)) fun x6 w =>
  M.winnowlaw16_BufferCaps.j6 a2 x3 t28 t37 K5 x6 w K) fun x5 w =>
  binT P .add T.int (.tmp 42) (.const (.int .i64 1)) (gv x3 1) (.int .i64 1) w fun t43 w =>
  K3 [(gv x5 0), t43] w
def M.winnowlaw16_BufferCaps.j3 (a2 : Value) (x3 : List Value) (K2 : KL) (t28 : Value) (t37 : Value) (K3 : KL) (w : World) (K : KV) : Prop :=
  joinT (fun K4 =>
  biT P .len #[T.sl_api_Span] T.int [false] [a2] w fun t40 w =>
  binT P .lss T.int (.tmp 38) (.tmp 40) (gv x3 1) t40 w fun t41 w =>
  condT t41 (
  K4 [] w) (
  K2 [(gv x3 1), (gv x3 0)] w)) fun x4 w =>
  M.winnowlaw16_BufferCaps.j4 a2 x3 t28 t37 K3 w K
def M.winnowlaw16_BufferCaps.j18 (x17 : List Value) (a2 : Value) (t93 : Value) (x13 : List Value) (K17 : KL) (w : World) (K : KV) : Prop :=
  joinT (fun K19 =>
  drawT w fun w =>
  w = w ∧ w = w ∧ quietT (fun K' => guardT (isB (gv x17 0) false) (fun K' => K' a2 w) w K') w fun t142 =>
  quietT (fun K' => guardT (isB (gv x17 0) false) (fun K' => K' (gv x17 1) w) w K') w fun t143 =>
  quietT (fun K' => guardT (isB (gv x17 0) false) (fun K' => iaT P T.sl_api_Span t142 t143 w K') w K') w fun t144 =>
  quietT (fun K' => guardT (isB (gv x17 0) false) (fun K' => ldT P T.api_Span t144 w K') w K') w fun t145 =>
  quietT (fun K' => guardT (isB (gv x17 0) false) (fun K' => K' t93 w) w K') w fun t146 =>
  quietT (fun K' => guardT (isB (gv x17 0) false) (fun K' => K' (gv x13 4) w) w K') w fun t147 =>
  quietT (fun K' => guardT (isB (gv x17 0) false) (fun K' => iaT P T.sl_api_Span t146 t147 w K') w K') w fun t148 =>
  quietT (fun K' => guardT (isB (gv x17 0) false) (fun K' => ldT P T.api_Span t148 w K') w K') w fun t149 =>
  quietT (fun K' => guardT (isB (gv x17 0) false) (fun K' => binT P .eql T.api_Span (.tmp 145) (.tmp 149) t145 t149 w K') w K') w fun t150 =>
  quietT (fun K' => pickT (gv x17 0) (.bool true) t150 w K') w fun t151 =>
  K19 [t151] w) fun x19 w =>
  binT P .add T.int (.tmp 138) (.const (.int .i64 1)) (gv x17 1) (.int .i64 1) w fun t139 w =>
  K17 [(gv x19 0), t139] w
def M.winnowlaw16_BufferCaps.j17 (a2 : Value) (x17 : List Value) (K16 : KL) (t93 : Value) (x13 : List Value) (K17 : KL) (w : World) (K : KV) : Prop :=
  joinT (fun K18 =>
  biT P .len #[T.sl_api_Span] T.int [false] [a2] w fun t136 w =>
  binT P .lss T.int (.tmp 134) (.tmp 136) (gv x17 1) t136 w fun t137 w =>
  condT t137 (
  K18 [] w) (
  K16 [(gv x17 1), (gv x17 0)] w)) fun x18 w =>
  M.winnowlaw16_BufferCaps.j18 x17 a2 t93 x13 K17 w K
def M.winnowlaw16_BufferCaps.j22 (x21 : List Value) (t93 : Value) (x13 : List Value) (K21 : KL) (w : World) (K : KV) : Prop :=
  joinT (fun K23 =>
  drawT w fun w =>
  w = w ∧ w = w ∧ quietT (fun K' => guardT (isB (gv x21 0) true) (fun K' => K' t93 w) w K') w fun t159 =>
  quietT (fun K' => guardT (isB (gv x21 0) true) (fun K' => K' (gv x21 1) w) w K') w fun t160 =>
  quietT (fun K' => guardT (isB (gv x21 0) true) (fun K' => iaT P T.sl_api_Span t159 t160 w K') w K') w fun t161 =>
  quietT (fun K' => guardT (isB (gv x21 0) true) (fun K' => faT P T.api_Span t161 1 w K') w K') w fun t162 =>
  quietT (fun K' => guardT (isB (gv x21 0) true) (fun K' => ldT P T.uint64 t162 w K') w K') w fun t163 =>
  quietT (fun K' => guardT (isB (gv x21 0) true) (fun K' => K' t93 w) w K') w fun t164 =>
  quietT (fun K' => guardT (isB (gv x21 0) true) (fun K' => K' (gv x13 4) w) w K') w fun t165 =>
  quietT (fun K' => guardT (isB (gv x21 0) true) (fun K' => iaT P T.sl_api_Span t164 t165 w K') w K') w fun t166 =>
  quietT (fun K' => guardT (isB (gv x21 0) true) (fun K' => faT P T.api_Span t166 1 w K') w K') w fun t167 =>
  quietT (fun K' => guardT (isB (gv x21 0) true) (fun K' => ldT P T.uint64 t167 w K') w K') w fun t168 =>
  quietT (fun K' => guardT (isB (gv x21 0) true) (fun K' => binT P .neq T.uint64 (.tmp 163) (.tmp 168) t163 t168 w K') w K') w fun t169 =>
  quietT (fun K' => pickT (gv x21 0) t169 (.bool false) w K') w fun t170 =>
  K23 [t170] w) fun x23 w =>
  binT P .add T.int (.tmp 155) (.const (.int .i64 1)) (gv x21 1) (.int .i64 1) w fun t156 w =>
  K21 [(gv x23 0), t156] w
def M.winnowlaw16_BufferCaps.j20 (x20 : List Value) (t93 : Value) (x13 : List Value) (t75 : Value) (x9 : List Value) (K15 : KL) (x16 : List Value) (w : World) (K : KV) : Prop :=
  drawT w fun w =>
  w = w ∧ quietT (fun K' => unT P .not (gv x20 1) w K') w fun t172 =>
  w = w ∧ quietT (fun K' => guardT (isB t172 false) (fun K' => K' t93 w) w K') w fun t174 =>
  quietT (fun K' => guardT (isB t172 false) (fun K' => K' (gv x13 4) w) w K') w fun t175 =>
  quietT (fun K' => guardT (isB t172 false) (fun K' => iaT P T.sl_api_Span t174 t175 w K') w K') w fun t176 =>
  quietT (fun K' => guardT (isB t172 false) (fun K' => faT P T.api_Span t176 0 w K') w K') w fun t177 =>
  quietT (fun K' => guardT (isB t172 false) (fun K' => ldT P T.uint64 t177 w K') w K') w fun t178 =>
  quietT (fun K' => guardT (isB t172 false) (fun K' => K' t75 w) w K') w fun t179 =>
  quietT (fun K' => guardT (isB t172 false) (fun K' => K' (gv x9 8) w) w K') w fun t180 =>
  quietT (fun K' => guardT (isB t172 false) (fun K' => iaT P T.sl_uint64 t179 t180 w K') w K') w fun t181 =>
  quietT (fun K' => guardT (isB t172 false) (fun K' => ldT P T.uint64 t181 w K') w K') w fun t182 =>
  quietT (fun K' => guardT (isB t172 false) (fun K' => binT P .neq T.uint64 (.tmp 178) (.tmp 182) t178 t182 w K') w K') w fun t183 =>
  quietT (fun K' => pickT t172 (.bool true) t183 w K') w fun t184 =>
  condT t184 (
  K (.bool false) w) (
  K15 [(gv x20 1), (gv x16 0), (gv x20 0), (gv x13 3)] w)
def M.winnowlaw16_BufferCaps.j16 (x16 : List Value) (x13 : List Value) (t93 : Value) (t75 : Value) (x9 : List Value) (K15 : KL) (w : World) (K : KV) : Prop :=
  joinT (fun K20 =>
  loopT [(gv x16 1), (.int .i64 0)] w fun K21 x21 w =>
  joinT (fun K22 =>
  binT P .lss T.int (.tmp 152) (.tmp 153) (gv x21 1) (gv x13 4) w fun t154 w =>
  condT t154 (
  K22 [] w) (
  K20 [(gv x21 1), (gv x21 0)] w)) fun x22 w =>
  M.winnowlaw16_BufferCaps.j22 x21 t93 x13 K21 w K) fun x20 w =>
  M.winnowlaw16_BufferCaps.j20 x20 t93 x13 t75 x9 K15 x16 w K
def M.winnowlaw16_BufferCaps.j14 (a2 : Value) (t93 : Value) (x13 : List Value) (t75 : Value) (x9 : List Value) (K13 : KL) (w : World) (K : KV) : Prop :=
  joinT (fun K15 =>
  joinT (fun K16 =>
  loopT [(.bool false), (.int .i64 0)] w fun K17 x17 w =>
  M.winnowlaw16_BufferCaps.j17 a2 x17 K16 t93 x13 K17 w K) fun x16 w =>
  M.winnowlaw16_BufferCaps.j16 x16 x13 t93 t75 x9 K15 w K) fun x15 w =>
  binT P .add T.int (.tmp 132) (.const (.int .i64 1)) (gv x13 4) (.int .i64 1) w fun t133 w =>
  K13 [(gv x15 0), (gv x15 1), (gv x15 2), (gv x15 3), t133] w
def M.winnowlaw16_BufferCaps.j13 (t93 : Value) (x13 : List Value) (K11 : KL) (t94 : Value) (t95 : Value) (a2 : Value) (t75 : Value) (x9 : List Value) (K13 : KL) (w : World) (K : KV) : Prop :=
  joinT (fun K14 =>
  biT P .len #[T.sl_api_Span] T.int [false] [t93] w fun t130 w =>
  binT P .lss T.int (.tmp 128) (.tmp 130) (gv x13 4) t130 w fun t131 w =>
  condT t131 (
  K14 [] w) (
  K11 [t93, t94, t95, (gv x13 3), (gv x13 4), (gv x13 0), (gv x13 1), (gv x13 2)] w)) fun x14 w =>
  M.winnowlaw16_BufferCaps.j14 a2 t93 x13 t75 x9 K13 w K
def M.winnowlaw16_BufferCaps.j10 (t75 : Value) (x9 : List Value) (t28 : Value) (a1 : Value) (t37 : Value) (a2 : Value) (K9 : KL) (w : World) (K : KV) : Prop :=
  joinT (fun K11 =>
  iaT P T.sl_uint64 t75 (gv x9 8) w fun t90 w =>
  ldT P T.uint64 t90 w fun t91 w =>
  fcallT P F.pbuffer_Buffer_Get [t28, t91] w fun t92 w =>
  exT P t92 0 w fun t93 w =>
  exT P t92 1 w fun t94 w =>
  exT P t92 2 w fun t95 w =>
  joinT (fun K12 =>
  unT P .not t95 w fun t97 w =>
  guardT (isB t97 false) (fun K' => K' t93 w) w fun t99 w =>
  guardT (isB t97 false) (fun K' => biT P .len #[T.sl_api_Span] T.int [false] [t99] w K') w fun t100 w =>
  guardT (isB t97 false) (fun K' => binT P .lss T.int (.tmp 100) (.const (.int .i64 1)) t100 (.int .i64 1) w K') w fun t101 w =>
  pickT t97 (.bool true) t101 w fun t102 w =>
  guardT (isB t102 false) (fun K' => K' t93 w) w fun t104 w =>
  guardT (isB t102 false) (fun K' => biT P .len #[T.sl_api_Span] T.int [false] [t104] w K') w fun t105 w =>
  guardT (isB t102 false) (fun K' => K' a1 w) w fun t106 w =>
  guardT (isB t102 false) (fun K' => binT P .gtr T.int (.tmp 105) (.tmp 106) t105 t106 w K') w fun t107 w =>
  pickT t102 (.bool true) t107 w fun t108 w =>
  guardT (isB t108 false) (fun K' => K' t94 w) w fun t110 w =>
  guardT (isB t108 false) (fun K' => K' t37 w) w fun t111 w =>
  guardT (isB t108 false) (fun K' => K' t75 w) w fun t112 w =>
  guardT (isB t108 false) (fun K' => K' (gv x9 8) w) w fun t113 w =>
  guardT (isB t108 false) (fun K' => iaT P T.sl_uint64 t112 t113 w K') w fun t114 w =>
  guardT (isB t108 false) (fun K' => ldT P T.uint64 t114 w K') w fun t115 w =>
  guardT (isB t108 false) (fun K' => luT P T.map_uint64_bool t111 t115 false w K') w fun t116 w =>
  guardT (isB t108 false) (fun K' => binT P .neq T.bool (.tmp 110) (.tmp 116) t110 t116 w K') w fun t117 w =>
  pickT t108 (.bool true) t117 w fun t118 w =>
  guardT (isB t118 false) (fun K' => K' t94 w) w fun t120 w =>
  guardT (isB t118 false) (fun K' => K' t120 w) w fun t121 w =>
  guardT (isB t121 true) (fun K' => K' t93 w) w fun t122 w =>
  guardT (isB t121 true) (fun K' => biT P .len #[T.sl_api_Span] T.int [false] [t122] w K') w fun t123 w =>
  guardT (isB t121 true) (fun K' => K' a1 w) w fun t124 w =>
  guardT (isB t121 true) (fun K' => binT P .neq T.int (.tmp 123) (.tmp 124) t123 t124 w K') w fun t125 w =>
  guardT (isB t118 false) (fun K' => pickT t121 t125 (.bool false) w K') w fun t126 w =>
  pickT t118 (.bool true) t126 w fun t127 w =>
  condT t127 (
  K (.bool false) w) (
  K12 [(gv x9 3)] w)) fun x12 w =>
  loopT [(gv x9 5), (gv x9 6), (gv x9 7), (gv x12 0), (.int .i64 0)] w fun K13 x13 w =>
  M.winnowlaw16_BufferCaps.j13 t93 x13 K11 t94 t95 a2 t75 x9 K13 w K) fun x11 w =>
  binT P .add T.int (.tmp 84) (.const (.int .i64 1)) (gv x9 8) (.int .i64 1) w fun t85 w =>
  K9 [(gv x11 0), (gv x11 1), (gv x11 2), (gv x11 3), (gv x11 4), (gv x11 5), (gv x11 6), (gv x11 7), t85] w
def M.winnowlaw16_BufferCaps.j9 (t75 : Value) (x9 : List Value) (K8 : KL) (t28 : Value) (a1 : Value) (t37 : Value) (a2 : Value) (K9 : KL) (w : World) (K : KV) : Prop :=
  joinT (fun K10 =>
  biT P .len #[T.sl_uint64] T.int [false] [t75] w fun t82 w =>
  binT P .lss T.int (.tmp 80) (.tmp 82) (gv x9 8) t82 w fun t83 w =>
  condT t83 (
  K10 [] w) (
  K8 [(gv x9 8), (gv x9 0), (gv x9 1), (gv x9 2), (gv x9 3), (gv x9 4), (gv x9 5), (gv x9 6), (gv x9 7)] w)) fun x10 w =>
  M.winnowlaw16_BufferCaps.j10 t75 x9 t28 a1 t37 a2 K9 w K
def M.winnowlaw16_BufferCaps.j2 (t28 : Value) (a0 : Value) (x2 : List Value) (a1 : Value) (t37 : Value) (a2 : Value) (w : World) (K : KV) : Prop :=
  fcallT P F.pbuffer_Buffer_Traces [t28] w fun t75 w =>
  joinT (fun K7 =>
  biT P .len #[T.sl_uint64] T.int [false] [t75] w fun t77 w =>
  binT P .gtr T.int (.tmp 77) (.tmp 78) t77 a0 w fun t79 w =>
  condT t79 (
  K (.bool false) w) (
  K7 [(gv x2 1)] w)) fun x7 w =>
  joinT (fun K8 =>
  loopT [undef, undef, undef, (gv x7 0), undef, undef, undef, undef, (.int .i64 0)] w fun K9 x9 w =>
  M.winnowlaw16_BufferCaps.j9 t75 x9 K8 t28 a1 t37 a2 K9 w K) fun x8 w =>
  fcallT P F.winnowlaw16_alive [] w fun t185 w =>
  K t185 w
def M.winnowlaw16_BufferCaps.j0 (a0 : Value) (a1 : Value) (x0 : List Value) (a2 : Value) (w : World) (K : KV) : Prop :=
  fcallT P F.buffer_New [a0, a1, (.int .u64 5)] w fun t27 w =>
  exT P t27 0 w fun t28 w =>
  exT P t27 1 w fun t29 w =>
  joinT (fun K1 =>
  binT P .neq T.api_Kind (.tmp 30) (.const (.int .i64 0)) t29 (.int .i64 0) w fun t31 w =>
  guardT (isB t31 false) (fun K' => K' t28 w) w fun t33 w =>
  guardT (isB t31 false) (fun K' => binT P .eql T.p_buffer_Buffer (.tmp 33) (.const (.pointer none)) t33 (.pointer none) w K') w fun t34 w =>
  pickT t31 (.bool true) t34 w fun t35 w =>
  condT t35 (
  fcallT P F.winnowlaw16_alive [] w fun t36 w =>
  K t36 w) (
  K1 [(gv x0 0)] w)) fun x1 w =>
  mkmT P T.map_uint64_bool none w fun t37 w =>
  joinT (fun K2 =>
  loopT [(gv x1 0), (.int .i64 0)] w fun K3 x3 w =>
  M.winnowlaw16_BufferCaps.j3 a2 x3 K2 t28 t37 K3 w K) fun x2 w =>
  M.winnowlaw16_BufferCaps.j2 t28 a0 x2 a1 t37 a2 w K
/-- winnow/winnowlaw16.BufferCaps -/
def M.winnowlaw16_BufferCaps (a0 a1 a2 : Value) (w : World) (K : KV) : Prop :=
  joinT (fun K0 =>
  biT P .len #[T.sl_api_Span] T.int [false] [a2] w fun t21 w =>
  binT P .gtr T.int (.tmp 21) (.const (.int .i64 200)) t21 (.int .i64 200) w fun t22 w =>
  condT t22 (
  fcallT P F.winnowlaw16_alive [] w fun t23 w =>
  K t23 w) (
  K0 [(.bool false)] w)) fun x0 w =>
  M.winnowlaw16_BufferCaps.j0 a0 a1 x0 a2 w K
def M.winnowlaw16_BufferCaps.L : List Nat := [0, 1, 2, 6, 7, 8, 9, 10, 11, 12, 13, 14, 15, 16, 17, 18, 19]
def M.winnowlaw16_BufferCaps.pl : Nat → Plan := fun id => cond (Nat.beq id 30) ⟨(.go 0 (.go 1 (.go 2 (.go 3 (.go 4 (.go 5 (.go 6 (.go 7 (.go 8 (.go 9 (.go 10 (.go 11 (.eff 12 .nil .stop))))))))))))), [12], false⟩ (cond (Nat.beq id 34) ⟨(.go 0 (.go 1 (.go 2 (.go 3 (.go 4 (.go 5 (.go 6 (.go 7 (.go 8 (.go 9 (.go 10 (.go 11 (.go 12 (.go 13 (.eff 14 .nil .stop))))))))))))))), [14], false⟩ (cond (Nat.beq id 35) ⟨(.go 0 (.go 1 (.go 2 (.go 3 (.go 4 (.go 5 (.go 6 (.go 7 (.go 8 (.go 9 (.go 10 (.go 11 (.go 12 (.go 13 .nil)))))))))))))), [], false⟩ (⟨.nil, [], false⟩)))
theorem M.winnowlaw16_BufferCaps.eq (a0 a1 a2 : Value) (w : World) (K : KV) : M.winnowlaw16_BufferCaps a0 a1 a2 w K = den P M.winnowlaw16_BufferCaps.L M.winnowlaw16_BufferCaps.pl (Try.f10.body.getD .skip) (argE [a0, a1, a2]) w (bodyQ P Try.f10.results.toList K) := by kernel_rfl
theorem M.winnowlaw16_BufferCaps.ok : okFn M.winnowlaw16_BufferCaps.L M.winnowlaw16_BufferCaps.pl Try.f10 (Try.f10.body.getD .skip) 3 = true := by kernel_rfl
theorem M.winnowlaw16_BufferCaps.calls (a0 a1 a2 : Value) {w : World} {K : KV} (h : M.winnowlaw16_BufferCaps a0 a1 a2 w K) : callT P F.winnowlaw16_BufferCaps [a0, a1, a2] w K :=
  callT_of_den (by kernel_rfl) Try.func10 (by kernel_rfl) M.winnowlaw16_BufferCaps.ok (M.winnowlaw16_BufferCaps.eq a0 a1 a2 w K ▸ h)
theorem M.winnowlaw16_BufferCaps.fcall (args : List Value) (w : World) (K : KV) : fcallT P F.winnowlaw16_BufferCaps args w K = callT P F.winnowlaw16_BufferCaps args w K := fcallT_eq Try.func10 (by kernel_rfl) (by kernel_rfl) args w K
theorem M.winnowlaw16_BufferCaps.rcall (a c args : List Value) (w : World) (K : KV) : callRT P (.func (.func F.winnowlaw16_BufferCaps) a.toArray c.toArray) args w K = callT P F.winnowlaw16_BufferCaps (a ++ args ++ c) w K := callR_fn Try.func10 (by kernel_rfl) (by kernel_rfl) a c args w K

def M.winnowlaw16_BufferNils.j0 (t2 : Value) (a1 : Value) (w : World) (K : KV) : Prop :=
  faT P T.api_Span t2 0 w fun t22 w =>
  ldT P T.uint64 t22 w fun t23 w =>
  fcallT P F.pbuffer_Buffer_Get [(.pointer none), t23] w fun t24 w =>
  exT P t24 0 w fun t25 w =>
  exT P t24 1 w fun t26 w =>
  exT P t24 2 w fun t27 w =>
  ldT P T.api_Span t2 w fun t29 w =>
  fcallT P F.pbuffer_Buffer_Put [(.pointer none), t29, a1] w fun t31 w =>
  binT P .eql T.api_Kind (.tmp 31) (.const (.int .i64 13)) t31 (.int .i64 13) w fun t32 w =>
  guardT (isB t32 true) (fun K' => K' t25 w) w fun t34 w =>
  guardT (isB t32 true) (fun K' => biT P .len #[T.sl_api_Span] T.int [false] [t34] w K') w fun t35 w =>
  guardT (isB t32 true) (fun K' => binT P .eql T.int (.tmp 35) (.const (.int .i64 0)) t35 (.int .i64 0) w K') w fun t36 w =>
  pickT t32 t36 (.bool false) w fun t37 w =>
  guardT (isB t37 true) (fun K' => K' t26 w) w fun t39 w =>
  guardT (isB t37 true) (fun K' => unT P .not t39 w K') w fun t40 w =>
  pickT t37 t40 (.bool false) w fun t41 w =>
  guardT (isB t41 true) (fun K' => K' t27 w) w fun t43 w =>
  guardT (isB t41 true) (fun K' => unT P .not t43 w K') w fun t44 w =>
  pickT t41 t44 (.bool false) w fun t45 w =>
  guardT (isB t45 true) (fun K' => K' (.pointer none) w) w fun t47 w =>
  guardT (isB t45 true) (fun K' => K' a1 w) w fun t48 w =>
  guardT (isB t45 true) (fun K' => fcallT P F.pbuffer_Buffer_Due [t47, t48] w K') w fun t49 w =>
  guardT (isB t45 true) (fun K' => biT P .len #[T.sl_uint64] T.int [false] [t49] w K') w fun t50 w =>
  guardT (isB t45 true) (fun K' => K' (.pointer none) w) w fun t51 w =>
  guardT (isB t45 true) (fun K' => K' a1 w) w fun t52 w =>
  guardT (isB t45 true) (fun K' => fcallT P F.pbuffer_Buffer_Take [t51, t52] w K') w fun t53 w =>
  guardT (isB t45 true) (fun K' => biT P .len #[T.sl_api_Span] T.int [false] [t53] w K') w fun t54 w =>
  guardT (isB t45 true) (fun K' => binT P .add T.int (.tmp 50) (.tmp 54) t50 t54 w K') w fun t55 w =>
  guardT (isB t45 true) (fun K' => K' (.pointer none) w) w fun t56 w =>
  guardT (isB t45 true) (fun K' => fcallT P F.pbuffer_Buffer_Traces [t56] w K') w fun t57 w =>
  guardT (isB t45 true) (fun K' => biT P .len #[T.sl_uint64] T.int [false] [t57] w K') w fun t58 w =>
  guardT (isB t45 true) (fun K' => binT P .add T.int (.tmp 55) (.tmp 58) t55 t58 w K') w fun t59 w =>
  guardT (isB t45 true) (fun K' => binT P .eql T.int (.tmp 59) (.const (.int .i64 0)) t59 (.int .i64 0) w K') w fun t60 w =>
  pickT t45 t60 (.bool false) w fun t61 w =>
  guardT (isB t61 true) (fun K' => K' (.pointer none) w) w fun t63 w =>
  guardT (isB t61 true) (fun K' => K' a1 w) w fun t64 w =>
  guardT (isB t61 true) (fun K' => K' a1 w) w fun t65 w =>
  guardT (isB t61 true) (fun K' => fcallT P F.pbuffer_Buffer_Delay [t63, t64, t65] w K') w fun t66 w =>
  guardT (isB t61 true) (fun K' => unT P .not t66 w K') w fun t67 w =>
  pickT t61 t67 (.bool false) w fun t68 w =>
  guardT (isB t68 true) (fun K' => fcallT P F.winnowlaw16_alive [] w K') w fun t70 w =>
  pickT t68 t70 (.bool false) w fun t71 w =>
  K t71 w
/-- winnow/winnowlaw16.BufferNils -/
def M.winnowlaw16_BufferNils (a0 a1 : Value) (w : World) (K : KV) : Prop :=
  boxT P T.api_Span a0 w fun t2 w =>
  joinT (fun K0 =>
  faT P T.api_Span t2 6 w fun t9 w =>
  ldT P T.string t9 w fun t10 w =>
  biT P .len #[T.string] T.int [false] [t10] w fun t11 w =>
  binT P .gtr T.int (.tmp 11) (.const (.int .i64 200)) t11 (.int .i64 200) w fun t12 w =>
  guardT (isB t12 false) (fun K' => faT P T.api_Span t2 5 w K') w fun t14 w =>
  guardT (isB t12 false) (fun K' => ldT P T.string t14 w K') w fun t15 w =>
  guardT (isB t12 false) (fun K' => biT P .len #[T.string] T.int [false] [t15] w K') w fun t16 w =>
  guardT (isB t12 false) (fun K' => binT P .gtr T.int (.tmp 16) (.const (.int .i64 200)) t16 (.int .i64 200) w K') w fun t17 w =>
  pickT t12 (.bool true) t17 w fun t18 w =>
  condT t18 (
  fcallT P F.winnowlaw16_alive [] w fun t19 w =>
  K t19 w) (
  K0 [(.bool false)] w)) fun x0 w =>
  M.winnowlaw16_BufferNils.j0 t2 a1 w K
def M.winnowlaw16_BufferNils.L : List Nat := [0, 1, 4, 5, 6, 7, 8, 2]
def M.winnowlaw16_BufferNils.pl : Nat → Plan := fun id => ⟨.nil, [], false⟩
theorem M.winnowlaw16_BufferNils.eq (a0 a1 : Value) (w : World) (K : KV) : M.winnowlaw16_BufferNils a0 a1 w K = den P M.winnowlaw16_BufferNils.L M.winnowlaw16_BufferNils.pl (Try.f12.body.getD .skip) (argE [a0, a1]) w (bodyQ P Try.f12.results.toList K) := by kernel_rfl
theorem M.winnowlaw16_BufferNils.ok : okFn M.winnowlaw16_BufferNils.L M.winnowlaw16_BufferNils.pl Try.f12 (Try.f12.body.getD .skip) 2 = true := by kernel_rfl
theorem M.winnowlaw16_BufferNils.calls (a0 a1 : Value) {w : World} {K : KV} (h : M.winnowlaw16_BufferNils a0 a1 w K) : callT P F.winnowlaw16_BufferNils [a0, a1] w K :=
  callT_of_den (by kernel_rfl) Try.func12 (by kernel_rfl) M.winnowlaw16_BufferNils.ok (M.winnowlaw16_BufferNils.eq a0 a1 w K ▸ h)
theorem M.winnowlaw16_BufferNils.fcall (args : List Value) (w : World) (K : KV) : fcallT P F.winnowlaw16_BufferNils args w K = callT P F.winnowlaw16_BufferNils args w K := fcallT_eq Try.func12 (by kernel_rfl) (by kernel_rfl) args w K
theorem M.winnowlaw16_BufferNils.rcall (a c args : List Value) (w : World) (K : KV) : callRT P (.func (.func F.winnowlaw16_BufferNils) a.toArray c.toArray) args w K = callT P F.winnowlaw16_BufferNils (a ++ args ++ c) w K := callR_fn Try.func12 (by kernel_rfl) (by kernel_rfl) a c args w K

/-- winnow/buffer.New -/
def M.buffer_New (a0 a1 a2 : Value) (w : World) (K : KV) : Prop :=
  joinT (fun K0 =>
  joinT (fun K1 =>
  binT P .lss T.int (.tmp 9) (.const (.int .i64 1)) a0 (.int .i64 1) w fun t10 w =>
  condT t10 (
  K1 [t10] w) (
  binT P .gtr T.int (.tmp 11) (.const (.int .i64 64)) a0 (.int .i64 64) w fun t12 w =>
  condT t12 (
  K1 [t12] w) (
  binT P .lss T.int (.tmp 13) (.const (.int .i64 1)) a1 (.int .i64 1) w fun t14 w =>
  condT t14 (
  K1 [t14] w) (
  binT P .gtr T.int (.tmp 15) (.const (.int .i64 16)) a1 (.int .i64 16) w fun t16 w =>
  condT t16 (
  K1 [t16] w) (
  binT P .gtr T.uint64 (.tmp 17) (.const (.int .u64 1099511627776)) a2 (.int .u64 1099511627776) w fun t18 w =>
  K1 [t18] w))))) fun x1 w =>
  condT (gv x1 0) (
  K (.tuple #[(.pointer none), (.int .i64 1)]) w) (
  K0 [(gv x1 0), (.pointer none), (.int .i64 0)] w)) fun x0 w =>
  mkmT P T.map_uint64_p_buffer_entry none w fun t22 w =>
  bldT P T.buffer_Buffer #[(1, a0), (2, a1), (3, a2), (4, t22)] w fun t23 w =>
  boxT P T.buffer_Buffer t23 w fun t24 w =>
  K (.tuple #[t24, (.int .i64 0)]) w
def M.buffer_New.L : List Nat := [0, 1, 2, 6, 7, 8]
def M.buffer_New.pl : Nat → Plan := fun id => ⟨.nil, [], false⟩
theorem M.buffer_New.eq (a0 a1 a2 : Value) (w : World) (K : KV) : M.buffer_New a0 a1 a2 w K = den P M.buffer_New.L M.buffer_New.pl (Try.f15.body.getD .skip) (argE [a0, a1, a2]) w (bodyQ P Try.f15.results.toList K) := by kernel_rfl
theorem M.buffer_New.ok : okFn M.buffer_New.L M.buffer_New.pl Try.f15 (Try.f15.body.getD .skip) 3 = true := by kernel_rfl
theorem M.buffer_New.calls (a0 a1 a2 : Value) {w : World} {K : KV} (h : M.buffer_New a0 a1 a2 w K) : callT P F.buffer_New [a0, a1, a2] w K :=
  callT_of_den (by kernel_rfl) Try.func15 (by kernel_rfl) M.buffer_New.ok (M.buffer_New.eq a0 a1 a2 w K ▸ h)
theorem M.buffer_New.fcall (args : List Value) (w : World) (K : KV) : fcallT P F.buffer_New args w K = callT P F.buffer_New args w K := fcallT_eq Try.func15 (by kernel_rfl) (by kernel_rfl) args w K
theorem M.buffer_New.rcall (a c args : List Value) (w : World) (K : KV) : callRT P (.func (.func F.buffer_New) a.toArray c.toArray) args w K = callT P F.buffer_New (a ++ args ++ c) w K := callR_fn Try.func15 (by kernel_rfl) (by kernel_rfl) a c args w K

def M.winnowlaw16_alive.j0 (t12 : Value) (w : World) (K : KV) : Prop :=
  bldT P T.api_Span #[(0, (.int .u64 1)), (1, (.int .u64 1)), (5, (.string ⟨#[97]⟩)), (6, (.string ⟨#[98]⟩))] w fun t20 w =>
  alT P T.api_Span w fun t3 w =>
  stT P T.api_Span t3 t20 w fun _ w =>
  ldT P T.api_Span t3 w fun t22 w =>
  fcallT P F.pbuffer_Buffer_Put [t12, t22, (.int .u64 0)] w fun t23 w =>
  faT P T.api_Span t3 0 w fun t24 w =>
  stT P T.uint64 t24 (.int .u64 2) w fun _ w =>
  ldT P T.api_Span t3 w fun t26 w =>
  fcallT P F.pbuffer_Buffer_Put [t12, t26, (.int .u64 0)] w fun t27 w =>
  faT P T.api_Span t3 0 w fun t28 w =>
  stT P T.uint64 t28 (.int .u64 1) w fun _ w =>
  faT P T.api_Span t3 1 w fun t29 w =>
  stT P T.uint64 t29 (.int .u64 2) w fun _ w =>
  ldT P T.api_Span t3 w fun t31 w =>
  fcallT P F.pbuffer_Buffer_Put [t12, t31, (.int .u64 0)] w fun t32 w =>
  fcallT P F.pbuffer_Buffer_Get [t12, (.int .u64 1)] w fun t35 w =>
  exT P t35 0 w fun t36 w =>
  exT P t35 1 w fun t37 w =>
  exT P t35 2 w fun t38 w =>
  binT P .eql T.api_Kind (.tmp 39) (.const (.int .i64 0)) t23 (.int .i64 0) w fun t40 w =>
  guardT (isB t40 true) (fun K' => K' t27 w) w fun t42 w =>
  guardT (isB t40 true) (fun K' => binT P .eql T.api_Kind (.tmp 42) (.const (.int .i64 8)) t42 (.int .i64 8) w K') w fun t43 w =>
  pickT t40 t43 (.bool false) w fun t44 w =>
  guardT (isB t44 true) (fun K' => K' t32 w) w fun t46 w =>
  guardT (isB t44 true) (fun K' => binT P .eql T.api_Kind (.tmp 46) (.const (.int .i64 9)) t46 (.int .i64 9) w K') w fun t47 w =>
  pickT t44 t47 (.bool false) w fun t48 w =>
  guardT (isB t48 true) (fun K' => K' t36 w) w fun t50 w =>
  guardT (isB t48 true) (fun K' => biT P .len #[T.sl_api_Span] T.int [false] [t50] w K') w fun t51 w =>
  guardT (isB t48 true) (fun K' => binT P .eql T.int (.tmp 51) (.const (.int .i64 1)) t51 (.int .i64 1) w K') w fun t52 w =>
  pickT t48 t52 (.bool false) w fun t53 w =>
  guardT (isB t53 true) (fun K' => K' t37 w) w fun t55 w =>
  pickT t53 t55 (.bool false) w fun t56 w =>
  guardT (isB t56 true) (fun K' => K' t38 w) w fun t58 w =>
  pickT t56 t58 (.bool false) w fun t59 w =>
  guardT (isB t59 true) (fun K' => K' t12 w) w fun t61 w =>
  guardT (isB t59 true) (fun K' => fcallT P F.pbuffer_Buffer_Due [t61, (.int .u64 4)] w K') w fun t62 w =>
  guardT (isB t59 true) (fun K' => biT P .len #[T.sl_uint64] T.int [false] [t62] w K') w fun t63 w =>
  guardT (isB t59 true) (fun K' => binT P .eql T.int (.tmp 63) (.const (.int .i64 0)) t63 (.int .i64 0) w K') w fun t64 w =>
  pickT t59 t64 (.bool false) w fun t65 w =>
  guardT (isB t65 true) (fun K' => K' t12 w) w fun t67 w =>
  guardT (isB t65 true) (fun K' => fcallT P F.pbuffer_Buffer_Due [t67, (.int .u64 5)] w K') w fun t68 w =>
  guardT (isB t65 true) (fun K' => biT P .len #[T.sl_uint64] T.int [false] [t68] w K') w fun t69 w =>
  guardT (isB t65 true) (fun K' => binT P .eql T.int (.tmp 69) (.const (.int .i64 1)) t69 (.int .i64 1) w K') w fun t70 w =>
  pickT t65 t70 (.bool false) w fun t71 w =>
  K t71 w
/-- winnow/winnowlaw16.alive -/
def M.winnowlaw16_alive (w : World) (K : KV) : Prop :=
  fcallT P F.buffer_New [(.int .i64 1), (.int .i64 1), (.int .u64 5)] w fun t11 w =>
  exT P t11 0 w fun t12 w =>
  exT P t11 1 w fun t13 w =>
  joinT (fun K0 =>
  binT P .neq T.api_Kind (.tmp 14) (.const (.int .i64 0)) t13 (.int .i64 0) w fun t15 w =>
  guardT (isB t15 false) (fun K' => K' t12 w) w fun t17 w =>
  guardT (isB t15 false) (fun K' => binT P .eql T.p_buffer_Buffer (.tmp 17) (.const (.pointer none)) t17 (.pointer none) w K') w fun t18 w =>
  pickT t15 (.bool true) t18 w fun t19 w =>
  condT t19 (
  K (.bool false) w) (
  K0 [(.bool false)] w)) fun x0 w =>
  M.winnowlaw16_alive.j0 t12 w K
def M.winnowlaw16_alive.L : List Nat := [0, 1, 2, 4, 5, 6, 7, 8, 9]
def M.winnowlaw16_alive.pl : Nat → Plan := fun id => ⟨.nil, [], false⟩
theorem M.winnowlaw16_alive.eq (w : World) (K : KV) : M.winnowlaw16_alive  w K = den P M.winnowlaw16_alive.L M.winnowlaw16_alive.pl (Try.f16.body.getD .skip) (argE []) w (bodyQ P Try.f16.results.toList K) := by kernel_rfl
theorem M.winnowlaw16_alive.ok : okFn M.winnowlaw16_alive.L M.winnowlaw16_alive.pl Try.f16 (Try.f16.body.getD .skip) 0 = true := by kernel_rfl
theorem M.winnowlaw16_alive.calls {w : World} {K : KV} (h : M.winnowlaw16_alive  w K) : callT P F.winnowlaw16_alive [] w K :=
  callT_of_den (by kernel_rfl) Try.func16 (by kernel_rfl) M.winnowlaw16_alive.ok (M.winnowlaw16_alive.eq  w K ▸ h)
theorem M.winnowlaw16_alive.fcall (args : List Value) (w : World) (K : KV) : fcallT P F.winnowlaw16_alive args w K = callT P F.winnowlaw16_alive args w K := fcallT_eq Try.func16 (by kernel_rfl) (by kernel_rfl) args w K
theorem M.winnowlaw16_alive.rcall (a c args : List Value) (w : World) (K : KV) : callRT P (.func (.func F.winnowlaw16_alive) a.toArray c.toArray) args w K = callT P F.winnowlaw16_alive (a ++ args ++ c) w K := callR_fn Try.func16 (by kernel_rfl) (by kernel_rfl) a c args w K

def M.pbuffer_Buffer_Put.j2 (x2 : List Value) (t4 : Value) (w : World) (K : KV) : Prop :=
  drawT w fun w =>
  w = w ∧ w = w ∧ quietT (fun K' => nilT (gv x2 3) w K') w fun t88 =>
  quietT (fun K' => faT P T.buffer_entry t88 0 w K') w fun t89 =>
  quietT (fun K' => ldT P T.sl_api_Span t89 w K') w fun t90 =>
  quietT (fun K' => ldT P T.api_Span t4 w K') w fun t91 =>
  bsT P T.sl_api_Span 1 #[(0, t91)] w fun t92 w =>
  stabT (fun K' => ldT P T.sl_api_Span t89 w K') w t90 ∧ stabT (fun K' => faT P T.buffer_entry t88 0 w K') w t89 ∧ stabT (fun K' => nilT (gv x2 3) w K') w t88 ∧ stabT (fun K' => K' (gv x2 3) w) w (gv x2 3) ∧ stabT (fun K' => K' (gv x2 3) w) w (gv x2 3) ∧ biT P .append #[T.sl_api_Span, T.sl_api_Span] T.sl_api_Span [false, false] [t90, t92] w fun t93 w =>
  stabT (fun K' => K' (gv x2 3) w) w (gv x2 3) ∧ quietT (fun K' => nilT (gv x2 3) w K') w fun t94 =>
  quietT (fun K' => faT P T.buffer_entry t94 0 w K') w fun t95 =>
  stT P T.sl_api_Span t95 t93 w fun _ w =>
  K (.int .i64 0) w
def M.pbuffer_Buffer_Put.j1 (a0 : Value) (t4 : Value) (a2 : Value) (x1 : List Value) (w : World) (K : KV) : Prop :=
  drawT w fun w =>
  w = w ∧ quietT (fun K' => nilT a0 w K') w fun t17 =>
  quietT (fun K' => faT P T.buffer_Buffer t17 4 w K') w fun t18 =>
  quietT (fun K' => ldT P T.map_uint64_p_buffer_entry t18 w K') w fun t19 =>
  quietT (fun K' => faT P T.api_Span t4 0 w K') w fun t20 =>
  quietT (fun K' => ldT P T.uint64 t20 w K') w fun t21 =>
  quietT (fun K' => luT P T.map_uint64_p_buffer_entry t19 t21 false w K') w fun t22 =>
  joinT (fun K2 =>
  drawT w fun w =>
  w = w ∧ quietT (fun K' => binT P .eql T.p_buffer_entry (.tmp 24) (.const (.pointer none)) t22 (.pointer none) w K') w fun t25 =>
  w = w ∧ quietT (fun K' => guardT (isB t25 true) (fun K' => K' a0 w) w K') w fun t27 =>
  quietT (fun K' => guardT (isB t25 true) (fun K' => nilT t27 w K') w K') w fun t28 =>
  quietT (fun K' => guardT (isB t25 true) (fun K' => faT P T.buffer_Buffer t28 4 w K') w K') w fun t29 =>
  quietT (fun K' => guardT (isB t25 true) (fun K' => ldT P T.map_uint64_p_buffer_entry t29 w K') w K') w fun t30 =>
  quietT (fun K' => guardT (isB t25 true) (fun K' => biT P .len #[T.map_uint64_p_buffer_entry] T.int [false] [t30] w K') w K') w fun t31 =>
  quietT (fun K' => guardT (isB t25 true) (fun K' => K' a0 w) w K') w fun t32 =>
  quietT (fun K' => guardT (isB t25 true) (fun K' => nilT t32 w K') w K') w fun t33 =>
  quietT (fun K' => guardT (isB t25 true) (fun K' => faT P T.buffer_Buffer t33 1 w K') w K') w fun t34 =>
  quietT (fun K' => guardT (isB t25 true) (fun K' => ldT P T.int t34 w K') w K') w fun t35 =>
  quietT (fun K' => guardT (isB t25 true) (fun K' => binT P .geq T.int (.tmp 31) (.tmp 35) t31 t35 w K') w K') w fun t36 =>
  quietT (fun K' => pickT t25 t36 (.bool false) w K') w fun t37 =>
  condT t37 (
  K (.int .i64 8) w) (
  binT P .eql T.p_buffer_entry (.tmp 39) (.const (.pointer none)) t22 (.pointer none) w fun t40 w =>
  condT t40 (
  bldT P T.buffer_entry #[] w fun t41 w =>
  boxT P T.buffer_entry t41 w fun t42 w =>
  drawT w fun w =>
  w = w ∧ quietT (fun K' => nilT a0 w K') w fun t44 =>
  quietT (fun K' => faT P T.buffer_Buffer t44 4 w K') w fun t45 =>
  quietT (fun K' => ldT P T.map_uint64_p_buffer_entry t45 w K') w fun t46 =>
  quietT (fun K' => faT P T.api_Span t4 0 w K') w fun t47 =>
  quietT (fun K' => ldT P T.uint64 t47 w K') w fun t48 =>
  w = w ∧ muT P T.map_uint64_p_buffer_entry t46 t48 t42 w fun _ w =>
  drawT w fun w =>
  w = w ∧ quietT (fun K' => nilT a0 w K') w fun t51 =>
  quietT (fun K' => faT P T.buffer_Buffer t51 0 w K') w fun t52 =>
  quietT (fun K' => faT P T.api_Span t4 0 w K') w fun t53 =>
  quietT (fun K' => ldT P T.uint64 t53 w K') w fun t54 =>
  w = w ∧ w = w ∧ quietT (fun K' => nilT a0 w K') w fun t57 =>
  quietT (fun K' => faT P T.buffer_Buffer t57 3 w K') w fun t58 =>
  quietT (fun K' => ldT P T.uint64 t58 w K') w fun t59 =>
  w = w ∧ quietT (fun K' => binT P .sub T.uint64 (.const (.int .u64 18446744073709551615)) (.tmp 60) (.int .u64 18446744073709551615) a2 w K') w fun t61 =>
  quietT (fun K' => biT P .min #[T.uint64, T.uint64] T.uint64 [false, false] [t59, t61] w K') w fun t62 =>
  quietT (fun K' => binT P .add T.uint64 (.tmp 55) (.tmp 62) a2 t62 w K') w fun t63 =>
  fcallT P F.ptimers_Heap_Set [t52, t54, t63] w fun t64 w =>
  K2 [t37, (gv x1 1), t40, t42, undef, undef] w) (
  nilT t22 w fun t67 w =>
  faT P T.buffer_entry t67 0 w fun t68 w =>
  ldT P T.sl_api_Span t68 w fun t69 w =>
  mkfT P (.func F.pbuffer_Buffer_Put_1) [] [t4] w fun t70 w =>
  fcallT P F.slices_ContainsFunc_api_Span_api_Span [t69, t70] w fun t71 w =>
  condT t71 (
  K (.int .i64 0) w) (
  drawT w fun w =>
  w = w ∧ quietT (fun K' => nilT t22 w K') w fun t74 =>
  quietT (fun K' => faT P T.buffer_entry t74 0 w K') w fun t75 =>
  quietT (fun K' => ldT P T.sl_api_Span t75 w K') w fun t76 =>
  quietT (fun K' => biT P .len #[T.sl_api_Span] T.int [false] [t76] w K') w fun t77 =>
  w = w ∧ quietT (fun K' => nilT a0 w K') w fun t79 =>
  quietT (fun K' => faT P T.buffer_Buffer t79 2 w K') w fun t80 =>
  quietT (fun K' => ldT P T.int t80 w K') w fun t81 =>
  quietT (fun K' => binT P .geq T.int (.tmp 77) (.tmp 81) t77 t81 w K') w fun t82 =>
  condT t82 (
  nilT t22 w fun t84 w =>
  faT P T.buffer_entry t84 1 w fun t85 w =>
  stT P T.bool t85 (.bool true) w fun _ w =>
  K (.int .i64 9) w) (
  K2 [t37, (gv x1 1), t40, t22, t71, t82] w))))) fun x2 w =>
  M.pbuffer_Buffer_Put.j2 x2 t4 w K
def M.pbuffer_Buffer_Put.j0 (t4 : Value) (x0 : List Value) (a0 : Value) (a2 : Value) (w : World) (K : KV) : Prop :=
  joinT (fun K1 =>
  ldT P T.api_Span t4 w fun t11 w =>
  fcallT P F.span_Right [t11] w fun t12 w =>
  binT P .neq T.api_Kind (.tmp 13) (.const (.int .i64 0)) t12 (.int .i64 0) w fun t14 w =>
  condT t14 (
  K t12 w) (
  K1 [t12, (gv x0 0)] w)) fun x1 w =>
  M.pbuffer_Buffer_Put.j1 a0 t4 a2 x1 w K
/-- (*winnow/buffer.Buffer).Put -/
def M.pbuffer_Buffer_Put (a0 a1 a2 : Value) (w : World) (K : KV) : Prop :=
  boxT P T.api_Span a1 w fun t4 w =>
  joinT (fun K0 =>
  binT P .eql T.p_buffer_Buffer (.tmp 9) (.const (.pointer none)) a0 (.pointer none) w fun t10 w =>
  condT t10 (
  K (.int .i64 13) w) (
  K0 [(.int .i64 0)] w)) fun x0 w =>
  M.pbuffer_Buffer_Put.j0 t4 x0 a0 a2 w K
def M.pbuffer_Buffer_Put.L : List Nat := [0, 1, 2, 6, 7, 8, 23, 38, 65, 72, 4]
def M.pbuffer_Buffer_Put.pl : Nat → Plan := fun id => cond (Nat.beq id 6) ⟨(.go 0 (.go 1 (.go 2 (.go 3 (.go 4 (.go 5 (.go 6 (.eff 7 .nil .stop)))))))), [7], false⟩ (cond (Nat.beq id 7) ⟨(.go 0 (.go 1 (.go 2 (.go 3 (.go 4 (.go 5 (.go 6 (.go 7 (.go 8 (.go 9 (.go 10 (.go 11 (.go 12 (.go 13 (.eff 14 .nil .stop))))))))))))))), [14], false⟩ (cond (Nat.beq id 11) ⟨(.go 0 (.go 1 (.go 2 (.go 3 (.go 4 (.go 5 (.go 6 (.eff 7 .nil .stop)))))))), [7], false⟩ (cond (Nat.beq id 12) ⟨(.go 0 (.go 1 (.go 2 (.go 3 (.go 4 (.go 5 (.go 6 (.go 7 (.go 8 (.go 9 (.go 10 (.go 11 (.go 12 (.go 13 (.eff 14 .nil .stop))))))))))))))), [14], false⟩ (cond (Nat.beq id 15) ⟨(.go 0 (.go 1 (.go 2 (.go 3 (.go 4 (.go 5 (.go 6 (.go 7 (.go 8 (.go 9 (.eff 10 .nil .stop))))))))))), [10], false⟩ (cond (Nat.beq id 18) ⟨(.go 0 (.go 1 (.go 2 (.go 3 (.go 4 (.go 5 (.eff 6 (.eff 7 (.go 8 (.go 9 (.eff 10 .nil .stop))) .stop) .stop))))))), [6, 7, 10], false⟩ (⟨.nil, [], false⟩))))))
theorem M.pbuffer_Buffer_Put.eq (a0 a1 a2 : Value) (w : World) (K : KV) : M.pbuffer_Buffer_Put a0 a1 a2 w K = den P M.pbuffer_Buffer_Put.L M.pbuffer_Buffer_Put.pl (Try.f17.body.getD .skip) (argE [a0, a1, a2]) w (bodyQ P Try.f17.results.toList K) := by kernel_rfl
theorem M.pbuffer_Buffer_Put.ok : okFn M.pbuffer_Buffer_Put.L M.pbuffer_Buffer_Put.pl Try.f17 (Try.f17.body.getD .skip) 3 = true := by kernel_rfl
theorem M.pbuffer_Buffer_Put.calls (a0 a1 a2 : Value) {w : World} {K : KV} (h : M.pbuffer_Buffer_Put a0 a1 a2 w K) : callT P F.pbuffer_Buffer_Put [a0, a1, a2] w K :=
  callT_of_den (by kernel_rfl) Try.func17 (by kernel_rfl) M.pbuffer_Buffer_Put.ok (M.pbuffer_Buffer_Put.eq a0 a1 a2 w K ▸ h)
theorem M.pbuffer_Buffer_Put.fcall (args : List Value) (w : World) (K : KV) : fcallT P F.pbuffer_Buffer_Put args w K = callT P F.pbuffer_Buffer_Put args w K := fcallT_eq Try.func17 (by kernel_rfl) (by kernel_rfl) args w K
theorem M.pbuffer_Buffer_Put.rcall (a c args : List Value) (w : World) (K : KV) : callRT P (.func (.func F.pbuffer_Buffer_Put) a.toArray c.toArray) args w K = callT P F.pbuffer_Buffer_Put (a ++ args ++ c) w K := callR_fn Try.func17 (by kernel_rfl) (by kernel_rfl) a c args w K

def M.pbuffer_Buffer_Due.j3 (t17 : Value) (a0 : Value) (t12 : Value) (K2 : KL) (w : World) (K : KV) : Prop :=
  enT P t17 w fun t20 w =>
  exT P t20 0 w fun t21 w =>
  nilT a0 w fun t26 w =>
  faT P T.buffer_Buffer t26 0 w fun t27 w =>
  fcallT P F.ptimers_Heap_At [t27, t21] w fun t29 w =>
  exT P t29 0 w fun t30 w =>
  exT P t29 1 w fun t31 w =>
  muT P T.map_uint64_uint64 t12 t21 t30 w fun _ w =>
  K2 [t21] w
def M.pbuffer_Buffer_Due.j6 (t36 : Value) (x5 : List Value) (a0 : Value) (t12 : Value) (K5 : KL) (w : World) (K : KV) : Prop :=
  joinT (fun K7 =>
  iaT P T.sl_uint64 t36 (gv x5 1) w fun t41 w =>
  ldT P T.uint64 t41 w fun t42 w =>
  drawT w fun w =>
  w = w ∧ quietT (fun K' => nilT a0 w K') w fun t44 =>
  quietT (fun K' => faT P T.buffer_Buffer t44 0 w K') w fun t45 =>
  w = w ∧ w = w ∧ w = w ∧ quietT (fun K' => luT P T.map_uint64_uint64 t12 t42 false w K') w fun t49 =>
  fcallT P F.ptimers_Heap_Set [t45, t42, t49] w fun t50 w =>
  K7 [t42] w) fun x7 w =>
  binT P .add T.int (.tmp 39) (.const (.int .i64 1)) (gv x5 1) (.int .i64 1) w fun t51 w =>
  K5 [(gv x7 0), t51] w
def M.pbuffer_Buffer_Due.j1 (a0 : Value) (a1 : Value) (t12 : Value) (w : World) (K : KV) : Prop :=
  nilT a0 w fun t33 w =>
  faT P T.buffer_Buffer t33 0 w fun t34 w =>
  fcallT P F.ptimers_Heap_Pop [t34, a1] w fun t36 w =>
  joinT (fun K4 =>
  biT P .len #[T.sl_uint64] T.int [false] [t36] w fun t38 w =>
  loopT [undef, (.int .i64 0)] w fun K5 x5 w =>
  binT P .lss T.int (.tmp 39) (.tmp 38) (gv x5 1) t38 w fun t40 w =>
  joinT (fun K6 =>
  condT t40 (
  K6 [] w) (
  K4 [t36, t38, (gv x5 1), (gv x5 0)] w)) fun x6 w =>
  M.pbuffer_Buffer_Due.j6 t36 x5 a0 t12 K5 w K) fun x4 w =>
  K t36 w
def M.pbuffer_Buffer_Due.j0 (a0 : Value) (a1 : Value) (w : World) (K : KV) : Prop :=
  mkmT P T.map_uint64_uint64 none w fun t12 w =>
  joinT (fun K1 =>
  nilT a0 w fun t14 w =>
  faT P T.buffer_Buffer t14 4 w fun t15 w =>
  ldT P T.map_uint64_p_buffer_entry t15 w fun t16 w =>
  rgT P T.map_uint64_p_buffer_entry t16 w fun t17 w =>
  loopT [undef] w fun K2 x2 w =>
  nxT P t17 false T._ w fun t18 w =>
  exT P t18 0 w fun t19 w =>
  joinT (fun K3 =>
  condT t19 (
  K3 [] w) (
  K1 [t17, (gv x2 0)] w)) fun x3 w =>
  M.pbuffer_Buffer_Due.j3 t17 a0 t12 K2 w K) fun x1 w =>
  M.pbuffer_Buffer_Due.j1 a0 a1 t12 w K
/-- (*winnow/buffer.Buffer).Due -/
def M.pbuffer_Buffer_Due (a0 a1 : Value) (w : World) (K : KV) : Prop :=
  joinT (fun K0 =>
  binT P .eql T.p_buffer_Buffer (.tmp 10) (.const (.pointer none)) a0 (.pointer none) w fun t11 w =>
  condT t11 (
  K (.slice none 0 0) w) (
  K0 [(.slice none 0 0)] w)) fun x0 w =>
  M.pbuffer_Buffer_Due.j0 a0 a1 w K
def M.pbuffer_Buffer_Due.L : List Nat := [0, 1, 4, 5, 6, 7, 9, 17, 39, 38, 37]
def M.pbuffer_Buffer_Due.pl : Nat → Plan := fun id => cond (Nat.beq id 12) ⟨(.go 0 (.go 1 (.go 2 (.go 3 (.go 4 (.go 5 (.go 6 (.eff 7 .nil .stop)))))))), [7], false⟩ (⟨.nil, [], false⟩)
theorem M.pbuffer_Buffer_Due.eq (a0 a1 : Value) (w : World) (K : KV) : M.pbuffer_Buffer_Due a0 a1 w K = den P M.pbuffer_Buffer_Due.L M.pbuffer_Buffer_Due.pl (Try.f18.body.getD .skip) (argE [a0, a1]) w (bodyQ P Try.f18.results.toList K) := by kernel_rfl
theorem M.pbuffer_Buffer_Due.ok : okFn M.pbuffer_Buffer_Due.L M.pbuffer_Buffer_Due.pl Try.f18 (Try.f18.body.getD .skip) 2 = true := by kernel_rfl
theorem M.pbuffer_Buffer_Due.calls (a0 a1 : Value) {w : World} {K : KV} (h : M.pbuffer_Buffer_Due a0 a1 w K) : callT P F.pbuffer_Buffer_Due [a0, a1] w K :=
  callT_of_den (by kernel_rfl) Try.func18 (by kernel_rfl) M.pbuffer_Buffer_Due.ok (M.pbuffer_Buffer_Due.eq a0 a1 w K ▸ h)
theorem M.pbuffer_Buffer_Due.fcall (args : List Value) (w : World) (K : KV) : fcallT P F.pbuffer_Buffer_Due args w K = callT P F.pbuffer_Buffer_Due args w K := fcallT_eq Try.func18 (by kernel_rfl) (by kernel_rfl) args w K
theorem M.pbuffer_Buffer_Due.rcall (a c args : List Value) (w : World) (K : KV) : callRT P (.func (.func F.pbuffer_Buffer_Due) a.toArray c.toArray) args w K = callT P F.pbuffer_Buffer_Due (a ++ args ++ c) w K := callR_fn Try.func18 (by kernel_rfl) (by kernel_rfl) a c args w K

def M.winnowlaw16_uints.j3 (a0 : Value) (x2 : List Value) (a1 : Value) (K2 : KL) (w : World) (K : KV) : Prop :=
  joinT (fun K4 =>
  drawT w fun w =>
  w = w ∧ w = w ∧ quietT (fun K' => iaT P T.sl_uint64 a0 (gv x2 1) w K') w fun t19 =>
  quietT (fun K' => ldT P T.uint64 t19 w K') w fun t20 =>
  w = w ∧ w = w ∧ quietT (fun K' => iaT P T.sl_uint64 a1 (gv x2 1) w K') w fun t23 =>
  quietT (fun K' => ldT P T.uint64 t23 w K') w fun t24 =>
  quietT (fun K' => binT P .neq T.uint64 (.tmp 20) (.tmp 24) t20 t24 w K') w fun t25 =>
  condT t25 (
  K (.bool false) w) (
  K4 [(gv x2 0)] w)) fun x4 w =>
  binT P .add T.int (.tmp 15) (.const (.int .i64 1)) (gv x2 1) (.int .i64 1) w fun t16 w =>
  K2 [(gv x4 0), t16] w
def M.winnowlaw16_uints.j0 (x0 : List Value) (a0 : Value) (a1 : Value) (w : World) (K : KV) : Prop :=
  joinT (fun K1 =>
  loopT [(gv x0 0), (.int .i64 0)] w fun K2 x2 w =>
  joinT (fun K3 =>
  biT P .len #[T.sl_uint64] T.int [false] [a0] w fun t13 w =>
  binT P .lss T.int (.tmp 11) (.tmp 13) (gv x2 1) t13 w fun t14 w =>
  condT t14 (
  K3 [] w) (
  K1 [(gv x2 1), (gv x2 0)] w)) fun x3 w =>
  M.winnowlaw16_uints.j3 a0 x2 a1 K2 w K) fun x1 w =>
  K (.bool true) w
/-- winnow/winnowlaw16.uints -/
def M.winnowlaw16_uints (a0 a1 : Value) (w : World) (K : KV) : Prop :=
  joinT (fun K0 =>
  biT P .len #[T.sl_uint64] T.int [false] [a0] w fun t7 w =>
  biT P .len #[T.sl_uint64] T.int [false] [a1] w fun t9 w =>
  binT P .neq T.int (.tmp 7) (.tmp 9) t7 t9 w fun t10 w =>
  condT t10 (
  K (.bool false) w) (
  K0 [(.bool false)] w)) fun x0 w =>
  M.winnowlaw16_uints.j0 x0 a0 a1 w K
def M.winnowlaw16_uints.L : List Nat := [0, 1, 4, 5]
def M.winnowlaw16_uints.pl : Nat → Plan := fun id => cond (Nat.beq id 6) ⟨(.go 0 (.go 1 (.go 2 (.go 3 (.go 4 (.go 5 (.go 6 (.go 7 (.go 8 .nil))))))))), [], false⟩ (⟨.nil, [], false⟩)
theorem M.winnowlaw16_uints.eq (a0 a1 : Value) (w : World) (K : KV) : M.winnowlaw16_uints a0 a1 w K = den P M.winnowlaw16_uints.L M.winnowlaw16_uints.pl (Try.f19.body.getD .skip) (argE [a0, a1]) w (bodyQ P Try.f19.results.toList K) := by kernel_rfl
theorem M.winnowlaw16_uints.ok : okFn M.winnowlaw16_uints.L M.winnowlaw16_uints.pl Try.f19 (Try.f19.body.getD .skip) 2 = true := by kernel_rfl
theorem M.winnowlaw16_uints.calls (a0 a1 : Value) {w : World} {K : KV} (h : M.winnowlaw16_uints a0 a1 w K) : callT P F.winnowlaw16_uints [a0, a1] w K :=
  callT_of_den (by kernel_rfl) Try.func19 (by kernel_rfl) M.winnowlaw16_uints.ok (M.winnowlaw16_uints.eq a0 a1 w K ▸ h)
theorem M.winnowlaw16_uints.fcall (args : List Value) (w : World) (K : KV) : fcallT P F.winnowlaw16_uints args w K = callT P F.winnowlaw16_uints args w K := fcallT_eq Try.func19 (by kernel_rfl) (by kernel_rfl) args w K
theorem M.winnowlaw16_uints.rcall (a c args : List Value) (w : World) (K : KV) : callRT P (.func (.func F.winnowlaw16_uints) a.toArray c.toArray) args w K = callT P F.winnowlaw16_uints (a ++ args ++ c) w K := callR_fn Try.func19 (by kernel_rfl) (by kernel_rfl) a c args w K

def M.pbuffer_Buffer_Get.j0 (a0 : Value) (a1 : Value) (w : World) (K : KV) : Prop :=
  nilT a0 w fun t20 w =>
  faT P T.buffer_Buffer t20 4 w fun t21 w =>
  ldT P T.map_uint64_p_buffer_entry t21 w fun t22 w =>
  luT P T.map_uint64_p_buffer_entry t22 a1 false w fun t24 w =>
  drawT w fun w =>
  w = w ∧ quietT (fun K' => nilT t24 w K') w fun t26 =>
  quietT (fun K' => faT P T.buffer_entry t26 0 w K') w fun t27 =>
  quietT (fun K' => ldT P T.sl_api_Span t27 w K') w fun t28 =>
  w = w ∧ quietT (fun K' => nilT t24 w K') w fun t31 =>
  quietT (fun K' => faT P T.buffer_entry t31 1 w K') w fun t32 =>
  quietT (fun K' => ldT P T.bool t32 w K') w fun t33 =>
  fcallT P F.slices_Clone_api_Span_api_Span [t28] w fun t29 w =>
  stabT (fun K' => ldT P T.bool t32 w K') w t33 ∧ stabT (fun K' => faT P T.buffer_entry t31 1 w K') w t32 ∧ stabT (fun K' => nilT t24 w K') w t31 ∧ stabT (fun K' => K' t24 w) w t24 ∧ stabT (fun K' => ldT P T.bool t32 w K') w t33 ∧ stabT (fun K' => faT P T.buffer_entry t31 1 w K') w t32 ∧ stabT (fun K' => nilT t24 w K') w t31 ∧ stabT (fun K' => K' t24 w) w t24 ∧ K (.tuple #[t29, t33, (.bool true)]) w
/-- (*winnow/buffer.Buffer).Get -/
def M.pbuffer_Buffer_Get (a0 a1 : Value) (w : World) (K : KV) : Prop :=
  joinT (fun K0 =>
  binT P .eql T.p_buffer_Buffer (.tmp 8) (.const (.pointer none)) a0 (.pointer none) w fun t9 w =>
  guardT (isB t9 false) (fun K' => K' a0 w) w fun t11 w =>
  guardT (isB t9 false) (fun K' => nilT t11 w K') w fun t12 w =>
  guardT (isB t9 false) (fun K' => faT P T.buffer_Buffer t12 4 w K') w fun t13 w =>
  guardT (isB t9 false) (fun K' => ldT P T.map_uint64_p_buffer_entry t13 w K') w fun t14 w =>
  guardT (isB t9 false) (fun K' => K' a1 w) w fun t15 w =>
  guardT (isB t9 false) (fun K' => luT P T.map_uint64_p_buffer_entry t14 t15 false w K') w fun t16 w =>
  guardT (isB t9 false) (fun K' => binT P .eql T.p_buffer_entry (.tmp 16) (.const (.pointer none)) t16 (.pointer none) w K') w fun t17 w =>
  pickT t9 (.bool true) t17 w fun t18 w =>
  condT t18 (
  K (.tuple #[(.slice none 0 0), (.bool false), (.bool false)]) w) (
  K0 [(.slice none 0 0), (.bool false), (.bool false)] w)) fun x0 w =>
  M.pbuffer_Buffer_Get.j0 a0 a1 w K
def M.pbuffer_Buffer_Get.L : List Nat := [0, 1, 4, 5, 6, 7]
def M.pbuffer_Buffer_Get.pl : Nat → Plan := fun id => cond (Nat.beq id 4) ⟨(.go 0 (.go 1 (.go 2 (.go 3 (.go 5 (.go 6 (.go 7 (.go 8 (.eff 4 (.eff 9 (.eff 10 (.eff 11 .nil .stop) .stop) .stop) .stop))))))))), [4, 9, 10, 11], false⟩ (⟨.nil, [], false⟩)
theorem M.pbuffer_Buffer_Get.eq (a0 a1 : Value) (w : World) (K : KV) : M.pbuffer_Buffer_Get a0 a1 w K = den P M.pbuffer_Buffer_Get.L M.pbuffer_Buffer_Get.pl (Try.f20.body.getD .skip) (argE [a0, a1]) w (bodyQ P Try.f20.results.toList K) := by kernel_rfl
theorem M.pbuffer_Buffer_Get.ok : okFn M.pbuffer_Buffer_Get.L M.pbuffer_Buffer_Get.pl Try.f20 (Try.f20.body.getD .skip) 2 = true := by kernel_rfl
theorem M.pbuffer_Buffer_Get.calls (a0 a1 : Value) {w : World} {K : KV} (h : M.pbuffer_Buffer_Get a0 a1 w K) : callT P F.pbuffer_Buffer_Get [a0, a1] w K :=
  callT_of_den (by kernel_rfl) Try.func20 (by kernel_rfl) M.pbuffer_Buffer_Get.ok (M.pbuffer_Buffer_Get.eq a0 a1 w K ▸ h)
theorem M.pbuffer_Buffer_Get.fcall (args : List Value) (w : World) (K : KV) : fcallT P F.pbuffer_Buffer_Get args w K = callT P F.pbuffer_Buffer_Get args w K := fcallT_eq Try.func20 (by kernel_rfl) (by kernel_rfl) args w K
theorem M.pbuffer_Buffer_Get.rcall (a c args : List Value) (w : World) (K : KV) : callRT P (.func (.func F.pbuffer_Buffer_Get) a.toArray c.toArray) args w K = callT P F.pbuffer_Buffer_Get (a ++ args ++ c) w K := callR_fn Try.func20 (by kernel_rfl) (by kernel_rfl) a c args w K

def M.winnowref03_Right.j0 (t1 : Value) (x0 : List Value) (w : World) (K : KV) : Prop :=
  joinT (fun K1 =>
  faT P T.api_Span t1 5 w fun t21 w =>
  ldT P T.string t21 w fun t22 w =>
  fcallT P F.winnowref03_Name [t22] w fun t23 w =>
  binT P .neq T.api_Kind (.tmp 23) (.const (.int .i64 0)) t23 (.int .i64 0) w fun t24 w =>
  guardT (isB t24 false) (fun K' => faT P T.api_Span t1 6 w K') w fun t26 w =>
  guardT (isB t24 false) (fun K' => ldT P T.string t26 w K') w fun t27 w =>
  guardT (isB t24 false) (fun K' => fcallT P F.winnowref03_Name [t27] w K') w fun t28 w =>
  guardT (isB t24 false) (fun K' => binT P .neq T.api_Kind (.tmp 28) (.const (.int .i64 0)) t28 (.int .i64 0) w K') w fun t29 w =>
  pickT t24 (.bool true) t29 w fun t30 w =>
  condT t30 (
  K (.int .i64 5) w) (
  K1 [(gv x0 0)] w)) fun x1 w =>
  K (.int .i64 0) w
/-- winnow/winnowref03.Right -/
def M.winnowref03_Right (a0 : Value) (w : World) (K : KV) : Prop :=
  boxT P T.api_Span a0 w fun t1 w =>
  joinT (fun K0 =>
  faT P T.api_Span t1 0 w fun t3 w =>
  ldT P T.uint64 t3 w fun t4 w =>
  binT P .eql T.uint64 (.tmp 4) (.const (.int .u64 0)) t4 (.int .u64 0) w fun t5 w =>
  guardT (isB t5 false) (fun K' => faT P T.api_Span t1 1 w K') w fun t7 w =>
  guardT (isB t5 false) (fun K' => ldT P T.uint64 t7 w K') w fun t8 w =>
  guardT (isB t5 false) (fun K' => binT P .eql T.uint64 (.tmp 8) (.const (.int .u64 0)) t8 (.int .u64 0) w K') w fun t9 w =>
  pickT t5 (.bool true) t9 w fun t10 w =>
  guardT (isB t10 false) (fun K' => faT P T.api_Span t1 3 w K') w fun t12 w =>
  guardT (isB t10 false) (fun K' => ldT P T.uint64 t12 w K') w fun t13 w =>
  guardT (isB t10 false) (fun K' => binT P .gtr T.uint64 (.tmp 13) (.const (.int .u64 1099511627776)) t13 (.int .u64 1099511627776) w K') w fun t14 w =>
  pickT t10 (.bool true) t14 w fun t15 w =>
  guardT (isB t15 false) (fun K' => faT P T.api_Span t1 4 w K') w fun t17 w =>
  guardT (isB t15 false) (fun K' => ldT P T.uint64 t17 w K') w fun t18 w =>
  guardT (isB t15 false) (fun K' => binT P .gtr T.uint64 (.tmp 18) (.const (.int .u64 1099511627776)) t18 (.int .u64 1099511627776) w K') w fun t19 w =>
  pickT t15 (.bool true) t19 w fun t20 w =>
  condT t20 (
  K (.int .i64 1) w) (
  K0 [(.int .i64 0)] w)) fun x0 w =>
  M.winnowref03_Right.j0 t1 x0 w K
def M.winnowref03_Right.L : List Nat := [0, 2, 1]
def M.winnowref03_Right.pl : Nat → Plan := fun id => ⟨.nil, [], false⟩
theorem M.winnowref03_Right.eq (a0 : Value) (w : World) (K : KV) : M.winnowref03_Right a0 w K = den P M.winnowref03_Right.L M.winnowref03_Right.pl (Try.f21.body.getD .skip) (argE [a0]) w (bodyQ P Try.f21.results.toList K) := by kernel_rfl
theorem M.winnowref03_Right.ok : okFn M.winnowref03_Right.L M.winnowref03_Right.pl Try.f21 (Try.f21.body.getD .skip) 1 = true := by kernel_rfl
theorem M.winnowref03_Right.calls (a0 : Value) {w : World} {K : KV} (h : M.winnowref03_Right a0 w K) : callT P F.winnowref03_Right [a0] w K :=
  callT_of_den (by kernel_rfl) Try.func21 (by kernel_rfl) M.winnowref03_Right.ok (M.winnowref03_Right.eq a0 w K ▸ h)
theorem M.winnowref03_Right.fcall (args : List Value) (w : World) (K : KV) : fcallT P F.winnowref03_Right args w K = callT P F.winnowref03_Right args w K := fcallT_eq Try.func21 (by kernel_rfl) (by kernel_rfl) args w K
theorem M.winnowref03_Right.rcall (a c args : List Value) (w : World) (K : KV) : callRT P (.func (.func F.winnowref03_Right) a.toArray c.toArray) args w K = callT P F.winnowref03_Right (a ++ args ++ c) w K := callR_fn Try.func21 (by kernel_rfl) (by kernel_rfl) a c args w K

def M.winnowref03_Spans.j3 (a0 : Value) (x2 : List Value) (a1 : Value) (K2 : KL) (w : World) (K : KV) : Prop :=
  joinT (fun K4 =>
  drawT w fun w =>
  w = w ∧ w = w ∧ quietT (fun K' => iaT P T.sl_api_Span a0 (gv x2 1) w K') w fun t19 =>
  quietT (fun K' => ldT P T.api_Span t19 w K') w fun t20 =>
  w = w ∧ w = w ∧ quietT (fun K' => iaT P T.sl_api_Span a1 (gv x2 1) w K') w fun t23 =>
  quietT (fun K' => ldT P T.api_Span t23 w K') w fun t24 =>
  quietT (fun K' => binT P .neq T.api_Span (.tmp 20) (.tmp 24) t20 t24 w K') w fun t25 =>
  condT t25 (
  K (.bool false) w) (
  K4 [(gv x2 0)] w)) fun x4 w =>
  binT P .add T.int (.tmp 15) (.const (.int .i64 1)) (gv x2 1) (.int .i64 1) w fun t16 w =>
  K2 [(gv x4 0), t16] w
def M.winnowref03_Spans.j0 (x0 : List Value) (a0 : Value) (a1 : Value) (w : World) (K : KV) : Prop :=
  joinT (fun K1 =>
  loopT [(gv x0 0), (.int .i64 0)] w fun K2 x2 w =>
  joinT (fun K3 =>
  biT P .len #[T.sl_api_Span] T.int [false] [a0] w fun t13 w =>
  binT P .lss T.int (.tmp 11) (.tmp 13) (gv x2 1) t13 w fun t14 w =>
  condT t14 (
  K3 [] w) (
  K1 [(gv x2 1), (gv x2 0)] w)) fun x3 w =>
  M.winnowref03_Spans.j3 a0 x2 a1 K2 w K) fun x1 w =>
  K (.bool true) w
/-- winnow/winnowref03.Spans -/
def M.winnowref03_Spans (a0 a1 : Value) (w : World) (K : KV) : Prop :=
  joinT (fun K0 =>
  biT P .len #[T.sl_api_Span] T.int [false] [a0] w fun t7 w =>
  biT P .len #[T.sl_api_Span] T.int [false] [a1] w fun t9 w =>
  binT P .neq T.int (.tmp 7) (.tmp 9) t7 t9 w fun t10 w =>
  condT t10 (
  K (.bool false) w) (
  K0 [(.bool false)] w)) fun x0 w =>
  M.winnowref03_Spans.j0 x0 a0 a1 w K
def M.winnowref03_Spans.L : List Nat := [0, 1, 4, 5]
def M.winnowref03_Spans.pl : Nat → Plan := fun id => cond (Nat.beq id 6) ⟨(.go 0 (.go 1 (.go 2 (.go 3 (.go 4 (.go 5 (.go 6 (.go 7 (.go 8 .nil))))))))), [], false⟩ (⟨.nil, [], false⟩)
theorem M.winnowref03_Spans.eq (a0 a1 : Value) (w : World) (K : KV) : M.winnowref03_Spans a0 a1 w K = den P M.winnowref03_Spans.L M.winnowref03_Spans.pl (Try.f22.body.getD .skip) (argE [a0, a1]) w (bodyQ P Try.f22.results.toList K) := by kernel_rfl
theorem M.winnowref03_Spans.ok : okFn M.winnowref03_Spans.L M.winnowref03_Spans.pl Try.f22 (Try.f22.body.getD .skip) 2 = true := by kernel_rfl
theorem M.winnowref03_Spans.calls (a0 a1 : Value) {w : World} {K : KV} (h : M.winnowref03_Spans a0 a1 w K) : callT P F.winnowref03_Spans [a0, a1] w K :=
  callT_of_den (by kernel_rfl) Try.func22 (by kernel_rfl) M.winnowref03_Spans.ok (M.winnowref03_Spans.eq a0 a1 w K ▸ h)
theorem M.winnowref03_Spans.fcall (args : List Value) (w : World) (K : KV) : fcallT P F.winnowref03_Spans args w K = callT P F.winnowref03_Spans args w K := fcallT_eq Try.func22 (by kernel_rfl) (by kernel_rfl) args w K
theorem M.winnowref03_Spans.rcall (a c args : List Value) (w : World) (K : KV) : callRT P (.func (.func F.winnowref03_Spans) a.toArray c.toArray) args w K = callT P F.winnowref03_Spans (a ++ args ++ c) w K := callR_fn Try.func22 (by kernel_rfl) (by kernel_rfl) a c args w K

def M.pbuffer_Buffer_Take.j0 (a0 : Value) (a1 : Value) (w : World) (K : KV) : Prop :=
  nilT a0 w fun t18 w =>
  faT P T.buffer_Buffer t18 4 w fun t19 w =>
  ldT P T.map_uint64_p_buffer_entry t19 w fun t20 w =>
  luT P T.map_uint64_p_buffer_entry t20 a1 false w fun t22 w =>
  nilT t22 w fun t23 w =>
  faT P T.buffer_entry t23 0 w fun t24 w =>
  ldT P T.sl_api_Span t24 w fun t25 w =>
  nilT a0 w fun t27 w =>
  faT P T.buffer_Buffer t27 4 w fun t28 w =>
  ldT P T.map_uint64_p_buffer_entry t28 w fun t29 w =>
  biT P .delete #[T.map_uint64_p_buffer_entry, T.uint64] T._ [false, false] [t29, a1] w fun _ w =>
  nilT a0 w fun t32 w =>
  faT P T.buffer_Buffer t32 0 w fun t33 w =>
  fcallT P F.ptimers_Heap_Del [t33, a1] w fun t35 w =>
  K t25 w
/-- (*winnow/buffer.Buffer).Take -/
def M.pbuffer_Buffer_Take (a0 a1 : Value) (w : World) (K : KV) : Prop :=
  joinT (fun K0 =>
  binT P .eql T.p_buffer_Buffer (.tmp 6) (.const (.pointer none)) a0 (.pointer none) w fun t7 w =>
  guardT (isB t7 false) (fun K' => K' a0 w) w fun t9 w =>
  guardT (isB t7 false) (fun K' => nilT t9 w K') w fun t10 w =>
  guardT (isB t7 false) (fun K' => faT P T.buffer_Buffer t10 4 w K') w fun t11 w =>
  guardT (isB t7 false) (fun K' => ldT P T.map_uint64_p_buffer_entry t11 w K') w fun t12 w =>
  guardT (isB t7 false) (fun K' => K' a1 w) w fun t13 w =>
  guardT (isB t7 false) (fun K' => luT P T.map_uint64_p_buffer_entry t12 t13 false w K') w fun t14 w =>
  guardT (isB t7 false) (fun K' => binT P .eql T.p_buffer_entry (.tmp 14) (.const (.pointer none)) t14 (.pointer none) w K') w fun t15 w =>
  pickT t7 (.bool true) t15 w fun t16 w =>
  condT t16 (
  K (.slice none 0 0) w) (
  K0 [(.slice none 0 0)] w)) fun x0 w =>
  M.pbuffer_Buffer_Take.j0 a0 a1 w K
def M.pbuffer_Buffer_Take.L : List Nat := [0, 1, 4, 5]
def M.pbuffer_Buffer_Take.pl : Nat → Plan := fun id => ⟨.nil, [], false⟩
theorem M.pbuffer_Buffer_Take.eq (a0 a1 : Value) (w : World) (K : KV) : M.pbuffer_Buffer_Take a0 a1 w K = den P M.pbuffer_Buffer_Take.L M.pbuffer_Buffer_Take.pl (Try.f23.body.getD .skip) (argE [a0, a1]) w (bodyQ P Try.f23.results.toList K) := by kernel_rfl
theorem M.pbuffer_Buffer_Take.ok : okFn M.pbuffer_Buffer_Take.L M.pbuffer_Buffer_Take.pl Try.f23 (Try.f23.body.getD .skip) 2 = true := by kernel_rfl
theorem M.pbuffer_Buffer_Take.calls (a0 a1 : Value) {w : World} {K : KV} (h : M.pbuffer_Buffer_Take a0 a1 w K) : callT P F.pbuffer_Buffer_Take [a0, a1] w K :=
  callT_of_den (by kernel_rfl) Try.func23 (by kernel_rfl) M.pbuffer_Buffer_Take.ok (M.pbuffer_Buffer_Take.eq a0 a1 w K ▸ h)
theorem M.pbuffer_Buffer_Take.fcall (args : List Value) (w : World) (K : KV) : fcallT P F.pbuffer_Buffer_Take args w K = callT P F.pbuffer_Buffer_Take args w K := fcallT_eq Try.func23 (by kernel_rfl) (by kernel_rfl) args w K
theorem M.pbuffer_Buffer_Take.rcall (a c args : List Value) (w : World) (K : KV) : callRT P (.func (.func F.pbuffer_Buffer_Take) a.toArray c.toArray) args w K = callT P F.pbuffer_Buffer_Take (a ++ args ++ c) w K := callR_fn Try.func23 (by kernel_rfl) (by kernel_rfl) a c args w K

/-- (*winnow/buffer.Buffer).Delay -/
def M.pbuffer_Buffer_Delay (a0 a1 a2 : Value) (w : World) (K : KV) : Prop :=
  joinT (fun K0 =>
  binT P .eql T.p_buffer_Buffer (.tmp 7) (.const (.pointer none)) a0 (.pointer none) w fun t8 w =>
  guardT (isB t8 false) (fun K' => K' a0 w) w fun t10 w =>
  guardT (isB t8 false) (fun K' => nilT t10 w K') w fun t11 w =>
  guardT (isB t8 false) (fun K' => faT P T.buffer_Buffer t11 4 w K') w fun t12 w =>
  guardT (isB t8 false) (fun K' => ldT P T.map_uint64_p_buffer_entry t12 w K') w fun t13 w =>
  guardT (isB t8 false) (fun K' => K' a1 w) w fun t14 w =>
  guardT (isB t8 false) (fun K' => luT P T.map_uint64_p_buffer_entry t13 t14 false w K') w fun t15 w =>
  guardT (isB t8 false) (fun K' => binT P .eql T.p_buffer_entry (.tmp 15) (.const (.pointer none)) t15 (.pointer none) w K') w fun t16 w =>
  pickT t8 (.bool true) t16 w fun t17 w =>
  condT t17 (
  K (.bool false) w) (
  K0 [(.bool false)] w)) fun x0 w =>
  nilT a0 w fun t19 w =>
  faT P T.buffer_Buffer t19 0 w fun t20 w =>
  fcallT P F.ptimers_Heap_Set [t20, a1, a2] w fun t23 w =>
  K (.bool true) w
def M.pbuffer_Buffer_Delay.L : List Nat := [0, 1, 2, 6]
def M.pbuffer_Buffer_Delay.pl : Nat → Plan := fun id => ⟨.nil, [], false⟩
theorem M.pbuffer_Buffer_Delay.eq (a0 a1 a2 : Value) (w : World) (K : KV) : M.pbuffer_Buffer_Delay a0 a1 a2 w K = den P M.pbuffer_Buffer_Delay.L M.pbuffer_Buffer_Delay.pl (Try.f24.body.getD .skip) (argE [a0, a1, a2]) w (bodyQ P Try.f24.results.toList K) := by kernel_rfl
theorem M.pbuffer_Buffer_Delay.ok : okFn M.pbuffer_Buffer_Delay.L M.pbuffer_Buffer_Delay.pl Try.f24 (Try.f24.body.getD .skip) 3 = true := by kernel_rfl
theorem M.pbuffer_Buffer_Delay.calls (a0 a1 a2 : Value) {w : World} {K : KV} (h : M.pbuffer_Buffer_Delay a0 a1 a2 w K) : callT P F.pbuffer_Buffer_Delay [a0, a1, a2] w K :=
  callT_of_den (by kernel_rfl) Try.func24 (by kernel_rfl) M.pbuffer_Buffer_Delay.ok (M.pbuffer_Buffer_Delay.eq a0 a1 a2 w K ▸ h)
theorem M.pbuffer_Buffer_Delay.fcall (args : List Value) (w : World) (K : KV) : fcallT P F.pbuffer_Buffer_Delay args w K = callT P F.pbuffer_Buffer_Delay args w K := fcallT_eq Try.func24 (by kernel_rfl) (by kernel_rfl) args w K
theorem M.pbuffer_Buffer_Delay.rcall (a c args : List Value) (w : World) (K : KV) : callRT P (.func (.func F.pbuffer_Buffer_Delay) a.toArray c.toArray) args w K = callT P F.pbuffer_Buffer_Delay (a ++ args ++ c) w K := callR_fn Try.func24 (by kernel_rfl) (by kernel_rfl) a c args w K

def M.pbuffer_Buffer_Traces.j0 (a0 : Value) (w : World) (K : KV) : Prop :=
  nilT a0 w fun t6 w =>
  faT P T.buffer_Buffer t6 4 w fun t7 w =>
  ldT P T.map_uint64_p_buffer_entry t7 w fun t8 w =>
  fcallT P F.maps_Keys_map_uint64_buffer_entry_uint64_buffer_entry [t8] w fun t9 w =>
  fcallT P F.slices_Sorted_uint64 [t9] w fun t10 w =>
  K t10 w
/-- (*winnow/buffer.Buffer).Traces -/
def M.pbuffer_Buffer_Traces (a0 : Value) (w : World) (K : KV) : Prop :=
  joinT (fun K0 =>
  binT P .eql T.p_buffer_Buffer (.tmp 3) (.const (.pointer none)) a0 (.pointer none) w fun t4 w =>
  condT t4 (
  K (.slice none 0 0) w) (
  K0 [(.slice none 0 0)] w)) fun x0 w =>
  M.pbuffer_Buffer_Traces.j0 a0 w K
def M.pbuffer_Buffer_Traces.L : List Nat := [0, 2]
def M.pbuffer_Buffer_Traces.pl : Nat → Plan := fun id => ⟨.nil, [], false⟩
theorem M.pbuffer_Buffer_Traces.eq (a0 : Value) (w : World) (K : KV) : M.pbuffer_Buffer_Traces a0 w K = den P M.pbuffer_Buffer_Traces.L M.pbuffer_Buffer_Traces.pl (Try.f43.body.getD .skip) (argE [a0]) w (bodyQ P Try.f43.results.toList K) := by kernel_rfl
theorem M.pbuffer_Buffer_Traces.ok : okFn M.pbuffer_Buffer_Traces.L M.pbuffer_Buffer_Traces.pl Try.f43 (Try.f43.body.getD .skip) 1 = true := by kernel_rfl
theorem M.pbuffer_Buffer_Traces.calls (a0 : Value) {w : World} {K : KV} (h : M.pbuffer_Buffer_Traces a0 w K) : callT P F.pbuffer_Buffer_Traces [a0] w K :=
  callT_of_den (by kernel_rfl) Try.func43 (by kernel_rfl) M.pbuffer_Buffer_Traces.ok (M.pbuffer_Buffer_Traces.eq a0 w K ▸ h)
theorem M.pbuffer_Buffer_Traces.fcall (args : List Value) (w : World) (K : KV) : fcallT P F.pbuffer_Buffer_Traces args w K = callT P F.pbuffer_Buffer_Traces args w K := fcallT_eq Try.func43 (by kernel_rfl) (by kernel_rfl) args w K
theorem M.pbuffer_Buffer_Traces.rcall (a c args : List Value) (w : World) (K : KV) : callRT P (.func (.func F.pbuffer_Buffer_Traces) a.toArray c.toArray) args w K = callT P F.pbuffer_Buffer_Traces (a ++ args ++ c) w K := callR_fn Try.func43 (by kernel_rfl) (by kernel_rfl) a c args w K

end Go.Proofs.Ytgcpljghnlohbaa
