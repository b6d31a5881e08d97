/-
  Printed by wip/Shallow.lean: functions of the program, read shallow; each is what its code does. No condition.
-/
import Derived.Test.YtgcpljghnlohbaaN
set_option maxRecDepth 1000000
namespace Go.Proofs.Ytgcpljghnlohbaa
open Go.Eng

def M.pwinnowref16_Buffer_Put.j5 (a0 : Value) (x5 : List Value) (t4 : Value) (K4 : KL) (K5 : KL) (w : World) (K : KV) : Prop :=
  joinT (fun K6 =>
  drawT w fun w =>
  w = w ∧ w = w ∧ quietT (fun K' => nilT a0 w K') w fun t49 =>
  quietT (fun K' => faT P T.winnowref16_Buffer t49 3 w K') w fun t50 =>
  quietT (fun K' => ldT P T.sl_winnowref16_Trace t50 w K') w fun t51 =>
  quietT (fun K' => biT P .len #[T.sl_winnowref16_Trace] T.int [false] [t51] w K') w fun t52 =>
  quietT (fun K' => binT P .lss T.int (.tmp 47) (.tmp 52) (gv x5 0) t52 w K') w fun t53 =>
  w = w ∧ quietT (fun K' => guardT (isB t53 true) (fun K' => K' a0 w) w K') w fun t55 =>
  quietT (fun K' => guardT (isB t53 true) (fun K' => nilT t55 w K') w K') w fun t56 =>
  quietT (fun K' => guardT (isB t53 true) (fun K' => faT P T.winnowref16_Buffer t56 3 w K') w K') w fun t57 =>
  quietT (fun K' => guardT (isB t53 true) (fun K' => ldT P T.sl_winnowref16_Trace t57 w K') w K') w fun t58 =>
  quietT (fun K' => guardT (isB t53 true) (fun K' => K' (gv x5 0) w) w K') w fun t59 =>
  quietT (fun K' => guardT (isB t53 true) (fun K' => iaT P T.sl_winnowref16_Trace t58 t59 w K') w K') w fun t60 =>
  quietT (fun K' => guardT (isB t53 true) (fun K' => faT P T.winnowref16_Trace t60 0 w K') w K') w fun t61 =>
  quietT (fun K' => guardT (isB t53 true) (fun K' => ldT P T.uint64 t61 w K') w K') w fun t62 =>
  quietT (fun K' => guardT (isB t53 true) (fun K' => faT P T.api_Span t4 0 w K') w K') w fun t63 =>
  quietT (fun K' => guardT (isB t53 true) (fun K' => ldT P T.uint64 t63 w K') w K') w fun t64 =>
  quietT (fun K' => guardT (isB t53 true) (fun K' => binT P .lss T.uint64 (.tmp 62) (.tmp 64) t62 t64 w K') w K') w fun t65 =>
  quietT (fun K' => pickT t53 t65 (.bool false) w K') w fun t66 =>
  condT t66 (
  K6 [] w) (
  K4 [(gv x5 0)] w)) fun x6 w =>
  binT P .add T.int (.tmp 67) (.const (.int .i64 1)) (gv x5 0) (.int .i64 1) w fun t68 w =>
  K5 [t68] w
def M.pwinnowref16_Buffer_Put.j4 (a0 : Value) (x4 : List Value) (t4 : Value) (x3 : List Value) (w : World) (K : KV) : Prop :=
  drawT w fun w =>
  joinT (fun K7 =>
  w = w ∧ w = w ∧ quietT (fun K' => nilT a0 w K') w fun t72 =>
  quietT (fun K' => faT P T.winnowref16_Buffer t72 3 w K') w fun t73 =>
  quietT (fun K' => ldT P T.sl_winnowref16_Trace t73 w K') w fun t74 =>
  w = w ∧ quietT (fun K' => slT P T.sl_winnowref16_Trace t74 none (some (gv x4 0)) none w K') w fun t76 =>
  quietT (fun K' => faT P T.api_Span t4 0 w K') w fun t78 =>
  quietT (fun K' => ldT P T.uint64 t78 w K') w fun t79 =>
  w = w ∧ quietT (fun K' => ldT P T.api_Span t4 w K') w fun t81 =>
  w = w ∧ quietT (fun K' => nilT a0 w K') w fun t87 =>
  quietT (fun K' => faT P T.winnowref16_Buffer t87 3 w K') w fun t88 =>
  quietT (fun K' => ldT P T.sl_winnowref16_Trace t88 w K') w fun t89 =>
  w = w ∧ quietT (fun K' => slT P T.sl_winnowref16_Trace t89 (some (gv x4 0)) none none w K') w fun t91 =>
  (bsT P T.sl_winnowref16_Trace 0 #[] w fun t70 w =>
  stabT (fun K' => slT P T.sl_winnowref16_Trace t89 (some (gv x4 0)) none none w K') w t91 ∧ stabT (fun K' => K' (gv x4 0) w) w (gv x4 0) ∧ stabT (fun K' => ldT P T.sl_winnowref16_Trace t88 w K') w t89 ∧ stabT (fun K' => faT P T.winnowref16_Buffer t87 3 w K') w t88 ∧ stabT (fun K' => nilT a0 w K') w t87 ∧ stabT (fun K' => K' a0 w) w a0 ∧ stabT (fun K' => ldT P T.api_Span t4 w K') w t81 ∧ stabT (fun K' => K' (gv x3 0) w) w (gv x3 0) ∧ stabT (fun K' => ldT P T.uint64 t78 w K') w t79 ∧ stabT (fun K' => faT P T.api_Span t4 0 w K') w t78 ∧ stabT (fun K' => slT P T.sl_winnowref16_Trace t74 none (some (gv x4 0)) none w K') w t76 ∧ stabT (fun K' => K' (gv x4 0) w) w (gv x4 0) ∧ stabT (fun K' => ldT P T.sl_winnowref16_Trace t73 w K') w t74 ∧ stabT (fun K' => faT P T.winnowref16_Buffer t72 3 w K') w t73 ∧ stabT (fun K' => nilT a0 w K') w t72 ∧ stabT (fun K' => K' a0 w) w a0 ∧ stabT (fun K' => K' a0 w) w a0 ∧ (biT P .append #[T.sl_winnowref16_Trace, T.sl_winnowref16_Trace] T.sl_winnowref16_Trace [false, false] [t70, t76] w fun t77 w =>
  stabT (fun K' => slT P T.sl_winnowref16_Trace t89 (some (gv x4 0)) none none w K') w t91 ∧ stabT (fun K' => K' (gv x4 0) w) w (gv x4 0) ∧ stabT (fun K' => ldT P T.sl_winnowref16_Trace t88 w K') w t89 ∧ stabT (fun K' => faT P T.winnowref16_Buffer t87 3 w K') w t88 ∧ stabT (fun K' => nilT a0 w K') w t87 ∧ stabT (fun K' => K' a0 w) w a0 ∧ stabT (fun K' => ldT P T.api_Span t4 w K') w t81 ∧ stabT (fun K' => K' (gv x3 0) w) w (gv x3 0) ∧ stabT (fun K' => ldT P T.uint64 t78 w K') w t79 ∧ stabT (fun K' => faT P T.api_Span t4 0 w K') w t78 ∧ stabT (fun K' => K' a0 w) w a0 ∧ bsT P T.sl_api_Span 1 #[(0, t81)] w fun t82 w =>
  stabT (fun K' => slT P T.sl_winnowref16_Trace t89 (some (gv x4 0)) none none w K') w t91 ∧ stabT (fun K' => K' (gv x4 0) w) w (gv x4 0) ∧ stabT (fun K' => ldT P T.sl_winnowref16_Trace t88 w K') w t89 ∧ stabT (fun K' => faT P T.winnowref16_Buffer t87 3 w K') w t88 ∧ stabT (fun K' => nilT a0 w K') w t87 ∧ stabT (fun K' => K' a0 w) w a0 ∧ stabT (fun K' => K' (gv x3 0) w) w (gv x3 0) ∧ stabT (fun K' => ldT P T.uint64 t78 w K') w t79 ∧ stabT (fun K' => faT P T.api_Span t4 0 w K') w t78 ∧ stabT (fun K' => slT P T.sl_winnowref16_Trace t74 none (some (gv x4 0)) none w K') w t76 ∧ stabT (fun K' => K' (gv x4 0) w) w (gv x4 0) ∧ stabT (fun K' => ldT P T.sl_winnowref16_Trace t73 w K') w t74 ∧ stabT (fun K' => faT P T.winnowref16_Buffer t72 3 w K') w t73 ∧ stabT (fun K' => nilT a0 w K') w t72 ∧ stabT (fun K' => K' a0 w) w a0 ∧ stabT (fun K' => K' a0 w) w a0 ∧ quietT (fun K' => bldT P T.winnowref16_Trace #[(0, t79), (1, (gv x3 0)), (2, t82)] w K') w fun t83 =>
  bsT P T.sl_winnowref16_Trace 1 #[(0, t83)] w fun t84 w =>
  stabT (fun K' => slT P T.sl_winnowref16_Trace t89 (some (gv x4 0)) none none w K') w t91 ∧ stabT (fun K' => K' (gv x4 0) w) w (gv x4 0) ∧ stabT (fun K' => ldT P T.sl_winnowref16_Trace t88 w K') w t89 ∧ stabT (fun K' => faT P T.winnowref16_Buffer t87 3 w K') w t88 ∧ stabT (fun K' => nilT a0 w K') w t87 ∧ stabT (fun K' => K' a0 w) w a0 ∧ stabT (fun K' => slT P T.sl_winnowref16_Trace t74 none (some (gv x4 0)) none w K') w t76 ∧ stabT (fun K' => K' (gv x4 0) w) w (gv x4 0) ∧ stabT (fun K' => ldT P T.sl_winnowref16_Trace t73 w K') w t74 ∧ stabT (fun K' => faT P T.winnowref16_Buffer t72 3 w K') w t73 ∧ stabT (fun K' => nilT a0 w K') w t72 ∧ stabT (fun K' => K' a0 w) w a0 ∧ stabT (fun K' => K' a0 w) w a0 ∧ biT P .append #[T.sl_winnowref16_Trace, T.sl_winnowref16_Trace] T.sl_winnowref16_Trace [false, false] [t77, t84] w fun t85 w =>
  stabT (fun K' => slT P T.sl_winnowref16_Trace t89 (some (gv x4 0)) none none w K') w t91 ∧ stabT (fun K' => K' (gv x4 0) w) w (gv x4 0) ∧ stabT (fun K' => ldT P T.sl_winnowref16_Trace t88 w K') w t89 ∧ stabT (fun K' => faT P T.winnowref16_Buffer t87 3 w K') w t88 ∧ stabT (fun K' => nilT a0 w K') w t87 ∧ stabT (fun K' => K' a0 w) w a0 ∧ stabT (fun K' => K' a0 w) w a0 ∧ biT P .append #[T.sl_winnowref16_Trace, T.sl_winnowref16_Trace] T.sl_winnowref16_Trace [false, false] [t85, t91] w fun t92 w =>
  stabT (fun K' => K' a0 w) w a0 ∧ quietT (fun K' => nilT a0 w K') w fun t93 =>
  quietT (fun K' => faT P T.winnowref16_Buffer t93 3 w K') w fun t94 =>
  stT P T.sl_winnowref16_Trace t94 t92 w fun _ w =>
  K7 [a0, t70, a0, t72, t73, t74, (gv x4 0), t76, t77, t78, t79, (gv x3 0), t81, t82, t83, t84, t85, a0, t87, t88, t89, (gv x4 0), t91, t92, t93, t94] w) ∧
  (bsT P T.sl_api_Span 1 #[(0, t81)] w fun t82 w =>
  stabT (fun K' => slT P T.sl_winnowref16_Trace t89 (some (gv x4 0)) none none w K') w t91 ∧ stabT (fun K' => K' (gv x4 0) w) w (gv x4 0) ∧ stabT (fun K' => ldT P T.sl_winnowref16_Trace t88 w K') w t89 ∧ stabT (fun K' => faT P T.winnowref16_Buffer t87 3 w K') w t88 ∧ stabT (fun K' => nilT a0 w K') w t87 ∧ stabT (fun K' => K' a0 w) w a0 ∧ stabT (fun K' => K' (gv x3 0) w) w (gv x3 0) ∧ stabT (fun K' => ldT P T.uint64 t78 w K') w t79 ∧ stabT (fun K' => faT P T.api_Span t4 0 w K') w t78 ∧ stabT (fun K' => slT P T.sl_winnowref16_Trace t74 none (some (gv x4 0)) none w K') w t76 ∧ stabT (fun K' => K' (gv x4 0) w) w (gv x4 0) ∧ stabT (fun K' => ldT P T.sl_winnowref16_Trace t73 w K') w t74 ∧ stabT (fun K' => faT P T.winnowref16_Buffer t72 3 w K') w t73 ∧ stabT (fun K' => nilT a0 w K') w t72 ∧ stabT (fun K' => K' a0 w) w a0 ∧ stabT (fun K' => K' a0 w) w a0 ∧ quietT (fun K' => bldT P T.winnowref16_Trace #[(0, t79), (1, (gv x3 0)), (2, t82)] w K') w fun t83 =>
  (biT P .append #[T.sl_winnowref16_Trace, T.sl_winnowref16_Trace] T.sl_winnowref16_Trace [false, false] [t70, t76] w fun t77 w =>
  stabT (fun K' => bldT P T.winnowref16_Trace #[(0, t79), (1, (gv x3 0)), (2, t82)] w K') w t83 ∧ stabT (fun K' => slT P T.sl_winnowref16_Trace t89 (some (gv x4 0)) none none w K') w t91 ∧ stabT (fun K' => K' (gv x4 0) w) w (gv x4 0) ∧ stabT (fun K' => ldT P T.sl_winnowref16_Trace t88 w K') w t89 ∧ stabT (fun K' => faT P T.winnowref16_Buffer t87 3 w K') w t88 ∧ stabT (fun K' => nilT a0 w K') w t87 ∧ stabT (fun K' => K' a0 w) w a0 ∧ stabT (fun K' => ldT P T.api_Span t4 w K') w t81 ∧ stabT (fun K' => K' (gv x3 0) w) w (gv x3 0) ∧ stabT (fun K' => ldT P T.uint64 t78 w K') w t79 ∧ stabT (fun K' => faT P T.api_Span t4 0 w K') w t78 ∧ stabT (fun K' => K' a0 w) w a0 ∧ bsT P T.sl_winnowref16_Trace 1 #[(0, t83)] w fun t84 w =>
  stabT (fun K' => slT P T.sl_winnowref16_Trace t89 (some (gv x4 0)) none none w K') w t91 ∧ stabT (fun K' => K' (gv x4 0) w) w (gv x4 0) ∧ stabT (fun K' => ldT P T.sl_winnowref16_Trace t88 w K') w t89 ∧ stabT (fun K' => faT P T.winnowref16_Buffer t87 3 w K') w t88 ∧ stabT (fun K' => nilT a0 w K') w t87 ∧ stabT (fun K' => K' a0 w) w a0 ∧ stabT (fun K' => slT P T.sl_winnowref16_Trace t74 none (some (gv x4 0)) none w K') w t76 ∧ stabT (fun K' => K' (gv x4 0) w) w (gv x4 0) ∧ stabT (fun K' => ldT P T.sl_winnowref16_Trace t73 w K') w t74 ∧ stabT (fun K' => faT P T.winnowref16_Buffer t72 3 w K') w t73 ∧ stabT (fun K' => nilT a0 w K') w t72 ∧ stabT (fun K' => K' a0 w) w a0 ∧ stabT (fun K' => K' a0 w) w a0 ∧ biT P .append #[T.sl_winnowref16_Trace, T.sl_winnowref16_Trace] T.sl_winnowref16_Trace [false, false] [t77, t84] w fun t85 w =>
  stabT (fun K' => slT P T.sl_winnowref16_Trace t89 (some (gv x4 0)) none none w K') w t91 ∧ stabT (fun K' => K' (gv x4 0) w) w (gv x4 0) ∧ stabT (fun K' => ldT P T.sl_winnowref16_Trace t88 w K') w t89 ∧ stabT (fun K' => faT P T.winnowref16_Buffer t87 3 w K') w t88 ∧ stabT (fun K' => nilT a0 w K') w t87 ∧ stabT (fun K' => K' a0 w) w a0 ∧ stabT (fun K' => K' a0 w) w a0 ∧ biT P .append #[T.sl_winnowref16_Trace, T.sl_winnowref16_Trace] T.sl_winnowref16_Trace [false, false] [t85, t91] w fun t92 w =>
  stabT (fun K' => K' a0 w) w a0 ∧ quietT (fun K' => nilT a0 w K') w fun t93 =>
  quietT (fun K' => faT P T.winnowref16_Buffer t93 3 w K') w fun t94 =>
  stT P T.sl_winnowref16_Trace t94 t92 w fun _ w =>
  K7 [a0, t70, a0, t72, t73, t74, (gv x4 0), t76, t77, t78, t79, (gv x3 0), t81, t82, t83, t84, t85, a0, t87, t88, t89, (gv x4 0), t91, t92, t93, t94] w) ∧
  (bsT P T.sl_winnowref16_Trace 1 #[(0, t83)] w fun t84 w =>
  stabT (fun K' => slT P T.sl_winnowref16_Trace t89 (some (gv x4 0)) none none w K') w t91 ∧ stabT (fun K' => K' (gv x4 0) w) w (gv x4 0) ∧ stabT (fun K' => ldT P T.sl_winnowref16_Trace t88 w K') w t89 ∧ stabT (fun K' => faT P T.winnowref16_Buffer t87 3 w K') w t88 ∧ stabT (fun K' => nilT a0 w K') w t87 ∧ stabT (fun K' => K' a0 w) w a0 ∧ stabT (fun K' => slT P T.sl_winnowref16_Trace t74 none (some (gv x4 0)) none w K') w t76 ∧ stabT (fun K' => K' (gv x4 0) w) w (gv x4 0) ∧ stabT (fun K' => ldT P T.sl_winnowref16_Trace t73 w K') w t74 ∧ stabT (fun K' => faT P T.winnowref16_Buffer t72 3 w K') w t73 ∧ stabT (fun K' => nilT a0 w K') w t72 ∧ stabT (fun K' => K' a0 w) w a0 ∧ stabT (fun K' => K' a0 w) w a0 ∧ biT P .append #[T.sl_winnowref16_Trace, T.sl_winnowref16_Trace] T.sl_winnowref16_Trace [false, false] [t70, t76] w fun t77 w =>
  stabT (fun K' => bldT P T.winnowref16_Trace #[(0, t79), (1, (gv x3 0)), (2, t82)] w K') w t83 ∧ stabT (fun K' => slT P T.sl_winnowref16_Trace t89 (some (gv x4 0)) none none w K') w t91 ∧ stabT (fun K' => K' (gv x4 0) w) w (gv x4 0) ∧ stabT (fun K' => ldT P T.sl_winnowref16_Trace t88 w K') w t89 ∧ stabT (fun K' => faT P T.winnowref16_Buffer t87 3 w K') w t88 ∧ stabT (fun K' => nilT a0 w K') w t87 ∧ stabT (fun K' => K' a0 w) w a0 ∧ stabT (fun K' => ldT P T.api_Span t4 w K') w t81 ∧ stabT (fun K' => K' (gv x3 0) w) w (gv x3 0) ∧ stabT (fun K' => ldT P T.uint64 t78 w K') w t79 ∧ stabT (fun K' => faT P T.api_Span t4 0 w K') w t78 ∧ stabT (fun K' => K' a0 w) w a0 ∧ biT P .append #[T.sl_winnowref16_Trace, T.sl_winnowref16_Trace] T.sl_winnowref16_Trace [false, false] [t77, t84] w fun t85 w =>
  stabT (fun K' => slT P T.sl_winnowref16_Trace t89 (some (gv x4 0)) none none w K') w t91 ∧ stabT (fun K' => K' (gv x4 0) w) w (gv x4 0) ∧ stabT (fun K' => ldT P T.sl_winnowref16_Trace t88 w K') w t89 ∧ stabT (fun K' => faT P T.winnowref16_Buffer t87 3 w K') w t88 ∧ stabT (fun K' => nilT a0 w K') w t87 ∧ stabT (fun K' => K' a0 w) w a0 ∧ stabT (fun K' => K' a0 w) w a0 ∧ biT P .append #[T.sl_winnowref16_Trace, T.sl_winnowref16_Trace] T.sl_winnowref16_Trace [false, false] [t85, t91] w fun t92 w =>
  stabT (fun K' => K' a0 w) w a0 ∧ quietT (fun K' => nilT a0 w K') w fun t93 =>
  quietT (fun K' => faT P T.winnowref16_Buffer t93 3 w K') w fun t94 =>
  stT P T.sl_winnowref16_Trace t94 t92 w fun _ w =>
  K7 [a0, t70, a0, t72, t73, t74, (gv x4 0), t76, t77, t78, t79, (gv x3 0), t81, t82, t83, t84, t85, a0, t87, t88, t89, (gv x4 0), t91, t92, t93, t94] w))) ∧
  (bsT P T.sl_api_Span 1 #[(0, t81)] w fun t82 w =>
  stabT (fun K' => slT P T.sl_winnowref16_Trace t89 (some (gv x4 0)) none none w K') w t91 ∧ stabT (fun K' => K' (gv x4 0) w) w (gv x4 0) ∧ stabT (fun K' => ldT P T.sl_winnowref16_Trace t88 w K') w t89 ∧ stabT (fun K' => faT P T.winnowref16_Buffer t87 3 w K') w t88 ∧ stabT (fun K' => nilT a0 w K') w t87 ∧ stabT (fun K' => K' a0 w) w a0 ∧ stabT (fun K' => K' (gv x3 0) w) w (gv x3 0) ∧ stabT (fun K' => ldT P T.uint64 t78 w K') w t79 ∧ stabT (fun K' => faT P T.api_Span t4 0 w K') w t78 ∧ stabT (fun K' => slT P T.sl_winnowref16_Trace t74 none (some (gv x4 0)) none w K') w t76 ∧ stabT (fun K' => K' (gv x4 0) w) w (gv x4 0) ∧ stabT (fun K' => ldT P T.sl_winnowref16_Trace t73 w K') w t74 ∧ stabT (fun K' => faT P T.winnowref16_Buffer t72 3 w K') w t73 ∧ stabT (fun K' => nilT a0 w K') w t72 ∧ stabT (fun K' => K' a0 w) w a0 ∧ stabT (fun K' => K' a0 w) w a0 ∧ quietT (fun K' => bldT P T.winnowref16_Trace #[(0, t79), (1, (gv x3 0)), (2, t82)] w K') w fun t83 =>
  (bsT P T.sl_winnowref16_Trace 0 #[] w fun t70 w =>
  stabT (fun K' => bldT P T.winnowref16_Trace #[(0, t79), (1, (gv x3 0)), (2, t82)] w K') w t83 ∧ stabT (fun K' => slT P T.sl_winnowref16_Trace t89 (some (gv x4 0)) none none w K') w t91 ∧ stabT (fun K' => K' (gv x4 0) w) w (gv x4 0) ∧ stabT (fun K' => ldT P T.sl_winnowref16_Trace t88 w K') w t89 ∧ stabT (fun K' => faT P T.winnowref16_Buffer t87 3 w K') w t88 ∧ stabT (fun K' => nilT a0 w K') w t87 ∧ stabT (fun K' => K' a0 w) w a0 ∧ stabT (fun K' => ldT P T.api_Span t4 w K') w t81 ∧ stabT (fun K' => K' (gv x3 0) w) w (gv x3 0) ∧ stabT (fun K' => ldT P T.uint64 t78 w K') w t79 ∧ stabT (fun K' => faT P T.api_Span t4 0 w K') w t78 ∧ stabT (fun K' => slT P T.sl_winnowref16_Trace t74 none (some (gv x4 0)) none w K') w t76 ∧ stabT (fun K' => K' (gv x4 0) w) w (gv x4 0) ∧ stabT (fun K' => ldT P T.sl_winnowref16_Trace t73 w K') w t74 ∧ stabT (fun K' => faT P T.winnowref16_Buffer t72 3 w K') w t73 ∧ stabT (fun K' => nilT a0 w K') w t72 ∧ stabT (fun K' => K' a0 w) w a0 ∧ stabT (fun K' => K' a0 w) w a0 ∧ (biT P .append #[T.sl_winnowref16_Trace, T.sl_winnowref16_Trace] T.sl_winnowref16_Trace [false, false] [t70, t76] w fun t77 w =>
  stabT (fun K' => bldT P T.winnowref16_Trace #[(0, t79), (1, (gv x3 0)), (2, t82)] w K') w t83 ∧ stabT (fun K' => slT P T.sl_winnowref16_Trace t89 (some (gv x4 0)) none none w K') w t91 ∧ stabT (fun K' => K' (gv x4 0) w) w (gv x4 0) ∧ stabT (fun K' => ldT P T.sl_winnowref16_Trace t88 w K') w t89 ∧ stabT (fun K' => faT P T.winnowref16_Buffer t87 3 w K') w t88 ∧ stabT (fun K' => nilT a0 w K') w t87 ∧ stabT (fun K' => K' a0 w) w a0 ∧ stabT (fun K' => ldT P T.api_Span t4 w K') w t81 ∧ stabT (fun K' => K' (gv x3 0) w) w (gv x3 0) ∧ stabT (fun K' => ldT P T.uint64 t78 w K') w t79 ∧ stabT (fun K' => faT P T.api_Span t4 0 w K') w t78 ∧ stabT (fun K' => K' a0 w) w a0 ∧ bsT P T.sl_winnowref16_Trace 1 #[(0, t83)] w fun t84 w =>
  stabT (fun K' => slT P T.sl_winnowref16_Trace t89 (some (gv x4 0)) none none w K') w t91 ∧ stabT (fun K' => K' (gv x4 0) w) w (gv x4 0) ∧ stabT (fun K' => ldT P T.sl_winnowref16_Trace t88 w K') w t89 ∧ stabT (fun K' => faT P T.winnowref16_Buffer t87 3 w K') w t88 ∧ stabT (fun K' => nilT a0 w K') w t87 ∧ stabT (fun K' => K' a0 w) w a0 ∧ stabT (fun K' => slT P T.sl_winnowref16_Trace t74 none (some (gv x4 0)) none w K') w t76 ∧ stabT (fun K' => K' (gv x4 0) w) w (gv x4 0) ∧ stabT (fun K' => ldT P T.sl_winnowref16_Trace t73 w K') w t74 ∧ stabT (fun K' => faT P T.winnowref16_Buffer t72 3 w K') w t73 ∧ stabT (fun K' => nilT a0 w K') w t72 ∧ stabT (fun K' => K' a0 w) w a0 ∧ stabT (fun K' => K' a0 w) w a0 ∧ biT P .append #[T.sl_winnowref16_Trace, T.sl_winnowref16_Trace] T.sl_winnowref16_Trace [false, false] [t77, t84] w fun t85 w =>
  stabT (fun K' => slT P T.sl_winnowref16_Trace t89 (some (gv x4 0)) none none w K') w t91 ∧ stabT (fun K' => K' (gv x4 0) w) w (gv x4 0) ∧ stabT (fun K' => ldT P T.sl_winnowref16_Trace t88 w K') w t89 ∧ stabT (fun K' => faT P T.winnowref16_Buffer t87 3 w K') w t88 ∧ stabT (fun K' => nilT a0 w K') w t87 ∧ stabT (fun K' => K' a0 w) w a0 ∧ stabT (fun K' => K' a0 w) w a0 ∧ biT P .append #[T.sl_winnowref16_Trace, T.sl_winnowref16_Trace] T.sl_winnowref16_Trace [false, false] [t85, t91] w fun t92 w =>
  stabT (fun K' => K' a0 w) w a0 ∧ quietT (fun K' => nilT a0 w K') w fun t93 =>
  quietT (fun K' => faT P T.winnowref16_Buffer t93 3 w K') w fun t94 =>
  stT P T.sl_winnowref16_Trace t94 t92 w fun _ w =>
  K7 [a0, t70, a0, t72, t73, t74, (gv x4 0), t76, t77, t78, t79, (gv x3 0), t81, t82, t83, t84, t85, a0, t87, t88, t89, (gv x4 0), t91, t92, t93, t94] w) ∧
  (bsT P T.sl_winnowref16_Trace 1 #[(0, t83)] w fun t84 w =>
  stabT (fun K' => slT P T.sl_winnowref16_Trace t89 (some (gv x4 0)) none none w K') w t91 ∧ stabT (fun K' => K' (gv x4 0) w) w (gv x4 0) ∧ stabT (fun K' => ldT P T.sl_winnowref16_Trace t88 w K') w t89 ∧ stabT (fun K' => faT P T.winnowref16_Buffer t87 3 w K') w t88 ∧ stabT (fun K' => nilT a0 w K') w t87 ∧ stabT (fun K' => K' a0 w) w a0 ∧ stabT (fun K' => slT P T.sl_winnowref16_Trace t74 none (some (gv x4 0)) none w K') w t76 ∧ stabT (fun K' => K' (gv x4 0) w) w (gv x4 0) ∧ stabT (fun K' => ldT P T.sl_winnowref16_Trace t73 w K') w t74 ∧ stabT (fun K' => faT P T.winnowref16_Buffer t72 3 w K') w t73 ∧ stabT (fun K' => nilT a0 w K') w t72 ∧ stabT (fun K' => K' a0 w) w a0 ∧ stabT (fun K' => K' a0 w) w a0 ∧ biT P .append #[T.sl_winnowref16_Trace, T.sl_winnowref16_Trace] T.sl_winnowref16_Trace [false, false] [t70, t76] w fun t77 w =>
  stabT (fun K' => bldT P T.winnowref16_Trace #[(0, t79), (1, (gv x3 0)), (2, t82)] w K') w t83 ∧ stabT (fun K' => slT P T.sl_winnowref16_Trace t89 (some (gv x4 0)) none none w K') w t91 ∧ stabT (fun K' => K' (gv x4 0) w) w (gv x4 0) ∧ stabT (fun K' => ldT P T.sl_winnowref16_Trace t88 w K') w t89 ∧ stabT (fun K' => faT P T.winnowref16_Buffer t87 3 w K') w t88 ∧ stabT (fun K' => nilT a0 w K') w t87 ∧ stabT (fun K' => K' a0 w) w a0 ∧ stabT (fun K' => ldT P T.api_Span t4 w K') w t81 ∧ stabT (fun K' => K' (gv x3 0) w) w (gv x3 0) ∧ stabT (fun K' => ldT P T.uint64 t78 w K') w t79 ∧ stabT (fun K' => faT P T.api_Span t4 0 w K') w t78 ∧ stabT (fun K' => K' a0 w) w a0 ∧ biT P .append #[T.sl_winnowref16_Trace, T.sl_winnowref16_Trace] T.sl_winnowref16_Trace [false, false] [t77, t84] w fun t85 w =>
  stabT (fun K' => slT P T.sl_winnowref16_Trace t89 (some (gv x4 0)) none none w K') w t91 ∧ stabT (fun K' => K' (gv x4 0) w) w (gv x4 0) ∧ stabT (fun K' => ldT P T.sl_winnowref16_Trace t88 w K') w t89 ∧ stabT (fun K' => faT P T.winnowref16_Buffer t87 3 w K') w t88 ∧ stabT (fun K' => nilT a0 w K') w t87 ∧ stabT (fun K' => K' a0 w) w a0 ∧ stabT (fun K' => K' a0 w) w a0 ∧ biT P .append #[T.sl_winnowref16_Trace, T.sl_winnowref16_Trace] T.sl_winnowref16_Trace [false, false] [t85, t91] w fun t92 w =>
  stabT (fun K' => K' a0 w) w a0 ∧ quietT (fun K' => nilT a0 w K') w fun t93 =>
  quietT (fun K' => faT P T.winnowref16_Buffer t93 3 w K') w fun t94 =>
  stT P T.sl_winnowref16_Trace t94 t92 w fun _ w =>
  K7 [a0, t70, a0, t72, t73, t74, (gv x4 0), t76, t77, t78, t79, (gv x3 0), t81, t82, t83, t84, t85, a0, t87, t88, t89, (gv x4 0), t91, t92, t93, t94] w)) ∧
  (bsT P T.sl_winnowref16_Trace 1 #[(0, t83)] w fun t84 w =>
  stabT (fun K' => slT P T.sl_winnowref16_Trace t89 (some (gv x4 0)) none none w K') w t91 ∧ stabT (fun K' => K' (gv x4 0) w) w (gv x4 0) ∧ stabT (fun K' => ldT P T.sl_winnowref16_Trace t88 w K') w t89 ∧ stabT (fun K' => faT P T.winnowref16_Buffer t87 3 w K') w t88 ∧ stabT (fun K' => nilT a0 w K') w t87 ∧ stabT (fun K' => K' a0 w) w a0 ∧ stabT (fun K' => slT P T.sl_winnowref16_Trace t74 none (some (gv x4 0)) none w K') w t76 ∧ stabT (fun K' => K' (gv x4 0) w) w (gv x4 0) ∧ stabT (fun K' => ldT P T.sl_winnowref16_Trace t73 w K') w t74 ∧ stabT (fun K' => faT P T.winnowref16_Buffer t72 3 w K') w t73 ∧ stabT (fun K' => nilT a0 w K') w t72 ∧ stabT (fun K' => K' a0 w) w a0 ∧ stabT (fun K' => K' a0 w) w a0 ∧ bsT P T.sl_winnowref16_Trace 0 #[] w fun t70 w =>
  stabT (fun K' => bldT P T.winnowref16_Trace #[(0, t79), (1, (gv x3 0)), (2, t82)] w K') w t83 ∧ stabT (fun K' => slT P T.sl_winnowref16_Trace t89 (some (gv x4 0)) none none w K') w t91 ∧ stabT (fun K' => K' (gv x4 0) w) w (gv x4 0) ∧ stabT (fun K' => ldT P T.sl_winnowref16_Trace t88 w K') w t89 ∧ stabT (fun K' => faT P T.winnowref16_Buffer t87 3 w K') w t88 ∧ stabT (fun K' => nilT a0 w K') w t87 ∧ stabT (fun K' => K' a0 w) w a0 ∧ stabT (fun K' => ldT P T.api_Span t4 w K') w t81 ∧ stabT (fun K' => K' (gv x3 0) w) w (gv x3 0) ∧ stabT (fun K' => ldT P T.uint64 t78 w K') w t79 ∧ stabT (fun K' => faT P T.api_Span t4 0 w K') w t78 ∧ stabT (fun K' => slT P T.sl_winnowref16_Trace t74 none (some (gv x4 0)) none w K') w t76 ∧ stabT (fun K' => K' (gv x4 0) w) w (gv x4 0) ∧ stabT (fun K' => ldT P T.sl_winnowref16_Trace t73 w K') w t74 ∧ stabT (fun K' => faT P T.winnowref16_Buffer t72 3 w K') w t73 ∧ stabT (fun K' => nilT a0 w K') w t72 ∧ stabT (fun K' => K' a0 w) w a0 ∧ stabT (fun K' => K' a0 w) w a0 ∧ biT P .append #[T.sl_winnowref16_Trace, T.sl_winnowref16_Trace] T.sl_winnowref16_Trace [false, false] [t70, t76] w fun t77 w =>
  stabT (fun K' => bldT P T.winnowref16_Trace #[(0, t79), (1, (gv x3 0)), (2, t82)] w K') w t83 ∧ stabT (fun K' => slT P T.sl_winnowref16_Trace t89 (some (gv x4 0)) none none w K') w t91 ∧ stabT (fun K' => K' (gv x4 0) w) w (gv x4 0) ∧ stabT (fun K' => ldT P T.sl_winnowref16_Trace t88 w K') w t89 ∧ stabT (fun K' => faT P T.winnowref16_Buffer t87 3 w K') w t88 ∧ stabT (fun K' => nilT a0 w K') w t87 ∧ stabT (fun K' => K' a0 w) w a0 ∧ stabT (fun K' => ldT P T.api_Span t4 w K') w t81 ∧ stabT (fun K' => K' (gv x3 0) w) w (gv x3 0) ∧ stabT (fun K' => ldT P T.uint64 t78 w K') w t79 ∧ stabT (fun K' => faT P T.api_Span t4 0 w K') w t78 ∧ stabT (fun K' => K' a0 w) w a0 ∧ biT P .append #[T.sl_winnowref16_Trace, T.sl_winnowref16_Trace] T.sl_winnowref16_Trace [false, false] [t77, t84] w fun t85 w =>
  stabT (fun K' => slT P T.sl_winnowref16_Trace t89 (some (gv x4 0)) none none w K') w t91 ∧ stabT (fun K' => K' (gv x4 0) w) w (gv x4 0) ∧ stabT (fun K' => ldT P T.sl_winnowref16_Trace t88 w K') w t89 ∧ stabT (fun K' => faT P T.winnowref16_Buffer t87 3 w K') w t88 ∧ stabT (fun K' => nilT a0 w K') w t87 ∧ stabT (fun K' => K' a0 w) w a0 ∧ stabT (fun K' => K' a0 w) w a0 ∧ biT P .append #[T.sl_winnowref16_Trace, T.sl_winnowref16_Trace] T.sl_winnowref16_Trace [false, false] [t85, t91] w fun t92 w =>
  stabT (fun K' => K' a0 w) w a0 ∧ quietT (fun K' => nilT a0 w K') w fun t93 =>
  quietT (fun K' => faT P T.winnowref16_Buffer t93 3 w K') w fun t94 =>
  stT P T.sl_winnowref16_Trace t94 t92 w fun _ w =>
  K7 [a0, t70, a0, t72, t73, t74, (gv x4 0), t76, t77, t78, t79, (gv x3 0), t81, t82, t83, t84, t85, a0, t87, t88, t89, (gv x4 0), t91, t92, t93, t94] w))) fun x7 w =>
  K (.int .i64 0) w
def M.pwinnowref16_Buffer_Put.j2 (a0 : Value) (a2 : Value) (t4 : Value) (w : World) (K : KV) : Prop :=
  joinT (fun K3 =>
  nilT a0 w fun t36 w =>
  faT P T.winnowref16_Buffer t36 2 w fun t37 w =>
  ldT P T.uint64 t37 w fun t38 w =>
  binT P .sub T.uint64 (.tmp 34) (.tmp 38) (.int .u64 18446744073709551615) t38 w fun t39 w =>
  binT P .leq T.uint64 (.tmp 33) (.tmp 39) a2 t39 w fun t40 w =>
  condT t40 (
  nilT a0 w fun t43 w =>
  faT P T.winnowref16_Buffer t43 2 w fun t44 w =>
  ldT P T.uint64 t44 w fun t45 w =>
  binT P .add T.uint64 (.tmp 41) (.tmp 45) a2 t45 w fun t46 w =>
  K3 [t46] w) (
  K3 [(.int .u64 18446744073709551615)] w)) fun x3 w =>
  joinT (fun K4 =>
  loopT [(.int .i64 0)] w fun K5 x5 w =>
  M.pwinnowref16_Buffer_Put.j5 a0 x5 t4 K4 K5 w K) fun x4 w =>
  M.pwinnowref16_Buffer_Put.j4 a0 x4 t4 x3 w K
def M.pwinnowref16_Buffer_Put.j10 (a0 : Value) (t20 : Value) (x9 : List Value) (t4 : Value) (K9 : KL) (w : World) (K : KV) : Prop :=
  joinT (fun K11 =>
  drawT w fun w =>
  w = w ∧ quietT (fun K' => nilT a0 w K') w fun t109 =>
  quietT (fun K' => faT P T.winnowref16_Buffer t109 3 w K') w fun t110 =>
  quietT (fun K' => ldT P T.sl_winnowref16_Trace t110 w K') w fun t111 =>
  w = w ∧ quietT (fun K' => iaT P T.sl_winnowref16_Trace t111 t20 w K') w fun t113 =>
  quietT (fun K' => faT P T.winnowref16_Trace t113 2 w K') w fun t114 =>
  quietT (fun K' => ldT P T.sl_api_Span t114 w K') w fun t115 =>
  w = w ∧ quietT (fun K' => iaT P T.sl_api_Span t115 (gv x9 1) w K') w fun t117 =>
  quietT (fun K' => faT P T.api_Span t117 1 w K') w fun t118 =>
  quietT (fun K' => ldT P T.uint64 t118 w K') w fun t119 =>
  quietT (fun K' => faT P T.api_Span t4 1 w K') w fun t120 =>
  quietT (fun K' => ldT P T.uint64 t120 w K') w fun t121 =>
  quietT (fun K' => binT P .eql T.uint64 (.tmp 119) (.tmp 121) t119 t121 w K') w fun t122 =>
  condT t122 (
  K (.int .i64 0) w) (
  K11 [(gv x9 0)] w)) fun x11 w =>
  binT P .add T.int (.tmp 106) (.const (.int .i64 1)) (gv x9 1) (.int .i64 1) w fun t107 w =>
  K9 [(gv x11 0), t107] w
def M.pwinnowref16_Buffer_Put.j9 (a0 : Value) (t20 : Value) (x9 : List Value) (K8 : KL) (t4 : Value) (K9 : KL) (w : World) (K : KV) : Prop :=
  joinT (fun K10 =>
  nilT a0 w fun t97 w =>
  faT P T.winnowref16_Buffer t97 3 w fun t98 w =>
  ldT P T.sl_winnowref16_Trace t98 w fun t99 w =>
  iaT P T.sl_winnowref16_Trace t99 t20 w fun t101 w =>
  faT P T.winnowref16_Trace t101 2 w fun t102 w =>
  ldT P T.sl_api_Span t102 w fun t103 w =>
  biT P .len #[T.sl_api_Span] T.int [false] [t103] w fun t104 w =>
  binT P .lss T.int (.tmp 95) (.tmp 104) (gv x9 1) t104 w fun t105 w =>
  condT t105 (
  K10 [] w) (
  K8 [(gv x9 1), (gv x9 0)] w)) fun x10 w =>
  M.pwinnowref16_Buffer_Put.j10 a0 t20 x9 t4 K9 w K
def M.pwinnowref16_Buffer_Put.j12 (a0 : Value) (t20 : Value) (t4 : Value) (w : World) (K : KV) : Prop :=
  drawT w fun w =>
  joinT (fun K13 =>
  w = w ∧ quietT (fun K' => nilT a0 w K') w fun t145 =>
  quietT (fun K' => faT P T.winnowref16_Buffer t145 3 w K') w fun t146 =>
  quietT (fun K' => ldT P T.sl_winnowref16_Trace t146 w K') w fun t147 =>
  w = w ∧ w = w ∧ quietT (fun K' => nilT a0 w K') w fun t151 =>
  quietT (fun K' => faT P T.winnowref16_Buffer t151 3 w K') w fun t152 =>
  quietT (fun K' => ldT P T.sl_winnowref16_Trace t152 w K') w fun t153 =>
  w = w ∧ quietT (fun K' => iaT P T.sl_winnowref16_Trace t153 t20 w K') w fun t155 =>
  quietT (fun K' => faT P T.winnowref16_Trace t155 2 w K') w fun t156 =>
  quietT (fun K' => ldT P T.sl_api_Span t156 w K') w fun t157 =>
  quietT (fun K' => ldT P T.api_Span t4 w K') w fun t159 =>
  (bsT P T.sl_api_Span 0 #[] w fun t149 w =>
  stabT (fun K' => ldT P T.api_Span t4 w K') w t159 ∧ stabT (fun K' => ldT P T.sl_api_Span t156 w K') w t157 ∧ stabT (fun K' => faT P T.winnowref16_Trace t155 2 w K') w t156 ∧ stabT (fun K' => iaT P T.sl_winnowref16_Trace t153 t20 w K') w t155 ∧ stabT (fun K' => K' t20 w) w t20 ∧ stabT (fun K' => ldT P T.sl_winnowref16_Trace t152 w K') w t153 ∧ stabT (fun K' => faT P T.winnowref16_Buffer t151 3 w K') w t152 ∧ stabT (fun K' => nilT a0 w K') w t151 ∧ stabT (fun K' => K' a0 w) w a0 ∧ stabT (fun K' => K' t20 w) w t20 ∧ stabT (fun K' => ldT P T.sl_winnowref16_Trace t146 w K') w t147 ∧ stabT (fun K' => faT P T.winnowref16_Buffer t145 3 w K') w t146 ∧ stabT (fun K' => nilT a0 w K') w t145 ∧ stabT (fun K' => K' a0 w) w a0 ∧ (biT P .append #[T.sl_api_Span, T.sl_api_Span] T.sl_api_Span [false, false] [t149, t157] w fun t158 w =>
  stabT (fun K' => ldT P T.api_Span t4 w K') w t159 ∧ stabT (fun K' => K' t20 w) w t20 ∧ stabT (fun K' => ldT P T.sl_winnowref16_Trace t146 w K') w t147 ∧ stabT (fun K' => faT P T.winnowref16_Buffer t145 3 w K') w t146 ∧ stabT (fun K' => nilT a0 w K') w t145 ∧ stabT (fun K' => K' a0 w) w a0 ∧ bsT P T.sl_api_Span 1 #[(0, t159)] w fun t160 w =>
  stabT (fun K' => ldT P T.sl_api_Span t156 w K') w t157 ∧ stabT (fun K' => faT P T.winnowref16_Trace t155 2 w K') w t156 ∧ stabT (fun K' => iaT P T.sl_winnowref16_Trace t153 t20 w K') w t155 ∧ stabT (fun K' => K' t20 w) w t20 ∧ stabT (fun K' => ldT P T.sl_winnowref16_Trace t152 w K') w t153 ∧ stabT (fun K' => faT P T.winnowref16_Buffer t151 3 w K') w t152 ∧ stabT (fun K' => nilT a0 w K') w t151 ∧ stabT (fun K' => K' a0 w) w a0 ∧ stabT (fun K' => K' t20 w) w t20 ∧ stabT (fun K' => ldT P T.sl_winnowref16_Trace t146 w K') w t147 ∧ stabT (fun K' => faT P T.winnowref16_Buffer t145 3 w K') w t146 ∧ stabT (fun K' => nilT a0 w K') w t145 ∧ stabT (fun K' => K' a0 w) w a0 ∧ biT P .append #[T.sl_api_Span, T.sl_api_Span] T.sl_api_Span [false, false] [t158, t160] w fun t161 w =>
  stabT (fun K' => K' t20 w) w t20 ∧ stabT (fun K' => ldT P T.sl_winnowref16_Trace t146 w K') w t147 ∧ stabT (fun K' => faT P T.winnowref16_Buffer t145 3 w K') w t146 ∧ stabT (fun K' => nilT a0 w K') w t145 ∧ stabT (fun K' => K' a0 w) w a0 ∧ quietT (fun K' => iaT P T.sl_winnowref16_Trace t147 t20 w K') w fun t162 =>
  quietT (fun K' => faT P T.winnowref16_Trace t162 2 w K') w fun t163 =>
  stT P T.sl_api_Span t163 t161 w fun _ w =>
  K13 [a0, t145, t146, t147, t20, t149, a0, t151, t152, t153, t20, t155, t156, t157, t158, t159, t160, t161, t162, t163] w) ∧
  (bsT P T.sl_api_Span 1 #[(0, t159)] w fun t160 w =>
  stabT (fun K' => ldT P T.sl_api_Span t156 w K') w t157 ∧ stabT (fun K' => faT P T.winnowref16_Trace t155 2 w K') w t156 ∧ stabT (fun K' => iaT P T.sl_winnowref16_Trace t153 t20 w K') w t155 ∧ stabT (fun K' => K' t20 w) w t20 ∧ stabT (fun K' => ldT P T.sl_winnowref16_Trace t152 w K') w t153 ∧ stabT (fun K' => faT P T.winnowref16_Buffer t151 3 w K') w t152 ∧ stabT (fun K' => nilT a0 w K') w t151 ∧ stabT (fun K' => K' a0 w) w a0 ∧ stabT (fun K' => K' t20 w) w t20 ∧ stabT (fun K' => ldT P T.sl_winnowref16_Trace t146 w K') w t147 ∧ stabT (fun K' => faT P T.winnowref16_Buffer t145 3 w K') w t146 ∧ stabT (fun K' => nilT a0 w K') w t145 ∧ stabT (fun K' => K' a0 w) w a0 ∧ biT P .append #[T.sl_api_Span, T.sl_api_Span] T.sl_api_Span [false, false] [t149, t157] w fun t158 w =>
  stabT (fun K' => ldT P T.api_Span t4 w K') w t159 ∧ stabT (fun K' => K' t20 w) w t20 ∧ stabT (fun K' => ldT P T.sl_winnowref16_Trace t146 w K') w t147 ∧ stabT (fun K' => faT P T.winnowref16_Buffer t145 3 w K') w t146 ∧ stabT (fun K' => nilT a0 w K') w t145 ∧ stabT (fun K' => K' a0 w) w a0 ∧ biT P .append #[T.sl_api_Span, T.sl_api_Span] T.sl_api_Span [false, false] [t158, t160] w fun t161 w =>
  stabT (fun K' => K' t20 w) w t20 ∧ stabT (fun K' => ldT P T.sl_winnowref16_Trace t146 w K') w t147 ∧ stabT (fun K' => faT P T.winnowref16_Buffer t145 3 w K') w t146 ∧ stabT (fun K' => nilT a0 w K') w t145 ∧ stabT (fun K' => K' a0 w) w a0 ∧ quietT (fun K' => iaT P T.sl_winnowref16_Trace t147 t20 w K') w fun t162 =>
  quietT (fun K' => faT P T.winnowref16_Trace t162 2 w K') w fun t163 =>
  stT P T.sl_api_Span t163 t161 w fun _ w =>
  K13 [a0, t145, t146, t147, t20, t149, a0, t151, t152, t153, t20, t155, t156, t157, t158, t159, t160, t161, t162, t163] w)) ∧
  (bsT P T.sl_api_Span 1 #[(0, t159)] w fun t160 w =>
  stabT (fun K' => ldT P T.sl_api_Span t156 w K') w t157 ∧ stabT (fun K' => faT P T.winnowref16_Trace t155 2 w K') w t156 ∧ stabT (fun K' => iaT P T.sl_winnowref16_Trace t153 t20 w K') w t155 ∧ stabT (fun K' => K' t20 w) w t20 ∧ stabT (fun K' => ldT P T.sl_winnowref16_Trace t152 w K') w t153 ∧ stabT (fun K' => faT P T.winnowref16_Buffer t151 3 w K') w t152 ∧ stabT (fun K' => nilT a0 w K') w t151 ∧ stabT (fun K' => K' a0 w) w a0 ∧ stabT (fun K' => K' t20 w) w t20 ∧ stabT (fun K' => ldT P T.sl_winnowref16_Trace t146 w K') w t147 ∧ stabT (fun K' => faT P T.winnowref16_Buffer t145 3 w K') w t146 ∧ stabT (fun K' => nilT a0 w K') w t145 ∧ stabT (fun K' => K' a0 w) w a0 ∧ bsT P T.sl_api_Span 0 #[] w fun t149 w =>
  stabT (fun K' => ldT P T.api_Span t4 w K') w t159 ∧ stabT (fun K' => ldT P T.sl_api_Span t156 w K') w t157 ∧ stabT (fun K' => faT P T.winnowref16_Trace t155 2 w K') w t156 ∧ stabT (fun K' => iaT P T.sl_winnowref16_Trace t153 t20 w K') w t155 ∧ stabT (fun K' => K' t20 w) w t20 ∧ stabT (fun K' => ldT P T.sl_winnowref16_Trace t152 w K') w t153 ∧ stabT (fun K' => faT P T.winnowref16_Buffer t151 3 w K') w t152 ∧ stabT (fun K' => nilT a0 w K') w t151 ∧ stabT (fun K' => K' a0 w) w a0 ∧ stabT (fun K' => K' t20 w) w t20 ∧ stabT (fun K' => ldT P T.sl_winnowref16_Trace t146 w K') w t147 ∧ stabT (fun K' => faT P T.winnowref16_Buffer t145 3 w K') w t146 ∧ stabT (fun K' => nilT a0 w K') w t145 ∧ stabT (fun K' => K' a0 w) w a0 ∧ biT P .append #[T.sl_api_Span, T.sl_api_Span] T.sl_api_Span [false, false] [t149, t157] w fun t158 w =>
  stabT (fun K' => ldT P T.api_Span t4 w K') w t159 ∧ stabT (fun K' => K' t20 w) w t20 ∧ stabT (fun K' => ldT P T.sl_winnowref16_Trace t146 w K') w t147 ∧ stabT (fun K' => faT P T.winnowref16_Buffer t145 3 w K') w t146 ∧ stabT (fun K' => nilT a0 w K') w t145 ∧ stabT (fun K' => K' a0 w) w a0 ∧ biT P .append #[T.sl_api_Span, T.sl_api_Span] T.sl_api_Span [false, false] [t158, t160] w fun t161 w =>
  stabT (fun K' => K' t20 w) w t20 ∧ stabT (fun K' => ldT P T.sl_winnowref16_Trace t146 w K') w t147 ∧ stabT (fun K' => faT P T.winnowref16_Buffer t145 3 w K') w t146 ∧ stabT (fun K' => nilT a0 w K') w t145 ∧ stabT (fun K' => K' a0 w) w a0 ∧ quietT (fun K' => iaT P T.sl_winnowref16_Trace t147 t20 w K') w fun t162 =>
  quietT (fun K' => faT P T.winnowref16_Trace t162 2 w K') w fun t163 =>
  stT P T.sl_api_Span t163 t161 w fun _ w =>
  K13 [a0, t145, t146, t147, t20, t149, a0, t151, t152, t153, t20, t155, t156, t157, t158, t159, t160, t161, t162, t163] w)) fun x13 w =>
  K (.int .i64 0) w
def M.pwinnowref16_Buffer_Put.j8 (a0 : Value) (t20 : Value) (x8 : List Value) (t4 : Value) (w : World) (K : KV) : Prop :=
  joinT (fun K12 =>
  drawT w fun w =>
  w = w ∧ quietT (fun K' => nilT a0 w K') w fun t124 =>
  quietT (fun K' => faT P T.winnowref16_Buffer t124 3 w K') w fun t125 =>
  quietT (fun K' => ldT P T.sl_winnowref16_Trace t125 w K') w fun t126 =>
  w = w ∧ quietT (fun K' => iaT P T.sl_winnowref16_Trace t126 t20 w K') w fun t128 =>
  quietT (fun K' => faT P T.winnowref16_Trace t128 2 w K') w fun t129 =>
  quietT (fun K' => ldT P T.sl_api_Span t129 w K') w fun t130 =>
  quietT (fun K' => biT P .len #[T.sl_api_Span] T.int [false] [t130] w K') w fun t131 =>
  w = w ∧ quietT (fun K' => nilT a0 w K') w fun t133 =>
  quietT (fun K' => faT P T.winnowref16_Buffer t133 1 w K') w fun t134 =>
  quietT (fun K' => ldT P T.int t134 w K') w fun t135 =>
  quietT (fun K' => binT P .geq T.int (.tmp 131) (.tmp 135) t131 t135 w K') w fun t136 =>
  condT t136 (
  nilT a0 w fun t138 w =>
  faT P T.winnowref16_Buffer t138 3 w fun t139 w =>
  ldT P T.sl_winnowref16_Trace t139 w fun t140 w =>
  iaT P T.sl_winnowref16_Trace t140 t20 w fun t142 w =>
  faT P T.winnowref16_Trace t142 3 w fun t143 w =>
  stT P T.bool t143 (.bool true) w fun _ w =>
  K (.int .i64 9) w) (
  K12 [(gv x8 1)] w)) fun x12 w =>
  M.pwinnowref16_Buffer_Put.j12 a0 t20 t4 w K
def M.pwinnowref16_Buffer_Put.j0 (t4 : Value) (a0 : Value) (x0 : List Value) (a2 : Value) (w : World) (K : KV) : Prop :=
  faT P T.api_Span t4 0 w fun t18 w =>
  ldT P T.uint64 t18 w fun t19 w =>
  fcallT P F.pwinnowref16_Buffer_Find [a0, t19] w fun t20 w =>
  joinT (fun K1 =>
  binT P .lss T.int (.tmp 21) (.const (.int .i64 0)) t20 (.int .i64 0) w fun t22 w =>
  condT t22 (
  joinT (fun K2 =>
  drawT w fun w =>
  w = w ∧ quietT (fun K' => nilT a0 w K') w fun t24 =>
  quietT (fun K' => faT P T.winnowref16_Buffer t24 3 w K') w fun t25 =>
  quietT (fun K' => ldT P T.sl_winnowref16_Trace t25 w K') w fun t26 =>
  quietT (fun K' => biT P .len #[T.sl_winnowref16_Trace] T.int [false] [t26] w K') w fun t27 =>
  w = w ∧ quietT (fun K' => nilT a0 w K') w fun t29 =>
  quietT (fun K' => faT P T.winnowref16_Buffer t29 0 w K') w fun t30 =>
  quietT (fun K' => ldT P T.int t30 w K') w fun t31 =>
  quietT (fun K' => binT P .geq T.int (.tmp 27) (.tmp 31) t27 t31 w K') w fun t32 =>
  condT t32 (
  K (.int .i64 8) w) (
  K2 [(gv x0 1)] w)) fun x2 w =>
  M.pwinnowref16_Buffer_Put.j2 a0 a2 t4 w K) (
  K1 [(gv x0 1), undef, undef] w)) fun x1 w =>
  joinT (fun K8 =>
  loopT [(gv x1 0), (.int .i64 0)] w fun K9 x9 w =>
  M.pwinnowref16_Buffer_Put.j9 a0 t20 x9 K8 t4 K9 w K) fun x8 w =>
  M.pwinnowref16_Buffer_Put.j8 a0 t20 x8 t4 w K
/-- (*winnow/winnowref16.Buffer).Put -/
def M.pwinnowref16_Buffer_Put (a0 a1 a2 : Value) (w : World) (K : KV) : Prop :=
  boxT P T.api_Span a1 w fun t4 w =>
  joinT (fun K0 =>
  ldT P T.api_Span t4 w fun t12 w =>
  fcallT P F.winnowref03_Right [t12] w fun t13 w =>
  binT P .neq T.api_Kind (.tmp 14) (.const (.int .i64 0)) t13 (.int .i64 0) w fun t15 w =>
  condT t15 (
  K t13 w) (
  K0 [t13, (.int .i64 0)] w)) fun x0 w =>
  M.pwinnowref16_Buffer_Put.j0 t4 a0 x0 a2 w K
def M.pwinnowref16_Buffer_Put.L : List Nat := [0, 1, 2, 6, 7, 8, 9, 10, 11, 4]
def M.pwinnowref16_Buffer_Put.pl : Nat → Plan := fun id => cond (Nat.beq id 6) ⟨(.go 0 (.go 1 (.go 2 (.go 3 (.go 4 (.go 5 (.go 6 (.go 7 (.go 8 (.go 9 .nil)))))))))), [], false⟩ (cond (Nat.beq id 12) ⟨(.go 0 (.go 1 (.go 2 (.go 3 (.go 4 (.go 5 (.go 6 (.go 7 (.go 8 (.go 9 (.go 10 (.go 11 (.go 12 (.go 13 (.go 14 (.go 15 (.go 16 (.go 17 (.go 18 (.go 19 .nil)))))))))))))))))))), [], false⟩ (cond (Nat.beq id 14) ⟨(.go 0 (.go 2 (.go 3 (.go 4 (.go 5 (.go 6 (.go 7 (.go 9 (.go 10 (.go 11 (.go 12 (.go 17 (.go 18 (.go 19 (.go 20 (.go 21 (.go 22 (.eff 1 (.eff 8 (.eff 13 (.go 14 (.eff 15 (.eff 16 (.eff 23 (.go 24 (.go 25 (.eff 26 .nil .stop))) .stop) .stop) .stop)) .stop) (.eff 13 (.go 14 (.eff 8 (.eff 15 (.eff 16 (.eff 23 (.go 24 (.go 25 (.eff 26 .nil .stop))) .stop) .stop) .stop) (.eff 15 (.eff 8 (.eff 16 (.eff 23 (.go 24 (.go 25 (.eff 26 .nil .stop))) .stop) .stop) .stop) .stop))) .stop)) (.eff 13 (.go 14 (.eff 1 (.eff 8 (.eff 15 (.eff 16 (.eff 23 (.go 24 (.go 25 (.eff 26 .nil .stop))) .stop) .stop) .stop) (.eff 15 (.eff 8 (.eff 16 (.eff 23 (.go 24 (.go 25 (.eff 26 .nil .stop))) .stop) .stop) .stop) .stop)) (.eff 15 (.eff 1 (.eff 8 (.eff 16 (.eff 23 (.go 24 (.go 25 (.eff 26 .nil .stop))) .stop) .stop) .stop) .stop) .stop))) .stop))))))))))))))))))), [1, 8, 13, 15, 16, 23, 26], true⟩ (cond (Nat.beq id 19) ⟨(.go 0 (.go 1 (.go 2 (.go 3 (.go 4 (.go 5 (.go 6 (.go 7 (.go 8 (.go 9 (.go 10 (.go 11 (.go 12 (.go 13 (.go 14 .nil))))))))))))))), [], false⟩ (cond (Nat.beq id 21) ⟨(.go 0 (.go 1 (.go 2 (.go 3 (.go 4 (.go 5 (.go 6 (.go 7 (.go 8 (.go 9 (.go 10 (.go 11 (.go 12 (.go 13 .nil)))))))))))))), [], false⟩ (cond (Nat.beq id 24) ⟨(.go 0 (.go 1 (.go 2 (.go 3 (.go 4 (.go 6 (.go 7 (.go 8 (.go 9 (.go 10 (.go 11 (.go 12 (.go 13 (.go 15 (.eff 5 (.eff 14 (.eff 16 (.eff 17 (.go 18 (.go 19 (.eff 20 .nil .stop))) .stop) .stop) (.eff 16 (.eff 14 (.eff 17 (.go 18 (.go 19 (.eff 20 .nil .stop))) .stop) .stop) .stop)) (.eff 16 (.eff 5 (.eff 14 (.eff 17 (.go 18 (.go 19 (.eff 20 .nil .stop))) .stop) .stop) .stop) .stop)))))))))))))))), [5, 14, 16, 17, 20], true⟩ (⟨.nil, [], false⟩))))))
theorem M.pwinnowref16_Buffer_Put.eq (a0 a1 a2 : Value) (w : World) (K : KV) : M.pwinnowref16_Buffer_Put a0 a1 a2 w K = den P M.pwinnowref16_Buffer_Put.L M.pwinnowref16_Buffer_Put.pl (Try.f46.body.getD .skip) (argE [a0, a1, a2]) w (bodyQ P Try.f46.results.toList K) := by kernel_rfl
theorem M.pwinnowref16_Buffer_Put.ok : okFn M.pwinnowref16_Buffer_Put.L M.pwinnowref16_Buffer_Put.pl Try.f46 (Try.f46.body.getD .skip) 3 = true := by kernel_rfl
theorem M.pwinnowref16_Buffer_Put.calls (a0 a1 a2 : Value) {w : World} {K : KV} (h : M.pwinnowref16_Buffer_Put a0 a1 a2 w K) : callT P F.pwinnowref16_Buffer_Put [a0, a1, a2] w K :=
  callT_of_den (by kernel_rfl) Try.func46 (by kernel_rfl) M.pwinnowref16_Buffer_Put.ok (M.pwinnowref16_Buffer_Put.eq a0 a1 a2 w K ▸ h)
theorem M.pwinnowref16_Buffer_Put.fcall (args : List Value) (w : World) (K : KV) : fcallT P F.pwinnowref16_Buffer_Put args w K = callT P F.pwinnowref16_Buffer_Put args w K := fcallT_eq Try.func46 (by kernel_rfl) (by kernel_rfl) args w K

def M.pwinnowref16_Buffer_Find.j2 (a0 : Value) (x1 : List Value) (a1 : Value) (K1 : KL) (w : World) (K : KV) : Prop :=
  joinT (fun K3 =>
  nilT a0 w fun t16 w =>
  faT P T.winnowref16_Buffer t16 3 w fun t17 w =>
  ldT P T.sl_winnowref16_Trace t17 w fun t18 w =>
  iaT P T.sl_winnowref16_Trace t18 (gv x1 1) w fun t20 w =>
  faT P T.winnowref16_Trace t20 0 w fun t21 w =>
  ldT P T.uint64 t21 w fun t22 w =>
  binT P .eql T.uint64 (.tmp 22) (.tmp 23) t22 a1 w fun t24 w =>
  condT t24 (
  K (gv x1 1) w) (
  K3 [(gv x1 0)] w)) fun x3 w =>
  binT P .add T.int (.tmp 13) (.const (.int .i64 1)) (gv x1 1) (.int .i64 1) w fun t14 w =>
  K1 [(gv x3 0), t14] w
def M.pwinnowref16_Buffer_Find.j1 (a0 : Value) (x1 : List Value) (K0 : KL) (a1 : Value) (K1 : KL) (w : World) (K : KV) : Prop :=
  joinT (fun K2 =>
  nilT a0 w fun t8 w =>
  faT P T.winnowref16_Buffer t8 3 w fun t9 w =>
  ldT P T.sl_winnowref16_Trace t9 w fun t10 w =>
  biT P .len #[T.sl_winnowref16_Trace] T.int [false] [t10] w fun t11 w =>
  binT P .lss T.int (.tmp 6) (.tmp 11) (gv x1 1) t11 w fun t12 w =>
  condT t12 (
  K2 [] w) (
  K0 [(gv x1 1), (gv x1 0)] w)) fun x2 w =>
  M.pwinnowref16_Buffer_Find.j2 a0 x1 a1 K1 w K
/-- (*winnow/winnowref16.Buffer).Find -/
def M.pwinnowref16_Buffer_Find (a0 a1 : Value) (w : World) (K : KV) : Prop :=
  joinT (fun K0 =>
  loopT [(.int .i64 0), (.int .i64 0)] w fun K1 x1 w =>
  M.pwinnowref16_Buffer_Find.j1 a0 x1 K0 a1 K1 w K) fun x0 w =>
  K (.int .i64 (-1)) w
def M.pwinnowref16_Buffer_Find.L : List Nat := [0, 1, 4, 5]
def M.pwinnowref16_Buffer_Find.pl : Nat → Plan := fun id => ⟨.nil, [], false⟩
theorem M.pwinnowref16_Buffer_Find.eq (a0 a1 : Value) (w : World) (K : KV) : M.pwinnowref16_Buffer_Find a0 a1 w K = den P M.pwinnowref16_Buffer_Find.L M.pwinnowref16_Buffer_Find.pl (Try.f47.body.getD .skip) (argE [a0, a1]) w (bodyQ P Try.f47.results.toList K) := by kernel_rfl
theorem M.pwinnowref16_Buffer_Find.ok : okFn M.pwinnowref16_Buffer_Find.L M.pwinnowref16_Buffer_Find.pl Try.f47 (Try.f47.body.getD .skip) 2 = true := by kernel_rfl
theorem M.pwinnowref16_Buffer_Find.calls (a0 a1 : Value) {w : World} {K : KV} (h : M.pwinnowref16_Buffer_Find a0 a1 w K) : callT P F.pwinnowref16_Buffer_Find [a0, a1] w K :=
  callT_of_den (by kernel_rfl) Try.func47 (by kernel_rfl) M.pwinnowref16_Buffer_Find.ok (M.pwinnowref16_Buffer_Find.eq a0 a1 w K ▸ h)
theorem M.pwinnowref16_Buffer_Find.fcall (args : List Value) (w : World) (K : KV) : fcallT P F.pwinnowref16_Buffer_Find args w K = callT P F.pwinnowref16_Buffer_Find args w K := fcallT_eq Try.func47 (by kernel_rfl) (by kernel_rfl) args w K

def M.pwinnowref16_Buffer_Take.j0 (a0 : Value) (t9 : Value) (w : World) (K : KV) : Prop :=
  nilT a0 w fun t13 w =>
  faT P T.winnowref16_Buffer t13 3 w fun t14 w =>
  ldT P T.sl_winnowref16_Trace t14 w fun t15 w =>
  iaT P T.sl_winnowref16_Trace t15 t9 w fun t17 w =>
  faT P T.winnowref16_Trace t17 2 w fun t18 w =>
  ldT P T.sl_api_Span t18 w fun t19 w =>
  drawT w fun w =>
  w = w ∧ w = w ∧ quietT (fun K' => nilT a0 w K') w fun t23 =>
  quietT (fun K' => faT P T.winnowref16_Buffer t23 3 w K') w fun t24 =>
  quietT (fun K' => ldT P T.sl_winnowref16_Trace t24 w K') w fun t25 =>
  w = w ∧ quietT (fun K' => slT P T.sl_winnowref16_Trace t25 none (some t9) none w K') w fun t27 =>
  w = w ∧ quietT (fun K' => nilT a0 w K') w fun t30 =>
  quietT (fun K' => faT P T.winnowref16_Buffer t30 3 w K') w fun t31 =>
  quietT (fun K' => ldT P T.sl_winnowref16_Trace t31 w K') w fun t32 =>
  w = w ∧ quietT (fun K' => binT P .add T.int (.tmp 33) (.const (.int .i64 1)) t9 (.int .i64 1) w K') w fun t34 =>
  quietT (fun K' => slT P T.sl_winnowref16_Trace t32 (some t34) none none w K') w fun t35 =>
  bsT P T.sl_winnowref16_Trace 0 #[] w fun t21 w =>
  stabT (fun K' => slT P T.sl_winnowref16_Trace t32 (some t34) none none w K') w t35 ∧ stabT (fun K' => binT P .add T.int (.tmp 33) (.const (.int .i64 1)) t9 (.int .i64 1) w K') w t34 ∧ stabT (fun K' => K' t9 w) w t9 ∧ stabT (fun K' => ldT P T.sl_winnowref16_Trace t31 w K') w t32 ∧ stabT (fun K' => faT P T.winnowref16_Buffer t30 3 w K') w t31 ∧ stabT (fun K' => nilT a0 w K') w t30 ∧ stabT (fun K' => K' a0 w) w a0 ∧ stabT (fun K' => slT P T.sl_winnowref16_Trace t25 none (some t9) none w K') w t27 ∧ stabT (fun K' => K' t9 w) w t9 ∧ stabT (fun K' => ldT P T.sl_winnowref16_Trace t24 w K') w t25 ∧ stabT (fun K' => faT P T.winnowref16_Buffer t23 3 w K') w t24 ∧ stabT (fun K' => nilT a0 w K') w t23 ∧ stabT (fun K' => K' a0 w) w a0 ∧ stabT (fun K' => K' a0 w) w a0 ∧ biT P .append #[T.sl_winnowref16_Trace, T.sl_winnowref16_Trace] T.sl_winnowref16_Trace [false, false] [t21, t27] w fun t28 w =>
  stabT (fun K' => slT P T.sl_winnowref16_Trace t32 (some t34) none none w K') w t35 ∧ stabT (fun K' => binT P .add T.int (.tmp 33) (.const (.int .i64 1)) t9 (.int .i64 1) w K') w t34 ∧ stabT (fun K' => K' t9 w) w t9 ∧ stabT (fun K' => ldT P T.sl_winnowref16_Trace t31 w K') w t32 ∧ stabT (fun K' => faT P T.winnowref16_Buffer t30 3 w K') w t31 ∧ stabT (fun K' => nilT a0 w K') w t30 ∧ stabT (fun K' => K' a0 w) w a0 ∧ stabT (fun K' => K' a0 w) w a0 ∧ biT P .append #[T.sl_winnowref16_Trace, T.sl_winnowref16_Trace] T.sl_winnowref16_Trace [false, false] [t28, t35] w fun t36 w =>
  stabT (fun K' => K' a0 w) w a0 ∧ quietT (fun K' => nilT a0 w K') w fun t37 =>
  quietT (fun K' => faT P T.winnowref16_Buffer t37 3 w K') w fun t38 =>
  stT P T.sl_winnowref16_Trace t38 t36 w fun _ w =>
  K t19 w
/-- (*winnow/winnowref16.Buffer).Take -/
def M.pwinnowref16_Buffer_Take (a0 a1 : Value) (w : World) (K : KV) : Prop :=
  fcallT P F.pwinnowref16_Buffer_Find [a0, a1] w fun t9 w =>
  joinT (fun K0 =>
  binT P .lss T.int (.tmp 10) (.const (.int .i64 0)) t9 (.int .i64 0) w fun t11 w =>
  condT t11 (
  K (.slice none 0 0) w) (
  K0 [(.slice none 0 0)] w)) fun x0 w =>
  M.pwinnowref16_Buffer_Take.j0 a0 t9 w K
def M.pwinnowref16_Buffer_Take.L : List Nat := [0, 1, 4, 5, 6]
def M.pwinnowref16_Buffer_Take.pl : Nat → Plan := fun id => cond (Nat.beq id 5) ⟨(.go 0 (.go 2 (.go 3 (.go 4 (.go 5 (.go 6 (.go 7 (.go 9 (.go 10 (.go 11 (.go 12 (.go 13 (.go 14 (.go 15 (.eff 1 (.eff 8 (.eff 16 (.go 17 (.go 18 (.eff 19 .nil .stop))) .stop) .stop) .stop))))))))))))))), [1, 8, 16, 19], false⟩ (⟨.nil, [], false⟩)
theorem M.pwinnowref16_Buffer_Take.eq (a0 a1 : Value) (w : World) (K : KV) : M.pwinnowref16_Buffer_Take a0 a1 w K = den P M.pwinnowref16_Buffer_Take.L M.pwinnowref16_Buffer_Take.pl (Try.f48.body.getD .skip) (argE [a0, a1]) w (bodyQ P Try.f48.results.toList K) := by kernel_rfl
theorem M.pwinnowref16_Buffer_Take.ok : okFn M.pwinnowref16_Buffer_Take.L M.pwinnowref16_Buffer_Take.pl Try.f48 (Try.f48.body.getD .skip) 2 = true := by kernel_rfl
theorem M.pwinnowref16_Buffer_Take.calls (a0 a1 : Value) {w : World} {K : KV} (h : M.pwinnowref16_Buffer_Take a0 a1 w K) : callT P F.pwinnowref16_Buffer_Take [a0, a1] w K :=
  callT_of_den (by kernel_rfl) Try.func48 (by kernel_rfl) M.pwinnowref16_Buffer_Take.ok (M.pwinnowref16_Buffer_Take.eq a0 a1 w K ▸ h)
theorem M.pwinnowref16_Buffer_Take.fcall (args : List Value) (w : World) (K : KV) : fcallT P F.pwinnowref16_Buffer_Take args w K = callT P F.pwinnowref16_Buffer_Take args w K := fcallT_eq Try.func48 (by kernel_rfl) (by kernel_rfl) args w K

def M.winnowlaw16_same.j3 (t16 : Value) (x2 : List Value) (a0 : Value) (a1 : Value) (K2 : KL) (w : World) (K : KV) : Prop :=
  joinT (fun K4 =>
  iaT P T.sl_uint64 t16 (gv x2 4) w fun t53 w =>
  ldT P T.uint64 t53 w fun t54 w =>
  fcallT P F.pbuffer_Buffer_Get [a0, t54] w fun t55 w =>
  exT P t55 0 w fun t56 w =>
  exT P t55 1 w fun t57 w =>
  exT P t55 2 w fun t58 w =>
  drawT w fun w =>
  w = w ∧ w = w ∧ quietT (fun K' => iaT P T.sl_uint64 t16 (gv x2 4) w K') w fun t61 =>
  quietT (fun K' => ldT P T.uint64 t61 w K') w fun t62 =>
  w = w ∧ quietT (fun K' => nilT a1 w K') w fun t64 =>
  quietT (fun K' => faT P T.winnowref16_Buffer t64 3 w K') w fun t65 =>
  quietT (fun K' => ldT P T.sl_winnowref16_Trace t65 w K') w fun t66 =>
  w = w ∧ quietT (fun K' => iaT P T.sl_winnowref16_Trace t66 (gv x2 4) w K') w fun t68 =>
  quietT (fun K' => faT P T.winnowref16_Trace t68 0 w K') w fun t69 =>
  quietT (fun K' => ldT P T.uint64 t69 w K') w fun t70 =>
  quietT (fun K' => binT P .neq T.uint64 (.tmp 62) (.tmp 70) t62 t70 w K') w fun t71 =>
  w = w ∧ quietT (fun K' => guardT (isB t71 false) (fun K' => K' t56 w) w K') w fun t73 =>
  quietT (fun K' => guardT (isB t71 false) (fun K' => K' a1 w) w K') w fun t74 =>
  quietT (fun K' => guardT (isB t71 false) (fun K' => nilT t74 w K') w K') w fun t75 =>
  quietT (fun K' => guardT (isB t71 false) (fun K' => faT P T.winnowref16_Buffer t75 3 w K') w K') w fun t76 =>
  quietT (fun K' => guardT (isB t71 false) (fun K' => ldT P T.sl_winnowref16_Trace t76 w K') w K') w fun t77 =>
  quietT (fun K' => guardT (isB t71 false) (fun K' => K' (gv x2 4) w) w K') w fun t78 =>
  quietT (fun K' => guardT (isB t71 false) (fun K' => iaT P T.sl_winnowref16_Trace t77 t78 w K') w K') w fun t79 =>
  quietT (fun K' => guardT (isB t71 false) (fun K' => faT P T.winnowref16_Trace t79 2 w K') w K') w fun t80 =>
  quietT (fun K' => guardT (isB t71 false) (fun K' => ldT P T.sl_api_Span t80 w K') w K') w fun t81 =>
  guardT (isB t71 false) (fun K' => fcallT P F.winnowref03_Spans [t73, t81] w K') w fun t82 w =>
  quietT (fun K' => guardT (isB t71 false) (fun K' => unT P .not t82 w K') w K') w fun t83 =>
  quietT (fun K' => pickT t71 (.bool true) t83 w K') w fun t84 =>
  w = w ∧ quietT (fun K' => guardT (isB t84 false) (fun K' => K' t57 w) w K') w fun t86 =>
  quietT (fun K' => guardT (isB t84 false) (fun K' => K' a1 w) w K') w fun t87 =>
  quietT (fun K' => guardT (isB t84 false) (fun K' => nilT t87 w K') w K') w fun t88 =>
  quietT (fun K' => guardT (isB t84 false) (fun K' => faT P T.winnowref16_Buffer t88 3 w K') w K') w fun t89 =>
  quietT (fun K' => guardT (isB t84 false) (fun K' => ldT P T.sl_winnowref16_Trace t89 w K') w K') w fun t90 =>
  quietT (fun K' => guardT (isB t84 false) (fun K' => K' (gv x2 4) w) w K') w fun t91 =>
  quietT (fun K' => guardT (isB t84 false) (fun K' => iaT P T.sl_winnowref16_Trace t90 t91 w K') w K') w fun t92 =>
  quietT (fun K' => guardT (isB t84 false) (fun K' => faT P T.winnowref16_Trace t92 3 w K') w K') w fun t93 =>
  quietT (fun K' => guardT (isB t84 false) (fun K' => ldT P T.bool t93 w K') w K') w fun t94 =>
  quietT (fun K' => guardT (isB t84 false) (fun K' => binT P .neq T.bool (.tmp 86) (.tmp 94) t86 t94 w K') w K') w fun t95 =>
  quietT (fun K' => pickT t84 (.bool true) t95 w K') w fun t96 =>
  w = w ∧ quietT (fun K' => guardT (isB t96 false) (fun K' => K' t58 w) w K') w fun t98 =>
  quietT (fun K' => guardT (isB t96 false) (fun K' => unT P .not t98 w K') w K') w fun t99 =>
  quietT (fun K' => pickT t96 (.bool true) t99 w K') w fun t100 =>
  condT t100 (
  K (.bool false) w) (
  K4 [t56, t57, t58, (gv x2 3)] w)) fun x4 w =>
  binT P .add T.int (.tmp 47) (.const (.int .i64 1)) (gv x2 4) (.int .i64 1) w fun t48 w =>
  K2 [(gv x4 0), (gv x4 1), (gv x4 2), (gv x4 3), t48] w
def M.winnowlaw16_same.j2 (t16 : Value) (x2 : List Value) (K1 : KL) (a0 : Value) (a1 : Value) (K2 : KL) (w : World) (K : KV) : Prop :=
  joinT (fun K3 =>
  biT P .len #[T.sl_uint64] T.int [false] [t16] w fun t45 w =>
  binT P .lss T.int (.tmp 43) (.tmp 45) (gv x2 4) t45 w fun t46 w =>
  condT t46 (
  K3 [] w) (
  K1 [(gv x2 4), (gv x2 0), (gv x2 1), (gv x2 2), (gv x2 3)] w)) fun x3 w =>
  M.winnowlaw16_same.j3 t16 x2 a0 a1 K2 w K
def M.winnowlaw16_same.j0 (x0 : List Value) (t16 : Value) (a0 : Value) (a1 : Value) (w : World) (K : KV) : Prop :=
  joinT (fun K1 =>
  loopT [undef, undef, undef, (gv x0 0), (.int .i64 0)] w fun K2 x2 w =>
  M.winnowlaw16_same.j2 t16 x2 K1 a0 a1 K2 w K) fun x1 w =>
  fcallT P F.pbuffer_Buffer_Get [a0, (.int .u64 0)] w fun t103 w =>
  exT P t103 0 w fun t104 w =>
  exT P t103 1 w fun t105 w =>
  exT P t103 2 w fun t106 w =>
  unT P .not t106 w fun t108 w =>
  K t108 w
/-- winnow/winnowlaw16.same -/
def M.winnowlaw16_same (a0 a1 a2 : Value) (w : World) (K : KV) : Prop :=
  fcallT P F.pbuffer_Buffer_Traces [a0] w fun t16 w =>
  joinT (fun K0 =>
  biT P .len #[T.sl_uint64] T.int [false] [t16] w fun t18 w =>
  nilT a1 w fun t20 w =>
  faT P T.winnowref16_Buffer t20 3 w fun t21 w =>
  ldT P T.sl_winnowref16_Trace t21 w fun t22 w =>
  biT P .len #[T.sl_winnowref16_Trace] T.int [false] [t22] w fun t23 w =>
  binT P .neq T.int (.tmp 18) (.tmp 23) t18 t23 w fun t24 w =>
  guardT (isB t24 false) (fun K' => K' a0 w) w fun t26 w =>
  guardT (isB t24 false) (fun K' => K' a2 w) w fun t27 w =>
  guardT (isB t24 false) (fun K' => fcallT P F.pbuffer_Buffer_Due [t26, t27] w K') w fun t28 w =>
  guardT (isB t24 false) (fun K' => K' a1 w) w fun t29 w =>
  guardT (isB t24 false) (fun K' => K' a2 w) w fun t30 w =>
  guardT (isB t24 false) (fun K' => fcallT P F.pwinnowref16_Buffer_Due [t29, t30] w K') w fun t31 w =>
  guardT (isB t24 false) (fun K' => fcallT P F.winnowlaw16_uints [t28, t31] w K') w fun t32 w =>
  guardT (isB t24 false) (fun K' => unT P .not t32 w K') w fun t33 w =>
  pickT t24 (.bool true) t33 w fun t34 w =>
  guardT (isB t34 false) (fun K' => K' a0 w) w fun t36 w =>
  guardT (isB t34 false) (fun K' => fcallT P F.pbuffer_Buffer_Due [t36, (.int .u64 18446744073709551615)] w K') w fun t37 w =>
  guardT (isB t34 false) (fun K' => K' a1 w) w fun t38 w =>
  guardT (isB t34 false) (fun K' => fcallT P F.pwinnowref16_Buffer_Due [t38, (.int .u64 18446744073709551615)] w K') w fun t39 w =>
  guardT (isB t34 false) (fun K' => fcallT P F.winnowlaw16_uints [t37, t39] w K') w fun t40 w =>
  guardT (isB t34 false) (fun K' => unT P .not t40 w K') w fun t41 w =>
  pickT t34 (.bool true) t41 w fun t42 w =>
  condT t42 (
  K (.bool false) w) (
  K0 [(.bool false)] w)) fun x0 w =>
  M.winnowlaw16_same.j0 x0 t16 a0 a1 w K
def M.winnowlaw16_same.L : List Nat := [0, 1, 2, 6, 7, 8, 9, 10, 11, 12, 13, 14]
def M.winnowlaw16_same.pl : Nat → Plan := fun id => cond (Nat.beq id 8) ⟨(.go 0 (.go 1 (.go 2 (.go 3 (.go 4 (.go 5 (.go 6 (.go 7 (.go 8 (.go 9 (.go 10 (.go 11 (.go 12 (.go 13 (.go 14 (.go 15 (.go 16 (.go 17 (.go 18 (.go 19 (.go 20 (.go 21 (.go 22 (.eff 23 (.go 24 (.go 25 (.go 26 (.go 27 (.go 28 (.go 29 (.go 30 (.go 31 (.go 32 (.go 33 (.go 34 (.go 35 (.go 36 (.go 37 (.go 38 (.go 39 (.go 40 (.go 41 .nil)))))))))))))))))) .stop)))))))))))))))))))))))), [23], false⟩ (⟨.nil, [], false⟩)
theorem M.winnowlaw16_same.eq (a0 a1 a2 : Value) (w : World) (K : KV) : M.winnowlaw16_same a0 a1 a2 w K = den P M.winnowlaw16_same.L M.winnowlaw16_same.pl (Try.f49.body.getD .skip) (argE [a0, a1, a2]) w (bodyQ P Try.f49.results.toList K) := by kernel_rfl
theorem M.winnowlaw16_same.ok : okFn M.winnowlaw16_same.L M.winnowlaw16_same.pl Try.f49 (Try.f49.body.getD .skip) 3 = true := by kernel_rfl
theorem M.winnowlaw16_same.calls (a0 a1 a2 : Value) {w : World} {K : KV} (h : M.winnowlaw16_same a0 a1 a2 w K) : callT P F.winnowlaw16_same [a0, a1, a2] w K :=
  callT_of_den (by kernel_rfl) Try.func49 (by kernel_rfl) M.winnowlaw16_same.ok (M.winnowlaw16_same.eq a0 a1 a2 w K ▸ h)
theorem M.winnowlaw16_same.fcall (args : List Value) (w : World) (K : KV) : fcallT P F.winnowlaw16_same args w K = callT P F.winnowlaw16_same args w K := fcallT_eq Try.func49 (by kernel_rfl) (by kernel_rfl) args w K

end Go.Proofs.Ytgcpljghnlohbaa
