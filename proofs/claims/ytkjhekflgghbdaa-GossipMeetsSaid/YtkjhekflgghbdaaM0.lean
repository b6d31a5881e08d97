/-
  Printed by wip/Shallow.lean: functions of the program, read shallow; each is what its code does. No condition.
-/
import Derived.Test.YtkjhekflgghbdaaN
set_option maxRecDepth 1000000
namespace Go.Proofs.Ytkjhekflgghbdaa
open Go.Eng

def M.winnowlaw09_ViewMerges.j0 (a0 : Value) (a1 : Value) (w : World) (K : KV) : Prop :=
  fcallT P F.view_Merge [a0, a1] w fun t21 w =>
  exT P t21 0 w fun t22 w =>
  exT P t21 1 w fun t23 w =>
  fcallT P F.winnowref09_Merge [a0, a1] w fun t27 w =>
  exT P t27 0 w fun t28 w =>
  exT P t27 1 w fun t29 w =>
  fcallT P F.winnowref09_Same [t22, t28] w fun t32 w =>
  guardT (isB t32 true) (fun K' => K' t23 w) w fun t34 w =>
  guardT (isB t32 true) (fun K' => K' t29 w) w fun t35 w =>
  guardT (isB t32 true) (fun K' => binT P .eql T.api_Kind (.tmp 34) (.tmp 35) t34 t35 w K') w fun t36 w =>
  pickT t32 t36 (.bool false) w fun t37 w =>
  guardT (isB t37 true) (fun K' => fcallT P F.winnowlaw09_alive [] w K') w fun t39 w =>
  pickT t37 t39 (.bool false) w fun t40 w =>
  K t40 w
/-- winnow/winnowlaw09.ViewMerges -/
def M.winnowlaw09_ViewMerges (a0 a1 : Value) (w : World) (K : KV) : Prop :=
  joinT (fun K0 =>
  biT P .len #[T.sl_api_Member] T.int [false] [a0] w fun t10 w =>
  binT P .gtr T.int (.tmp 10) (.const (.int .i64 200)) t10 (.int .i64 200) w fun t11 w =>
  guardT (isB t11 false) (fun K' => K' a1 w) w fun t13 w =>
  guardT (isB t11 false) (fun K' => biT P .len #[T.sl_api_Member] T.int [false] [t13] w K') w fun t14 w =>
  guardT (isB t11 false) (fun K' => binT P .gtr T.int (.tmp 14) (.const (.int .i64 200)) t14 (.int .i64 200) w K') w fun t15 w =>
  pickT t11 (.bool true) t15 w fun t16 w =>
  condT t16 (
  fcallT P F.winnowlaw09_alive [] w fun t17 w =>
  K t17 w) (
  K0 [(.bool false)] w)) fun x0 w =>
  M.winnowlaw09_ViewMerges.j0 a0 a1 w K
def M.winnowlaw09_ViewMerges.L : List Nat := [0, 1, 4, 5, 6, 7, 8]
def M.winnowlaw09_ViewMerges.pl : Nat → Plan := fun id => ⟨.nil, [], false, []⟩
theorem M.winnowlaw09_ViewMerges.eq (a0 a1 : Value) (w : World) (K : KV) : M.winnowlaw09_ViewMerges a0 a1 w K = den P M.winnowlaw09_ViewMerges.L M.winnowlaw09_ViewMerges.pl (Try.f4.body.getD .skip) (argE [a0, a1]) w (bodyQ P Try.f4.results.toList K) := by kernel_rfl
theorem M.winnowlaw09_ViewMerges.ok : okFn M.winnowlaw09_ViewMerges.L M.winnowlaw09_ViewMerges.pl Try.f4 (Try.f4.body.getD .skip) 2 = true := by kernel_rfl
theorem M.winnowlaw09_ViewMerges.calls (a0 a1 : Value) {w : World} {K : KV} (h : M.winnowlaw09_ViewMerges a0 a1 w K) : callT P F.winnowlaw09_ViewMerges [a0, a1] w K :=
  callT_of_den (by kernel_rfl) Try.func4 (by kernel_rfl) M.winnowlaw09_ViewMerges.ok (M.winnowlaw09_ViewMerges.eq a0 a1 w K ▸ h)
theorem M.winnowlaw09_ViewMerges.fcall (args : List Value) (w : World) (K : KV) : fcallT P F.winnowlaw09_ViewMerges args w K = callT P F.winnowlaw09_ViewMerges args w K := fcallT_eq Try.func4 (by kernel_rfl) (by kernel_rfl) args w K
theorem M.winnowlaw09_ViewMerges.rcall (a c args : List Value) (w : World) (K : KV) : callRT P (.func (.func F.winnowlaw09_ViewMerges) a.toArray c.toArray) args w K = callT P F.winnowlaw09_ViewMerges (a ++ args ++ c) w K := callR_fn Try.func4 (by kernel_rfl) (by kernel_rfl) a c args w K

def M.winnowlaw10_GossipMeets.j5 (x2 : List Value) (a0 : Value) (x5 : List Value) (K4 : KL) (w : World) (K : KV) : Prop :=
  binT P .add T.int (.tmp 52) (.const (.int .i64 1)) (gv x2 4) (.int .i64 1) w fun t53 w =>
  cvT P T.int T.uint64 t53 w fun t54 w =>
  iaT P T.sl_uint64 a0 (gv x2 4) w fun t57 w =>
  ldT P T.uint64 t57 w fun t58 w =>
  fcallT P F.gossip_New [t54, t58, (.int .u64 5), (.int .u64 100), (.int .u64 0)] w fun t59 w =>
  exT P t59 0 w fun t60 w =>
  exT P t59 1 w fun t61 w =>
  joinT (fun K6 =>
  binT P .neq T.api_Kind (.tmp 62) (.const (.int .i64 0)) t61 (.int .i64 0) w fun t63 w =>
  guardT (isB t63 false) (fun K' => K' t60 w) w fun t65 w =>
  guardT (isB t63 false) (fun K' => binT P .eql T.p_gossip_Node (.tmp 65) (.const (.pointer none)) t65 (.pointer none) w K') w fun t66 w =>
  pickT t63 (.bool true) t66 w fun t67 w =>
  condT t67 (
  K (.bool false) w) (
  K6 [(gv x5 0)] w)) fun x6 w =>
  bsT P T.sl_p_gossip_Node 1 #[(0, t60)] w fun t70 w =>
  biT P .append #[T.sl_p_gossip_Node, T.sl_p_gossip_Node] T.sl_p_gossip_Node [false, false] [(gv x2 3), t70] w fun t71 w =>
  K4 [(gv x6 0), t60, t61, t71] w
def M.winnowlaw10_GossipMeets.j3 (a0 : Value) (x2 : List Value) (K2 : KL) (w : World) (K : KV) : Prop :=
  joinT (fun K4 =>
  joinT (fun K5 =>
  iaT P T.sl_uint64 a0 (gv x2 4) w fun t40 w =>
  ldT P T.uint64 t40 w fun t41 w =>
  binT P .lss T.uint64 (.tmp 41) (.const (.int .u64 1)) t41 (.int .u64 1) w fun t42 w =>
  guardT (isB t42 false) (fun K' => K' a0 w) w fun t44 w =>
  guardT (isB t42 false) (fun K' => K' (gv x2 4) w) w fun t45 w =>
  guardT (isB t42 false) (fun K' => iaT P T.sl_uint64 t44 t45 w K') w fun t46 w =>
  guardT (isB t42 false) (fun K' => ldT P T.uint64 t46 w K') w fun t47 w =>
  guardT (isB t42 false) (fun K' => binT P .gtr T.uint64 (.tmp 47) (.const (.int .u64 1000)) t47 (.int .u64 1000) w K') w fun t48 w =>
  pickT t42 (.bool true) t48 w fun t49 w =>
  condT t49 (
  fcallT P F.winnowlaw10_alive [] w fun t50 w =>
  K t50 w) (
  K5 [(gv x2 0)] w)) fun x5 w =>
  M.winnowlaw10_GossipMeets.j5 x2 a0 x5 K4 w K) fun x4 w =>
  binT P .add T.int (.tmp 36) (.const (.int .i64 1)) (gv x2 4) (.int .i64 1) w fun t37 w =>
  K2 [(gv x4 0), (gv x4 1), (gv x4 2), (gv x4 3), t37] w
def M.winnowlaw10_GossipMeets.j2 (a0 : Value) (x2 : List Value) (K1 : KL) (K2 : KL) (w : World) (K : KV) : Prop :=
  joinT (fun K3 =>
  biT P .len #[T.sl_uint64] T.int [false] [a0] w fun t34 w =>
  binT P .lss T.int (.tmp 32) (.tmp 34) (gv x2 4) t34 w fun t35 w =>
  condT t35 (
  K3 [] w) (
  K1 [(gv x2 4), (gv x2 0), (gv x2 1), (gv x2 2), (gv x2 3)] w)) fun x3 w =>
  M.winnowlaw10_GossipMeets.j3 a0 x2 K2 w K
def M.winnowlaw10_GossipMeets.j13 (a1 : Value) (x8 : List Value) (x12 : List Value) (a0 : Value) (K12 : KL) (w : World) (K : KV) : Prop :=
  joinT (fun K14 =>
  iaT P T.sl_winnowlaw10_Op a1 (gv x8 2) w fun t90 w =>
  faT P T.winnowlaw10_Op t90 3 w fun t91 w =>
  ldT P T.sl_api_Member t91 w fun t92 w =>
  iaT P T.sl_api_Member t92 (gv x12 1) w fun t94 w =>
  faT P T.api_Member t94 1 w fun t95 w =>
  ldT P T.uint64 t95 w fun t96 w =>
  binT P .gtr T.uint64 (.tmp 96) (.const (.int .u64 1000)) t96 (.int .u64 1000) w fun t97 w =>
  guardT (isB t97 false) (fun K' => K' a1 w) w fun t99 w =>
  guardT (isB t97 false) (fun K' => K' (gv x8 2) w) w fun t100 w =>
  guardT (isB t97 false) (fun K' => iaT P T.sl_winnowlaw10_Op t99 t100 w K') w fun t101 w =>
  guardT (isB t97 false) (fun K' => faT P T.winnowlaw10_Op t101 3 w K') w fun t102 w =>
  guardT (isB t97 false) (fun K' => ldT P T.sl_api_Member t102 w K') w fun t103 w =>
  guardT (isB t97 false) (fun K' => K' (gv x12 1) w) w fun t104 w =>
  guardT (isB t97 false) (fun K' => iaT P T.sl_api_Member t103 t104 w K') w fun t105 w =>
  guardT (isB t97 false) (fun K' => faT P T.api_Member t105 0 w K') w fun t106 w =>
  guardT (isB t97 false) (fun K' => ldT P T.uint64 t106 w K') w fun t107 w =>
  guardT (isB t97 false) (fun K' => K' a0 w) w fun t108 w =>
  guardT (isB t97 false) (fun K' => biT P .len #[T.sl_uint64] T.int [false] [t108] w K') w fun t109 w =>
  guardT (isB t97 false) (fun K' => cvT P T.int T.uint64 t109 w K') w fun t110 w =>
  guardT (isB t97 false) (fun K' => binT P .gtr T.uint64 (.tmp 107) (.tmp 110) t107 t110 w K') w fun t111 w =>
  pickT t97 (.bool true) t111 w fun t112 w =>
  condT t112 (
  fcallT P F.winnowlaw10_alive [] w fun t113 w =>
  K t113 w) (
  K14 [(gv x12 0)] w)) fun x14 w =>
  binT P .add T.int (.tmp 86) (.const (.int .i64 1)) (gv x12 1) (.int .i64 1) w fun t87 w =>
  K12 [(gv x14 0), t87] w
def M.winnowlaw10_GossipMeets.j12 (a1 : Value) (x8 : List Value) (x12 : List Value) (K11 : KL) (a0 : Value) (K12 : KL) (w : World) (K : KV) : Prop :=
  joinT (fun K13 =>
  iaT P T.sl_winnowlaw10_Op a1 (gv x8 2) w fun t81 w =>
  faT P T.winnowlaw10_Op t81 3 w fun t82 w =>
  ldT P T.sl_api_Member t82 w fun t83 w =>
  biT P .len #[T.sl_api_Member] T.int [false] [t83] w fun t84 w =>
  binT P .lss T.int (.tmp 78) (.tmp 84) (gv x12 1) t84 w fun t85 w =>
  condT t85 (
  K13 [] w) (
  K11 [(gv x12 1), (gv x12 0)] w)) fun x13 w =>
  M.winnowlaw10_GossipMeets.j13 a1 x8 x12 a0 K12 w K
def M.winnowlaw10_GossipMeets.j11 (a1 : Value) (x8 : List Value) (x1 : List Value) (K10 : KL) (x11 : List Value) (w : World) (K : KV) : Prop :=
  iaT P T.sl_winnowlaw10_Op a1 (gv x8 2) w fun t116 w =>
  faT P T.winnowlaw10_Op t116 0 w fun t117 w =>
  ldT P T.int t117 w fun t118 w =>
  binT P .eql T.int (.tmp 118) (.const (.int .i64 0)) t118 (.int .i64 0) w fun t119 w =>
  condT t119 (
  drawT w fun w =>
  w = w ∧ w = w ∧ w = w ∧ quietT (fun K' => biT P .len #[T.sl_p_gossip_Node] T.int [false] [(gv x1 4)] w K') w fun t123 =>
  quietT (fun K' => binT P .rem T.int (.tmp 121) (.tmp 123) (gv x8 2) t123 w K') w fun t124 =>
  quietT (fun K' => iaT P T.sl_p_gossip_Node (gv x1 4) t124 w K') w fun t125 =>
  quietT (fun K' => ldT P T.p_gossip_Node t125 w K') w fun t126 =>
  w = w ∧ w = w ∧ quietT (fun K' => iaT P T.sl_winnowlaw10_Op a1 (gv x8 2) w K') w fun t129 =>
  quietT (fun K' => faT P T.winnowlaw10_Op t129 3 w K') w fun t130 =>
  quietT (fun K' => ldT P T.sl_api_Member t130 w K') w fun t131 =>
  fcallT P F.pgossip_Node_Hear [t126, (.int .u64 0), t131, (.int .u64 0)] w fun t132 w =>
  K10 [(gv x11 0), (gv x11 1)] w) (
  K10 [(gv x11 0), (gv x11 1)] w)
def M.winnowlaw10_GossipMeets.j9 (x8 : List Value) (a1 : Value) (a0 : Value) (x1 : List Value) (K8 : KL) (w : World) (K : KV) : Prop :=
  joinT (fun K10 =>
  joinT (fun K11 =>
  loopT [(gv x8 1), (.int .i64 0)] w fun K12 x12 w =>
  M.winnowlaw10_GossipMeets.j12 a1 x8 x12 K11 a0 K12 w K) fun x11 w =>
  M.winnowlaw10_GossipMeets.j11 a1 x8 x1 K10 x11 w K) fun x10 w =>
  binT P .add T.int (.tmp 76) (.const (.int .i64 1)) (gv x8 2) (.int .i64 1) w fun t77 w =>
  K8 [(gv x10 0), (gv x10 1), t77] w
def M.winnowlaw10_GossipMeets.j8 (a1 : Value) (x8 : List Value) (K7 : KL) (a0 : Value) (x1 : List Value) (K8 : KL) (w : World) (K : KV) : Prop :=
  joinT (fun K9 =>
  biT P .len #[T.sl_winnowlaw10_Op] T.int [false] [a1] w fun t74 w =>
  binT P .lss T.int (.tmp 72) (.tmp 74) (gv x8 2) t74 w fun t75 w =>
  condT t75 (
  K9 [] w) (
  K7 [(gv x8 2), (gv x8 0), (gv x8 1)] w)) fun x9 w =>
  M.winnowlaw10_GossipMeets.j9 x8 a1 a0 x1 K8 w K
def M.winnowlaw10_GossipMeets.j23 (x19 : List Value) (x22 : List Value) (x1 : List Value) (K22 : KL) (w : World) (K : KV) : Prop :=
  joinT (fun K24 =>
  drawT w fun w =>
  w = w ∧ w = w ∧ quietT (fun K' => binT P .neq T.int (.tmp 149) (.tmp 150) (gv x19 2) (gv x22 1) w K') w fun t151 =>
  w = w ∧ quietT (fun K' => guardT (isB t151 true) (fun K' => K' (gv x1 4) w) w K') w fun t153 =>
  quietT (fun K' => guardT (isB t151 true) (fun K' => K' (gv x22 1) w) w K') w fun t154 =>
  quietT (fun K' => guardT (isB t151 true) (fun K' => iaT P T.sl_p_gossip_Node t153 t154 w K') w K') w fun t155 =>
  quietT (fun K' => guardT (isB t151 true) (fun K' => ldT P T.p_gossip_Node t155 w K') w K') w fun t156 =>
  quietT (fun K' => guardT (isB t151 true) (fun K' => K' (gv x19 2) w) w K') w fun t157 =>
  quietT (fun K' => guardT (isB t151 true) (fun K' => binT P .add T.int (.tmp 157) (.const (.int .i64 1)) t157 (.int .i64 1) w K') w K') w fun t158 =>
  quietT (fun K' => guardT (isB t151 true) (fun K' => cvT P T.int T.uint64 t158 w K') w K') w fun t159 =>
  quietT (fun K' => guardT (isB t151 true) (fun K' => K' (gv x1 4) w) w K') w fun t160 =>
  quietT (fun K' => guardT (isB t151 true) (fun K' => K' (gv x19 2) w) w K') w fun t161 =>
  quietT (fun K' => guardT (isB t151 true) (fun K' => iaT P T.sl_p_gossip_Node t160 t161 w K') w K') w fun t162 =>
  quietT (fun K' => guardT (isB t151 true) (fun K' => ldT P T.p_gossip_Node t162 w K') w K') w fun t163 =>
  guardT (isB t151 true) (fun K' => fcallT P F.pgossip_Node_View [t163] w K') w fun t164 w =>
  stabT (fun K' => guardT (isB t151 true) (fun K' => cvT P T.int T.uint64 t158 w K') w K') w t159 ∧ stabT (fun K' => guardT (isB t151 true) (fun K' => binT P .add T.int (.tmp 157) (.const (.int .i64 1)) t157 (.int .i64 1) w K') w K') w t158 ∧ stabT (fun K' => guardT (isB t151 true) (fun K' => K' (gv x19 2) w) w K') w t157 ∧ stabT (fun K' => guardT (isB t151 true) (fun K' => ldT P T.p_gossip_Node t155 w K') w K') w t156 ∧ stabT (fun K' => guardT (isB t151 true) (fun K' => iaT P T.sl_p_gossip_Node t153 t154 w K') w K') w t155 ∧ stabT (fun K' => guardT (isB t151 true) (fun K' => K' (gv x22 1) w) w K') w t154 ∧ stabT (fun K' => guardT (isB t151 true) (fun K' => K' (gv x1 4) w) w K') w t153 ∧ guardT (isB t151 true) (fun K' => fcallT P F.pgossip_Node_Hear [t156, t159, t164, (.int .u64 1)] w K') w fun t165 w =>
  quietT (fun K' => guardT (isB t151 true) (fun K' => binT P .neq T.api_Kind (.tmp 165) (.const (.int .i64 0)) t165 (.int .i64 0) w K') w K') w fun t166 =>
  quietT (fun K' => pickT t151 t166 (.bool false) w K') w fun t167 =>
  condT t167 (
  K (.bool false) w) (
  K24 [(gv x22 0)] w)) fun x24 w =>
  binT P .add T.int (.tmp 147) (.const (.int .i64 1)) (gv x22 1) (.int .i64 1) w fun t148 w =>
  K22 [(gv x24 0), t148] w
def M.winnowlaw10_GossipMeets.j22 (x1 : List Value) (x22 : List Value) (K21 : KL) (x19 : List Value) (K22 : KL) (w : World) (K : KV) : Prop :=
  joinT (fun K23 =>
  biT P .len #[T.sl_p_gossip_Node] T.int [false] [(gv x1 4)] w fun t145 w =>
  binT P .lss T.int (.tmp 143) (.tmp 145) (gv x22 1) t145 w fun t146 w =>
  condT t146 (
  K23 [] w) (
  K21 [(gv x22 1), (gv x22 0)] w)) fun x23 w =>
  M.winnowlaw10_GossipMeets.j23 x19 x22 x1 K22 w K
def M.winnowlaw10_GossipMeets.j20 (x19 : List Value) (x1 : List Value) (K19 : KL) (w : World) (K : KV) : Prop :=
  joinT (fun K21 =>
  loopT [(gv x19 1), (.int .i64 0)] w fun K22 x22 w =>
  M.winnowlaw10_GossipMeets.j22 x1 x22 K21 x19 K22 w K) fun x21 w =>
  binT P .add T.int (.tmp 141) (.const (.int .i64 1)) (gv x19 2) (.int .i64 1) w fun t142 w =>
  K19 [(gv x21 0), (gv x21 1), t142] w
def M.winnowlaw10_GossipMeets.j19 (x1 : List Value) (x19 : List Value) (K18 : KL) (K19 : KL) (w : World) (K : KV) : Prop :=
  joinT (fun K20 =>
  biT P .len #[T.sl_p_gossip_Node] T.int [false] [(gv x1 4)] w fun t139 w =>
  binT P .lss T.int (.tmp 137) (.tmp 139) (gv x19 2) t139 w fun t140 w =>
  condT t140 (
  K20 [] w) (
  K18 [(gv x19 2), (gv x19 0), (gv x19 1)] w)) fun x20 w =>
  M.winnowlaw10_GossipMeets.j20 x19 x1 K19 w K
def M.winnowlaw10_GossipMeets.j17 (x16 : List Value) (x1 : List Value) (K16 : KL) (w : World) (K : KV) : Prop :=
  joinT (fun K18 =>
  loopT [(gv x16 1), (gv x16 2), (.int .i64 0)] w fun K19 x19 w =>
  M.winnowlaw10_GossipMeets.j19 x1 x19 K18 K19 w K) fun x18 w =>
  binT P .add T.int (.tmp 135) (.const (.int .i64 1)) (gv x16 3) (.int .i64 1) w fun t136 w =>
  K16 [(gv x18 0), (gv x18 1), (gv x18 2), t136] w
def M.winnowlaw10_GossipMeets.j16 (x16 : List Value) (K15 : KL) (x1 : List Value) (K16 : KL) (w : World) (K : KV) : Prop :=
  joinT (fun K17 =>
  binT P .lss T.int (.tmp 133) (.const (.int .i64 3)) (gv x16 3) (.int .i64 3) w fun t134 w =>
  condT t134 (
  K17 [] w) (
  K15 [(gv x16 3), (gv x16 0), (gv x16 1), (gv x16 2)] w)) fun x17 w =>
  M.winnowlaw10_GossipMeets.j17 x16 x1 K16 w K
def M.winnowlaw10_GossipMeets.j27 (x26 : List Value) (t171 : Value) (x1 : List Value) (K26 : KL) (w : World) (K : KV) : Prop :=
  joinT (fun K28 =>
  binT P .add T.int (.tmp 180) (.const (.int .i64 1)) (gv x26 2) (.int .i64 1) w fun t181 w =>
  cvT P T.int T.uint64 t181 w fun t182 w =>
  fcallT P F.winnowref09_Find [t171, t182] w fun t183 w =>
  exT P t183 0 w fun t184 w =>
  exT P t183 1 w fun t185 w =>
  alT P T.api_Member w fun t16 w =>
  stT P T.api_Member t16 t184 w fun _ w =>
  iaT P T.sl_p_gossip_Node (gv x1 4) (gv x26 2) w fun t188 w =>
  ldT P T.p_gossip_Node t188 w fun t189 w =>
  fcallT P F.pgossip_Node_View [t189] w fun t190 w =>
  fcallT P F.winnowref09_Same [t190, t171] w fun t192 w =>
  unT P .not t192 w fun t193 w =>
  guardT (isB t193 false) (fun K' => K' t185 w) w fun t195 w =>
  guardT (isB t193 false) (fun K' => unT P .not t195 w K') w fun t196 w =>
  pickT t193 (.bool true) t196 w fun t197 w =>
  guardT (isB t197 false) (fun K' => faT P T.api_Member t16 2 w K') w fun t199 w =>
  guardT (isB t197 false) (fun K' => ldT P T.int t199 w K') w fun t200 w =>
  guardT (isB t197 false) (fun K' => binT P .neq T.int (.tmp 200) (.const (.int .i64 0)) t200 (.int .i64 0) w K') w fun t201 w =>
  pickT t197 (.bool true) t201 w fun t202 w =>
  condT t202 (
  K (.bool false) w) (
  K28 [t185, (gv x26 1)] w)) fun x28 w =>
  binT P .add T.int (.tmp 176) (.const (.int .i64 1)) (gv x26 2) (.int .i64 1) w fun t177 w =>
  K26 [(gv x28 0), (gv x28 1), t177] w
def M.winnowlaw10_GossipMeets.j26 (x1 : List Value) (x26 : List Value) (K25 : KL) (t171 : Value) (K26 : KL) (w : World) (K : KV) : Prop :=
  joinT (fun K27 =>
  biT P .len #[T.sl_p_gossip_Node] T.int [false] [(gv x1 4)] w fun t174 w =>
  binT P .lss T.int (.tmp 172) (.tmp 174) (gv x26 2) t174 w fun t175 w =>
  condT t175 (
  K27 [] w) (
  K25 [(gv x26 2), (gv x26 0), (gv x26 1)] w)) fun x27 w =>
  M.winnowlaw10_GossipMeets.j27 x26 t171 x1 K26 w K
def M.winnowlaw10_GossipMeets.j25 (t171 : Value) (x1 : List Value) (w : World) (K : KV) : Prop :=
  biT P .len #[T.sl_api_Member] T.int [false] [t171] w fun t204 w =>
  biT P .len #[T.sl_p_gossip_Node] T.int [false] [(gv x1 4)] w fun t206 w =>
  binT P .eql T.int (.tmp 204) (.tmp 206) t204 t206 w fun t207 w =>
  guardT (isB t207 true) (fun K' => fcallT P F.winnowlaw10_alive [] w K') w fun t209 w =>
  pickT t207 t209 (.bool false) w fun t210 w =>
  K t210 w
def M.winnowlaw10_GossipMeets.j15 (x1 : List Value) (x15 : List Value) (w : World) (K : KV) : Prop :=
  iaT P T.sl_p_gossip_Node (gv x1 4) (.int .i64 0) w fun t169 w =>
  ldT P T.p_gossip_Node t169 w fun t170 w =>
  fcallT P F.pgossip_Node_View [t170] w fun t171 w =>
  joinT (fun K25 =>
  loopT [undef, (gv x15 3), (.int .i64 0)] w fun K26 x26 w =>
  M.winnowlaw10_GossipMeets.j26 x1 x26 K25 t171 K26 w K) fun x25 w =>
  M.winnowlaw10_GossipMeets.j25 t171 x1 w K
def M.winnowlaw10_GossipMeets.j1 (x1 : List Value) (a1 : Value) (a0 : Value) (w : World) (K : KV) : Prop :=
  joinT (fun K7 =>
  loopT [undef, (gv x1 1), (.int .i64 0)] w fun K8 x8 w =>
  M.winnowlaw10_GossipMeets.j8 a1 x8 K7 a0 x1 K8 w K) fun x7 w =>
  joinT (fun K15 =>
  loopT [undef, undef, (gv x7 2), (.int .i64 0)] w fun K16 x16 w =>
  M.winnowlaw10_GossipMeets.j16 x16 K15 x1 K16 w K) fun x15 w =>
  M.winnowlaw10_GossipMeets.j15 x1 x15 w K
/-- winnow/winnowlaw10.GossipMeets -/
def M.winnowlaw10_GossipMeets (a0 a1 : Value) (w : World) (K : KV) : Prop :=
  joinT (fun K0 =>
  biT P .len #[T.sl_uint64] T.int [false] [a0] w fun t19 w =>
  binT P .lss T.int (.tmp 19) (.const (.int .i64 2)) t19 (.int .i64 2) w fun t20 w =>
  guardT (isB t20 false) (fun K' => K' a0 w) w fun t22 w =>
  guardT (isB t20 false) (fun K' => biT P .len #[T.sl_uint64] T.int [false] [t22] w K') w fun t23 w =>
  guardT (isB t20 false) (fun K' => binT P .gtr T.int (.tmp 23) (.const (.int .i64 6)) t23 (.int .i64 6) w K') w fun t24 w =>
  pickT t20 (.bool true) t24 w fun t25 w =>
  guardT (isB t25 false) (fun K' => K' a1 w) w fun t27 w =>
  guardT (isB t25 false) (fun K' => fcallT P F.winnowlaw10_light [t27] w K') w fun t28 w =>
  guardT (isB t25 false) (fun K' => unT P .not t28 w K') w fun t29 w =>
  pickT t25 (.bool true) t29 w fun t30 w =>
  condT t30 (
  fcallT P F.winnowlaw10_alive [] w fun t31 w =>
  K t31 w) (
  K0 [(.bool false)] w)) fun x0 w =>
  joinT (fun K1 =>
  loopT [(gv x0 0), undef, undef, (.slice none 0 0), (.int .i64 0)] w fun K2 x2 w =>
  M.winnowlaw10_GossipMeets.j2 a0 x2 K1 K2 w K) fun x1 w =>
  M.winnowlaw10_GossipMeets.j1 x1 a1 a0 w K
def M.winnowlaw10_GossipMeets.L : List Nat := [0, 1, 4, 5, 6, 7, 8, 9, 10, 11, 12, 13, 14, 15, 17]
def M.winnowlaw10_GossipMeets.pl : Nat → Plan := fun id => cond (Nat.beq id 22) ⟨(.go 0 (.go 1 (.go 2 (.go 3 (.go 4 (.go 5 (.go 6 (.go 7 (.go 8 (.go 9 (.go 10 (.go 11 (.eff 12 .nil .stop))))))))))))), [12], false, [0, 0, 0, 4, 14, 31, 63, 0, 0, 384, 896, 1920, 4095]⟩ (cond (Nat.beq id 32) ⟨(.go 0 (.go 1 (.go 2 (.go 3 (.go 4 (.go 5 (.go 6 (.go 7 (.go 8 (.go 9 (.go 10 (.go 11 (.go 12 (.go 13 (.go 14 (.eff 15 (.eff 16 (.go 17 (.go 18 .nil)) .stop) .stop)))))))))))))))), [15, 16], false, [0, 0, 3, 7, 15, 15, 63, 127, 15, 271, 783, 15, 15, 6159, 14351, 30735, 65535, 131071, 262143]⟩ (⟨.nil, [], false, []⟩))
theorem M.winnowlaw10_GossipMeets.eq (a0 a1 : Value) (w : World) (K : KV) : M.winnowlaw10_GossipMeets a0 a1 w K = den P M.winnowlaw10_GossipMeets.L M.winnowlaw10_GossipMeets.pl (Try.f5.body.getD .skip) (argE [a0, a1]) w (bodyQ P Try.f5.results.toList K) := by kernel_rfl
theorem M.winnowlaw10_GossipMeets.ok : okFn M.winnowlaw10_GossipMeets.L M.winnowlaw10_GossipMeets.pl Try.f5 (Try.f5.body.getD .skip) 2 = true := by kernel_rfl
theorem M.winnowlaw10_GossipMeets.calls (a0 a1 : Value) {w : World} {K : KV} (h : M.winnowlaw10_GossipMeets a0 a1 w K) : callT P F.winnowlaw10_GossipMeets [a0, a1] w K :=
  callT_of_den (by kernel_rfl) Try.func5 (by kernel_rfl) M.winnowlaw10_GossipMeets.ok (M.winnowlaw10_GossipMeets.eq a0 a1 w K ▸ h)
theorem M.winnowlaw10_GossipMeets.fcall (args : List Value) (w : World) (K : KV) : fcallT P F.winnowlaw10_GossipMeets args w K = callT P F.winnowlaw10_GossipMeets args w K := fcallT_eq Try.func5 (by kernel_rfl) (by kernel_rfl) args w K
theorem M.winnowlaw10_GossipMeets.rcall (a c args : List Value) (w : World) (K : KV) : callRT P (.func (.func F.winnowlaw10_GossipMeets) a.toArray c.toArray) args w K = callT P F.winnowlaw10_GossipMeets (a ++ args ++ c) w K := callR_fn Try.func5 (by kernel_rfl) (by kernel_rfl) a c args w K

def M.winnowlaw10_GossipHeard.j4 (a2 : Value) (x3 : List Value) (a1 : Value) (t44 : Value) (K3 : KL) (w : World) (K : KV) : Prop :=
  joinT (fun K5 =>
  iaT P T.sl_uint64 a2 (gv x3 3) w fun t66 w =>
  ldT P T.uint64 t66 w fun t67 w =>
  binT P .rem T.uint64 (.tmp 67) (.tmp 68) t67 a1 w fun t69 w =>
  binT P .add T.uint64 (.tmp 63) (.tmp 69) (gv x3 0) t69 w fun t70 w =>
  fcallT P F.pgossip_Node_Tick [t44, t70, (.int .u64 0)] w fun t73 w =>
  fcallT P F.pgossip_Node_View [t44] w fun t76 w =>
  fcallT P F.winnowref09_Find [t76, (.int .u64 2)] w fun t77 w =>
  exT P t77 0 w fun t78 w =>
  exT P t77 1 w fun t79 w =>
  alT P T.api_Member w fun t11 w =>
  stT P T.api_Member t11 t78 w fun _ w =>
  joinT (fun K6 =>
  unT P .not t79 w fun t81 w =>
  guardT (isB t81 false) (fun K' => faT P T.api_Member t11 2 w K') w fun t83 w =>
  guardT (isB t81 false) (fun K' => ldT P T.int t83 w K') w fun t84 w =>
  guardT (isB t81 false) (fun K' => binT P .neq T.int (.tmp 84) (.const (.int .i64 0)) t84 (.int .i64 0) w K') w fun t85 w =>
  pickT t81 (.bool true) t85 w fun t86 w =>
  condT t86 (
  K (.bool false) w) (
  K6 [(gv x3 2)] w)) fun x6 w =>
  bldT P T.api_Member #[(0, (.int .u64 2)), (1, (.int .u64 1))] w fun t88 w =>
  bsT P T.sl_api_Member 1 #[(0, t88)] w fun t89 w =>
  fcallT P F.pgossip_Node_Hear [t44, (.int .u64 2), t89, t70] w fun t91 w =>
  K5 [t70, t79, (gv x6 0)] w) fun x5 w =>
  binT P .add T.int (.tmp 61) (.const (.int .i64 1)) (gv x3 3) (.int .i64 1) w fun t62 w =>
  K3 [(gv x5 0), (gv x5 1), (gv x5 2), t62] w
def M.winnowlaw10_GossipHeard.j3 (a2 : Value) (x3 : List Value) (K2 : KL) (a1 : Value) (t44 : Value) (K3 : KL) (w : World) (K : KV) : Prop :=
  joinT (fun K4 =>
  biT P .len #[T.sl_uint64] T.int [false] [a2] w fun t59 w =>
  binT P .lss T.int (.tmp 57) (.tmp 59) (gv x3 3) t59 w fun t60 w =>
  condT t60 (
  K4 [] w) (
  K2 [(gv x3 3), (gv x3 0), (gv x3 1), (gv x3 2)] w)) fun x4 w =>
  M.winnowlaw10_GossipHeard.j4 a2 x3 a1 t44 K3 w K
def M.winnowlaw10_GossipHeard.j2 (a1 : Value) (x2 : List Value) (a0 : Value) (t44 : Value) (w : World) (K : KV) : Prop :=
  binT P .mul T.uint64 (.const (.int .u64 3)) (.tmp 93) (.int .u64 3) a1 w fun t94 w =>
  binT P .add T.uint64 (.tmp 92) (.tmp 94) (gv x2 1) t94 w fun t95 w =>
  binT P .mul T.uint64 (.const (.int .u64 3)) (.tmp 96) (.int .u64 3) a0 w fun t97 w =>
  binT P .add T.uint64 (.tmp 95) (.tmp 97) t95 t97 w fun t98 w =>
  bldT P T.api_Member #[(0, (.int .u64 2)), (1, (.int .u64 1))] w fun t100 w =>
  bsT P T.sl_api_Member 1 #[(0, t100)] w fun t101 w =>
  fcallT P F.pgossip_Node_Hear [t44, (.int .u64 2), t101, t98] w fun t103 w =>
  fcallT P F.pgossip_Node_Tick [t44, t98, (.int .u64 0)] w fun t106 w =>
  bldT P T.api_Member #[(0, (.int .u64 2)), (1, (.int .u64 1))] w fun t108 w =>
  bsT P T.sl_api_Member 1 #[(0, t108)] w fun t109 w =>
  binT P .add T.uint64 (.tmp 110) (.tmp 111) t98 a0 w fun t112 w =>
  fcallT P F.pgossip_Node_Hear [t44, (.int .u64 2), t109, t112] w fun t113 w =>
  binT P .add T.uint64 (.tmp 115) (.tmp 116) t98 a0 w fun t117 w =>
  fcallT P F.pgossip_Node_Tick [t44, t117, (.int .u64 0)] w fun t118 w =>
  fcallT P F.pgossip_Node_View [t44] w fun t121 w =>
  fcallT P F.winnowref09_Find [t121, (.int .u64 3)] w fun t122 w =>
  exT P t122 0 w fun t123 w =>
  exT P t122 1 w fun t124 w =>
  alT P T.api_Member w fun t16 w =>
  stT P T.api_Member t16 t123 w fun _ w =>
  fcallT P F.pgossip_Node_View [t44] w fun t127 w =>
  fcallT P F.winnowref09_Find [t127, (.int .u64 2)] w fun t128 w =>
  exT P t128 0 w fun t129 w =>
  exT P t128 1 w fun t130 w =>
  alT P T.api_Member w fun t18 w =>
  stT P T.api_Member t18 t129 w fun _ w =>
  faT P T.api_Member t16 2 w fun t131 w =>
  ldT P T.int t131 w fun t132 w =>
  binT P .eql T.int (.tmp 132) (.const (.int .i64 2)) t132 (.int .i64 2) w fun t133 w =>
  guardT (isB t133 true) (fun K' => faT P T.api_Member t18 2 w K') w fun t135 w =>
  guardT (isB t133 true) (fun K' => ldT P T.int t135 w K') w fun t136 w =>
  guardT (isB t133 true) (fun K' => binT P .eql T.int (.tmp 136) (.const (.int .i64 0)) t136 (.int .i64 0) w K') w fun t137 w =>
  pickT t133 t137 (.bool false) w fun t138 w =>
  guardT (isB t138 true) (fun K' => K' t106 w) w fun t140 w =>
  guardT (isB t138 true) (fun K' => biT P .len #[T.sl_uint64] T.int [false] [t140] w K') w fun t141 w =>
  guardT (isB t138 true) (fun K' => binT P .eql T.int (.tmp 141) (.const (.int .i64 2)) t141 (.int .i64 2) w K') w fun t142 w =>
  pickT t138 t142 (.bool false) w fun t143 w =>
  guardT (isB t143 true) (fun K' => K' t118 w) w fun t145 w =>
  guardT (isB t143 true) (fun K' => biT P .len #[T.sl_uint64] T.int [false] [t145] w K') w fun t146 w =>
  guardT (isB t143 true) (fun K' => binT P .eql T.int (.tmp 146) (.const (.int .i64 2)) t146 (.int .i64 2) w K') w fun t147 w =>
  pickT t143 t147 (.bool false) w fun t148 w =>
  guardT (isB t148 true) (fun K' => K' t118 w) w fun t150 w =>
  guardT (isB t148 true) (fun K' => iaT P T.sl_uint64 t150 (.int .i64 0) w K') w fun t151 w =>
  guardT (isB t148 true) (fun K' => ldT P T.uint64 t151 w K') w fun t152 w =>
  guardT (isB t148 true) (fun K' => binT P .eql T.uint64 (.tmp 152) (.const (.int .u64 2)) t152 (.int .u64 2) w K') w fun t153 w =>
  pickT t148 t153 (.bool false) w fun t154 w =>
  guardT (isB t154 true) (fun K' => K' t118 w) w fun t156 w =>
  guardT (isB t154 true) (fun K' => iaT P T.sl_uint64 t156 (.int .i64 1) w K') w fun t157 w =>
  guardT (isB t154 true) (fun K' => ldT P T.uint64 t157 w K') w fun t158 w =>
  guardT (isB t154 true) (fun K' => binT P .eql T.uint64 (.tmp 158) (.const (.int .u64 3)) t158 (.int .u64 3) w K') w fun t159 w =>
  pickT t154 t159 (.bool false) w fun t160 w =>
  guardT (isB t160 true) (fun K' => fcallT P F.winnowlaw10_alive [] w K') w fun t162 w =>
  pickT t160 t162 (.bool false) w fun t163 w =>
  K t163 w
def M.winnowlaw10_GossipHeard.j1 (t44 : Value) (x1 : List Value) (a2 : Value) (a1 : Value) (a0 : Value) (w : World) (K : KV) : Prop :=
  bldT P T.api_Member #[(0, (.int .u64 2)), (1, (.int .u64 1))] w fun t53 w =>
  bldT P T.api_Member #[(0, (.int .u64 3)), (1, (.int .u64 1))] w fun t54 w =>
  bsT P T.sl_api_Member 2 #[(0, t53), (1, t54)] w fun t55 w =>
  fcallT P F.pgossip_Node_Hear [t44, (.int .u64 2), t55, (.int .u64 0)] w fun t56 w =>
  joinT (fun K2 =>
  loopT [(.int .u64 0), undef, (gv x1 0), (.int .i64 0)] w fun K3 x3 w =>
  M.winnowlaw10_GossipHeard.j3 a2 x3 K2 a1 t44 K3 w K) fun x2 w =>
  M.winnowlaw10_GossipHeard.j2 a1 x2 a0 t44 w K
def M.winnowlaw10_GossipHeard.j0 (a0 : Value) (a1 : Value) (x0 : List Value) (a2 : Value) (w : World) (K : KV) : Prop :=
  fcallT P F.gossip_New [(.int .u64 1), (.int .u64 1), a0, a1, (.int .u64 0)] w fun t43 w =>
  exT P t43 0 w fun t44 w =>
  exT P t43 1 w fun t45 w =>
  joinT (fun K1 =>
  binT P .neq T.api_Kind (.tmp 46) (.const (.int .i64 0)) t45 (.int .i64 0) w fun t47 w =>
  guardT (isB t47 false) (fun K' => K' t44 w) w fun t49 w =>
  guardT (isB t47 false) (fun K' => binT P .eql T.p_gossip_Node (.tmp 49) (.const (.pointer none)) t49 (.pointer none) w K') w fun t50 w =>
  pickT t47 (.bool true) t50 w fun t51 w =>
  condT t51 (
  K (.bool false) w) (
  K1 [(gv x0 0)] w)) fun x1 w =>
  M.winnowlaw10_GossipHeard.j1 t44 x1 a2 a1 a0 w K
/-- winnow/winnowlaw10.GossipHeard -/
def M.winnowlaw10_GossipHeard (a0 a1 a2 : Value) (w : World) (K : KV) : Prop :=
  joinT (fun K0 =>
  biT P .len #[T.sl_uint64] T.int [false] [a2] w fun t21 w =>
  binT P .gtr T.int (.tmp 21) (.const (.int .i64 50)) t21 (.int .i64 50) w fun t22 w =>
  guardT (isB t22 false) (fun K' => K' a0 w) w fun t24 w =>
  guardT (isB t22 false) (fun K' => binT P .lss T.uint64 (.tmp 24) (.const (.int .u64 1)) t24 (.int .u64 1) w K') w fun t25 w =>
  pickT t22 (.bool true) t25 w fun t26 w =>
  guardT (isB t26 false) (fun K' => K' a1 w) w fun t28 w =>
  guardT (isB t26 false) (fun K' => binT P .lss T.uint64 (.tmp 28) (.const (.int .u64 1)) t28 (.int .u64 1) w K') w fun t29 w =>
  pickT t26 (.bool true) t29 w fun t30 w =>
  guardT (isB t30 false) (fun K' => K' a0 w) w fun t32 w =>
  guardT (isB t30 false) (fun K' => binT P .gtr T.uint64 (.tmp 32) (.const (.int .u64 1000)) t32 (.int .u64 1000) w K') w fun t33 w =>
  pickT t30 (.bool true) t33 w fun t34 w =>
  guardT (isB t34 false) (fun K' => K' a1 w) w fun t36 w =>
  guardT (isB t34 false) (fun K' => binT P .gtr T.uint64 (.tmp 36) (.const (.int .u64 1000)) t36 (.int .u64 1000) w K') w fun t37 w =>
  pickT t34 (.bool true) t37 w fun t38 w =>
  condT t38 (
  fcallT P F.winnowlaw10_alive [] w fun t39 w =>
  K t39 w) (
  K0 [(.bool false)] w)) fun x0 w =>
  M.winnowlaw10_GossipHeard.j0 a0 a1 x0 a2 w K
def M.winnowlaw10_GossipHeard.L : List Nat := [0, 1, 2, 6, 7, 8, 9, 10, 12, 13, 14, 15, 17, 19]
def M.winnowlaw10_GossipHeard.pl : Nat → Plan := fun id => ⟨.nil, [], false, []⟩
theorem M.winnowlaw10_GossipHeard.eq (a0 a1 a2 : Value) (w : World) (K : KV) : M.winnowlaw10_GossipHeard a0 a1 a2 w K = den P M.winnowlaw10_GossipHeard.L M.winnowlaw10_GossipHeard.pl (Try.f6.body.getD .skip) (argE [a0, a1, a2]) w (bodyQ P Try.f6.results.toList K) := by kernel_rfl
theorem M.winnowlaw10_GossipHeard.ok : okFn M.winnowlaw10_GossipHeard.L M.winnowlaw10_GossipHeard.pl Try.f6 (Try.f6.body.getD .skip) 3 = true := by kernel_rfl
theorem M.winnowlaw10_GossipHeard.calls (a0 a1 a2 : Value) {w : World} {K : KV} (h : M.winnowlaw10_GossipHeard a0 a1 a2 w K) : callT P F.winnowlaw10_GossipHeard [a0, a1, a2] w K :=
  callT_of_den (by kernel_rfl) Try.func6 (by kernel_rfl) M.winnowlaw10_GossipHeard.ok (M.winnowlaw10_GossipHeard.eq a0 a1 a2 w K ▸ h)
theorem M.winnowlaw10_GossipHeard.fcall (args : List Value) (w : World) (K : KV) : fcallT P F.winnowlaw10_GossipHeard args w K = callT P F.winnowlaw10_GossipHeard args w K := fcallT_eq Try.func6 (by kernel_rfl) (by kernel_rfl) args w K
theorem M.winnowlaw10_GossipHeard.rcall (a c args : List Value) (w : World) (K : KV) : callRT P (.func (.func F.winnowlaw10_GossipHeard) a.toArray c.toArray) args w K = callT P F.winnowlaw10_GossipHeard (a ++ args ++ c) w K := callR_fn Try.func6 (by kernel_rfl) (by kernel_rfl) a c args w K

def M.winnowlaw10_GossipNils.j0 (a0 : Value) (a2 : Value) (a1 : Value) (w : World) (K : KV) : Prop :=
  fcallT P F.pgossip_Node_Leave [(.pointer none)] w fun t13 w =>
  fcallT P F.pgossip_Node_Hear [(.pointer none), a0, a2, a1] w fun t18 w =>
  binT P .eql T.api_Kind (.tmp 18) (.const (.int .i64 13)) t18 (.int .i64 13) w fun t19 w =>
  guardT (isB t19 true) (fun K' => K' (.pointer none) w) w fun t21 w =>
  guardT (isB t19 true) (fun K' => K' a1 w) w fun t22 w =>
  guardT (isB t19 true) (fun K' => K' a0 w) w fun t23 w =>
  guardT (isB t19 true) (fun K' => fcallT P F.pgossip_Node_Tick [t21, t22, t23] w K') w fun t24 w =>
  guardT (isB t19 true) (fun K' => biT P .len #[T.sl_uint64] T.int [false] [t24] w K') w fun t25 w =>
  guardT (isB t19 true) (fun K' => binT P .eql T.int (.tmp 25) (.const (.int .i64 0)) t25 (.int .i64 0) w K') w fun t26 w =>
  pickT t19 t26 (.bool false) w fun t27 w =>
  guardT (isB t27 true) (fun K' => K' (.pointer none) w) w fun t29 w =>
  guardT (isB t27 true) (fun K' => fcallT P F.pgossip_Node_View [t29] w K') w fun t30 w =>
  guardT (isB t27 true) (fun K' => biT P .len #[T.sl_api_Member] T.int [false] [t30] w K') w fun t31 w =>
  guardT (isB t27 true) (fun K' => binT P .eql T.int (.tmp 31) (.const (.int .i64 0)) t31 (.int .i64 0) w K') w fun t32 w =>
  pickT t27 t32 (.bool false) w fun t33 w =>
  guardT (isB t33 true) (fun K' => K' (.pointer none) w) w fun t35 w =>
  guardT (isB t33 true) (fun K' => fcallT P F.pgossip_Node_Self [t35] w K') w fun t36 w =>
  guardT (isB t33 true) (fun K' => bldT P T.api_Member #[] w K') w fun t37 w =>
  guardT (isB t33 true) (fun K' => binT P .eql T.api_Member (.tmp 36) (.tmp 37) t36 t37 w K') w fun t38 w =>
  pickT t33 t38 (.bool false) w fun t39 w =>
  guardT (isB t39 true) (fun K' => fcallT P F.winnowlaw10_alive [] w K') w fun t41 w =>
  pickT t39 t41 (.bool false) w fun t42 w =>
  K t42 w
/-- winnow/winnowlaw10.GossipNils -/
def M.winnowlaw10_GossipNils (a0 a1 a2 : Value) (w : World) (K : KV) : Prop :=
  joinT (fun K0 =>
  biT P .len #[T.sl_api_Member] T.int [false] [a2] w fun t9 w =>
  binT P .gtr T.int (.tmp 9) (.const (.int .i64 100)) t9 (.int .i64 100) w fun t10 w =>
  condT t10 (
  fcallT P F.winnowlaw10_alive [] w fun t11 w =>
  K t11 w) (
  K0 [(.bool false)] w)) fun x0 w =>
  M.winnowlaw10_GossipNils.j0 a0 a2 a1 w K
def M.winnowlaw10_GossipNils.L : List Nat := [0, 1, 2, 6, 7]
def M.winnowlaw10_GossipNils.pl : Nat → Plan := fun id => ⟨.nil, [], false, []⟩
theorem M.winnowlaw10_GossipNils.eq (a0 a1 a2 : Value) (w : World) (K : KV) : M.winnowlaw10_GossipNils a0 a1 a2 w K = den P M.winnowlaw10_GossipNils.L M.winnowlaw10_GossipNils.pl (Try.f8.body.getD .skip) (argE [a0, a1, a2]) w (bodyQ P Try.f8.results.toList K) := by kernel_rfl
theorem M.winnowlaw10_GossipNils.ok : okFn M.winnowlaw10_GossipNils.L M.winnowlaw10_GossipNils.pl Try.f8 (Try.f8.body.getD .skip) 3 = true := by kernel_rfl
theorem M.winnowlaw10_GossipNils.calls (a0 a1 a2 : Value) {w : World} {K : KV} (h : M.winnowlaw10_GossipNils a0 a1 a2 w K) : callT P F.winnowlaw10_GossipNils [a0, a1, a2] w K :=
  callT_of_den (by kernel_rfl) Try.func8 (by kernel_rfl) M.winnowlaw10_GossipNils.ok (M.winnowlaw10_GossipNils.eq a0 a1 a2 w K ▸ h)
theorem M.winnowlaw10_GossipNils.fcall (args : List Value) (w : World) (K : KV) : fcallT P F.winnowlaw10_GossipNils args w K = callT P F.winnowlaw10_GossipNils args w K := fcallT_eq Try.func8 (by kernel_rfl) (by kernel_rfl) args w K
theorem M.winnowlaw10_GossipNils.rcall (a c args : List Value) (w : World) (K : KV) : callRT P (.func (.func F.winnowlaw10_GossipNils) a.toArray c.toArray) args w K = callT P F.winnowlaw10_GossipNils (a ++ args ++ c) w K := callR_fn Try.func8 (by kernel_rfl) (by kernel_rfl) a c args w K

/-- winnow/winnowlaw09.alive -/
def M.winnowlaw09_alive (w : World) (K : KV) : Prop :=
  bldT P T.api_Member #[(0, (.int .u64 1)), (1, (.int .u64 1)), (2, (.int .i64 2))] w fun t5 w =>
  bldT P T.api_Member #[(0, (.int .u64 1)), (1, (.int .u64 2))] w fun t6 w =>
  alT P T.api_Member w fun t1 w =>
  alT P T.api_Member w fun t2 w =>
  stT P T.api_Member t1 t5 w fun _ w =>
  stT P T.api_Member t2 t6 w fun _ w =>
  ldT P T.api_Member t1 w fun t8 w =>
  bsT P T.sl_api_Member 1 #[(0, t8)] w fun t9 w =>
  ldT P T.api_Member t2 w fun t10 w =>
  bsT P T.sl_api_Member 1 #[(0, t10)] w fun t11 w =>
  fcallT P F.view_Merge [t9, t11] w fun t12 w =>
  exT P t12 0 w fun t13 w =>
  exT P t12 1 w fun t14 w =>
  drawT w fun w =>
  quietT (fun K' => ldT P T.api_Member t2 w K') w fun t15 =>
  quietT (fun K' => ldT P T.api_Member t1 w K') w fun t16 =>
  fcallT P F.view_Newer [t15, t16] w fun t17 w =>
  w = w ∧ quietT (fun K' => guardT (isB t17 true) (fun K' => K' t14 w) w K') w fun t19 =>
  quietT (fun K' => guardT (isB t17 true) (fun K' => binT P .eql T.api_Kind (.tmp 19) (.const (.int .i64 0)) t19 (.int .i64 0) w K') w K') w fun t20 =>
  quietT (fun K' => pickT t17 t20 (.bool false) w K') w fun t21 =>
  w = w ∧ quietT (fun K' => guardT (isB t21 true) (fun K' => K' t13 w) w K') w fun t23 =>
  quietT (fun K' => guardT (isB t21 true) (fun K' => biT P .len #[T.sl_api_Member] T.int [false] [t23] w K') w K') w fun t24 =>
  quietT (fun K' => guardT (isB t21 true) (fun K' => binT P .eql T.int (.tmp 24) (.const (.int .i64 1)) t24 (.int .i64 1) w K') w K') w fun t25 =>
  quietT (fun K' => pickT t21 t25 (.bool false) w K') w fun t26 =>
  w = w ∧ quietT (fun K' => guardT (isB t26 true) (fun K' => K' t13 w) w K') w fun t28 =>
  quietT (fun K' => guardT (isB t26 true) (fun K' => iaT P T.sl_api_Member t28 (.int .i64 0) w K') w K') w fun t29 =>
  quietT (fun K' => guardT (isB t26 true) (fun K' => ldT P T.api_Member t29 w K') w K') w fun t30 =>
  quietT (fun K' => guardT (isB t26 true) (fun K' => ldT P T.api_Member t2 w K') w K') w fun t31 =>
  quietT (fun K' => guardT (isB t26 true) (fun K' => binT P .eql T.api_Member (.tmp 30) (.tmp 31) t30 t31 w K') w K') w fun t32 =>
  quietT (fun K' => pickT t26 t32 (.bool false) w K') w fun t33 =>
  w = w ∧ quietT (fun K' => guardT (isB t33 true) (fun K' => K' t13 w) w K') w fun t35 =>
  quietT (fun K' => guardT (isB t33 true) (fun K' => ldT P T.api_Member t2 w K') w K') w fun t36 =>
  guardT (isB t33 true) (fun K' => bsT P T.sl_api_Member 1 #[(0, t36)] w K') w fun t37 w =>
  stabT (fun K' => guardT (isB t33 true) (fun K' => K' t13 w) w K') w t35 ∧ guardT (isB t33 true) (fun K' => fcallT P F.view_Same [t35, t37] w K') w fun t38 w =>
  quietT (fun K' => pickT t33 t38 (.bool false) w K') w fun t39 =>
  K t39 w
def M.winnowlaw09_alive.L : List Nat := [0, 3, 4]
def M.winnowlaw09_alive.pl : Nat → Plan := fun id => cond (Nat.beq id 3) ⟨(.go 0 (.go 1 (.eff 2 (.go 3 (.go 4 (.go 5 (.go 6 (.go 7 (.go 8 (.go 9 (.go 10 (.go 11 (.go 12 (.go 13 (.go 14 (.go 15 (.go 16 (.go 17 (.go 18 (.go 19 (.go 20 (.go 21 (.eff 22 (.eff 23 (.go 24 (.eff 25 .nil .stop)) .stop) .stop)))))))))))))))))))) .stop))), [2, 22, 23, 25], false, [0, 0, 3, 7, 15, 31, 63, 127, 255, 511, 1023, 2047, 4095, 8191, 16383, 32767, 8191, 131071, 262143, 524287, 1048575, 1048575, 3145727, 8388607, 16777215, 33554431]⟩ (⟨.nil, [], false, []⟩)
theorem M.winnowlaw09_alive.eq (w : World) (K : KV) : M.winnowlaw09_alive  w K = den P M.winnowlaw09_alive.L M.winnowlaw09_alive.pl (Try.f26.body.getD .skip) (argE []) w (bodyQ P Try.f26.results.toList K) := by kernel_rfl
theorem M.winnowlaw09_alive.ok : okFn M.winnowlaw09_alive.L M.winnowlaw09_alive.pl Try.f26 (Try.f26.body.getD .skip) 0 = true := by kernel_rfl
theorem M.winnowlaw09_alive.calls {w : World} {K : KV} (h : M.winnowlaw09_alive  w K) : callT P F.winnowlaw09_alive [] w K :=
  callT_of_den (by kernel_rfl) Try.func26 (by kernel_rfl) M.winnowlaw09_alive.ok (M.winnowlaw09_alive.eq  w K ▸ h)
theorem M.winnowlaw09_alive.fcall (args : List Value) (w : World) (K : KV) : fcallT P F.winnowlaw09_alive args w K = callT P F.winnowlaw09_alive args w K := fcallT_eq Try.func26 (by kernel_rfl) (by kernel_rfl) args w K
theorem M.winnowlaw09_alive.rcall (a c args : List Value) (w : World) (K : KV) : callRT P (.func (.func F.winnowlaw09_alive) a.toArray c.toArray) args w K = callT P F.winnowlaw09_alive (a ++ args ++ c) w K := callR_fn Try.func26 (by kernel_rfl) (by kernel_rfl) a c args w K

def M.view_Merge.j3 (t27 : Value) (x2 : List Value) (t23 : Value) (K2 : KL) (w : World) (K : KV) : Prop :=
  joinT (fun K4 =>
  iaT P T.sl_api_Member t27 (gv x2 1) w fun t31 w =>
  ldT P T.api_Member t31 w fun t32 w =>
  alT P T.api_Member w fun t9 w =>
  stT P T.api_Member t9 t32 w fun _ w =>
  faT P T.api_Member t9 0 w fun t35 w =>
  ldT P T.uint64 t35 w fun t36 w =>
  luT P T.map_uint64_api_Member t23 t36 true w fun t37 w =>
  exT P t37 0 w fun t38 w =>
  exT P t37 1 w fun t39 w =>
  alT P T.api_Member w fun t10 w =>
  stT P T.api_Member t10 t38 w fun _ w =>
  unT P .not t39 w fun t41 w =>
  guardT (isB t41 false) (fun K' => ldT P T.api_Member t9 w K') w fun t43 w =>
  guardT (isB t41 false) (fun K' => ldT P T.api_Member t10 w K') w fun t44 w =>
  guardT (isB t41 false) (fun K' => fcallT P F.view_Newer [t43, t44] w K') w fun t45 w =>
  pickT t41 (.bool true) t45 w fun t46 w =>
  condT t46 (
  faT P T.api_Member t9 0 w fun t48 w =>
  ldT P T.uint64 t48 w fun t49 w =>
  ldT P T.api_Member t9 w fun t50 w =>
  muT P T.map_uint64_api_Member t23 t49 t50 w fun _ w =>
  K4 [t39] w) (
  K4 [t39] w)) fun x4 w =>
  binT P .add T.int (.tmp 29) (.const (.int .i64 1)) (gv x2 1) (.int .i64 1) w fun t51 w =>
  K2 [(gv x4 0), t51] w
def M.view_Merge.j8 (t57 : Value) (x7 : List Value) (t23 : Value) (K7 : KL) (w : World) (K : KV) : Prop :=
  joinT (fun K9 =>
  iaT P T.sl_uint64 t57 (gv x7 2) w fun t61 w =>
  ldT P T.uint64 t61 w fun t62 w =>
  luT P T.map_uint64_api_Member t23 t62 false w fun t66 w =>
  bsT P T.sl_api_Member 1 #[(0, t66)] w fun t67 w =>
  biT P .append #[T.sl_api_Member, T.sl_api_Member] T.sl_api_Member [false, false] [(gv x7 1), t67] w fun t68 w =>
  K9 [t62, t68] w) fun x9 w =>
  binT P .add T.int (.tmp 59) (.const (.int .i64 1)) (gv x7 2) (.int .i64 1) w fun t69 w =>
  K7 [(gv x9 0), (gv x9 1), t69] w
def M.view_Merge.j5 (t23 : Value) (x5 : List Value) (w : World) (K : KV) : Prop :=
  joinT (fun K6 =>
  fcallT P F.maps_Keys_map_uint64_api_Member_uint64_api_Member [t23] w fun t56 w =>
  fcallT P F.slices_Sorted_uint64 [t56] w fun t57 w =>
  biT P .len #[T.sl_uint64] T.int [false] [t57] w fun t58 w =>
  loopT [undef, (gv x5 0), (.int .i64 0)] w fun K7 x7 w =>
  binT P .lss T.int (.tmp 59) (.tmp 58) (gv x7 2) t58 w fun t60 w =>
  joinT (fun K8 =>
  condT t60 (
  K8 [] w) (
  K6 [t57, t58, (gv x7 2), (gv x7 0), (gv x7 1)] w)) fun x8 w =>
  M.view_Merge.j8 t57 x7 t23 K7 w K) fun x6 w =>
  K (.tuple #[(gv x6 4), (.int .i64 0)]) w
def M.view_Merge.j1 (t23 : Value) (x0 : List Value) (w : World) (K : KV) : Prop :=
  joinT (fun K5 =>
  biT P .len #[T.map_uint64_api_Member] T.int [false] [t23] w fun t53 w =>
  binT P .gtr T.int (.tmp 53) (.const (.int .i64 16)) t53 (.int .i64 16) w fun t54 w =>
  condT t54 (
  K (.tuple #[(.slice none 0 0), (.int .i64 4)]) w) (
  K5 [(gv x0 1), (gv x0 2)] w)) fun x5 w =>
  M.view_Merge.j5 t23 x5 w K
def M.view_Merge.j0 (a0 : Value) (a1 : Value) (x0 : List Value) (w : World) (K : KV) : Prop :=
  mkmT P T.map_uint64_api_Member none w fun t23 w =>
  joinT (fun K1 =>
  bsT P T.sl_sl_api_Member 2 #[(0, a0), (1, a1)] w fun t26 w =>
  fcallT P F.slices_Concat_api_Member_api_Member [t26] w fun t27 w =>
  biT P .len #[T.sl_api_Member] T.int [false] [t27] w fun t28 w =>
  loopT [undef, (.int .i64 0)] w fun K2 x2 w =>
  binT P .lss T.int (.tmp 29) (.tmp 28) (gv x2 1) t28 w fun t30 w =>
  joinT (fun K3 =>
  condT t30 (
  K3 [] w) (
  K1 [t27, t28, (gv x2 1), (gv x2 0)] w)) fun x3 w =>
  M.view_Merge.j3 t27 x2 t23 K2 w K) fun x1 w =>
  M.view_Merge.j1 t23 x0 w K
/-- winnow/view.Merge -/
def M.view_Merge (a0 a1 : Value) (w : World) (K : KV) : Prop :=
  joinT (fun K0 =>
  fcallT P F.view_Right [a0] w fun t15 w =>
  fcallT P F.view_Right [a1] w fun t17 w =>
  bsT P T.sl_api_Kind 2 #[(0, t15), (1, t17)] w fun t18 w =>
  fcallT P F.cmp_Or_api_Kind [t18] w fun t19 w =>
  binT P .neq T.api_Kind (.tmp 20) (.const (.int .i64 0)) t19 (.int .i64 0) w fun t21 w =>
  condT t21 (
  K (.tuple #[(.slice none 0 0), t19]) w) (
  K0 [t19, (.slice none 0 0), (.int .i64 0)] w)) fun x0 w =>
  M.view_Merge.j0 a0 a1 x0 w K
def M.view_Merge.L : List Nat := [0, 1, 4, 5, 6, 7, 11, 13, 29, 28, 27, 59, 58, 57]
def M.view_Merge.pl : Nat → Plan := fun id => ⟨.nil, [], false, []⟩
theorem M.view_Merge.eq (a0 a1 : Value) (w : World) (K : KV) : M.view_Merge a0 a1 w K = den P M.view_Merge.L M.view_Merge.pl (Try.f27.body.getD .skip) (argE [a0, a1]) w (bodyQ P Try.f27.results.toList K) := by kernel_rfl
theorem M.view_Merge.ok : okFn M.view_Merge.L M.view_Merge.pl Try.f27 (Try.f27.body.getD .skip) 2 = true := by kernel_rfl
theorem M.view_Merge.calls (a0 a1 : Value) {w : World} {K : KV} (h : M.view_Merge a0 a1 w K) : callT P F.view_Merge [a0, a1] w K :=
  callT_of_den (by kernel_rfl) Try.func27 (by kernel_rfl) M.view_Merge.ok (M.view_Merge.eq a0 a1 w K ▸ h)
theorem M.view_Merge.fcall (args : List Value) (w : World) (K : KV) : fcallT P F.view_Merge args w K = callT P F.view_Merge args w K := fcallT_eq Try.func27 (by kernel_rfl) (by kernel_rfl) args w K
theorem M.view_Merge.rcall (a c args : List Value) (w : World) (K : KV) : callRT P (.func (.func F.view_Merge) a.toArray c.toArray) args w K = callT P F.view_Merge (a ++ args ++ c) w K := callR_fn Try.func27 (by kernel_rfl) (by kernel_rfl) a c args w K

def M.winnowref09_Merge.j6 (x2 : List Value) (x6 : List Value) (a1 : Value) (K5 : KL) (K6 : KL) (w : World) (K : KV) : Prop :=
  joinT (fun K7 =>
  drawT w fun w =>
  w = w ∧ w = w ∧ quietT (fun K' => biT P .len #[T.sl_api_Member] T.int [false] [(gv x2 1)] w K') w fun t28 =>
  quietT (fun K' => binT P .lss T.int (.tmp 26) (.tmp 28) (gv x6 0) t28 w K') w fun t29 =>
  w = w ∧ quietT (fun K' => guardT (isB t29 true) (fun K' => K' (gv x2 1) w) w K') w fun t31 =>
  quietT (fun K' => guardT (isB t29 true) (fun K' => K' (gv x6 0) w) w K') w fun t32 =>
  quietT (fun K' => guardT (isB t29 true) (fun K' => iaT P T.sl_api_Member t31 t32 w K') w K') w fun t33 =>
  quietT (fun K' => guardT (isB t29 true) (fun K' => faT P T.api_Member t33 0 w K') w K') w fun t34 =>
  quietT (fun K' => guardT (isB t29 true) (fun K' => ldT P T.uint64 t34 w K') w K') w fun t35 =>
  quietT (fun K' => guardT (isB t29 true) (fun K' => K' a1 w) w K') w fun t36 =>
  quietT (fun K' => guardT (isB t29 true) (fun K' => K' (gv x2 2) w) w K') w fun t37 =>
  quietT (fun K' => guardT (isB t29 true) (fun K' => iaT P T.sl_api_Member t36 t37 w K') w K') w fun t38 =>
  quietT (fun K' => guardT (isB t29 true) (fun K' => faT P T.api_Member t38 0 w K') w K') w fun t39 =>
  quietT (fun K' => guardT (isB t29 true) (fun K' => ldT P T.uint64 t39 w K') w K') w fun t40 =>
  quietT (fun K' => guardT (isB t29 true) (fun K' => binT P .lss T.uint64 (.tmp 35) (.tmp 40) t35 t40 w K') w K') w fun t41 =>
  quietT (fun K' => pickT t29 t41 (.bool false) w K') w fun t42 =>
  condT t42 (
  K7 [] w) (
  K5 [(gv x6 0)] w)) fun x7 w =>
  binT P .add T.int (.tmp 43) (.const (.int .i64 1)) (gv x6 0) (.int .i64 1) w fun t44 w =>
  K6 [t44] w
def M.winnowref09_Merge.j8 (x2 : List Value) (x5 : List Value) (a1 : Value) (K4 : KL) (w : World) (K : KV) : Prop :=
  drawT w fun w =>
  joinT (fun K10 =>
  w = w ∧ w = w ∧ quietT (fun K' => slT P T.sl_api_Member (gv x2 1) none (some (gv x5 0)) none w K') w fun t81 =>
  w = w ∧ w = w ∧ quietT (fun K' => iaT P T.sl_api_Member a1 (gv x2 2) w K') w fun t85 =>
  quietT (fun K' => ldT P T.api_Member t85 w K') w fun t86 =>
  w = w ∧ w = w ∧ quietT (fun K' => slT P T.sl_api_Member (gv x2 1) (some (gv x5 0)) none none w K') w fun t91 =>
  (bsT P T.sl_api_Member 0 #[] w fun t78 w =>
  stabT (fun K' => slT P T.sl_api_Member (gv x2 1) (some (gv x5 0)) none none w K') w t91 ∧ stabT (fun K' => K' (gv x5 0) w) w (gv x5 0) ∧ stabT (fun K' => K' (gv x2 1) w) w (gv x2 1) ∧ stabT (fun K' => ldT P T.api_Member t85 w K') w t86 ∧ stabT (fun K' => iaT P T.sl_api_Member a1 (gv x2 2) w K') w t85 ∧ stabT (fun K' => K' (gv x2 2) w) w (gv x2 2) ∧ stabT (fun K' => K' a1 w) w a1 ∧ stabT (fun K' => slT P T.sl_api_Member (gv x2 1) none (some (gv x5 0)) none w K') w t81 ∧ stabT (fun K' => K' (gv x5 0) w) w (gv x5 0) ∧ stabT (fun K' => K' (gv x2 1) w) w (gv x2 1) ∧ (biT P .append #[T.sl_api_Member, T.sl_api_Member] T.sl_api_Member [false, false] [t78, t81] w fun t82 w =>
  stabT (fun K' => slT P T.sl_api_Member (gv x2 1) (some (gv x5 0)) none none w K') w t91 ∧ stabT (fun K' => K' (gv x5 0) w) w (gv x5 0) ∧ stabT (fun K' => K' (gv x2 1) w) w (gv x2 1) ∧ stabT (fun K' => ldT P T.api_Member t85 w K') w t86 ∧ stabT (fun K' => iaT P T.sl_api_Member a1 (gv x2 2) w K') w t85 ∧ stabT (fun K' => K' (gv x2 2) w) w (gv x2 2) ∧ stabT (fun K' => K' a1 w) w a1 ∧ bsT P T.sl_api_Member 1 #[(0, t86)] w fun t87 w =>
  stabT (fun K' => slT P T.sl_api_Member (gv x2 1) (some (gv x5 0)) none none w K') w t91 ∧ stabT (fun K' => K' (gv x5 0) w) w (gv x5 0) ∧ stabT (fun K' => K' (gv x2 1) w) w (gv x2 1) ∧ stabT (fun K' => slT P T.sl_api_Member (gv x2 1) none (some (gv x5 0)) none w K') w t81 ∧ stabT (fun K' => K' (gv x5 0) w) w (gv x5 0) ∧ stabT (fun K' => K' (gv x2 1) w) w (gv x2 1) ∧ biT P .append #[T.sl_api_Member, T.sl_api_Member] T.sl_api_Member [false, false] [t82, t87] w fun t88 w =>
  stabT (fun K' => slT P T.sl_api_Member (gv x2 1) (some (gv x5 0)) none none w K') w t91 ∧ stabT (fun K' => K' (gv x5 0) w) w (gv x5 0) ∧ stabT (fun K' => K' (gv x2 1) w) w (gv x2 1) ∧ biT P .append #[T.sl_api_Member, T.sl_api_Member] T.sl_api_Member [false, false] [t88, t91] w fun t92 w =>
  K10 [t78, (gv x2 1), (gv x5 0), t81, t82, a1, (gv x2 2), t85, t86, t87, t88, (gv x2 1), (gv x5 0), t91, t92, t92] w) ∧
  (bsT P T.sl_api_Member 1 #[(0, t86)] w fun t87 w =>
  stabT (fun K' => slT P T.sl_api_Member (gv x2 1) (some (gv x5 0)) none none w K') w t91 ∧ stabT (fun K' => K' (gv x5 0) w) w (gv x5 0) ∧ stabT (fun K' => K' (gv x2 1) w) w (gv x2 1) ∧ stabT (fun K' => slT P T.sl_api_Member (gv x2 1) none (some (gv x5 0)) none w K') w t81 ∧ stabT (fun K' => K' (gv x5 0) w) w (gv x5 0) ∧ stabT (fun K' => K' (gv x2 1) w) w (gv x2 1) ∧ biT P .append #[T.sl_api_Member, T.sl_api_Member] T.sl_api_Member [false, false] [t78, t81] w fun t82 w =>
  stabT (fun K' => slT P T.sl_api_Member (gv x2 1) (some (gv x5 0)) none none w K') w t91 ∧ stabT (fun K' => K' (gv x5 0) w) w (gv x5 0) ∧ stabT (fun K' => K' (gv x2 1) w) w (gv x2 1) ∧ stabT (fun K' => ldT P T.api_Member t85 w K') w t86 ∧ stabT (fun K' => iaT P T.sl_api_Member a1 (gv x2 2) w K') w t85 ∧ stabT (fun K' => K' (gv x2 2) w) w (gv x2 2) ∧ stabT (fun K' => K' a1 w) w a1 ∧ biT P .append #[T.sl_api_Member, T.sl_api_Member] T.sl_api_Member [false, false] [t82, t87] w fun t88 w =>
  stabT (fun K' => slT P T.sl_api_Member (gv x2 1) (some (gv x5 0)) none none w K') w t91 ∧ stabT (fun K' => K' (gv x5 0) w) w (gv x5 0) ∧ stabT (fun K' => K' (gv x2 1) w) w (gv x2 1) ∧ biT P .append #[T.sl_api_Member, T.sl_api_Member] T.sl_api_Member [false, false] [t88, t91] w fun t92 w =>
  K10 [t78, (gv x2 1), (gv x5 0), t81, t82, a1, (gv x2 2), t85, t86, t87, t88, (gv x2 1), (gv x5 0), t91, t92, t92] w)) ∧
  (bsT P T.sl_api_Member 1 #[(0, t86)] w fun t87 w =>
  stabT (fun K' => slT P T.sl_api_Member (gv x2 1) (some (gv x5 0)) none none w K') w t91 ∧ stabT (fun K' => K' (gv x5 0) w) w (gv x5 0) ∧ stabT (fun K' => K' (gv x2 1) w) w (gv x2 1) ∧ stabT (fun K' => slT P T.sl_api_Member (gv x2 1) none (some (gv x5 0)) none w K') w t81 ∧ stabT (fun K' => K' (gv x5 0) w) w (gv x5 0) ∧ stabT (fun K' => K' (gv x2 1) w) w (gv x2 1) ∧ bsT P T.sl_api_Member 0 #[] w fun t78 w =>
  stabT (fun K' => slT P T.sl_api_Member (gv x2 1) (some (gv x5 0)) none none w K') w t91 ∧ stabT (fun K' => K' (gv x5 0) w) w (gv x5 0) ∧ stabT (fun K' => K' (gv x2 1) w) w (gv x2 1) ∧ stabT (fun K' => ldT P T.api_Member t85 w K') w t86 ∧ stabT (fun K' => iaT P T.sl_api_Member a1 (gv x2 2) w K') w t85 ∧ stabT (fun K' => K' (gv x2 2) w) w (gv x2 2) ∧ stabT (fun K' => K' a1 w) w a1 ∧ stabT (fun K' => slT P T.sl_api_Member (gv x2 1) none (some (gv x5 0)) none w K') w t81 ∧ stabT (fun K' => K' (gv x5 0) w) w (gv x5 0) ∧ stabT (fun K' => K' (gv x2 1) w) w (gv x2 1) ∧ biT P .append #[T.sl_api_Member, T.sl_api_Member] T.sl_api_Member [false, false] [t78, t81] w fun t82 w =>
  stabT (fun K' => slT P T.sl_api_Member (gv x2 1) (some (gv x5 0)) none none w K') w t91 ∧ stabT (fun K' => K' (gv x5 0) w) w (gv x5 0) ∧ stabT (fun K' => K' (gv x2 1) w) w (gv x2 1) ∧ stabT (fun K' => ldT P T.api_Member t85 w K') w t86 ∧ stabT (fun K' => iaT P T.sl_api_Member a1 (gv x2 2) w K') w t85 ∧ stabT (fun K' => K' (gv x2 2) w) w (gv x2 2) ∧ stabT (fun K' => K' a1 w) w a1 ∧ biT P .append #[T.sl_api_Member, T.sl_api_Member] T.sl_api_Member [false, false] [t82, t87] w fun t88 w =>
  stabT (fun K' => slT P T.sl_api_Member (gv x2 1) (some (gv x5 0)) none none w K') w t91 ∧ stabT (fun K' => K' (gv x5 0) w) w (gv x5 0) ∧ stabT (fun K' => K' (gv x2 1) w) w (gv x2 1) ∧ biT P .append #[T.sl_api_Member, T.sl_api_Member] T.sl_api_Member [false, false] [t88, t91] w fun t92 w =>
  K10 [t78, (gv x2 1), (gv x5 0), t81, t82, a1, (gv x2 2), t85, t86, t87, t88, (gv x2 1), (gv x5 0), t91, t92, t92] w)) fun x10 w =>
  K4 [(gv x5 0), (gv x10 15)] w
def M.winnowref09_Merge.j5 (x2 : List Value) (x5 : List Value) (a1 : Value) (K4 : KL) (w : World) (K : KV) : Prop :=
  joinT (fun K8 =>
  drawT w fun w =>
  w = w ∧ w = w ∧ quietT (fun K' => biT P .len #[T.sl_api_Member] T.int [false] [(gv x2 1)] w K') w fun t47 =>
  quietT (fun K' => binT P .lss T.int (.tmp 45) (.tmp 47) (gv x5 0) t47 w K') w fun t48 =>
  w = w ∧ quietT (fun K' => guardT (isB t48 true) (fun K' => K' (gv x2 1) w) w K') w fun t50 =>
  quietT (fun K' => guardT (isB t48 true) (fun K' => K' (gv x5 0) w) w K') w fun t51 =>
  quietT (fun K' => guardT (isB t48 true) (fun K' => iaT P T.sl_api_Member t50 t51 w K') w K') w fun t52 =>
  quietT (fun K' => guardT (isB t48 true) (fun K' => faT P T.api_Member t52 0 w K') w K') w fun t53 =>
  quietT (fun K' => guardT (isB t48 true) (fun K' => ldT P T.uint64 t53 w K') w K') w fun t54 =>
  quietT (fun K' => guardT (isB t48 true) (fun K' => K' a1 w) w K') w fun t55 =>
  quietT (fun K' => guardT (isB t48 true) (fun K' => K' (gv x2 2) w) w K') w fun t56 =>
  quietT (fun K' => guardT (isB t48 true) (fun K' => iaT P T.sl_api_Member t55 t56 w K') w K') w fun t57 =>
  quietT (fun K' => guardT (isB t48 true) (fun K' => faT P T.api_Member t57 0 w K') w K') w fun t58 =>
  quietT (fun K' => guardT (isB t48 true) (fun K' => ldT P T.uint64 t58 w K') w K') w fun t59 =>
  quietT (fun K' => guardT (isB t48 true) (fun K' => binT P .eql T.uint64 (.tmp 54) (.tmp 59) t54 t59 w K') w K') w fun t60 =>
  quietT (fun K' => pickT t48 t60 (.bool false) w K') w fun t61 =>
  condT t61 (
  joinT (fun K9 =>
  drawT w fun w =>
  w = w ∧ w = w ∧ quietT (fun K' => iaT P T.sl_api_Member a1 (gv x2 2) w K') w fun t64 =>
  quietT (fun K' => ldT P T.api_Member t64 w K') w fun t65 =>
  w = w ∧ w = w ∧ quietT (fun K' => iaT P T.sl_api_Member (gv x2 1) (gv x5 0) w K') w fun t68 =>
  quietT (fun K' => ldT P T.api_Member t68 w K') w fun t69 =>
  fcallT P F.winnowref09_Newer [t65, t69] w fun t70 w =>
  condT t70 (
  iaT P T.sl_api_Member a1 (gv x2 2) w fun t75 w =>
  ldT P T.api_Member t75 w fun t76 w =>
  iaT P T.sl_api_Member (gv x2 1) (gv x5 0) w fun t77 w =>
  stT P T.api_Member t77 t76 w fun _ w =>
  K9 [] w) (
  K9 [] w)) fun x9 w =>
  K4 [(gv x5 0), (gv x2 1)] w) (
  K8 [] w)) fun x8 w =>
  M.winnowref09_Merge.j8 x2 x5 a1 K4 w K
def M.winnowref09_Merge.j3 (x2 : List Value) (a1 : Value) (K2 : KL) (w : World) (K : KV) : Prop :=
  joinT (fun K4 =>
  joinT (fun K5 =>
  loopT [(.int .i64 0)] w fun K6 x6 w =>
  M.winnowref09_Merge.j6 x2 x6 a1 K5 K6 w K) fun x5 w =>
  M.winnowref09_Merge.j5 x2 x5 a1 K4 w K) fun x4 w =>
  binT P .add T.int (.tmp 24) (.const (.int .i64 1)) (gv x2 2) (.int .i64 1) w fun t25 w =>
  K2 [(gv x4 0), (gv x4 1), t25] w
def M.winnowref09_Merge.j2 (a1 : Value) (x2 : List Value) (K1 : KL) (K2 : KL) (w : World) (K : KV) : Prop :=
  joinT (fun K3 =>
  biT P .len #[T.sl_api_Member] T.int [false] [a1] w fun t22 w =>
  binT P .lss T.int (.tmp 20) (.tmp 22) (gv x2 2) t22 w fun t23 w =>
  condT t23 (
  K3 [] w) (
  K1 [(gv x2 2), (gv x2 0), (gv x2 1)] w)) fun x3 w =>
  M.winnowref09_Merge.j3 x2 a1 K2 w K
def M.winnowref09_Merge.j1 (x1 : List Value) (x0 : List Value) (w : World) (K : KV) : Prop :=
  joinT (fun K11 =>
  biT P .len #[T.sl_api_Member] T.int [false] [(gv x1 2)] w fun t94 w =>
  binT P .gtr T.int (.tmp 94) (.const (.int .i64 16)) t94 (.int .i64 16) w fun t95 w =>
  condT t95 (
  K (.tuple #[(.slice none 0 0), (.int .i64 4)]) w) (
  K11 [(gv x0 0), (gv x0 1)] w)) fun x11 w =>
  K (.tuple #[(gv x1 2), (.int .i64 0)]) w
def M.winnowref09_Merge.j0 (a0 : Value) (a1 : Value) (x0 : List Value) (w : World) (K : KV) : Prop :=
  bsT P T.sl_api_Member 0 #[] w fun t17 w =>
  biT P .append #[T.sl_api_Member, T.sl_api_Member] T.sl_api_Member [false, false] [t17, a0] w fun t19 w =>
  joinT (fun K1 =>
  loopT [undef, t19, (.int .i64 0)] w fun K2 x2 w =>
  M.winnowref09_Merge.j2 a1 x2 K1 K2 w K) fun x1 w =>
  M.winnowref09_Merge.j1 x1 x0 w K
/-- winnow/winnowref09.Merge -/
def M.winnowref09_Merge (a0 a1 : Value) (w : World) (K : KV) : Prop :=
  joinT (fun K0 =>
  fcallT P F.winnowref09_Right [a0] w fun t10 w =>
  binT P .neq T.api_Kind (.tmp 10) (.const (.int .i64 0)) t10 (.int .i64 0) w fun t11 w =>
  guardT (isB t11 false) (fun K' => K' a1 w) w fun t13 w =>
  guardT (isB t11 false) (fun K' => fcallT P F.winnowref09_Right [t13] w K') w fun t14 w =>
  guardT (isB t11 false) (fun K' => binT P .neq T.api_Kind (.tmp 14) (.const (.int .i64 0)) t14 (.int .i64 0) w K') w fun t15 w =>
  pickT t11 (.bool true) t15 w fun t16 w =>
  condT t16 (
  K (.tuple #[(.slice none 0 0), (.int .i64 6)]) w) (
  K0 [(.slice none 0 0), (.int .i64 0)] w)) fun x0 w =>
  M.winnowref09_Merge.j0 a0 a1 x0 w K
def M.winnowref09_Merge.L : List Nat := [0, 1, 4, 5, 6, 7, 8]
def M.winnowref09_Merge.pl : Nat → Plan := fun id => cond (Nat.beq id 8) ⟨(.go 0 (.go 1 (.go 2 (.go 3 (.go 4 (.go 5 (.go 6 (.go 7 (.go 8 (.go 9 (.go 10 (.go 11 (.go 12 (.go 13 (.go 14 (.go 15 (.go 16 .nil))))))))))))))))), [], false, [0, 0, 2, 7, 15, 31, 31, 127, 255, 511, 31, 31, 3103, 7199, 15391, 32767, 65535]⟩ (cond (Nat.beq id 10) ⟨(.go 0 (.go 1 (.go 2 (.go 3 (.go 4 (.go 5 (.go 6 (.go 7 (.go 8 (.go 9 (.go 10 (.go 11 (.go 12 (.go 13 (.go 14 (.go 15 (.go 16 .nil))))))))))))))))), [], false, [0, 0, 2, 7, 15, 31, 31, 127, 255, 511, 31, 31, 3103, 7199, 15391, 32767, 65535]⟩ (cond (Nat.beq id 11) ⟨(.go 0 (.go 1 (.go 2 (.go 3 (.go 4 (.go 5 (.go 6 (.go 7 (.eff 8 .nil .stop))))))))), [8], false, [0, 0, 3, 7, 0, 0, 48, 112, 255]⟩ (cond (Nat.beq id 13) ⟨(.go 1 (.go 2 (.go 3 (.go 5 (.go 6 (.go 7 (.go 8 (.go 11 (.go 12 (.go 13 (.eff 0 (.eff 4 (.eff 9 (.eff 10 (.eff 14 (.eff 15 .nil .stop) .stop) .stop) .stop) (.eff 9 (.eff 4 (.eff 10 (.eff 14 (.eff 15 .nil .stop) .stop) .stop) .stop) .stop)) (.eff 9 (.eff 0 (.eff 4 (.eff 10 (.eff 14 (.eff 15 .nil .stop) .stop) .stop) .stop) .stop) .stop)))))))))))), [0, 4, 9, 10, 14, 15], true, [0, 0, 0, 6, 15, 0, 0, 96, 224, 480, 1023, 0, 0, 6144, 16383, 32767]⟩ (⟨.nil, [], false, []⟩))))
theorem M.winnowref09_Merge.eq (a0 a1 : Value) (w : World) (K : KV) : M.winnowref09_Merge a0 a1 w K = den P M.winnowref09_Merge.L M.winnowref09_Merge.pl (Try.f28.body.getD .skip) (argE [a0, a1]) w (bodyQ P Try.f28.results.toList K) := by kernel_rfl
theorem M.winnowref09_Merge.ok : okFn M.winnowref09_Merge.L M.winnowref09_Merge.pl Try.f28 (Try.f28.body.getD .skip) 2 = true := by kernel_rfl
theorem M.winnowref09_Merge.calls (a0 a1 : Value) {w : World} {K : KV} (h : M.winnowref09_Merge a0 a1 w K) : callT P F.winnowref09_Merge [a0, a1] w K :=
  callT_of_den (by kernel_rfl) Try.func28 (by kernel_rfl) M.winnowref09_Merge.ok (M.winnowref09_Merge.eq a0 a1 w K ▸ h)
theorem M.winnowref09_Merge.fcall (args : List Value) (w : World) (K : KV) : fcallT P F.winnowref09_Merge args w K = callT P F.winnowref09_Merge args w K := fcallT_eq Try.func28 (by kernel_rfl) (by kernel_rfl) args w K
theorem M.winnowref09_Merge.rcall (a c args : List Value) (w : World) (K : KV) : callRT P (.func (.func F.winnowref09_Merge) a.toArray c.toArray) args w K = callT P F.winnowref09_Merge (a ++ args ++ c) w K := callR_fn Try.func28 (by kernel_rfl) (by kernel_rfl) a c args w K

def M.winnowref09_Same.j3 (a0 : Value) (x2 : List Value) (a1 : Value) (K2 : KL) (w : World) (K : KV) : Prop :=
  joinT (fun K4 =>
  drawT w fun w =>
  w = w ∧ w = w ∧ quietT (fun K' => iaT P T.sl_api_Member a0 (gv x2 1) w K') w fun t19 =>
  quietT (fun K' => ldT P T.api_Member t19 w K') w fun t20 =>
  w = w ∧ w = w ∧ quietT (fun K' => iaT P T.sl_api_Member a1 (gv x2 1) w K') w fun t23 =>
  quietT (fun K' => ldT P T.api_Member t23 w K') w fun t24 =>
  quietT (fun K' => binT P .neq T.api_Member (.tmp 20) (.tmp 24) t20 t24 w K') w fun t25 =>
  condT t25 (
  K (.bool false) w) (
  K4 [(gv x2 0)] w)) fun x4 w =>
  binT P .add T.int (.tmp 15) (.const (.int .i64 1)) (gv x2 1) (.int .i64 1) w fun t16 w =>
  K2 [(gv x4 0), t16] w
def M.winnowref09_Same.j2 (a0 : Value) (x2 : List Value) (K1 : KL) (a1 : Value) (K2 : KL) (w : World) (K : KV) : Prop :=
  joinT (fun K3 =>
  biT P .len #[T.sl_api_Member] T.int [false] [a0] w fun t13 w =>
  binT P .lss T.int (.tmp 11) (.tmp 13) (gv x2 1) t13 w fun t14 w =>
  condT t14 (
  K3 [] w) (
  K1 [(gv x2 1), (gv x2 0)] w)) fun x3 w =>
  M.winnowref09_Same.j3 a0 x2 a1 K2 w K
/-- winnow/winnowref09.Same -/
def M.winnowref09_Same (a0 a1 : Value) (w : World) (K : KV) : Prop :=
  joinT (fun K0 =>
  biT P .len #[T.sl_api_Member] T.int [false] [a0] w fun t7 w =>
  biT P .len #[T.sl_api_Member] T.int [false] [a1] w fun t9 w =>
  binT P .neq T.int (.tmp 7) (.tmp 9) t7 t9 w fun t10 w =>
  condT t10 (
  K (.bool false) w) (
  K0 [(.bool false)] w)) fun x0 w =>
  joinT (fun K1 =>
  loopT [(gv x0 0), (.int .i64 0)] w fun K2 x2 w =>
  M.winnowref09_Same.j2 a0 x2 K1 a1 K2 w K) fun x1 w =>
  K (.bool true) w
def M.winnowref09_Same.L : List Nat := [0, 1, 4, 5]
def M.winnowref09_Same.pl : Nat → Plan := fun id => cond (Nat.beq id 6) ⟨(.go 0 (.go 1 (.go 2 (.go 3 (.go 4 (.go 5 (.go 6 (.go 7 (.go 8 .nil))))))))), [], false, [0, 0, 3, 7, 0, 0, 48, 112, 255]⟩ (⟨.nil, [], false, []⟩)
theorem M.winnowref09_Same.eq (a0 a1 : Value) (w : World) (K : KV) : M.winnowref09_Same a0 a1 w K = den P M.winnowref09_Same.L M.winnowref09_Same.pl (Try.f29.body.getD .skip) (argE [a0, a1]) w (bodyQ P Try.f29.results.toList K) := by kernel_rfl
theorem M.winnowref09_Same.ok : okFn M.winnowref09_Same.L M.winnowref09_Same.pl Try.f29 (Try.f29.body.getD .skip) 2 = true := by kernel_rfl
theorem M.winnowref09_Same.calls (a0 a1 : Value) {w : World} {K : KV} (h : M.winnowref09_Same a0 a1 w K) : callT P F.winnowref09_Same [a0, a1] w K :=
  callT_of_den (by kernel_rfl) Try.func29 (by kernel_rfl) M.winnowref09_Same.ok (M.winnowref09_Same.eq a0 a1 w K ▸ h)
theorem M.winnowref09_Same.fcall (args : List Value) (w : World) (K : KV) : fcallT P F.winnowref09_Same args w K = callT P F.winnowref09_Same args w K := fcallT_eq Try.func29 (by kernel_rfl) (by kernel_rfl) args w K
theorem M.winnowref09_Same.rcall (a c args : List Value) (w : World) (K : KV) : callRT P (.func (.func F.winnowref09_Same) a.toArray c.toArray) args w K = callT P F.winnowref09_Same (a ++ args ++ c) w K := callR_fn Try.func29 (by kernel_rfl) (by kernel_rfl) a c args w K

def M.winnowlaw10_light.j3 (a0 : Value) (x2 : List Value) (K2 : KL) (w : World) (K : KV) : Prop :=
  joinT (fun K4 =>
  iaT P T.sl_winnowlaw10_Op a0 (gv x2 1) w fun t15 w =>
  faT P T.winnowlaw10_Op t15 3 w fun t16 w =>
  ldT P T.sl_api_Member t16 w fun t17 w =>
  biT P .len #[T.sl_api_Member] T.int [false] [t17] w fun t18 w =>
  binT P .gtr T.int (.tmp 18) (.const (.int .i64 100)) t18 (.int .i64 100) w fun t19 w =>
  condT t19 (
  K (.bool false) w) (
  K4 [(gv x2 0)] w)) fun x4 w =>
  binT P .add T.int (.tmp 11) (.const (.int .i64 1)) (gv x2 1) (.int .i64 1) w fun t12 w =>
  K2 [(gv x4 0), t12] w
def M.winnowlaw10_light.j0 (x0 : List Value) (a0 : Value) (w : World) (K : KV) : Prop :=
  joinT (fun K1 =>
  loopT [(gv x0 0), (.int .i64 0)] w fun K2 x2 w =>
  joinT (fun K3 =>
  biT P .len #[T.sl_winnowlaw10_Op] T.int [false] [a0] w fun t9 w =>
  binT P .lss T.int (.tmp 7) (.tmp 9) (gv x2 1) t9 w fun t10 w =>
  condT t10 (
  K3 [] w) (
  K1 [(gv x2 1), (gv x2 0)] w)) fun x3 w =>
  M.winnowlaw10_light.j3 a0 x2 K2 w K) fun x1 w =>
  K (.bool true) w
/-- winnow/winnowlaw10.light -/
def M.winnowlaw10_light (a0 : Value) (w : World) (K : KV) : Prop :=
  joinT (fun K0 =>
  biT P .len #[T.sl_winnowlaw10_Op] T.int [false] [a0] w fun t5 w =>
  binT P .gtr T.int (.tmp 5) (.const (.int .i64 60)) t5 (.int .i64 60) w fun t6 w =>
  condT t6 (
  K (.bool false) w) (
  K0 [(.bool false)] w)) fun x0 w =>
  M.winnowlaw10_light.j0 x0 a0 w K
def M.winnowlaw10_light.L : List Nat := [0, 2, 3]
def M.winnowlaw10_light.pl : Nat → Plan := fun id => ⟨.nil, [], false, []⟩
theorem M.winnowlaw10_light.eq (a0 : Value) (w : World) (K : KV) : M.winnowlaw10_light a0 w K = den P M.winnowlaw10_light.L M.winnowlaw10_light.pl (Try.f30.body.getD .skip) (argE [a0]) w (bodyQ P Try.f30.results.toList K) := by kernel_rfl
theorem M.winnowlaw10_light.ok : okFn M.winnowlaw10_light.L M.winnowlaw10_light.pl Try.f30 (Try.f30.body.getD .skip) 1 = true := by kernel_rfl
theorem M.winnowlaw10_light.calls (a0 : Value) {w : World} {K : KV} (h : M.winnowlaw10_light a0 w K) : callT P F.winnowlaw10_light [a0] w K :=
  callT_of_den (by kernel_rfl) Try.func30 (by kernel_rfl) M.winnowlaw10_light.ok (M.winnowlaw10_light.eq a0 w K ▸ h)
theorem M.winnowlaw10_light.fcall (args : List Value) (w : World) (K : KV) : fcallT P F.winnowlaw10_light args w K = callT P F.winnowlaw10_light args w K := fcallT_eq Try.func30 (by kernel_rfl) (by kernel_rfl) args w K
theorem M.winnowlaw10_light.rcall (a c args : List Value) (w : World) (K : KV) : callRT P (.func (.func F.winnowlaw10_light) a.toArray c.toArray) args w K = callT P F.winnowlaw10_light (a ++ args ++ c) w K := callR_fn Try.func30 (by kernel_rfl) (by kernel_rfl) a c args w K

def M.winnowlaw10_alive.j0 (t6 : Value) (w : World) (K : KV) : Prop :=
  bldT P T.api_Member #[(0, (.int .u64 1)), (1, (.int .u64 1)), (2, (.int .i64 1))] w fun t15 w =>
  bldT P T.api_Member #[(0, (.int .u64 2)), (1, (.int .u64 1))] w fun t16 w =>
  bsT P T.sl_api_Member 2 #[(0, t15), (1, t16)] w fun t17 w =>
  fcallT P F.pgossip_Node_Hear [t6, (.int .u64 2), t17, (.int .u64 1)] w fun t18 w =>
  binT P .eql T.api_Kind (.tmp 19) (.const (.int .i64 0)) t18 (.int .i64 0) w fun t20 w =>
  guardT (isB t20 true) (fun K' => K' t6 w) w fun t22 w =>
  guardT (isB t20 true) (fun K' => fcallT P F.pgossip_Node_Self [t22] w K') w fun t23 w =>
  guardT (isB t20 true) (fun K' => bldT P T.api_Member #[(0, (.int .u64 1)), (1, (.int .u64 2))] w K') w fun t24 w =>
  guardT (isB t20 true) (fun K' => binT P .eql T.api_Member (.tmp 23) (.tmp 24) t23 t24 w K') w fun t25 w =>
  pickT t20 t25 (.bool false) w fun t26 w =>
  guardT (isB t26 true) (fun K' => K' t6 w) w fun t28 w =>
  guardT (isB t26 true) (fun K' => fcallT P F.pgossip_Node_View [t28] w K') w fun t29 w =>
  guardT (isB t26 true) (fun K' => biT P .len #[T.sl_api_Member] T.int [false] [t29] w K') w fun t30 w =>
  guardT (isB t26 true) (fun K' => binT P .eql T.int (.tmp 30) (.const (.int .i64 2)) t30 (.int .i64 2) w K') w fun t31 w =>
  pickT t26 t31 (.bool false) w fun t32 w =>
  K t32 w
/-- winnow/winnowlaw10.alive -/
def M.winnowlaw10_alive (w : World) (K : KV) : Prop :=
  fcallT P F.gossip_New [(.int .u64 1), (.int .u64 1), (.int .u64 5), (.int .u64 10), (.int .u64 0)] w fun t5 w =>
  exT P t5 0 w fun t6 w =>
  exT P t5 1 w fun t7 w =>
  joinT (fun K0 =>
  binT P .neq T.api_Kind (.tmp 8) (.const (.int .i64 0)) t7 (.int .i64 0) w fun t9 w =>
  guardT (isB t9 false) (fun K' => K' t6 w) w fun t11 w =>
  guardT (isB t9 false) (fun K' => binT P .eql T.p_gossip_Node (.tmp 11) (.const (.pointer none)) t11 (.pointer none) w K') w fun t12 w =>
  pickT t9 (.bool true) t12 w fun t13 w =>
  condT t13 (
  K (.bool false) w) (
  K0 [(.bool false)] w)) fun x0 w =>
  M.winnowlaw10_alive.j0 t6 w K
def M.winnowlaw10_alive.L : List Nat := [0, 1, 2, 3]
def M.winnowlaw10_alive.pl : Nat → Plan := fun id => ⟨.nil, [], false, []⟩
theorem M.winnowlaw10_alive.eq (w : World) (K : KV) : M.winnowlaw10_alive  w K = den P M.winnowlaw10_alive.L M.winnowlaw10_alive.pl (Try.f31.body.getD .skip) (argE []) w (bodyQ P Try.f31.results.toList K) := by kernel_rfl
theorem M.winnowlaw10_alive.ok : okFn M.winnowlaw10_alive.L M.winnowlaw10_alive.pl Try.f31 (Try.f31.body.getD .skip) 0 = true := by kernel_rfl
theorem M.winnowlaw10_alive.calls {w : World} {K : KV} (h : M.winnowlaw10_alive  w K) : callT P F.winnowlaw10_alive [] w K :=
  callT_of_den (by kernel_rfl) Try.func31 (by kernel_rfl) M.winnowlaw10_alive.ok (M.winnowlaw10_alive.eq  w K ▸ h)
theorem M.winnowlaw10_alive.fcall (args : List Value) (w : World) (K : KV) : fcallT P F.winnowlaw10_alive args w K = callT P F.winnowlaw10_alive args w K := fcallT_eq Try.func31 (by kernel_rfl) (by kernel_rfl) args w K
theorem M.winnowlaw10_alive.rcall (a c args : List Value) (w : World) (K : KV) : callRT P (.func (.func F.winnowlaw10_alive) a.toArray c.toArray) args w K = callT P F.winnowlaw10_alive (a ++ args ++ c) w K := callR_fn Try.func31 (by kernel_rfl) (by kernel_rfl) a c args w K

def M.gossip_New.j0 (a0 : Value) (a1 : Value) (a2 : Value) (a3 : Value) (a4 : Value) (w : World) (K : KV) : Prop :=
  bldT P T.api_Member #[(0, a0), (1, a1)] w fun t31 w =>
  bsT P T.sl_api_Member 1 #[(0, t31)] w fun t32 w =>
  mkmT P T.map_uint64_uint64 none w fun t33 w =>
  bldT P T.gossip_Node #[(0, a0), (1, a2), (2, a3), (3, a4), (4, a4), (6, t32), (7, t33)] w fun t34 w =>
  boxT P T.gossip_Node t34 w fun t35 w =>
  K (.tuple #[t35, (.int .i64 0)]) w
/-- winnow/gossip.New -/
def M.gossip_New (a0 a1 a2 a3 a4 : Value) (w : World) (K : KV) : Prop :=
  joinT (fun K0 =>
  biT P .min #[T.uint64, T.uint64, T.uint64, T.uint64] T.uint64 [false, false, false, false] [a0, a1, a2, a3] w fun t16 w =>
  binT P .eql T.uint64 (.tmp 16) (.const (.int .u64 0)) t16 (.int .u64 0) w fun t17 w =>
  guardT (isB t17 false) (fun K' => K' a2 w) w fun t19 w =>
  guardT (isB t17 false) (fun K' => K' a3 w) w fun t20 w =>
  guardT (isB t17 false) (fun K' => biT P .max #[T.uint64, T.uint64] T.uint64 [false, false] [t19, t20] w K') w fun t21 w =>
  guardT (isB t17 false) (fun K' => binT P .gtr T.uint64 (.tmp 21) (.const (.int .u64 1099511627776)) t21 (.int .u64 1099511627776) w K') w fun t22 w =>
  pickT t17 (.bool true) t22 w fun t23 w =>
  condT t23 (
  K (.tuple #[(.pointer none), (.int .i64 1)]) w) (
  K0 [(.pointer none), (.int .i64 0)] w)) fun x0 w =>
  M.gossip_New.j0 a0 a1 a2 a3 a4 w K
def M.gossip_New.L : List Nat := [0, 1, 2, 3, 4, 10, 11]
def M.gossip_New.pl : Nat → Plan := fun id => ⟨.nil, [], false, []⟩
theorem M.gossip_New.eq (a0 a1 a2 a3 a4 : Value) (w : World) (K : KV) : M.gossip_New a0 a1 a2 a3 a4 w K = den P M.gossip_New.L M.gossip_New.pl (Try.f32.body.getD .skip) (argE [a0, a1, a2, a3, a4]) w (bodyQ P Try.f32.results.toList K) := by kernel_rfl
theorem M.gossip_New.ok : okFn M.gossip_New.L M.gossip_New.pl Try.f32 (Try.f32.body.getD .skip) 5 = true := by kernel_rfl
theorem M.gossip_New.calls (a0 a1 a2 a3 a4 : Value) {w : World} {K : KV} (h : M.gossip_New a0 a1 a2 a3 a4 w K) : callT P F.gossip_New [a0, a1, a2, a3, a4] w K :=
  callT_of_den (by kernel_rfl) Try.func32 (by kernel_rfl) M.gossip_New.ok (M.gossip_New.eq a0 a1 a2 a3 a4 w K ▸ h)
theorem M.gossip_New.fcall (args : List Value) (w : World) (K : KV) : fcallT P F.gossip_New args w K = callT P F.gossip_New args w K := fcallT_eq Try.func32 (by kernel_rfl) (by kernel_rfl) args w K
theorem M.gossip_New.rcall (a c args : List Value) (w : World) (K : KV) : callRT P (.func (.func F.gossip_New) a.toArray c.toArray) args w K = callT P F.gossip_New (a ++ args ++ c) w K := callR_fn Try.func32 (by kernel_rfl) (by kernel_rfl) a c args w K

def M.pgossip_Node_Hear.j4 (t34 : Value) (x3 : List Value) (a0 : Value) (a1 : Value) (K3 : KL) (w : World) (K : KV) : Prop :=
  joinT (fun K5 =>
  iaT P T.sl_api_Member t34 (gv x3 2) w fun t47 w =>
  ldT P T.api_Member t47 w fun t48 w =>
  alT P T.api_Member w fun t12 w =>
  stT P T.api_Member t12 t48 w fun _ w =>
  drawT w fun w =>
  w = w ∧ quietT (fun K' => nilT a0 w K') w fun t51 =>
  quietT (fun K' => faT P T.gossip_Node t51 7 w K') w fun t52 =>
  quietT (fun K' => ldT P T.map_uint64_uint64 t52 w K') w fun t53 =>
  quietT (fun K' => faT P T.api_Member t12 0 w K') w fun t54 =>
  quietT (fun K' => ldT P T.uint64 t54 w K') w fun t55 =>
  quietT (fun K' => luT P T.map_uint64_uint64 t53 t55 true w K') w fun t56 =>
  w = w ∧ quietT (fun K' => exT P t56 0 w K') w fun t57 =>
  quietT (fun K' => exT P t56 1 w K') w fun t58 =>
  stabT (fun K' => exT P t56 1 w K') w t58 ∧ drawT w fun w =>
  quietT (fun K' => faT P T.api_Member t12 0 w K') w fun t59 =>
  quietT (fun K' => ldT P T.uint64 t59 w K') w fun t60 =>
  w = w ∧ quietT (fun K' => nilT a0 w K') w fun t62 =>
  quietT (fun K' => faT P T.gossip_Node t62 0 w K') w fun t63 =>
  quietT (fun K' => ldT P T.uint64 t63 w K') w fun t64 =>
  quietT (fun K' => binT P .neq T.uint64 (.tmp 60) (.tmp 64) t60 t64 w K') w fun t65 =>
  w = w ∧ quietT (fun K' => guardT (isB t65 true) (fun K' => K' t58 w) w K') w fun t67 =>
  quietT (fun K' => guardT (isB t65 true) (fun K' => unT P .not t67 w K') w K') w fun t68 =>
  quietT (fun K' => guardT (isB t65 true) (fun K' => K' t68 w) w K') w fun t69 =>
  quietT (fun K' => guardT (isB t69 false) (fun K' => faT P T.api_Member t12 0 w K') w K') w fun t70 =>
  quietT (fun K' => guardT (isB t69 false) (fun K' => ldT P T.uint64 t70 w K') w K') w fun t71 =>
  quietT (fun K' => guardT (isB t69 false) (fun K' => K' a1 w) w K') w fun t72 =>
  quietT (fun K' => guardT (isB t69 false) (fun K' => binT P .eql T.uint64 (.tmp 71) (.tmp 72) t71 t72 w K') w K') w fun t73 =>
  quietT (fun K' => guardT (isB t65 true) (fun K' => pickT t69 (.bool true) t73 w K') w K') w fun t74 =>
  quietT (fun K' => pickT t65 t74 (.bool false) w K') w fun t75 =>
  condT t75 (
  drawT w fun w =>
  w = w ∧ quietT (fun K' => nilT a0 w K') w fun t77 =>
  quietT (fun K' => faT P T.gossip_Node t77 7 w K') w fun t78 =>
  quietT (fun K' => ldT P T.map_uint64_uint64 t78 w K') w fun t79 =>
  quietT (fun K' => faT P T.api_Member t12 0 w K') w fun t80 =>
  quietT (fun K' => ldT P T.uint64 t80 w K') w fun t81 =>
  w = w ∧ quietT (fun K' => nilT a0 w K') w fun t83 =>
  quietT (fun K' => faT P T.gossip_Node t83 3 w K') w fun t84 =>
  quietT (fun K' => ldT P T.uint64 t84 w K') w fun t85 =>
  muT P T.map_uint64_uint64 t79 t81 t85 w fun _ w =>
  K5 [t57, t58] w) (
  K5 [t57, t58] w)) fun x5 w =>
  binT P .add T.int (.tmp 45) (.const (.int .i64 1)) (gv x3 2) (.int .i64 1) w fun t86 w =>
  K3 [(gv x5 0), (gv x5 1), t86] w
def M.pgossip_Node_Hear.j2 (a0 : Value) (w : World) (K : KV) : Prop :=
  joinT (fun K6 =>
  drawT w fun w =>
  w = w ∧ quietT (fun K' => nilT a0 w K') w fun t88 =>
  quietT (fun K' => faT P T.gossip_Node t88 6 w K') w fun t89 =>
  quietT (fun K' => ldT P T.sl_api_Member t89 w K') w fun t90 =>
  w = w ∧ fcallT P F.pgossip_Node_own [a0] w fun t92 w =>
  stabT (fun K' => ldT P T.sl_api_Member t89 w K') w t90 ∧ stabT (fun K' => faT P T.gossip_Node t88 6 w K') w t89 ∧ stabT (fun K' => nilT a0 w K') w t88 ∧ stabT (fun K' => K' a0 w) w a0 ∧ quietT (fun K' => iaT P T.sl_api_Member t90 t92 w K') w fun t93 =>
  nilT t93 w fun t95 w =>
  faT P T.api_Member t95 2 w fun t96 w =>
  ldT P T.int t96 w fun t97 w =>
  binT P .neq T.int (.tmp 97) (.const (.int .i64 0)) t97 (.int .i64 0) w fun t98 w =>
  guardT (isB t98 true) (fun K' => K' a0 w) w fun t100 w =>
  guardT (isB t98 true) (fun K' => nilT t100 w K') w fun t101 w =>
  guardT (isB t98 true) (fun K' => faT P T.gossip_Node t101 5 w K') w fun t102 w =>
  guardT (isB t98 true) (fun K' => ldT P T.bool t102 w K') w fun t103 w =>
  guardT (isB t98 true) (fun K' => unT P .not t103 w K') w fun t104 w =>
  pickT t98 t104 (.bool false) w fun t105 w =>
  guardT (isB t105 true) (fun K' => K' t93 w) w fun t107 w =>
  guardT (isB t105 true) (fun K' => nilT t107 w K') w fun t108 w =>
  guardT (isB t105 true) (fun K' => faT P T.api_Member t108 1 w K') w fun t109 w =>
  guardT (isB t105 true) (fun K' => ldT P T.uint64 t109 w K') w fun t110 w =>
  guardT (isB t105 true) (fun K' => binT P .lss T.uint64 (.tmp 110) (.const (.int .u64 18446744073709551615)) t110 (.int .u64 18446744073709551615) w K') w fun t111 w =>
  pickT t105 t111 (.bool false) w fun t112 w =>
  condT t112 (
  nilT t93 w fun t116 w =>
  faT P T.api_Member t116 1 w fun t117 w =>
  ldT P T.uint64 t117 w fun t118 w =>
  binT P .add T.uint64 (.tmp 118) (.const (.int .u64 1)) t118 (.int .u64 1) w fun t119 w =>
  nilT t93 w fun t120 w =>
  faT P T.api_Member t120 1 w fun t121 w =>
  stT P T.uint64 t121 t119 w fun _ w =>
  nilT t93 w fun t122 w =>
  faT P T.api_Member t122 2 w fun t123 w =>
  stT P T.int t123 (.int .i64 0) w fun _ w =>
  K6 [t93] w) (
  K6 [t93] w)) fun x6 w =>
  K (.int .i64 0) w
def M.pgossip_Node_Hear.j1 (a0 : Value) (t34 : Value) (a1 : Value) (w : World) (K : KV) : Prop :=
  nilT a0 w fun t41 w =>
  faT P T.gossip_Node t41 6 w fun t42 w =>
  stT P T.sl_api_Member t42 t34 w fun _ w =>
  joinT (fun K2 =>
  biT P .len #[T.sl_api_Member] T.int [false] [t34] w fun t44 w =>
  loopT [undef, undef, (.int .i64 0)] w fun K3 x3 w =>
  binT P .lss T.int (.tmp 45) (.tmp 44) (gv x3 2) t44 w fun t46 w =>
  joinT (fun K4 =>
  condT t46 (
  K4 [] w) (
  K2 [t34, t44, (gv x3 2), (gv x3 0), (gv x3 1)] w)) fun x4 w =>
  M.pgossip_Node_Hear.j4 t34 x3 a0 a1 K3 w K) fun x2 w =>
  M.pgossip_Node_Hear.j2 a0 w K
def M.pgossip_Node_Hear.j0 (a0 : Value) (a3 : Value) (a2 : Value) (x0 : List Value) (a1 : Value) (w : World) (K : KV) : Prop :=
  nilT a0 w fun t20 w =>
  faT P T.gossip_Node t20 3 w fun t21 w =>
  ldT P T.uint64 t21 w fun t22 w =>
  biT P .max #[T.uint64, T.uint64] T.uint64 [false, false] [t22, a3] w fun t24 w =>
  nilT a0 w fun t25 w =>
  faT P T.gossip_Node t25 3 w fun t26 w =>
  stT P T.uint64 t26 t24 w fun _ w =>
  nilT a0 w fun t29 w =>
  faT P T.gossip_Node t29 6 w fun t30 w =>
  ldT P T.sl_api_Member t30 w fun t31 w =>
  fcallT P F.view_Merge [t31, a2] w fun t33 w =>
  exT P t33 0 w fun t34 w =>
  exT P t33 1 w fun t35 w =>
  joinT (fun K1 =>
  binT P .neq T.api_Kind (.tmp 36) (.const (.int .i64 0)) t35 (.int .i64 0) w fun t37 w =>
  condT t37 (
  K t35 w) (
  K1 [(gv x0 0)] w)) fun x1 w =>
  M.pgossip_Node_Hear.j1 a0 t34 a1 w K
/-- (*winnow/gossip.Node).Hear -/
def M.pgossip_Node_Hear (a0 a1 a2 a3 : Value) (w : World) (K : KV) : Prop :=
  joinT (fun K0 =>
  binT P .eql T.p_gossip_Node (.tmp 16) (.const (.pointer none)) a0 (.pointer none) w fun t17 w =>
  condT t17 (
  K (.int .i64 13) w) (
  K0 [(.int .i64 0)] w)) fun x0 w =>
  M.pgossip_Node_Hear.j0 a0 a3 a2 x0 a1 w K
def M.pgossip_Node_Hear.L : List Nat := [0, 1, 2, 3, 8, 9, 10, 13, 14, 15, 45, 44, 43]
def M.pgossip_Node_Hear.pl : Nat → Plan := fun id => cond (Nat.beq id 11) ⟨(.go 0 (.go 1 (.go 2 (.go 3 (.go 4 (.go 5 (.go 6 (.go 7 (.go 8 (.go 9 (.eff 10 (.eff 11 .nil .stop) .stop))))))))))), [10, 11], false, [0, 1, 3, 7, 0, 16, 63, 127, 255, 255, 511, 2047]⟩ (cond (Nat.beq id 12) ⟨(.go 0 (.go 1 (.go 2 (.go 3 (.go 4 (.go 5 (.go 6 (.go 7 (.go 8 (.go 9 (.go 10 (.go 11 (.go 12 (.go 13 (.go 14 (.go 15 (.go 16 .nil))))))))))))))))), [], false, [0, 1, 0, 4, 12, 28, 63, 127, 255, 511, 1023, 2047, 4095, 2047, 16383, 32767, 65535]⟩ (cond (Nat.beq id 13) ⟨(.go 0 (.go 1 (.go 2 (.go 3 (.go 4 (.go 5 (.go 6 (.go 7 (.go 8 (.go 9 (.eff 10 .nil .stop))))))))))), [10], false, [0, 1, 3, 7, 0, 16, 0, 64, 192, 448, 1023]⟩ (cond (Nat.beq id 15) ⟨(.go 0 (.go 1 (.go 2 (.go 3 (.go 4 (.eff 5 (.go 6 (.eff 7 .nil .stop)) .stop)))))), [5, 7], false, [0, 1, 3, 7, 0, 16, 63, 127]⟩ (⟨.nil, [], false, []⟩))))
theorem M.pgossip_Node_Hear.eq (a0 a1 a2 a3 : Value) (w : World) (K : KV) : M.pgossip_Node_Hear a0 a1 a2 a3 w K = den P M.pgossip_Node_Hear.L M.pgossip_Node_Hear.pl (Try.f33.body.getD .skip) (argE [a0, a1, a2, a3]) w (bodyQ P Try.f33.results.toList K) := by kernel_rfl
theorem M.pgossip_Node_Hear.ok : okFn M.pgossip_Node_Hear.L M.pgossip_Node_Hear.pl Try.f33 (Try.f33.body.getD .skip) 4 = true := by kernel_rfl
theorem M.pgossip_Node_Hear.calls (a0 a1 a2 a3 : Value) {w : World} {K : KV} (h : M.pgossip_Node_Hear a0 a1 a2 a3 w K) : callT P F.pgossip_Node_Hear [a0, a1, a2, a3] w K :=
  callT_of_den (by kernel_rfl) Try.func33 (by kernel_rfl) M.pgossip_Node_Hear.ok (M.pgossip_Node_Hear.eq a0 a1 a2 a3 w K ▸ h)
theorem M.pgossip_Node_Hear.fcall (args : List Value) (w : World) (K : KV) : fcallT P F.pgossip_Node_Hear args w K = callT P F.pgossip_Node_Hear args w K := fcallT_eq Try.func33 (by kernel_rfl) (by kernel_rfl) args w K
theorem M.pgossip_Node_Hear.rcall (a c args : List Value) (w : World) (K : KV) : callRT P (.func (.func F.pgossip_Node_Hear) a.toArray c.toArray) args w K = callT P F.pgossip_Node_Hear (a ++ args ++ c) w K := callR_fn Try.func33 (by kernel_rfl) (by kernel_rfl) a c args w K

/-- (*winnow/gossip.Node).View -/
def M.pgossip_Node_View (a0 : Value) (w : World) (K : KV) : Prop :=
  joinT (fun K0 =>
  binT P .eql T.p_gossip_Node (.tmp 3) (.const (.pointer none)) a0 (.pointer none) w fun t4 w =>
  condT t4 (
  K (.slice none 0 0) w) (
  K0 [(.slice none 0 0)] w)) fun x0 w =>
  nilT a0 w fun t6 w =>
  faT P T.gossip_Node t6 6 w fun t7 w =>
  ldT P T.sl_api_Member t7 w fun t8 w =>
  fcallT P F.slices_Clone_api_Member_api_Member [t8] w fun t9 w =>
  K t9 w
def M.pgossip_Node_View.L : List Nat := [0, 2]
def M.pgossip_Node_View.pl : Nat → Plan := fun id => ⟨.nil, [], false, []⟩
theorem M.pgossip_Node_View.eq (a0 : Value) (w : World) (K : KV) : M.pgossip_Node_View a0 w K = den P M.pgossip_Node_View.L M.pgossip_Node_View.pl (Try.f34.body.getD .skip) (argE [a0]) w (bodyQ P Try.f34.results.toList K) := by kernel_rfl
theorem M.pgossip_Node_View.ok : okFn M.pgossip_Node_View.L M.pgossip_Node_View.pl Try.f34 (Try.f34.body.getD .skip) 1 = true := by kernel_rfl
theorem M.pgossip_Node_View.calls (a0 : Value) {w : World} {K : KV} (h : M.pgossip_Node_View a0 w K) : callT P F.pgossip_Node_View [a0] w K :=
  callT_of_den (by kernel_rfl) Try.func34 (by kernel_rfl) M.pgossip_Node_View.ok (M.pgossip_Node_View.eq a0 w K ▸ h)
theorem M.pgossip_Node_View.fcall (args : List Value) (w : World) (K : KV) : fcallT P F.pgossip_Node_View args w K = callT P F.pgossip_Node_View args w K := fcallT_eq Try.func34 (by kernel_rfl) (by kernel_rfl) args w K
theorem M.pgossip_Node_View.rcall (a c args : List Value) (w : World) (K : KV) : callRT P (.func (.func F.pgossip_Node_View) a.toArray c.toArray) args w K = callT P F.pgossip_Node_View (a ++ args ++ c) w K := callR_fn Try.func34 (by kernel_rfl) (by kernel_rfl) a c args w K

def M.winnowref09_Find.j2 (a0 : Value) (x1 : List Value) (a1 : Value) (t4 : Value) (K1 : KL) (w : World) (K : KV) : Prop :=
  joinT (fun K3 =>
  iaT P T.sl_api_Member a0 (gv x1 1) w fun t15 w =>
  faT P T.api_Member t15 0 w fun t16 w =>
  ldT P T.uint64 t16 w fun t17 w =>
  binT P .eql T.uint64 (.tmp 17) (.tmp 18) t17 a1 w fun t19 w =>
  condT t19 (
  iaT P T.sl_api_Member a0 (gv x1 1) w fun t22 w =>
  ldT P T.api_Member t22 w fun t23 w =>
  stT P T.api_Member t4 t23 w fun _ w =>
  quietT (fun K' => resT P T.api_Member t4 w K') w fun r0 =>
  K (.tuple #[r0, (.bool true)]) w) (
  K3 [(gv x1 0)] w)) fun x3 w =>
  binT P .add T.int (.tmp 11) (.const (.int .i64 1)) (gv x1 1) (.int .i64 1) w fun t12 w =>
  K1 [(gv x3 0), t12] w
/-- winnow/winnowref09.Find -/
def M.winnowref09_Find (a0 a1 : Value) (w : World) (K : KV) : Prop :=
  alT P T.api_Member w fun t4 w =>
  joinT (fun K0 =>
  loopT [(.bool false), (.int .i64 0)] w fun K1 x1 w =>
  joinT (fun K2 =>
  biT P .len #[T.sl_api_Member] T.int [false] [a0] w fun t9 w =>
  binT P .lss T.int (.tmp 7) (.tmp 9) (gv x1 1) t9 w fun t10 w =>
  condT t10 (
  K2 [] w) (
  K0 [(gv x1 1), (gv x1 0)] w)) fun x2 w =>
  M.winnowref09_Find.j2 a0 x1 a1 t4 K1 w K) fun x0 w =>
  bldT P T.api_Member #[] w fun t24 w =>
  stT P T.api_Member t4 t24 w fun _ w =>
  quietT (fun K' => resT P T.api_Member t4 w K') w fun r0 =>
  K (.tuple #[r0, (.bool false)]) w
def M.winnowref09_Find.L : List Nat := [0, 1, 4, 5, 6]
def M.winnowref09_Find.pl : Nat → Plan := fun id => ⟨.nil, [], false, []⟩
theorem M.winnowref09_Find.eq (a0 a1 : Value) (w : World) (K : KV) : M.winnowref09_Find a0 a1 w K = den P M.winnowref09_Find.L M.winnowref09_Find.pl (Try.f35.body.getD .skip) (argE [a0, a1]) w (bodyQ P Try.f35.results.toList K) := by kernel_rfl
theorem M.winnowref09_Find.ok : okFn M.winnowref09_Find.L M.winnowref09_Find.pl Try.f35 (Try.f35.body.getD .skip) 2 = true := by kernel_rfl
theorem M.winnowref09_Find.calls (a0 a1 : Value) {w : World} {K : KV} (h : M.winnowref09_Find a0 a1 w K) : callT P F.winnowref09_Find [a0, a1] w K :=
  callT_of_den (by kernel_rfl) Try.func35 (by kernel_rfl) M.winnowref09_Find.ok (M.winnowref09_Find.eq a0 a1 w K ▸ h)
theorem M.winnowref09_Find.fcall (args : List Value) (w : World) (K : KV) : fcallT P F.winnowref09_Find args w K = callT P F.winnowref09_Find args w K := fcallT_eq Try.func35 (by kernel_rfl) (by kernel_rfl) args w K
theorem M.winnowref09_Find.rcall (a c args : List Value) (w : World) (K : KV) : callRT P (.func (.func F.winnowref09_Find) a.toArray c.toArray) args w K = callT P F.winnowref09_Find (a ++ args ++ c) w K := callR_fn Try.func35 (by kernel_rfl) (by kernel_rfl) a c args w K

end Go.Proofs.Ytkjhekflgghbdaa
