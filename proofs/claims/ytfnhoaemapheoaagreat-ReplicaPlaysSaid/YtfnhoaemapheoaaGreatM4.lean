/-
  Printed by wip/Shallow.lean: functions of the program, read shallow; each is what its code does. No condition.
-/
import Derived.Test.YtfnhoaemapheoaaGreatN
set_option maxRecDepth 1000000
namespace Go.Proofs.YtfnhoaemapheoaaGreat
open Go.Eng
def M.bq.j3 (a0 : Value) (x2 : List Value) (a1 : Value) (K2 : KL) : QQ := fun w K =>  fk (fun K4 => gp w fun w => w = w ∧ w = w ∧ fg (iaT P T.n a0 (gv x2 1) w) w fun t19 => fg (ldT P T.z t19 w) w fun t20 => w = w ∧ w = w ∧ fg (iaT P T.n a1 (gv x2 1) w) w fun t23 => fg (ldT P T.z t23 w) w fun t24 => fg (fi P .neq T.z (.tmp 20) (.tmp 24) t20 t24 w) w fun t25 => fl t25 ( K (.bool false) w) ( K4 [(gv x2 0)] w)) fun x4 w => fi P .add T.b (.tmp 15) (.const (.int .i64 1)) (gv x2 1) (.int .i64 1) w fun t16 w => K2 [(gv x4 0), t16] w
def M.bq.j0 (x0 : List Value) (a0 a1 : Value) : QQ := fun w K =>  fk (fun K1 => gu [(gv x0 0), (.int .i64 0)] w fun K2 x2 w => fk (fun K3 => biT P .len #[T.n] T.b [false] [a0] w fun t13 w => fi P .lss T.b (.tmp 11) (.tmp 13) (gv x2 1) t13 w fun t14 w => fl t14 ( K3 [] w) ( K1 [(gv x2 1), (gv x2 0)] w)) fun x3 w => M.bq.j3 a0 x2 a1 K2 w K) fun x1 w => K (.bool true) w
def M.bq (a0 a1 : Value) : QQ := fun w K =>  fk (fun K0 => biT P .len #[T.n] T.b [false] [a0] w fun t7 w => biT P .len #[T.n] T.b [false] [a1] w fun t9 w => fi P .neq T.b (.tmp 7) (.tmp 9) t7 t9 w fun t10 w => fl t10 ( K (.bool false) w) ( K0 [(.bool false)] w)) fun x0 w => M.bq.j0 x0 a0 a1 w K
theorem M.bq.calls : C2 F.db M.bq := @mk2 _ _ [0, 1, 4, 5] (fun id => cond (Nat.beq id 6) ⟨(gS 0 9 .nil), [], false, [0, 0, 3, 7, 0, 0, 48, 112, 255]⟩ (⟨.nil, [], false, []⟩)) _ Tryz.func38 (by kernel_rfl)
theorem M.bq.fcall : fC F.db := fcN Tryz.func38 (by kernel_rfl)
def M.bj.j0 (a0 : Value) : QQ := fun w K =>  ia a0 w fun t6 w => faT P T.l t6 2 w fun t7 w => ldT P T.r t7 w fun t8 w => fj P F.e [t8] w fun t9 w => fj P F.ba [t9] w fun t10 w => K t10 w
def M.bj (a0 : Value) : QQ := fun w K =>  fk (fun K0 => fi P .eql T.ao (.tmp 3) (.const (.pointer none)) a0 (.pointer none) w fun t4 w => fl t4 ( K (.slice none 0 0) w) ( K0 [(.slice none 0 0)] w)) fun x0 w => M.bj.j0 a0 w K
theorem M.bj.calls : C1 F.ag M.bj := @mk1 _ _ [0, 2] (fun id => ⟨.nil, [], false, []⟩) _ Tryz.func46 (by kernel_rfl)
theorem M.bj.fcall : fC F.ag := fcN Tryz.func46 (by kernel_rfl)
end Go.Proofs.YtfnhoaemapheoaaGreat
