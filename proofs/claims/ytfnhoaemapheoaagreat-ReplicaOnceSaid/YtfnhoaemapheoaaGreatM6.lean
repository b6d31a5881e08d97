/-
  Printed by wip/Shallow.lean: functions of the program, read shallow; each is what its code does. No condition.
-/
import Derived.Test.YtfnhoaemapheoaaGreatN
set_option maxRecDepth 1000000
namespace Go.Proofs.YtfnhoaemapheoaaGreat
open Go.Eng
def M.ah (a0 : Value) : QQ := fun w K =>  fc (fun K0 => en P .eql T.ad (.tmp 3) (.const (.slice none 0 0)) a0 (.slice none 0 0) w fun t4 w => fg t4 ( K (.slice none 0 0) w) ( K0 [(.slice none 0 0)] w)) fun x0 w => bsT P T.ad 0 #[] w fun t5 w => biT P .append #[T.ad, T.ad] T.ad [false, false] [t5, a0] w fun t7 w => K t7 w
theorem M.ah.calls : C1 F.g M.ah := @mk1 _ _ [0, 2] (fun id => ⟨.nil, [], false, []⟩) _ Tryz.func71 (by kernel_rfl)
theorem M.ah.fcall : fC F.g := fcN Tryz.func71 (by kernel_rfl)
def M.bb (a0 : Value) : QQ := fun w K =>  biT P .len #[T.h] T.b [false] [a0] w fun t4 w => cvT P T.b T.ay t4 w fun t8 w => ey P F.ch [t8] w fun t9 w => ey P F.r [a0, (.int .i64 0), t4, t9] w fun t10 w => K (.tuple #[]) w
theorem M.bb.calls : C1 F.an M.bb := @mk1 _ _ [0, 2] (fun id => ⟨.nil, [], false, []⟩) _ Tryz.func74 (by kernel_rfl)
theorem M.bb.fcall : fC F.an := fcN Tryz.func74 (by kernel_rfl)
end Go.Proofs.YtfnhoaemapheoaaGreat
