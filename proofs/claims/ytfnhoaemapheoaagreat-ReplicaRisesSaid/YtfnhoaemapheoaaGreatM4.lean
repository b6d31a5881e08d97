/-
  Printed by wip/Shallow.lean: functions of the program, read shallow; each is what its code does. No condition.
-/
import Derived.Test.YtfnhoaemapheoaaGreatN
set_option maxRecDepth 1000000
namespace Go.Proofs.YtfnhoaemapheoaaGreat
open Go.Eng
def M.ba.j0 (a0 : Value) : QQ := fun w K =>  gm a0 w fun t6 w => faT P T.i t6 2 w fun t7 w => ldT P T.m t7 w fun t8 w => fg P F.e [t8] w fun t9 w => fg P F.ay [t9] w fun t10 w => K t10 w
def M.ba (a0 : Value) : QQ := fun w K =>  fh (fun K0 => fe P .eql T.am (.tmp 3) (.const (.pointer none)) a0 (.pointer none) w fun t4 w => fi t4 ( K (.slice none 0 0) w) ( K0 [(.slice none 0 0)] w)) fun x0 w => M.ba.j0 a0 w K
theorem M.ba.calls : C1 F.az M.ba := @mk1 _ _ [0, 2] (fun id => ⟨.nil, [], false, []⟩) _ Tryz.func46 (by kernel_rfl)
theorem M.ba.fcall : fC F.az := fcN Tryz.func46 (by kernel_rfl)
end Go.Proofs.YtfnhoaemapheoaaGreat
