/-
  Printed by wip/Shallow.lean: functions of the program, read shallow; each is what its code does. No condition.
-/
import Derived.Test.YtfnhoaemapheoaaGreatN
set_option maxRecDepth 1000000
namespace Go.Proofs.YtfnhoaemapheoaaGreat
open Go.Eng
def M.az.j0 (a0 : Value) : QQ := fun w K =>  gx a0 w fun t6 w => faT P T.m t6 2 w fun t7 w => ldT P T.p t7 w fun t8 w => ey P F.e [t8] w fun t9 w => ey P F.aw [t9] w fun t10 w => K t10 w
def M.az (a0 : Value) : QQ := fun w K =>  fc (fun K0 => en P .eql T.ag (.tmp 3) (.const (.pointer none)) a0 (.pointer none) w fun t4 w => fg t4 ( K (.slice none 0 0) w) ( K0 [(.slice none 0 0)] w)) fun x0 w => M.az.j0 a0 w K
theorem M.az.calls : C1 F.bm M.az := @mk1 _ _ [0, 2] (fun id => ⟨.nil, [], false, []⟩) _ Tryz.func46 (by kernel_rfl)
theorem M.az.fcall : fC F.bm := fcN Tryz.func46 (by kernel_rfl)
end Go.Proofs.YtfnhoaemapheoaaGreat
