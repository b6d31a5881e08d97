/-
  Printed by wip/Shallow.lean: functions of the program, read shallow; each is what its code does. No condition.
-/
import Derived.Test.YtgepcfcicngceaaGreatDoorN
set_option maxRecDepth 1000000
namespace Go.Proofs.YtgepcfcicngceaaGreatDoor
open Go.Eng
def M.dm(a:Value):QQ:=fun w K=>cvT P T.d T.bu a w fun b w=>ik P F.dr [b] w fun c w=>iy P .shl T.bu (.const (.int .u64 1)) (.tmp 5) (.int .u64 1) c w fun d w=>K d w
theorem M.dm.calls:C1 F.da M.dm:=mk1 [0,2] pN Tryz.func252
theorem M.dm.fcall:fC F.da:=fcN Tryz.func252
def M.dn(a:Value):QQ:=fun w K=>je w fun w=>w=w/\ii (iu a w) w fun b=>ii (ldT P T.ai b w) w fun c=>w=w/\ii (iu a w) w fun d=>ii (ldT P T.ai d w) w fun e=>ii (iy P .shl T.ai (.tmp 8) (.const (.int .u64 13)) e (.int .u64 13) w) w fun f=>ii (iy P .xor T.ai (.tmp 5) (.tmp 9) c f w) w fun g=>ii (iu a w) w fun h=>stT P T.ai h g w fun _ w=>je w fun w=>w=w/\ii (iu a w) w fun i=>ii (ldT P T.ai i w) w fun j=>w=w/\ii (iu a w) w fun l=>ii (ldT P T.ai l w) w fun m=>ii (iy P .shr T.ai (.tmp 17) (.const (.int .u64 7)) m (.int .u64 7) w) w fun n=>ii (iy P .xor T.ai (.tmp 14) (.tmp 18) j n w) w fun o=>ii (iu a w) w fun p=>stT P T.ai p o w fun _ w=>je w fun w=>w=w/\ii (iu a w) w fun q=>ii (ldT P T.ai q w) w fun r=>w=w/\ii (iu a w) w fun s=>ii (ldT P T.ai s w) w fun t=>ii (iy P .shl T.ai (.tmp 26) (.const (.int .u64 17)) t (.int .u64 17) w) w fun u=>ii (iy P .xor T.ai (.tmp 23) (.tmp 27) r u w) w fun v=>ii (iu a w) w fun x=>stT P T.ai x v w fun _ w=>iu a w fun y w=>ldT P T.ai y w fun z w=>K z w
theorem M.dn.calls:C1 F.db M.dn:=mk1 [0,2] (fun id=>cond (Nat.beq id 1) ⟨(gS 0 9 (.eff 9 .nil .iz)),[9],false,[0,1,3,0,8,24,56,127,255,511]⟩ (cond (Nat.beq id 2) ⟨(gS 0 9 (.eff 9 .nil .iz)),[9],false,[0,1,3,0,8,24,56,127,255,511]⟩ (cond (Nat.beq id 3) ⟨(gS 0 9 (.eff 9 .nil .iz)),[9],false,[0,1,3,0,8,24,56,127,255,511]⟩ p0))) Tryz.func253
theorem M.dn.fcall:fC F.db:=fcN Tryz.func253
def M.bx(a b:Value):QQ:=fun w K=>ik P F.z [a,b] w fun c w=>K c w
theorem M.bx.calls:C2 F.bp M.bx:=mk2 [0,1,4] pN Tryz.func259
theorem M.bx.fcall:fC F.bp:=fcN Tryz.func259
end Go.Proofs.YtgepcfcicngceaaGreatDoor
