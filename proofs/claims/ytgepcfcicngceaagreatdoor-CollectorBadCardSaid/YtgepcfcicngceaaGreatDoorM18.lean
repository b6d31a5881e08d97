/-
  Printed by wip/Shallow.lean: functions of the program, read shallow; each is what its code does. No condition.
-/
import Derived.Test.YtgepcfcicngceaaGreatDoorN
set_option maxRecDepth 1000000
namespace Go.Proofs.YtgepcfcicngceaaGreatDoor
open Go.Eng
def M.dk(a:Value):QQ:=fun w K=>cvT P T.d T.bs a w fun b w=>ig P F.ds [b] w fun c w=>iq P .shl T.bs (.const (.int .u64 1)) (.tmp 5) (.int .u64 1) c w fun d w=>K d w
theorem M.dk.calls:C1 F.cz M.dk:=mk1 [0,2] pN Tryz.func252
theorem M.dk.fcall:fC F.cz:=fcN Tryz.func252
def M.dl(a:Value):QQ:=fun w K=>jb w fun w=>w=w/\ic (ip a w) w fun b=>ic (ldT P T.ah b w) w fun c=>w=w/\ic (ip a w) w fun d=>ic (ldT P T.ah d w) w fun e=>ic (iq P .shl T.ah (.tmp 8) (.const (.int .u64 13)) e (.int .u64 13) w) w fun f=>ic (iq P .xor T.ah (.tmp 5) (.tmp 9) c f w) w fun g=>ic (ip a w) w fun h=>stT P T.ah h g w fun _ w=>jb w fun w=>w=w/\ic (ip a w) w fun i=>ic (ldT P T.ah i w) w fun j=>w=w/\ic (ip a w) w fun l=>ic (ldT P T.ah l w) w fun m=>ic (iq P .shr T.ah (.tmp 17) (.const (.int .u64 7)) m (.int .u64 7) w) w fun n=>ic (iq P .xor T.ah (.tmp 14) (.tmp 18) j n w) w fun o=>ic (ip a w) w fun p=>stT P T.ah p o w fun _ w=>jb w fun w=>w=w/\ic (ip a w) w fun q=>ic (ldT P T.ah q w) w fun r=>w=w/\ic (ip a w) w fun s=>ic (ldT P T.ah s w) w fun t=>ic (iq P .shl T.ah (.tmp 26) (.const (.int .u64 17)) t (.int .u64 17) w) w fun u=>ic (iq P .xor T.ah (.tmp 23) (.tmp 27) r u w) w fun v=>ic (ip a w) w fun x=>stT P T.ah x v w fun _ w=>ip a w fun y w=>ldT P T.ah y w fun z w=>K z w
theorem M.dl.calls:C1 F.da M.dl:=mk1 [0,2] (fun id=>cond (Nat.beq id 1) ⟨(gS 0 9 (.eff 9 .nil .ir)),[9],false,[0,1,3,0,8,24,56,127,255,511]⟩ (cond (Nat.beq id 2) ⟨(gS 0 9 (.eff 9 .nil .ir)),[9],false,[0,1,3,0,8,24,56,127,255,511]⟩ (cond (Nat.beq id 3) ⟨(gS 0 9 (.eff 9 .nil .ir)),[9],false,[0,1,3,0,8,24,56,127,255,511]⟩ p0))) Tryz.func253
theorem M.dl.fcall:fC F.da:=fcN Tryz.func253
def M.bv(a b:Value):QQ:=fun w K=>ig P F.z [a,b] w fun c w=>K c w
theorem M.bv.calls:C2 F.bo M.bv:=mk2 [0,1,4] pN Tryz.func259
theorem M.bv.fcall:fC F.bo:=fcN Tryz.func259
end Go.Proofs.YtgepcfcicngceaaGreatDoor
