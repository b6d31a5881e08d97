/-
  Printed by wip/Shallow.lean: functions of the program, read shallow; each is what its code does. No condition.
-/
import Derived.Test.YtgepcfcicngceaaGreatDoorN
set_option maxRecDepth 1000000
namespace Go.Proofs.YtgepcfcicngceaaGreatDoor
open Go.Eng
def M.de(a:Value):QQ:=fun w K=>cvT P T.d T.bs a w fun b w=>ie P F.dl [b] w fun c w=>ip P .shl T.bs (.const (.int .u64 1)) (.tmp 5) (.int .u64 1) c w fun d w=>K d w
theorem M.de.calls:C1 F.cu M.de:=mk1 [0,2] pN Tryz.func252
theorem M.de.fcall:fC F.cu:=fcN Tryz.func252
def M.df(a:Value):QQ:=fun w K=>jb w fun w=>w=w/\ib (im a w) w fun b=>ib (ldT P T.ag b w) w fun c=>w=w/\ib (im a w) w fun d=>ib (ldT P T.ag d w) w fun e=>ib (ip P .shl T.ag (.tmp 8) (.const (.int .u64 13)) e (.int .u64 13) w) w fun f=>ib (ip P .xor T.ag (.tmp 5) (.tmp 9) c f w) w fun g=>ib (im a w) w fun h=>stT P T.ag h g w fun _ w=>jb w fun w=>w=w/\ib (im a w) w fun i=>ib (ldT P T.ag i w) w fun j=>w=w/\ib (im a w) w fun l=>ib (ldT P T.ag l w) w fun m=>ib (ip P .shr T.ag (.tmp 17) (.const (.int .u64 7)) m (.int .u64 7) w) w fun n=>ib (ip P .xor T.ag (.tmp 14) (.tmp 18) j n w) w fun o=>ib (im a w) w fun p=>stT P T.ag p o w fun _ w=>jb w fun w=>w=w/\ib (im a w) w fun q=>ib (ldT P T.ag q w) w fun r=>w=w/\ib (im a w) w fun s=>ib (ldT P T.ag s w) w fun t=>ib (ip P .shl T.ag (.tmp 26) (.const (.int .u64 17)) t (.int .u64 17) w) w fun u=>ib (ip P .xor T.ag (.tmp 23) (.tmp 27) r u w) w fun v=>ib (im a w) w fun x=>stT P T.ag x v w fun _ w=>im a w fun y w=>ldT P T.ag y w fun z w=>K z w
theorem M.df.calls:C1 F.cv M.df:=mk1 [0,2] (fun id=>cond (Nat.beq id 1) ⟨(gS 0 9 (.eff 9 .nil .ir)),[9],false,[0,1,3,0,8,24,56,127,255,511]⟩ (cond (Nat.beq id 2) ⟨(gS 0 9 (.eff 9 .nil .ir)),[9],false,[0,1,3,0,8,24,56,127,255,511]⟩ (cond (Nat.beq id 3) ⟨(gS 0 9 (.eff 9 .nil .ir)),[9],false,[0,1,3,0,8,24,56,127,255,511]⟩ p0))) Tryz.func253
theorem M.df.fcall:fC F.cv:=fcN Tryz.func253
def M.br(a b:Value):QQ:=fun w K=>ie P F.x [a,b] w fun c w=>K c w
theorem M.br.calls:C2 F.bj M.br:=mk2 [0,1,4] pN Tryz.func259
theorem M.br.fcall:fC F.bj:=fcN Tryz.func259
end Go.Proofs.YtgepcfcicngceaaGreatDoor
