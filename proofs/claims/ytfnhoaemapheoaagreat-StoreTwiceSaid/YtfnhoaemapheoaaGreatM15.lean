/-
  Printed by wip/Shallow.lean: functions of the program, read shallow; each is what its code does. No condition.
-/
import Derived.Test.YtfnhoaemapheoaaGreatN
set_option maxRecDepth 1000000
namespace Go.Proofs.YtfnhoaemapheoaaGreat
open Go.Eng
def M.o.j2 (a0 : Value) (x1 : List Value) (a1 : Value) (K1 : KL) : QQ := fun w K =>  gc (fun K3 => iaT P T.i a0 (gv x1 2) w fun t14 w => ldT P T.p t14 w fun t15 w => mh P a1 [t15] w fun t16 w => ge t16 ( K (gv x1 2) w) ( K3 [(gv x1 2), (gv x1 1)] w)) fun x3 w => ga P .add T.b (.tmp 8) (.const (.int .i64 1)) (gv x1 2) (.int .i64 1) w fun t18 w => K1 [(gv x3 0), (gv x3 1), t18] w
def M.o (a0 a1 : Value) : QQ := fun w K =>  gc (fun K0 => biT P .len #[T.i] T.b [false] [a0] w fun t7 w => ir [undef, (.int .i64 0), (.int .i64 0)] w fun K1 x1 w => ga P .lss T.b (.tmp 8) (.tmp 7) (gv x1 2) t7 w fun t9 w => gc (fun K2 => ge t9 ( K2 [] w) ( K0 [t7, (gv x1 2), (gv x1 0), (gv x1 1)] w)) fun x2 w => M.o.j2 a0 x1 a1 K1 w K) fun x0 w => K (.int .i64 (-1)) w
theorem M.o.calls : C2 F.av M.o := @mk2 _ _ [0, 1, 4, 5, 8, 7] (fun id => ⟨.nil, [], false, []⟩) _ Tryz.func208 (by kernel_rfl)
theorem M.o.fcall : fC F.av := fcN Tryz.func208 (by kernel_rfl)
def M.ea.j2 (a1 : Value) (x1 : List Value) (K1 : KL) : QQ := fun w K =>  gc (fun K3 => iaT P T.f a1 (gv x1 2) w fun t14 w => ldT P T.ak t14 w fun t15 w => cvT P T.ak T.ay t15 w fun t18 w => ga P .xor T.ay (.tmp 16) (.tmp 18) (gv x1 1) t18 w fun t19 w => gb P F.ey [t19, (.int .i64 8)] w fun t20 w => K3 [t15, t20] w) fun x3 w => ga P .add T.b (.tmp 12) (.const (.int .i64 1)) (gv x1 2) (.int .i64 1) w fun t21 w => K1 [(gv x3 0), (gv x3 1), t21] w
def M.ea (a0 a1 : Value) : QQ := fun w K =>  unT P .xor a0 w fun t9 w => gc (fun K0 => biT P .len #[T.f] T.b [false] [a1] w fun t11 w => ir [undef, t9, (.int .i64 0)] w fun K1 x1 w => ga P .lss T.b (.tmp 12) (.tmp 11) (gv x1 2) t11 w fun t13 w => gc (fun K2 => ge t13 ( K2 [] w) ( K0 [a1, t11, (gv x1 2), (gv x1 0), (gv x1 1)] w)) fun x2 w => M.ea.j2 a1 x1 K1 w K) fun x0 w => unT P .xor (gv x0 4) w fun t23 w => K t23 w
theorem M.ea.calls : C2 F.ff M.ea := @mk2 _ _ [0, 1, 4, 5, 7, 12, 11, 10] (fun id => ⟨.nil, [], false, []⟩) _ Tryz.func209 (by kernel_rfl)
theorem M.ea.fcall : fC F.ff := fcN Tryz.func209 (by kernel_rfl)
def M.al.j3 (t13 : Value) (x1 : List Value) (t14 : Value) (K1 : KL) (x3 : List Value) : QQ := fun w K =>  bsT P T.ar 1 #[(0, t13)] w fun t19 w => biT P .append #[T.ar, T.ar] T.ar [false, false] [(gv x1 4), t19] w fun t20 w => slT P T.ad (gv x1 5) (some t14) none none w fun t23 w => K1 [t13, t14, (gv x3 0), (gv x3 1), t20, t23] w
def M.al.j2 (x1 : List Value) (K1 : KL) : QQ := fun w K =>  gb P F.dr [(gv x1 5)] w fun t12 w => exT P t12 0 w fun t13 w => exT P t12 1 w fun t14 w => gc (fun K3 => ga P .eql T.b (.tmp 15) (.const (.int .i64 0)) t14 (.int .i64 0) w fun t16 w => ge t16 ( K (.tuple #[(.slice none 0 0), (.bool false)]) w) ( K3 [(gv x1 2), (gv x1 3)] w)) fun x3 w => M.al.j3 t13 x1 t14 K1 x3 w K
def M.al.j1 (x1 : List Value) (K0 K1 : KL) : QQ := fun w K =>  gc (fun K2 => biT P .len #[T.ad] T.b [false] [(gv x1 5)] w fun t8 w => ga P .gtr T.b (.tmp 8) (.const (.int .i64 0)) t8 (.int .i64 0) w fun t9 w => ge t9 ( K2 [] w) ( K0 [(gv x1 0), (gv x1 1), (gv x1 2), (gv x1 3), (gv x1 4), (gv x1 5)] w)) fun x2 w => M.al.j2 x1 K1 w K
def M.al (a0 : Value) : QQ := fun w K =>  gc (fun K0 => ir [undef, undef, (.slice none 0 0), (.bool false), (.slice none 0 0), a0] w fun K1 x1 w => M.al.j1 x1 K0 K1 w K) fun x0 w => K (.tuple #[(gv x0 4), (.bool true)]) w
theorem M.al.calls : C1 F.dh M.al := @mk1 _ _ [0, 2, 3, 4, 5, 6] (fun id => ⟨.nil, [], false, []⟩) _ Tryz.func210 (by kernel_rfl)
theorem M.al.fcall : fC F.dh := fcN Tryz.func210 (by kernel_rfl)
def M.cu (a0 a1 : Value) : QQ := fun w K =>  gb P F.bs [a0, a1] w fun t7 w => K t7 w
theorem M.cu.calls : C2 F.di M.cu := @mk2 _ _ [0, 1, 4] (fun id => ⟨.nil, [], false, []⟩) _ Tryz.func211 (by kernel_rfl)
theorem M.cu.fcall : fC F.di := fcN Tryz.func211 (by kernel_rfl)
def M.ad.j2 (x1 : List Value) (a2 a0 a4 : Value) (K1 : KL) : QQ := fun w K =>  ga P .gtr T.b (.tmp 21) (.tmp 22) (gv x1 0) (gv x1 1) w fun t23 w => ge t23 ( ga P .sub T.b (.tmp 25) (.tmp 26) a2 (gv x1 0) w fun t27 w => gb P F.aj [a0, t27, a2, (gv x1 1), a4] w fun t31 w => ga P .sub T.b (.tmp 32) (.tmp 33) (gv x1 0) (gv x1 1) w fun t34 w => K1 [t34, (gv x1 1)] w) ( ga P .sub T.b (.tmp 36) (.tmp 37) a2 (gv x1 0) w fun t38 w => ga P .add T.b (.tmp 39) (.tmp 40) a2 (gv x1 1) w fun t41 w => ga P .sub T.b (.tmp 41) (.tmp 42) t41 (gv x1 0) w fun t43 w => gb P F.aj [a0, t38, t43, (gv x1 0), a4] w fun t46 w => ga P .sub T.b (.tmp 47) (.tmp 48) (gv x1 1) (gv x1 0) w fun t49 w => K1 [(gv x1 0), t49] w)
def M.ad (a0 a1 a2 a3 a4 : Value) : QQ := fun w K =>  ga P .sub T.b (.tmp 12) (.tmp 13) a2 a1 w fun t14 w => ga P .sub T.b (.tmp 15) (.tmp 16) a3 a2 w fun t17 w => gc (fun K0 => ir [t14, t17] w fun K1 x1 w => gc (fun K2 => ga P .neq T.b (.tmp 18) (.tmp 19) (gv x1 0) (gv x1 1) w fun t20 w => ge t20 ( K2 [] w) ( K0 [(gv x1 0), (gv x1 1)] w)) fun x2 w => M.ad.j2 x1 a2 a0 a4 K1 w K) fun x0 w => ga P .sub T.b (.tmp 51) (.tmp 52) a2 (gv x0 0) w fun t53 w => gb P F.aj [a0, t53, a2, (gv x0 0), a4] w fun t57 w => K (.tuple #[]) w
theorem M.ad.calls : C5 F.bi M.ad := @mk5 _ _ [0, 1, 2, 3, 4, 10, 11] (fun id => ⟨.nil, [], false, []⟩) _ Tryz.func213 (by kernel_rfl)
theorem M.ad.fcall : fC F.bi := fcN Tryz.func213 (by kernel_rfl)
end Go.Proofs.YtfnhoaemapheoaaGreat
