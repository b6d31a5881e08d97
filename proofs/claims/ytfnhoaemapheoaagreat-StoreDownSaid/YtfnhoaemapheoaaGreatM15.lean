/-
  Printed by wip/Shallow.lean: functions of the program, read shallow; each is what its code does. No condition.
-/
import Derived.Test.YtfnhoaemapheoaaGreatN
set_option maxRecDepth 1000000
namespace Go.Proofs.YtfnhoaemapheoaaGreat
open Go.Eng
def M.o.j2 (a0 : Value) (x1 : List Value) (a1 : Value) (K1 : KL) : QQ := fun w K =>  gj (fun K3 => iaT P T.i a0 (gv x1 2) w fun t14 w => ldT P T.q t14 w fun t15 w => mo P a1 [t15] w fun t16 w => gk t16 ( K (gv x1 2) w) ( K3 [(gv x1 2), (gv x1 1)] w)) fun x3 w => gh P .add T.b (.tmp 8) (.const (.int .i64 1)) (gv x1 2) (.int .i64 1) w fun t18 w => K1 [(gv x3 0), (gv x3 1), t18] w
def M.o (a0 a1 : Value) : QQ := fun w K =>  gj (fun K0 => biT P .len #[T.i] T.b [false] [a0] w fun t7 w => jb [undef, (.int .i64 0), (.int .i64 0)] w fun K1 x1 w => gh P .lss T.b (.tmp 8) (.tmp 7) (gv x1 2) t7 w fun t9 w => gj (fun K2 => gk t9 ( K2 [] w) ( K0 [t7, (gv x1 2), (gv x1 0), (gv x1 1)] w)) fun x2 w => M.o.j2 a0 x1 a1 K1 w K) fun x0 w => K (.int .i64 (-1)) w
theorem M.o.calls : C2 F.az M.o := @mk2 _ _ [0, 1, 4, 5, 8, 7] (fun id => ⟨.nil, [], false, []⟩) _ Tryz.func208 (by kernel_rfl)
theorem M.o.fcall : fC F.az := fcN Tryz.func208 (by kernel_rfl)
def M.eh.j2 (a1 : Value) (x1 : List Value) (K1 : KL) : QQ := fun w K =>  gj (fun K3 => iaT P T.d a1 (gv x1 2) w fun t14 w => ldT P T.al t14 w fun t15 w => cvT P T.al T.az t15 w fun t18 w => gh P .xor T.az (.tmp 16) (.tmp 18) (gv x1 1) t18 w fun t19 w => gi P F.fg [t19, (.int .i64 8)] w fun t20 w => K3 [t15, t20] w) fun x3 w => gh P .add T.b (.tmp 12) (.const (.int .i64 1)) (gv x1 2) (.int .i64 1) w fun t21 w => K1 [(gv x3 0), (gv x3 1), t21] w
def M.eh (a0 a1 : Value) : QQ := fun w K =>  unT P .xor a0 w fun t9 w => gj (fun K0 => biT P .len #[T.d] T.b [false] [a1] w fun t11 w => jb [undef, t9, (.int .i64 0)] w fun K1 x1 w => gh P .lss T.b (.tmp 12) (.tmp 11) (gv x1 2) t11 w fun t13 w => gj (fun K2 => gk t13 ( K2 [] w) ( K0 [a1, t11, (gv x1 2), (gv x1 0), (gv x1 1)] w)) fun x2 w => M.eh.j2 a1 x1 K1 w K) fun x0 w => unT P .xor (gv x0 4) w fun t23 w => K t23 w
theorem M.eh.calls : C2 F.fn M.eh := @mk2 _ _ [0, 1, 4, 5, 7, 12, 11, 10] (fun id => ⟨.nil, [], false, []⟩) _ Tryz.func209 (by kernel_rfl)
theorem M.eh.fcall : fC F.fn := fcN Tryz.func209 (by kernel_rfl)
def M.an.j3 (t13 : Value) (x1 : List Value) (t14 : Value) (K1 : KL) (x3 : List Value) : QQ := fun w K =>  bsT P T.au 1 #[(0, t13)] w fun t19 w => biT P .append #[T.au, T.au] T.au [false, false] [(gv x1 4), t19] w fun t20 w => slT P T.ae (gv x1 5) (some t14) none none w fun t23 w => K1 [t13, t14, (gv x3 0), (gv x3 1), t20, t23] w
def M.an.j2 (x1 : List Value) (K1 : KL) : QQ := fun w K =>  gi P F.dz [(gv x1 5)] w fun t12 w => exT P t12 0 w fun t13 w => exT P t12 1 w fun t14 w => gj (fun K3 => gh P .eql T.b (.tmp 15) (.const (.int .i64 0)) t14 (.int .i64 0) w fun t16 w => gk t16 ( K (.tuple #[(.slice none 0 0), (.bool false)]) w) ( K3 [(gv x1 2), (gv x1 3)] w)) fun x3 w => M.an.j3 t13 x1 t14 K1 x3 w K
def M.an.j1 (x1 : List Value) (K0 K1 : KL) : QQ := fun w K =>  gj (fun K2 => biT P .len #[T.ae] T.b [false] [(gv x1 5)] w fun t8 w => gh P .gtr T.b (.tmp 8) (.const (.int .i64 0)) t8 (.int .i64 0) w fun t9 w => gk t9 ( K2 [] w) ( K0 [(gv x1 0), (gv x1 1), (gv x1 2), (gv x1 3), (gv x1 4), (gv x1 5)] w)) fun x2 w => M.an.j2 x1 K1 w K
def M.an (a0 : Value) : QQ := fun w K =>  gj (fun K0 => jb [undef, undef, (.slice none 0 0), (.bool false), (.slice none 0 0), a0] w fun K1 x1 w => M.an.j1 x1 K0 K1 w K) fun x0 w => K (.tuple #[(gv x0 4), (.bool true)]) w
theorem M.an.calls : C1 F.dn M.an := @mk1 _ _ [0, 2, 3, 4, 5, 6] (fun id => ⟨.nil, [], false, []⟩) _ Tryz.func210 (by kernel_rfl)
theorem M.an.fcall : fC F.dn := fcN Tryz.func210 (by kernel_rfl)
def M.da (a0 a1 : Value) : QQ := fun w K =>  gi P F.bz [a0, a1] w fun t7 w => K t7 w
theorem M.da.calls : C2 F.dp M.da := @mk2 _ _ [0, 1, 4] (fun id => ⟨.nil, [], false, []⟩) _ Tryz.func211 (by kernel_rfl)
theorem M.da.fcall : fC F.dp := fcN Tryz.func211 (by kernel_rfl)
def M.af.j2 (x1 : List Value) (a2 a0 a4 : Value) (K1 : KL) : QQ := fun w K =>  gh P .gtr T.b (.tmp 21) (.tmp 22) (gv x1 0) (gv x1 1) w fun t23 w => gk t23 ( gh P .sub T.b (.tmp 25) (.tmp 26) a2 (gv x1 0) w fun t27 w => gi P F.am [a0, t27, a2, (gv x1 1), a4] w fun t31 w => gh P .sub T.b (.tmp 32) (.tmp 33) (gv x1 0) (gv x1 1) w fun t34 w => K1 [t34, (gv x1 1)] w) ( gh P .sub T.b (.tmp 36) (.tmp 37) a2 (gv x1 0) w fun t38 w => gh P .add T.b (.tmp 39) (.tmp 40) a2 (gv x1 1) w fun t41 w => gh P .sub T.b (.tmp 41) (.tmp 42) t41 (gv x1 0) w fun t43 w => gi P F.am [a0, t38, t43, (gv x1 0), a4] w fun t46 w => gh P .sub T.b (.tmp 47) (.tmp 48) (gv x1 1) (gv x1 0) w fun t49 w => K1 [(gv x1 0), t49] w)
def M.af (a0 a1 a2 a3 a4 : Value) : QQ := fun w K =>  gh P .sub T.b (.tmp 12) (.tmp 13) a2 a1 w fun t14 w => gh P .sub T.b (.tmp 15) (.tmp 16) a3 a2 w fun t17 w => gj (fun K0 => jb [t14, t17] w fun K1 x1 w => gj (fun K2 => gh P .neq T.b (.tmp 18) (.tmp 19) (gv x1 0) (gv x1 1) w fun t20 w => gk t20 ( K2 [] w) ( K0 [(gv x1 0), (gv x1 1)] w)) fun x2 w => M.af.j2 x1 a2 a0 a4 K1 w K) fun x0 w => gh P .sub T.b (.tmp 51) (.tmp 52) a2 (gv x0 0) w fun t53 w => gi P F.am [a0, t53, a2, (gv x0 0), a4] w fun t57 w => K (.tuple #[]) w
theorem M.af.calls : C5 F.bk M.af := @mk5 _ _ [0, 1, 2, 3, 4, 10, 11] (fun id => ⟨.nil, [], false, []⟩) _ Tryz.func213 (by kernel_rfl)
theorem M.af.fcall : fC F.bk := fcN Tryz.func213 (by kernel_rfl)
end Go.Proofs.YtfnhoaemapheoaaGreat
