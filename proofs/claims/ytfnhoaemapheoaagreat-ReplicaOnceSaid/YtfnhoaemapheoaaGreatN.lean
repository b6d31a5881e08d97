/-
  The numbers of the functions and types of this seat by name, printed by wip/Shallow.lean. No condition.
-/
import Derived.Test.YtfnhoaemapheoaaGreatZEng
import Derived.Test.YtfnhoaemapheoaaGreatChecked
import Derived.KernelRfl
namespace Go.Proofs.YtfnhoaemapheoaaGreat
noncomputable abbrev P : Program := Tryz.prog
abbrev F.cf : Nat := 3
abbrev F.bj : Nat := 14
abbrev F.dw : Nat := 15
abbrev F.bs : Nat := 16
abbrev F.bf : Nat := 17
abbrev F.cr : Nat := 18
abbrev F.cb : Nat := 19
abbrev F.i : Nat := 21
abbrev F.bz : Nat := 27
abbrev F.bm : Nat := 46
abbrev F.ee : Nat := 47
abbrev F.cc : Nat := 48
abbrev F.dl : Nat := 49
abbrev F.cu : Nat := 50
abbrev F.ba : Nat := 51
abbrev F.l : Nat := 52
abbrev F.dt : Nat := 53
abbrev F.bg : Nat := 54
abbrev F.cs : Nat := 55
abbrev F.cz : Nat := 56
abbrev F.br : Nat := 57
abbrev F.dm : Nat := 58
abbrev F.da : Nat := 59
abbrev F.g : Nat := 71
abbrev F.an : Nat := 74
abbrev F.aw : Nat := 83
abbrev F.e : Nat := 85
abbrev F.dx : Nat := 86
abbrev F.bw : Nat := 87
abbrev F.cv : Nat := 88
abbrev F.q : Nat := 89
abbrev F.eb : Nat := 90
abbrev F.df : Nat := 91
abbrev F.bl : Nat := 92
abbrev F.ci : Nat := 93
abbrev F.bk : Nat := 94
abbrev F.m : Nat := 95
abbrev F.bu : Nat := 96
abbrev F.dj : Nat := 97
abbrev F.cg : Nat := 98
abbrev F.bp : Nat := 99
abbrev F.cw : Nat := 100
abbrev F.db : Nat := 101
abbrev F.dp : Nat := 102
abbrev F.co : Nat := 107
abbrev F.r : Nat := 112
abbrev F.ch : Nat := 113
abbrev F.ac : Nat := 114
abbrev F.bv : Nat := 121
abbrev F.a : Nat := 123
abbrev F.bn : Nat := 124
abbrev F.bc : Nat := 125
abbrev F.cj : Nat := 126
abbrev F.dy : Nat := 127
abbrev F.dg : Nat := 128
abbrev F.di : Nat := 129
abbrev F.bh : Nat := 130
abbrev F.ca : Nat := 131
abbrev F.ck : Nat := 132
abbrev F.bq : Nat := 133
abbrev F.b : Nat := 134
abbrev F.ai : Nat := 135
abbrev F.dk : Nat := 136
abbrev F.p : Nat := 137
abbrev F.aj : Nat := 138
abbrev F.dq : Nat := 139
abbrev F.dh : Nat := 140
abbrev F.bx : Nat := 141
abbrev F.du : Nat := 146
abbrev F.z : Nat := 149
abbrev F.ar : Nat := 150
abbrev F.aa : Nat := 151
abbrev F.ag : Nat := 152
abbrev F.af : Nat := 153
abbrev F.n : Nat := 154
abbrev F.d : Nat := 155
abbrev F.w : Nat := 156
abbrev F.ao : Nat := 157
abbrev F.eg : Nat := 158
abbrev F.dc : Nat := 159
abbrev F.dv : Nat := 161
abbrev F.bt : Nat := 162
abbrev F.c : Nat := 164
abbrev F.ct : Nat := 165
abbrev F.cd : Nat := 166
abbrev F.dz : Nat := 167
abbrev F.dn : Nat := 168
abbrev F.bb : Nat := 169
abbrev F.h : Nat := 170
abbrev F.x : Nat := 171
abbrev F.cx : Nat := 172
abbrev F.cl : Nat := 173
abbrev F.bo : Nat := 174
abbrev F.cm : Nat := 175
abbrev F.o : Nat := 176
abbrev F.cq : Nat := 177
abbrev F.ce : Nat := 178
abbrev F.cn : Nat := 179
abbrev F.ap : Nat := 180
abbrev F.ab : Nat := 181
abbrev F.ay : Nat := 182
abbrev F.dr : Nat := 183
abbrev F.ec : Nat := 184
abbrev F.dd : Nat := 185
abbrev F.de : Nat := 188
abbrev F.ds : Nat := 189
abbrev F.y : Nat := 190
abbrev F.bd : Nat := 191
abbrev F.be : Nat := 192
abbrev F.f : Nat := 193
abbrev F.u : Nat := 194
abbrev F.av : Nat := 195
abbrev F.ed : Nat := 198
abbrev F.al : Nat := 199
abbrev F.az : Nat := 200
abbrev F.am : Nat := 201
abbrev F.au : Nat := 202
abbrev F.aq : Nat := 203
abbrev F.s : Nat := 204
abbrev F.k : Nat := 205
abbrev F.ah : Nat := 206
abbrev F.ax : Nat := 207
abbrev F.t : Nat := 208
abbrev F.ef : Nat := 209
abbrev F.cp : Nat := 211
abbrev F.v : Nat := 212
abbrev F.ak : Nat := 214
abbrev F.j : Nat := 215
abbrev F.ad : Nat := 216
abbrev F.cy : Nat := 217
abbrev F.ea : Nat := 218
abbrev F.bi : Nat := 220
abbrev F.ae : Nat := 222
abbrev T.bg : Nat := 0
abbrev T.b : Nat := 3
abbrev T.au : Nat := 4
abbrev T.aq : Nat := 5
abbrev T.ap : Nat := 9
abbrev T.an : Nat := 20
abbrev T.bf : Nat := 21
abbrev T.am : Nat := 22
abbrev T.ao : Nat := 24
abbrev T.w : Nat := 25
abbrev T.ak : Nat := 26
abbrev T.al : Nat := 27
abbrev T.ag : Nat := 30
abbrev T.z : Nat := 33
abbrev T.g : Nat := 34
abbrev T.e : Nat := 35
abbrev T.l : Nat := 36
abbrev T.k : Nat := 38
abbrev T.c : Nat := 40
abbrev T.bc : Nat := 41
abbrev T.ad : Nat := 42
abbrev T.aa : Nat := 43
abbrev T.h : Nat := 44
abbrev T.a : Nat := 46
abbrev T.f : Nat := 66
abbrev T.ae : Nat := 85
abbrev T.o : Nat := 101
abbrev T.ah : Nat := 103
abbrev T.ba : Nat := 104
abbrev T.p : Nat := 107
abbrev T.m : Nat := 109
abbrev T.i : Nat := 110
abbrev T.d : Nat := 112
abbrev T.bb : Nat := 116
abbrev T.ai : Nat := 118
abbrev T.j : Nat := 123
abbrev T.x : Nat := 139
abbrev T.r : Nat := 150
abbrev T.v : Nat := 157
abbrev T.bd : Nat := 174
abbrev T.u : Nat := 177
abbrev T.ac : Nat := 179
abbrev T.ab : Nat := 182
abbrev T.af : Nat := 185
abbrev T.aj : Nat := 187
abbrev T.be : Nat := 193
abbrev T.ay : Nat := 213
abbrev T.s : Nat := 232
abbrev T.t : Nat := 235
abbrev T.n : Nat := 237
abbrev T.y : Nat := 239
abbrev T.ax : Nat := 254
abbrev T.aw : Nat := 263
abbrev T.av : Nat := 271
abbrev T.q : Nat := 291
abbrev T.ar : Nat := 304
abbrev T.az : Nat := 310
noncomputable abbrev FN.a : Func := Tryz.f123
theorem FN.a.at : P.funcs[F.a]? = some FN.a := Tryz.func123
noncomputable abbrev FN.b : Func := Tryz.f134
theorem FN.b.at : P.funcs[F.b]? = some FN.b := Tryz.func134
noncomputable abbrev FN.c : Func := Tryz.f164
theorem FN.c.at : P.funcs[F.c]? = some FN.c := Tryz.func164
noncomputable abbrev FN.h : Func := Tryz.f170
theorem FN.h.at : P.funcs[F.h]? = some FN.h := Tryz.func170
open Go.Eng
abbrev QQ := World → KV → Prop
def gS : Nat → Nat → PT → PT
 | _, 0, x => x
 | i, n + 1, x => .go i (gS (i + 1) n x)
abbrev fC (f : FuncId) : Prop := ∀ (args : List Value) (w : World) (K : KV), ey P f args w K = ij P f args w K
abbrev rC (f : FuncId) : Prop := ∀ (a c args : List Value) (w : World) (K : KV), ku P (.func (.func f) a.toArray c.toArray) args w K = ij P f (a ++ args ++ c) w K
theorem fcN {f : FuncId} {fn : Func} (hf : P.funcs[f]? = some fn) (h : ((fn.name == "runtime.NumGoroutine"), fn.body.isNone) = (false, false)) : fC f := fun args w K => agh hf (Prod.mk.inj h).1 (Prod.mk.inj h).2 args w K
theorem rcN {f : FuncId} {fn : Func} (hf : P.funcs[f]? = some fn) (h : ((fn.name == "runtime.NumGoroutine"), fn.body.isNone) = (false, false)) : rC f := fun a c args w K => ayp hf (Prod.mk.inj h).1 (Prod.mk.inj h).2 a c args w K
abbrev C0 (f : FuncId) (X : World → KV → Prop) : Prop := ∀ {w : World} {K : KV}, X  w K → ij P f [] w K
theorem mk0 {f : FuncId} {fn : Func} {L : List Nat} {pl : Nat → wo} {X :  World → KV → Prop} (hf : P.funcs[f]? = some fn) (h : (fn.body, abt L pl fn (fn.body.getD .skip) 0, X) = (some (fn.body.getD .skip), true, fun  w K => den P L pl (fn.body.getD .skip) (xy []) w (zp P fn.results.toList K))) : C0 f X := fun  {w K} h' => pf (by kernel_rfl) hf (Prod.mk.inj h).1 (Prod.mk.inj (Prod.mk.inj h).2).1 (cast (congrFun (congrFun ((Prod.mk.inj (Prod.mk.inj h).2).2) w) K) h')
abbrev C1 (f : FuncId) (X : Value → World → KV → Prop) : Prop := ∀ (a0 : Value) {w : World} {K : KV}, X a0 w K → ij P f [a0] w K
theorem mk1 {f : FuncId} {fn : Func} {L : List Nat} {pl : Nat → wo} {X : Value →  World → KV → Prop} (hf : P.funcs[f]? = some fn) (h : (fn.body, abt L pl fn (fn.body.getD .skip) 1, X) = (some (fn.body.getD .skip), true, fun a0 w K => den P L pl (fn.body.getD .skip) (xy [a0]) w (zp P fn.results.toList K))) : C1 f X := fun a0 {w K} h' => pf (by kernel_rfl) hf (Prod.mk.inj h).1 (Prod.mk.inj (Prod.mk.inj h).2).1 (cast (congrFun (congrFun (congrFun ((Prod.mk.inj (Prod.mk.inj h).2).2) a0) w) K) h')
abbrev C2 (f : FuncId) (X : Value → Value → World → KV → Prop) : Prop := ∀ (a0 a1 : Value) {w : World} {K : KV}, X a0 a1 w K → ij P f [a0, a1] w K
theorem mk2 {f : FuncId} {fn : Func} {L : List Nat} {pl : Nat → wo} {X : Value → Value →  World → KV → Prop} (hf : P.funcs[f]? = some fn) (h : (fn.body, abt L pl fn (fn.body.getD .skip) 2, X) = (some (fn.body.getD .skip), true, fun a0 a1 w K => den P L pl (fn.body.getD .skip) (xy [a0, a1]) w (zp P fn.results.toList K))) : C2 f X := fun a0 a1 {w K} h' => pf (by kernel_rfl) hf (Prod.mk.inj h).1 (Prod.mk.inj (Prod.mk.inj h).2).1 (cast (congrFun (congrFun (congrFun (congrFun ((Prod.mk.inj (Prod.mk.inj h).2).2) a0) a1) w) K) h')
abbrev C3 (f : FuncId) (X : Value → Value → Value → World → KV → Prop) : Prop := ∀ (a0 a1 a2 : Value) {w : World} {K : KV}, X a0 a1 a2 w K → ij P f [a0, a1, a2] w K
theorem mk3 {f : FuncId} {fn : Func} {L : List Nat} {pl : Nat → wo} {X : Value → Value → Value →  World → KV → Prop} (hf : P.funcs[f]? = some fn) (h : (fn.body, abt L pl fn (fn.body.getD .skip) 3, X) = (some (fn.body.getD .skip), true, fun a0 a1 a2 w K => den P L pl (fn.body.getD .skip) (xy [a0, a1, a2]) w (zp P fn.results.toList K))) : C3 f X := fun a0 a1 a2 {w K} h' => pf (by kernel_rfl) hf (Prod.mk.inj h).1 (Prod.mk.inj (Prod.mk.inj h).2).1 (cast (congrFun (congrFun (congrFun (congrFun (congrFun ((Prod.mk.inj (Prod.mk.inj h).2).2) a0) a1) a2) w) K) h')
abbrev C4 (f : FuncId) (X : Value → Value → Value → Value → World → KV → Prop) : Prop := ∀ (a0 a1 a2 a3 : Value) {w : World} {K : KV}, X a0 a1 a2 a3 w K → ij P f [a0, a1, a2, a3] w K
theorem mk4 {f : FuncId} {fn : Func} {L : List Nat} {pl : Nat → wo} {X : Value → Value → Value → Value →  World → KV → Prop} (hf : P.funcs[f]? = some fn) (h : (fn.body, abt L pl fn (fn.body.getD .skip) 4, X) = (some (fn.body.getD .skip), true, fun a0 a1 a2 a3 w K => den P L pl (fn.body.getD .skip) (xy [a0, a1, a2, a3]) w (zp P fn.results.toList K))) : C4 f X := fun a0 a1 a2 a3 {w K} h' => pf (by kernel_rfl) hf (Prod.mk.inj h).1 (Prod.mk.inj (Prod.mk.inj h).2).1 (cast (congrFun (congrFun (congrFun (congrFun (congrFun (congrFun ((Prod.mk.inj (Prod.mk.inj h).2).2) a0) a1) a2) a3) w) K) h')
abbrev C5 (f : FuncId) (X : Value → Value → Value → Value → Value → World → KV → Prop) : Prop := ∀ (a0 a1 a2 a3 a4 : Value) {w : World} {K : KV}, X a0 a1 a2 a3 a4 w K → ij P f [a0, a1, a2, a3, a4] w K
theorem mk5 {f : FuncId} {fn : Func} {L : List Nat} {pl : Nat → wo} {X : Value → Value → Value → Value → Value →  World → KV → Prop} (hf : P.funcs[f]? = some fn) (h : (fn.body, abt L pl fn (fn.body.getD .skip) 5, X) = (some (fn.body.getD .skip), true, fun a0 a1 a2 a3 a4 w K => den P L pl (fn.body.getD .skip) (xy [a0, a1, a2, a3, a4]) w (zp P fn.results.toList K))) : C5 f X := fun a0 a1 a2 a3 a4 {w K} h' => pf (by kernel_rfl) hf (Prod.mk.inj h).1 (Prod.mk.inj (Prod.mk.inj h).2).1 (cast (congrFun (congrFun (congrFun (congrFun (congrFun (congrFun (congrFun ((Prod.mk.inj (Prod.mk.inj h).2).2) a0) a1) a2) a3) a4) w) K) h')
abbrev C6 (f : FuncId) (X : Value → Value → Value → Value → Value → Value → World → KV → Prop) : Prop := ∀ (a0 a1 a2 a3 a4 a5 : Value) {w : World} {K : KV}, X a0 a1 a2 a3 a4 a5 w K → ij P f [a0, a1, a2, a3, a4, a5] w K
theorem mk6 {f : FuncId} {fn : Func} {L : List Nat} {pl : Nat → wo} {X : Value → Value → Value → Value → Value → Value →  World → KV → Prop} (hf : P.funcs[f]? = some fn) (h : (fn.body, abt L pl fn (fn.body.getD .skip) 6, X) = (some (fn.body.getD .skip), true, fun a0 a1 a2 a3 a4 a5 w K => den P L pl (fn.body.getD .skip) (xy [a0, a1, a2, a3, a4, a5]) w (zp P fn.results.toList K))) : C6 f X := fun a0 a1 a2 a3 a4 a5 {w K} h' => pf (by kernel_rfl) hf (Prod.mk.inj h).1 (Prod.mk.inj (Prod.mk.inj h).2).1 (cast (congrFun (congrFun (congrFun (congrFun (congrFun (congrFun (congrFun (congrFun ((Prod.mk.inj (Prod.mk.inj h).2).2) a0) a1) a2) a3) a4) a5) w) K) h')
abbrev C7 (f : FuncId) (X : Value → Value → Value → Value → Value → Value → Value → World → KV → Prop) : Prop := ∀ (a0 a1 a2 a3 a4 a5 a6 : Value) {w : World} {K : KV}, X a0 a1 a2 a3 a4 a5 a6 w K → ij P f [a0, a1, a2, a3, a4, a5, a6] w K
theorem mk7 {f : FuncId} {fn : Func} {L : List Nat} {pl : Nat → wo} {X : Value → Value → Value → Value → Value → Value → Value →  World → KV → Prop} (hf : P.funcs[f]? = some fn) (h : (fn.body, abt L pl fn (fn.body.getD .skip) 7, X) = (some (fn.body.getD .skip), true, fun a0 a1 a2 a3 a4 a5 a6 w K => den P L pl (fn.body.getD .skip) (xy [a0, a1, a2, a3, a4, a5, a6]) w (zp P fn.results.toList K))) : C7 f X := fun a0 a1 a2 a3 a4 a5 a6 {w K} h' => pf (by kernel_rfl) hf (Prod.mk.inj h).1 (Prod.mk.inj (Prod.mk.inj h).2).1 (cast (congrFun (congrFun (congrFun (congrFun (congrFun (congrFun (congrFun (congrFun (congrFun ((Prod.mk.inj (Prod.mk.inj h).2).2) a0) a1) a2) a3) a4) a5) a6) w) K) h')
end Go.Proofs.YtfnhoaemapheoaaGreat
