/-
  The numbers of the functions and types of this seat by name, printed by wip/Shallow.lean. No condition.
-/
import Derived.Test.YtfnhoaemapheoaaGreatZEng
import Derived.Test.YtfnhoaemapheoaaGreatChecked
import Derived.KernelRfl
namespace Go.Proofs.YtfnhoaemapheoaaGreat
noncomputable abbrev P : Program := Tryz.prog
abbrev F.bx : Nat := 8
abbrev F.ap : Nat := 14
abbrev F.ec : Nat := 15
abbrev F.bz : Nat := 16
abbrev F.cw : Nat := 19
abbrev F.l : Nat := 21
abbrev F.az : Nat := 24
abbrev F.bw : Nat := 25
abbrev F.bm : Nat := 26
abbrev F.bn : Nat := 27
abbrev F.cs : Nat := 29
abbrev F.cx : Nat := 30
abbrev F.j : Nat := 32
abbrev F.ah : Nat := 46
abbrev F.ek : Nat := 47
abbrev F.bg : Nat := 48
abbrev F.dt : Nat := 49
abbrev F.da : Nat := 50
abbrev F.bh : Nat := 51
abbrev F.m : Nat := 52
abbrev F.dz : Nat := 53
abbrev F.aq : Nat := 54
abbrev F.cy : Nat := 55
abbrev F.de : Nat := 56
abbrev F.bd : Nat := 57
abbrev F.cu : Nat := 58
abbrev F.df : Nat := 59
abbrev F.dk : Nat := 66
abbrev F.dq : Nat := 67
abbrev F.g : Nat := 71
abbrev F.ar : Nat := 74
abbrev F.bb : Nat := 83
abbrev F.e : Nat := 85
abbrev F.ed : Nat := 86
abbrev F.cd : Nat := 87
abbrev F.cj : Nat := 88
abbrev F.r : Nat := 89
abbrev F.eh : Nat := 90
abbrev F.dl : Nat := 91
abbrev F.br : Nat := 92
abbrev F.cm : Nat := 93
abbrev F.bq : Nat := 94
abbrev F.n : Nat := 95
abbrev F.cb : Nat := 96
abbrev F.dr : Nat := 97
abbrev F.ck : Nat := 98
abbrev F.bu : Nat := 99
abbrev F.db : Nat := 100
abbrev F.dg : Nat := 101
abbrev F.dv : Nat := 102
abbrev F.ce : Nat := 107
abbrev F.s : Nat := 112
abbrev F.cl : Nat := 113
abbrev F.ad : Nat := 114
abbrev F.cc : Nat := 121
abbrev F.a : Nat := 123
abbrev F.bs : Nat := 124
abbrev F.bj : Nat := 125
abbrev F.cn : Nat := 126
abbrev F.ee : Nat := 127
abbrev F.dm : Nat := 128
abbrev F.dp : Nat := 129
abbrev F.bo : Nat := 130
abbrev F.cg : Nat := 131
abbrev F.co : Nat := 132
abbrev F.bv : Nat := 133
abbrev F.b : Nat := 134
abbrev F.ak : Nat := 135
abbrev F.ds : Nat := 136
abbrev F.q : Nat := 137
abbrev F.al : Nat := 138
abbrev F.dw : Nat := 139
abbrev F.dn : Nat := 140
abbrev F.cf : Nat := 141
abbrev F.ea : Nat := 146
abbrev F.aa : Nat := 149
abbrev F.ax : Nat := 150
abbrev F.ab : Nat := 151
abbrev F.ai : Nat := 152
abbrev F.ag : Nat := 153
abbrev F.o : Nat := 154
abbrev F.d : Nat := 155
abbrev F.x : Nat := 156
abbrev F.au : Nat := 157
abbrev F.em : Nat := 158
abbrev F.dh : Nat := 159
abbrev F.eb : Nat := 161
abbrev F.ca : Nat := 162
abbrev F.c : Nat := 164
abbrev F.cz : Nat := 165
abbrev F.ch : Nat := 166
abbrev F.ef : Nat := 167
abbrev F.du : Nat := 168
abbrev F.bi : Nat := 169
abbrev F.h : Nat := 170
abbrev F.y : Nat := 171
abbrev F.dc : Nat := 172
abbrev F.cp : Nat := 173
abbrev F.bt : Nat := 174
abbrev F.cq : Nat := 175
abbrev F.p : Nat := 176
abbrev F.cv : Nat := 177
abbrev F.ci : Nat := 178
abbrev F.cr : Nat := 179
abbrev F.av : Nat := 180
abbrev F.ac : Nat := 181
abbrev F.be : Nat := 182
abbrev F.dx : Nat := 183
abbrev F.ei : Nat := 184
abbrev F.di : Nat := 185
abbrev F.dj : Nat := 188
abbrev F.dy : Nat := 189
abbrev F.z : Nat := 190
abbrev F.bk : Nat := 191
abbrev F.bl : Nat := 192
abbrev F.f : Nat := 193
abbrev F.v : Nat := 194
abbrev F.ba : Nat := 195
abbrev F.ej : Nat := 198
abbrev F.an : Nat := 199
abbrev F.bf : Nat := 200
abbrev F.ao : Nat := 201
abbrev F.ay : Nat := 202
abbrev F.aw : Nat := 203
abbrev F.t : Nat := 204
abbrev F.k : Nat := 205
abbrev F.aj : Nat := 206
abbrev F.bc : Nat := 207
abbrev F.u : Nat := 208
abbrev F.el : Nat := 209
abbrev F.ct : Nat := 211
abbrev F.w : Nat := 212
abbrev F.am : Nat := 214
abbrev F.i : Nat := 215
abbrev F.ae : Nat := 216
abbrev F.dd : Nat := 217
abbrev F.eg : Nat := 218
abbrev F.bp : Nat := 220
abbrev F.af : Nat := 222
abbrev T.be : Nat := 0
abbrev T.a : Nat := 3
abbrev T.au : Nat := 4
abbrev T.ap : Nat := 5
abbrev T.an : Nat := 9
abbrev T.ao : Nat := 20
abbrev T.bd : Nat := 21
abbrev T.ak : Nat := 26
abbrev T.ai : Nat := 27
abbrev T.al : Nat := 30
abbrev T.am : Nat := 33
abbrev T.h : Nat := 34
abbrev T.f : Nat := 35
abbrev T.r : Nat := 36
abbrev T.d : Nat := 40
abbrev T.t : Nat := 42
abbrev T.v : Nat := 43
abbrev T.g : Nat := 44
abbrev T.b : Nat := 46
abbrev T.ab : Nat := 54
abbrev T.e : Nat := 66
abbrev T.aj : Nat := 72
abbrev T.ac : Nat := 85
abbrev T.o : Nat := 101
abbrev T.af : Nat := 103
abbrev T.aq : Nat := 104
abbrev T.m : Nat := 107
abbrev T.i : Nat := 109
abbrev T.j : Nat := 110
abbrev T.c : Nat := 112
abbrev T.ba : Nat := 116
abbrev T.ag : Nat := 118
abbrev T.k : Nat := 123
abbrev T.y : Nat := 139
abbrev T.ae : Nat := 142
abbrev T.q : Nat := 150
abbrev T.w : Nat := 157
abbrev T.bb : Nat := 174
abbrev T.l : Nat := 177
abbrev T.x : Nat := 179
abbrev T.z : Nat := 182
abbrev T.ad : Nat := 185
abbrev T.ah : Nat := 187
abbrev T.bc : Nat := 193
abbrev T.ay : Nat := 213
abbrev T.s : Nat := 232
abbrev T.u : Nat := 235
abbrev T.n : Nat := 237
abbrev T.aa : Nat := 239
abbrev T.ax : Nat := 254
abbrev T.aw : Nat := 263
abbrev T.av : Nat := 271
abbrev T.p : Nat := 291
abbrev T.ar : Nat := 304
abbrev T.az : Nat := 310
noncomputable abbrev FN.a : Func := Tryz.f123
theorem FN.a.at : P.funcs[F.a]? = some FN.a := Tryz.func123
noncomputable abbrev FN.b : Func := Tryz.f134
theorem FN.b.at : P.funcs[F.b]? = some FN.b := Tryz.func134
noncomputable abbrev FN.c : Func := Tryz.f164
theorem FN.c.at : P.funcs[F.c]? = some FN.c := Tryz.func164
noncomputable abbrev FN.h : Func := Tryz.f170
theorem FN.h.at : P.funcs[F.h]? = some FN.h := Tryz.func170
open Go.Eng
abbrev QQ := World → KV → Prop
def gS : Nat → Nat → PT → PT
 | _, 0, x => x
 | i, n + 1, x => .go i (gS (i + 1) n x)
abbrev fC (f : FuncId) : Prop := ∀ (args : List Value) (w : World) (K : KV), fe P f args w K = ik P f args w K
abbrev rC (f : FuncId) : Prop := ∀ (a c args : List Value) (w : World) (K : KV), ku P (.func (.func f) a.toArray c.toArray) args w K = ik P f (a ++ args ++ c) w K
theorem fcN {f : FuncId} {fn : Func} (hf : P.funcs[f]? = some fn) (h : ((fn.name == "runtime.NumGoroutine"), fn.body.isNone) = (false, false)) : fC f := fun args w K => aem hf (Prod.mk.inj h).1 (Prod.mk.inj h).2 args w K
theorem rcN {f : FuncId} {fn : Func} (hf : P.funcs[f]? = some fn) (h : ((fn.name == "runtime.NumGoroutine"), fn.body.isNone) = (false, false)) : rC f := fun a c args w K => azd hf (Prod.mk.inj h).1 (Prod.mk.inj h).2 a c args w K
abbrev C0 (f : FuncId) (X : World → KV → Prop) : Prop := ∀ {w : World} {K : KV}, X  w K → ik P f [] w K
theorem mk0 {f : FuncId} {fn : Func} {L : List Nat} {pl : Nat → vh} {X :  World → KV → Prop} (hf : P.funcs[f]? = some fn) (h : (fn.body, abq L pl fn (fn.body.getD .skip) 0, X) = (some (fn.body.getD .skip), true, fun  w K => den P L pl (fn.body.getD .skip) (xc []) w (zd P fn.results.toList K))) : C0 f X := fun  {w K} h' => ot (by kernel_rfl) hf (Prod.mk.inj h).1 (Prod.mk.inj (Prod.mk.inj h).2).1 (cast (congrFun (congrFun ((Prod.mk.inj (Prod.mk.inj h).2).2) w) K) h')
abbrev C1 (f : FuncId) (X : Value → World → KV → Prop) : Prop := ∀ (a0 : Value) {w : World} {K : KV}, X a0 w K → ik P f [a0] w K
theorem mk1 {f : FuncId} {fn : Func} {L : List Nat} {pl : Nat → vh} {X : Value →  World → KV → Prop} (hf : P.funcs[f]? = some fn) (h : (fn.body, abq L pl fn (fn.body.getD .skip) 1, X) = (some (fn.body.getD .skip), true, fun a0 w K => den P L pl (fn.body.getD .skip) (xc [a0]) w (zd P fn.results.toList K))) : C1 f X := fun a0 {w K} h' => ot (by kernel_rfl) hf (Prod.mk.inj h).1 (Prod.mk.inj (Prod.mk.inj h).2).1 (cast (congrFun (congrFun (congrFun ((Prod.mk.inj (Prod.mk.inj h).2).2) a0) w) K) h')
abbrev C2 (f : FuncId) (X : Value → Value → World → KV → Prop) : Prop := ∀ (a0 a1 : Value) {w : World} {K : KV}, X a0 a1 w K → ik P f [a0, a1] w K
theorem mk2 {f : FuncId} {fn : Func} {L : List Nat} {pl : Nat → vh} {X : Value → Value →  World → KV → Prop} (hf : P.funcs[f]? = some fn) (h : (fn.body, abq L pl fn (fn.body.getD .skip) 2, X) = (some (fn.body.getD .skip), true, fun a0 a1 w K => den P L pl (fn.body.getD .skip) (xc [a0, a1]) w (zd P fn.results.toList K))) : C2 f X := fun a0 a1 {w K} h' => ot (by kernel_rfl) hf (Prod.mk.inj h).1 (Prod.mk.inj (Prod.mk.inj h).2).1 (cast (congrFun (congrFun (congrFun (congrFun ((Prod.mk.inj (Prod.mk.inj h).2).2) a0) a1) w) K) h')
abbrev C3 (f : FuncId) (X : Value → Value → Value → World → KV → Prop) : Prop := ∀ (a0 a1 a2 : Value) {w : World} {K : KV}, X a0 a1 a2 w K → ik P f [a0, a1, a2] w K
theorem mk3 {f : FuncId} {fn : Func} {L : List Nat} {pl : Nat → vh} {X : Value → Value → Value →  World → KV → Prop} (hf : P.funcs[f]? = some fn) (h : (fn.body, abq L pl fn (fn.body.getD .skip) 3, X) = (some (fn.body.getD .skip), true, fun a0 a1 a2 w K => den P L pl (fn.body.getD .skip) (xc [a0, a1, a2]) w (zd P fn.results.toList K))) : C3 f X := fun a0 a1 a2 {w K} h' => ot (by kernel_rfl) hf (Prod.mk.inj h).1 (Prod.mk.inj (Prod.mk.inj h).2).1 (cast (congrFun (congrFun (congrFun (congrFun (congrFun ((Prod.mk.inj (Prod.mk.inj h).2).2) a0) a1) a2) w) K) h')
abbrev C4 (f : FuncId) (X : Value → Value → Value → Value → World → KV → Prop) : Prop := ∀ (a0 a1 a2 a3 : Value) {w : World} {K : KV}, X a0 a1 a2 a3 w K → ik P f [a0, a1, a2, a3] w K
theorem mk4 {f : FuncId} {fn : Func} {L : List Nat} {pl : Nat → vh} {X : Value → Value → Value → Value →  World → KV → Prop} (hf : P.funcs[f]? = some fn) (h : (fn.body, abq L pl fn (fn.body.getD .skip) 4, X) = (some (fn.body.getD .skip), true, fun a0 a1 a2 a3 w K => den P L pl (fn.body.getD .skip) (xc [a0, a1, a2, a3]) w (zd P fn.results.toList K))) : C4 f X := fun a0 a1 a2 a3 {w K} h' => ot (by kernel_rfl) hf (Prod.mk.inj h).1 (Prod.mk.inj (Prod.mk.inj h).2).1 (cast (congrFun (congrFun (congrFun (congrFun (congrFun (congrFun ((Prod.mk.inj (Prod.mk.inj h).2).2) a0) a1) a2) a3) w) K) h')
abbrev C5 (f : FuncId) (X : Value → Value → Value → Value → Value → World → KV → Prop) : Prop := ∀ (a0 a1 a2 a3 a4 : Value) {w : World} {K : KV}, X a0 a1 a2 a3 a4 w K → ik P f [a0, a1, a2, a3, a4] w K
theorem mk5 {f : FuncId} {fn : Func} {L : List Nat} {pl : Nat → vh} {X : Value → Value → Value → Value → Value →  World → KV → Prop} (hf : P.funcs[f]? = some fn) (h : (fn.body, abq L pl fn (fn.body.getD .skip) 5, X) = (some (fn.body.getD .skip), true, fun a0 a1 a2 a3 a4 w K => den P L pl (fn.body.getD .skip) (xc [a0, a1, a2, a3, a4]) w (zd P fn.results.toList K))) : C5 f X := fun a0 a1 a2 a3 a4 {w K} h' => ot (by kernel_rfl) hf (Prod.mk.inj h).1 (Prod.mk.inj (Prod.mk.inj h).2).1 (cast (congrFun (congrFun (congrFun (congrFun (congrFun (congrFun (congrFun ((Prod.mk.inj (Prod.mk.inj h).2).2) a0) a1) a2) a3) a4) w) K) h')
abbrev C6 (f : FuncId) (X : Value → Value → Value → Value → Value → Value → World → KV → Prop) : Prop := ∀ (a0 a1 a2 a3 a4 a5 : Value) {w : World} {K : KV}, X a0 a1 a2 a3 a4 a5 w K → ik P f [a0, a1, a2, a3, a4, a5] w K
theorem mk6 {f : FuncId} {fn : Func} {L : List Nat} {pl : Nat → vh} {X : Value → Value → Value → Value → Value → Value →  World → KV → Prop} (hf : P.funcs[f]? = some fn) (h : (fn.body, abq L pl fn (fn.body.getD .skip) 6, X) = (some (fn.body.getD .skip), true, fun a0 a1 a2 a3 a4 a5 w K => den P L pl (fn.body.getD .skip) (xc [a0, a1, a2, a3, a4, a5]) w (zd P fn.results.toList K))) : C6 f X := fun a0 a1 a2 a3 a4 a5 {w K} h' => ot (by kernel_rfl) hf (Prod.mk.inj h).1 (Prod.mk.inj (Prod.mk.inj h).2).1 (cast (congrFun (congrFun (congrFun (congrFun (congrFun (congrFun (congrFun (congrFun ((Prod.mk.inj (Prod.mk.inj h).2).2) a0) a1) a2) a3) a4) a5) w) K) h')
abbrev C7 (f : FuncId) (X : Value → Value → Value → Value → Value → Value → Value → World → KV → Prop) : Prop := ∀ (a0 a1 a2 a3 a4 a5 a6 : Value) {w : World} {K : KV}, X a0 a1 a2 a3 a4 a5 a6 w K → ik P f [a0, a1, a2, a3, a4, a5, a6] w K
theorem mk7 {f : FuncId} {fn : Func} {L : List Nat} {pl : Nat → vh} {X : Value → Value → Value → Value → Value → Value → Value →  World → KV → Prop} (hf : P.funcs[f]? = some fn) (h : (fn.body, abq L pl fn (fn.body.getD .skip) 7, X) = (some (fn.body.getD .skip), true, fun a0 a1 a2 a3 a4 a5 a6 w K => den P L pl (fn.body.getD .skip) (xc [a0, a1, a2, a3, a4, a5, a6]) w (zd P fn.results.toList K))) : C7 f X := fun a0 a1 a2 a3 a4 a5 a6 {w K} h' => ot (by kernel_rfl) hf (Prod.mk.inj h).1 (Prod.mk.inj (Prod.mk.inj h).2).1 (cast (congrFun (congrFun (congrFun (congrFun (congrFun (congrFun (congrFun (congrFun (congrFun ((Prod.mk.inj (Prod.mk.inj h).2).2) a0) a1) a2) a3) a4) a5) a6) w) K) h')
end Go.Proofs.YtfnhoaemapheoaaGreat
