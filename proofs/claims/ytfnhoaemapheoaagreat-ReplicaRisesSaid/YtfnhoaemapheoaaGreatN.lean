/-
  The numbers of the functions and types of this seat by name, printed by wip/Shallow.lean. No condition.
-/
import Derived.Test.YtfnhoaemapheoaaGreatZEng
import Derived.Test.YtfnhoaemapheoaaGreatChecked
import Derived.KernelRfl
namespace Go.Proofs.YtfnhoaemapheoaaGreat
noncomputable abbrev P : Program := Tryz.prog
abbrev F.cf : Nat := 7
abbrev F.bn : Nat := 14
abbrev F.ed : Nat := 15
abbrev F.bb : Nat := 16
abbrev F.bu : Nat := 18
abbrev F.bv : Nat := 19
abbrev F.cr : Nat := 20
abbrev F.k : Nat := 21
abbrev F.ac : Nat := 24
abbrev F.bk : Nat := 27
abbrev F.cv : Nat := 28
abbrev F.cs : Nat := 29
abbrev F.cy : Nat := 30
abbrev F.ct : Nat := 31
abbrev F.az : Nat := 46
abbrev F.el : Nat := 47
abbrev F.bw : Nat := 48
abbrev F.du : Nat := 49
abbrev F.db : Nat := 50
abbrev F.bf : Nat := 51
abbrev F.l : Nat := 52
abbrev F.ea : Nat := 53
abbrev F.ao : Nat := 54
abbrev F.cz : Nat := 55
abbrev F.df : Nat := 56
abbrev F.bc : Nat := 57
abbrev F.cw : Nat := 58
abbrev F.dg : Nat := 59
abbrev F.dl : Nat := 66
abbrev F.dr : Nat := 67
abbrev F.g : Nat := 71
abbrev F.ap : Nat := 74
abbrev F.ay : Nat := 83
abbrev F.e : Nat := 85
abbrev F.ee : Nat := 86
abbrev F.cb : Nat := 87
abbrev F.ci : Nat := 88
abbrev F.q : Nat := 89
abbrev F.ei : Nat := 90
abbrev F.dm : Nat := 91
abbrev F.bp : Nat := 92
abbrev F.cl : Nat := 93
abbrev F.bo : Nat := 94
abbrev F.m : Nat := 95
abbrev F.bz : Nat := 96
abbrev F.ds : Nat := 97
abbrev F.cj : Nat := 98
abbrev F.bs : Nat := 99
abbrev F.dc : Nat := 100
abbrev F.dh : Nat := 101
abbrev F.dw : Nat := 102
abbrev F.cc : Nat := 107
abbrev F.r : Nat := 112
abbrev F.ck : Nat := 113
abbrev F.ad : Nat := 114
abbrev F.ca : Nat := 121
abbrev F.a : Nat := 123
abbrev F.bq : Nat := 124
abbrev F.bh : Nat := 125
abbrev F.cm : Nat := 126
abbrev F.ef : Nat := 127
abbrev F.dn : Nat := 128
abbrev F.dq : Nat := 129
abbrev F.bl : Nat := 130
abbrev F.ce : Nat := 131
abbrev F.cn : Nat := 132
abbrev F.bt : Nat := 133
abbrev F.b : Nat := 134
abbrev F.aj : Nat := 135
abbrev F.dt : Nat := 136
abbrev F.p : Nat := 137
abbrev F.ak : Nat := 138
abbrev F.dx : Nat := 139
abbrev F.dp : Nat := 140
abbrev F.cd : Nat := 141
abbrev F.eb : Nat := 146
abbrev F.z : Nat := 149
abbrev F.av : Nat := 150
abbrev F.aa : Nat := 151
abbrev F.ah : Nat := 152
abbrev F.ag : Nat := 153
abbrev F.n : Nat := 154
abbrev F.d : Nat := 155
abbrev F.w : Nat := 156
abbrev F.aq : Nat := 157
abbrev F.en : Nat := 158
abbrev F.di : Nat := 159
abbrev F.ec : Nat := 161
abbrev F.bx : Nat := 162
abbrev F.c : Nat := 164
abbrev F.da : Nat := 165
abbrev F.cg : Nat := 166
abbrev F.eg : Nat := 167
abbrev F.dv : Nat := 168
abbrev F.bg : Nat := 169
abbrev F.h : Nat := 170
abbrev F.x : Nat := 171
abbrev F.dd : Nat := 172
abbrev F.co : Nat := 173
abbrev F.br : Nat := 174
abbrev F.cp : Nat := 175
abbrev F.o : Nat := 176
abbrev F.cx : Nat := 177
abbrev F.ch : Nat := 178
abbrev F.cq : Nat := 179
abbrev F.ar : Nat := 180
abbrev F.ab : Nat := 181
abbrev F.bd : Nat := 182
abbrev F.dy : Nat := 183
abbrev F.ej : Nat := 184
abbrev F.dj : Nat := 185
abbrev F.dk : Nat := 188
abbrev F.dz : Nat := 189
abbrev F.y : Nat := 190
abbrev F.bi : Nat := 191
abbrev F.bj : Nat := 192
abbrev F.f : Nat := 193
abbrev F.u : Nat := 194
abbrev F.ax : Nat := 195
abbrev F.ek : Nat := 198
abbrev F.am : Nat := 199
abbrev F.be : Nat := 200
abbrev F.an : Nat := 201
abbrev F.aw : Nat := 202
abbrev F.au : Nat := 203
abbrev F.s : Nat := 204
abbrev F.j : Nat := 205
abbrev F.ai : Nat := 206
abbrev F.ba : Nat := 207
abbrev F.t : Nat := 208
abbrev F.em : Nat := 209
abbrev F.cu : Nat := 211
abbrev F.v : Nat := 212
abbrev F.al : Nat := 214
abbrev F.i : Nat := 215
abbrev F.ae : Nat := 216
abbrev F.de : Nat := 217
abbrev F.eh : Nat := 218
abbrev F.bm : Nat := 220
abbrev F.af : Nat := 222
abbrev T.be : Nat := 0
abbrev T.a : Nat := 3
abbrev T.ar : Nat := 4
abbrev T.ap : Nat := 5
abbrev T.al : Nat := 9
abbrev T.ao : Nat := 20
abbrev T.bd : Nat := 21
abbrev T.ak : Nat := 26
abbrev T.ai : Nat := 27
abbrev T.am : Nat := 30
abbrev T.aj : Nat := 33
abbrev T.h : Nat := 34
abbrev T.f : Nat := 35
abbrev T.p : Nat := 36
abbrev T.c : Nat := 40
abbrev T.t : Nat := 42
abbrev T.v : Nat := 43
abbrev T.g : Nat := 44
abbrev T.b : Nat := 46
abbrev T.ae : Nat := 52
abbrev T.an : Nat := 56
abbrev T.e : Nat := 66
abbrev T.w : Nat := 72
abbrev T.ac : Nat := 85
abbrev T.o : Nat := 101
abbrev T.af : Nat := 103
abbrev T.au : Nat := 104
abbrev T.m : Nat := 107
abbrev T.i : Nat := 109
abbrev T.j : Nat := 110
abbrev T.d : Nat := 112
abbrev T.ba : Nat := 116
abbrev T.ag : Nat := 118
abbrev T.k : Nat := 123
abbrev T.z : Nat := 139
abbrev T.r : Nat := 150
abbrev T.x : Nat := 157
abbrev T.bb : Nat := 174
abbrev T.l : Nat := 177
abbrev T.y : Nat := 179
abbrev T.aa : Nat := 182
abbrev T.ad : Nat := 185
abbrev T.ah : Nat := 187
abbrev T.bc : Nat := 193
abbrev T.ay : Nat := 213
abbrev T.s : Nat := 232
abbrev T.u : Nat := 235
abbrev T.n : Nat := 237
abbrev T.ab : Nat := 239
abbrev T.ax : Nat := 254
abbrev T.aw : Nat := 263
abbrev T.av : Nat := 271
abbrev T.q : Nat := 291
abbrev T.aq : Nat := 304
abbrev T.az : Nat := 310
noncomputable abbrev FN.a : Func := Tryz.f123
theorem FN.a.at : P.funcs[F.a]? = some FN.a := Tryz.func123
noncomputable abbrev FN.b : Func := Tryz.f134
theorem FN.b.at : P.funcs[F.b]? = some FN.b := Tryz.func134
noncomputable abbrev FN.c : Func := Tryz.f164
theorem FN.c.at : P.funcs[F.c]? = some FN.c := Tryz.func164
noncomputable abbrev FN.h : Func := Tryz.f170
theorem FN.h.at : P.funcs[F.h]? = some FN.h := Tryz.func170
open Go.Eng
abbrev QQ := World → KV → Prop
def gS : Nat → Nat → PT → PT
 | _, 0, x => x
 | i, n + 1, x => .go i (gS (i + 1) n x)
abbrev fC (f : FuncId) : Prop := ∀ (args : List Value) (w : World) (K : KV), fg P f args w K = il P f args w K
abbrev rC (f : FuncId) : Prop := ∀ (a c args : List Value) (w : World) (K : KV), la P (.func (.func f) a.toArray c.toArray) args w K = il P f (a ++ args ++ c) w K
theorem fcN {f : FuncId} {fn : Func} (hf : P.funcs[f]? = some fn) (h : ((fn.name == "runtime.NumGoroutine"), fn.body.isNone) = (false, false)) : fC f := fun args w K => aef hf (Prod.mk.inj h).1 (Prod.mk.inj h).2 args w K
theorem rcN {f : FuncId} {fn : Func} (hf : P.funcs[f]? = some fn) (h : ((fn.name == "runtime.NumGoroutine"), fn.body.isNone) = (false, false)) : rC f := fun a c args w K => aww hf (Prod.mk.inj h).1 (Prod.mk.inj h).2 a c args w K
abbrev C0 (f : FuncId) (X : World → KV → Prop) : Prop := ∀ {w : World} {K : KV}, X  w K → il P f [] w K
theorem mk0 {f : FuncId} {fn : Func} {L : List Nat} {pl : Nat → vp} {X :  World → KV → Prop} (hf : P.funcs[f]? = some fn) (h : (fn.body, abu L pl fn (fn.body.getD .skip) 0, X) = (some (fn.body.getD .skip), true, fun  w K => den P L pl (fn.body.getD .skip) (xp []) w (yy P fn.results.toList K))) : C0 f X := fun  {w K} h' => oy (by kernel_rfl) hf (Prod.mk.inj h).1 (Prod.mk.inj (Prod.mk.inj h).2).1 (cast (congrFun (congrFun ((Prod.mk.inj (Prod.mk.inj h).2).2) w) K) h')
abbrev C1 (f : FuncId) (X : Value → World → KV → Prop) : Prop := ∀ (a0 : Value) {w : World} {K : KV}, X a0 w K → il P f [a0] w K
theorem mk1 {f : FuncId} {fn : Func} {L : List Nat} {pl : Nat → vp} {X : Value →  World → KV → Prop} (hf : P.funcs[f]? = some fn) (h : (fn.body, abu L pl fn (fn.body.getD .skip) 1, X) = (some (fn.body.getD .skip), true, fun a0 w K => den P L pl (fn.body.getD .skip) (xp [a0]) w (yy P fn.results.toList K))) : C1 f X := fun a0 {w K} h' => oy (by kernel_rfl) hf (Prod.mk.inj h).1 (Prod.mk.inj (Prod.mk.inj h).2).1 (cast (congrFun (congrFun (congrFun ((Prod.mk.inj (Prod.mk.inj h).2).2) a0) w) K) h')
abbrev C2 (f : FuncId) (X : Value → Value → World → KV → Prop) : Prop := ∀ (a0 a1 : Value) {w : World} {K : KV}, X a0 a1 w K → il P f [a0, a1] w K
theorem mk2 {f : FuncId} {fn : Func} {L : List Nat} {pl : Nat → vp} {X : Value → Value →  World → KV → Prop} (hf : P.funcs[f]? = some fn) (h : (fn.body, abu L pl fn (fn.body.getD .skip) 2, X) = (some (fn.body.getD .skip), true, fun a0 a1 w K => den P L pl (fn.body.getD .skip) (xp [a0, a1]) w (yy P fn.results.toList K))) : C2 f X := fun a0 a1 {w K} h' => oy (by kernel_rfl) hf (Prod.mk.inj h).1 (Prod.mk.inj (Prod.mk.inj h).2).1 (cast (congrFun (congrFun (congrFun (congrFun ((Prod.mk.inj (Prod.mk.inj h).2).2) a0) a1) w) K) h')
abbrev C3 (f : FuncId) (X : Value → Value → Value → World → KV → Prop) : Prop := ∀ (a0 a1 a2 : Value) {w : World} {K : KV}, X a0 a1 a2 w K → il P f [a0, a1, a2] w K
theorem mk3 {f : FuncId} {fn : Func} {L : List Nat} {pl : Nat → vp} {X : Value → Value → Value →  World → KV → Prop} (hf : P.funcs[f]? = some fn) (h : (fn.body, abu L pl fn (fn.body.getD .skip) 3, X) = (some (fn.body.getD .skip), true, fun a0 a1 a2 w K => den P L pl (fn.body.getD .skip) (xp [a0, a1, a2]) w (yy P fn.results.toList K))) : C3 f X := fun a0 a1 a2 {w K} h' => oy (by kernel_rfl) hf (Prod.mk.inj h).1 (Prod.mk.inj (Prod.mk.inj h).2).1 (cast (congrFun (congrFun (congrFun (congrFun (congrFun ((Prod.mk.inj (Prod.mk.inj h).2).2) a0) a1) a2) w) K) h')
abbrev C4 (f : FuncId) (X : Value → Value → Value → Value → World → KV → Prop) : Prop := ∀ (a0 a1 a2 a3 : Value) {w : World} {K : KV}, X a0 a1 a2 a3 w K → il P f [a0, a1, a2, a3] w K
theorem mk4 {f : FuncId} {fn : Func} {L : List Nat} {pl : Nat → vp} {X : Value → Value → Value → Value →  World → KV → Prop} (hf : P.funcs[f]? = some fn) (h : (fn.body, abu L pl fn (fn.body.getD .skip) 4, X) = (some (fn.body.getD .skip), true, fun a0 a1 a2 a3 w K => den P L pl (fn.body.getD .skip) (xp [a0, a1, a2, a3]) w (yy P fn.results.toList K))) : C4 f X := fun a0 a1 a2 a3 {w K} h' => oy (by kernel_rfl) hf (Prod.mk.inj h).1 (Prod.mk.inj (Prod.mk.inj h).2).1 (cast (congrFun (congrFun (congrFun (congrFun (congrFun (congrFun ((Prod.mk.inj (Prod.mk.inj h).2).2) a0) a1) a2) a3) w) K) h')
abbrev C5 (f : FuncId) (X : Value → Value → Value → Value → Value → World → KV → Prop) : Prop := ∀ (a0 a1 a2 a3 a4 : Value) {w : World} {K : KV}, X a0 a1 a2 a3 a4 w K → il P f [a0, a1, a2, a3, a4] w K
theorem mk5 {f : FuncId} {fn : Func} {L : List Nat} {pl : Nat → vp} {X : Value → Value → Value → Value → Value →  World → KV → Prop} (hf : P.funcs[f]? = some fn) (h : (fn.body, abu L pl fn (fn.body.getD .skip) 5, X) = (some (fn.body.getD .skip), true, fun a0 a1 a2 a3 a4 w K => den P L pl (fn.body.getD .skip) (xp [a0, a1, a2, a3, a4]) w (yy P fn.results.toList K))) : C5 f X := fun a0 a1 a2 a3 a4 {w K} h' => oy (by kernel_rfl) hf (Prod.mk.inj h).1 (Prod.mk.inj (Prod.mk.inj h).2).1 (cast (congrFun (congrFun (congrFun (congrFun (congrFun (congrFun (congrFun ((Prod.mk.inj (Prod.mk.inj h).2).2) a0) a1) a2) a3) a4) w) K) h')
abbrev C6 (f : FuncId) (X : Value → Value → Value → Value → Value → Value → World → KV → Prop) : Prop := ∀ (a0 a1 a2 a3 a4 a5 : Value) {w : World} {K : KV}, X a0 a1 a2 a3 a4 a5 w K → il P f [a0, a1, a2, a3, a4, a5] w K
theorem mk6 {f : FuncId} {fn : Func} {L : List Nat} {pl : Nat → vp} {X : Value → Value → Value → Value → Value → Value →  World → KV → Prop} (hf : P.funcs[f]? = some fn) (h : (fn.body, abu L pl fn (fn.body.getD .skip) 6, X) = (some (fn.body.getD .skip), true, fun a0 a1 a2 a3 a4 a5 w K => den P L pl (fn.body.getD .skip) (xp [a0, a1, a2, a3, a4, a5]) w (yy P fn.results.toList K))) : C6 f X := fun a0 a1 a2 a3 a4 a5 {w K} h' => oy (by kernel_rfl) hf (Prod.mk.inj h).1 (Prod.mk.inj (Prod.mk.inj h).2).1 (cast (congrFun (congrFun (congrFun (congrFun (congrFun (congrFun (congrFun (congrFun ((Prod.mk.inj (Prod.mk.inj h).2).2) a0) a1) a2) a3) a4) a5) w) K) h')
abbrev C7 (f : FuncId) (X : Value → Value → Value → Value → Value → Value → Value → World → KV → Prop) : Prop := ∀ (a0 a1 a2 a3 a4 a5 a6 : Value) {w : World} {K : KV}, X a0 a1 a2 a3 a4 a5 a6 w K → il P f [a0, a1, a2, a3, a4, a5, a6] w K
theorem mk7 {f : FuncId} {fn : Func} {L : List Nat} {pl : Nat → vp} {X : Value → Value → Value → Value → Value → Value → Value →  World → KV → Prop} (hf : P.funcs[f]? = some fn) (h : (fn.body, abu L pl fn (fn.body.getD .skip) 7, X) = (some (fn.body.getD .skip), true, fun a0 a1 a2 a3 a4 a5 a6 w K => den P L pl (fn.body.getD .skip) (xp [a0, a1, a2, a3, a4, a5, a6]) w (yy P fn.results.toList K))) : C7 f X := fun a0 a1 a2 a3 a4 a5 a6 {w K} h' => oy (by kernel_rfl) hf (Prod.mk.inj h).1 (Prod.mk.inj (Prod.mk.inj h).2).1 (cast (congrFun (congrFun (congrFun (congrFun (congrFun (congrFun (congrFun (congrFun (congrFun ((Prod.mk.inj (Prod.mk.inj h).2).2) a0) a1) a2) a3) a4) a5) a6) w) K) h')
end Go.Proofs.YtfnhoaemapheoaaGreat
