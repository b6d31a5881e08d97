/-
  The numbers of the functions and types of this seat by name, printed by wip/Shallow.lean. No condition.
-/
import Derived.Test.YtfnhoaemapheoaaGreatZEng
import Derived.Test.YtfnhoaemapheoaaGreatChecked
import Derived.KernelRfl
namespace Go.Proofs.YtfnhoaemapheoaaGreat
noncomputable abbrev P : Program := Tryz.prog
abbrev F.dd : Nat := 9
abbrev F.et : Nat := 15
abbrev F.dk : Nat := 19
abbrev F.co : Nat := 23
abbrev F.ci : Nat := 29
abbrev F.cj : Nat := 33
abbrev F.bt : Nat := 34
abbrev F.dl : Nat := 35
abbrev F.ax : Nat := 36
abbrev F.bb : Nat := 37
abbrev F.bu : Nat := 38
abbrev F.fb : Nat := 47
abbrev F.cp : Nat := 48
abbrev F.ds : Nat := 50
abbrev F.bm : Nat := 51
abbrev F.ao : Nat := 52
abbrev F.eo : Nat := 53
abbrev F.bq : Nat := 54
abbrev F.de : Nat := 60
abbrev F.ep : Nat := 68
abbrev F.cq : Nat := 69
abbrev F.aw : Nat := 70
abbrev F.g : Nat := 71
abbrev F.an : Nat := 72
abbrev F.bo : Nat := 73
abbrev F.d : Nat := 74
abbrev F.ed : Nat := 75
abbrev F.eu : Nat := 76
abbrev F.bc : Nat := 77
abbrev F.ae : Nat := 78
abbrev F.ev : Nat := 86
abbrev F.ch : Nat := 87
abbrev F.dt : Nat := 88
abbrev F.ac : Nat := 89
abbrev F.ek : Nat := 90
abbrev F.bx : Nat := 92
abbrev F.cw : Nat := 93
abbrev F.bv : Nat := 94
abbrev F.ap : Nat := 95
abbrev F.ce : Nat := 96
abbrev F.du : Nat := 97
abbrev F.cv : Nat := 98
abbrev F.dx : Nat := 101
abbrev F.ec : Nat := 102
abbrev F.dm : Nat := 103
abbrev F.ck : Nat := 104
abbrev F.cs : Nat := 105
abbrev F.dn : Nat := 106
abbrev F.df : Nat := 107
abbrev F.fc : Nat := 108
abbrev F.er : Nat := 109
abbrev F.az : Nat := 110
abbrev F.es : Nat := 111
abbrev F.x : Nat := 112
abbrev F.dv : Nat := 113
abbrev F.au : Nat := 114
abbrev F.bd : Nat := 115
abbrev F.dp : Nat := 116
abbrev F.f : Nat := 117
abbrev F.a : Nat := 118
abbrev F.ca : Nat := 124
abbrev F.bp : Nat := 125
abbrev F.cx : Nat := 126
abbrev F.ew : Nat := 127
abbrev F.ee : Nat := 128
abbrev F.br : Nat := 130
abbrev F.cn : Nat := 131
abbrev F.cy : Nat := 132
abbrev F.y : Nat := 133
abbrev F.b : Nat := 134
abbrev F.be : Nat := 135
abbrev F.eh : Nat := 136
abbrev F.ar : Nat := 137
abbrev F.bf : Nat := 138
abbrev F.el : Nat := 139
abbrev F.ef : Nat := 140
abbrev F.cl : Nat := 141
abbrev F.dg : Nat := 142
abbrev F.ay : Nat := 143
abbrev F.cc : Nat := 144
abbrev F.cm : Nat := 145
abbrev F.eg : Nat := 146
abbrev F.dy : Nat := 147
abbrev F.fd : Nat := 148
abbrev F.k : Nat := 149
abbrev F.u : Nat := 150
abbrev F.l : Nat := 151
abbrev F.n : Nat := 152
abbrev F.m : Nat := 153
abbrev F.c : Nat := 154
abbrev F.bk : Nat := 155
abbrev F.h : Nat := 156
abbrev F.s : Nat := 157
abbrev F.fg : Nat := 158
abbrev F.dz : Nat := 159
abbrev F.bh : Nat := 160
abbrev F.ei : Nat := 161
abbrev F.bj : Nat := 162
abbrev F.dq : Nat := 165
abbrev F.ct : Nat := 166
abbrev F.ex : Nat := 167
abbrev F.ej : Nat := 168
abbrev F.bn : Nat := 169
abbrev F.ad : Nat := 170
abbrev F.ah : Nat := 171
abbrev F.dw : Nat := 172
abbrev F.cz : Nat := 173
abbrev F.cb : Nat := 174
abbrev F.da : Nat := 175
abbrev F.aq : Nat := 176
abbrev F.dj : Nat := 177
abbrev F.cu : Nat := 178
abbrev F.db : Nat := 179
abbrev F.bg : Nat := 180
abbrev F.ba : Nat := 181
abbrev F.bl : Nat := 182
abbrev F.em : Nat := 183
abbrev F.ez : Nat := 184
abbrev F.ea : Nat := 185
abbrev F.cr : Nat := 186
abbrev F.bw : Nat := 187
abbrev F.eb : Nat := 188
abbrev F.en : Nat := 189
abbrev F.v : Nat := 190
abbrev F.cf : Nat := 191
abbrev F.cg : Nat := 192
abbrev F.i : Nat := 193
abbrev F.z : Nat := 194
abbrev F.ai : Nat := 195
abbrev F.ak : Nat := 196
abbrev F.j : Nat := 197
abbrev F.fa : Nat := 198
abbrev F.q : Nat := 199
abbrev F.af : Nat := 200
abbrev F.r : Nat := 201
abbrev F.w : Nat := 202
abbrev F.t : Nat := 203
abbrev F.e : Nat := 204
abbrev F.cd : Nat := 205
abbrev F.o : Nat := 206
abbrev F.aa : Nat := 207
abbrev F.av : Nat := 208
abbrev F.ff : Nat := 209
abbrev F.dh : Nat := 210
abbrev F.di : Nat := 211
abbrev F.ab : Nat := 212
abbrev F.bi : Nat := 213
abbrev F.ag : Nat := 214
abbrev F.p : Nat := 215
abbrev F.al : Nat := 216
abbrev F.bz : Nat := 217
abbrev F.ey : Nat := 218
abbrev F.dr : Nat := 219
abbrev F.bs : Nat := 220
abbrev F.aj : Nat := 221
abbrev F.am : Nat := 222
abbrev T.bi : Nat := 0
abbrev T.b : Nat := 3
abbrev T.ao : Nat := 4
abbrev T.ak : Nat := 5
abbrev T.ad : Nat := 9
abbrev T.an : Nat := 20
abbrev T.ap : Nat := 21
abbrev T.al : Nat := 26
abbrev T.u : Nat := 27
abbrev T.ac : Nat := 34
abbrev T.g : Nat := 35
abbrev T.o : Nat := 36
abbrev T.d : Nat := 40
abbrev T.c : Nat := 42
abbrev T.i : Nat := 43
abbrev T.k : Nat := 44
abbrev T.a : Nat := 46
abbrev T.aw : Nat := 77
abbrev T.e : Nat := 85
abbrev T.n : Nat := 101
abbrev T.ae : Nat := 103
abbrev T.bb : Nat := 104
abbrev T.j : Nat := 110
abbrev T.f : Nat := 112
abbrev T.bd : Nat := 116
abbrev T.af : Nat := 118
abbrev T.w : Nat := 123
abbrev T.p : Nat := 139
abbrev T.x : Nat := 143
abbrev T.aj : Nat := 145
abbrev T.h : Nat := 150
abbrev T.m : Nat := 157
abbrev T.az : Nat := 160
abbrev T.bg : Nat := 163
abbrev T.r : Nat := 165
abbrev T.am : Nat := 167
abbrev T.t : Nat := 177
abbrev T.aa : Nat := 179
abbrev T.z : Nat := 182
abbrev T.ab : Nat := 185
abbrev T.ba : Nat := 187
abbrev T.bh : Nat := 193
abbrev T.ax : Nat := 208
abbrev T.au : Nat := 213
abbrev T.q : Nat := 232
abbrev T.s : Nat := 235
abbrev T.l : Nat := 237
abbrev T.y : Nat := 239
abbrev T.ag : Nat := 247
abbrev T.bf : Nat := 254
abbrev T.ay : Nat := 263
abbrev T.av : Nat := 271
abbrev T.be : Nat := 290
abbrev T.v : Nat := 291
abbrev T.aq : Nat := 304
abbrev T.ar : Nat := 307
abbrev T.bc : Nat := 310
noncomputable abbrev FN.an : Func := Tryz.f72
theorem FN.an.at : P.funcs[F.an]? = some FN.an := Tryz.func72
noncomputable abbrev FN.d : Func := Tryz.f74
theorem FN.d.at : P.funcs[F.d]? = some FN.d := Tryz.func74
noncomputable abbrev FN.x : Func := Tryz.f112
theorem FN.x.at : P.funcs[F.x]? = some FN.x := Tryz.func112
noncomputable abbrev FN.f : Func := Tryz.f117
theorem FN.f.at : P.funcs[F.f]? = some FN.f := Tryz.func117
noncomputable abbrev FN.a : Func := Tryz.f118
theorem FN.a.at : P.funcs[F.a]? = some FN.a := Tryz.func118
noncomputable abbrev FN.y : Func := Tryz.f133
theorem FN.y.at : P.funcs[F.y]? = some FN.y := Tryz.func133
noncomputable abbrev FN.b : Func := Tryz.f134
theorem FN.b.at : P.funcs[F.b]? = some FN.b := Tryz.func134
noncomputable abbrev FN.k : Func := Tryz.f149
theorem FN.k.at : P.funcs[F.k]? = some FN.k := Tryz.func149
noncomputable abbrev FN.u : Func := Tryz.f150
theorem FN.u.at : P.funcs[F.u]? = some FN.u := Tryz.func150
noncomputable abbrev FN.l : Func := Tryz.f151
theorem FN.l.at : P.funcs[F.l]? = some FN.l := Tryz.func151
noncomputable abbrev FN.n : Func := Tryz.f152
theorem FN.n.at : P.funcs[F.n]? = some FN.n := Tryz.func152
noncomputable abbrev FN.m : Func := Tryz.f153
theorem FN.m.at : P.funcs[F.m]? = some FN.m := Tryz.func153
noncomputable abbrev FN.c : Func := Tryz.f154
theorem FN.c.at : P.funcs[F.c]? = some FN.c := Tryz.func154
noncomputable abbrev FN.bk : Func := Tryz.f155
theorem FN.bk.at : P.funcs[F.bk]? = some FN.bk := Tryz.func155
noncomputable abbrev FN.h : Func := Tryz.f156
theorem FN.h.at : P.funcs[F.h]? = some FN.h := Tryz.func156
noncomputable abbrev FN.s : Func := Tryz.f157
theorem FN.s.at : P.funcs[F.s]? = some FN.s := Tryz.func157
noncomputable abbrev FN.ad : Func := Tryz.f170
theorem FN.ad.at : P.funcs[F.ad]? = some FN.ad := Tryz.func170
noncomputable abbrev FN.ah : Func := Tryz.f171
theorem FN.ah.at : P.funcs[F.ah]? = some FN.ah := Tryz.func171
noncomputable abbrev FN.v : Func := Tryz.f190
theorem FN.v.at : P.funcs[F.v]? = some FN.v := Tryz.func190
noncomputable abbrev FN.i : Func := Tryz.f193
theorem FN.i.at : P.funcs[F.i]? = some FN.i := Tryz.func193
noncomputable abbrev FN.z : Func := Tryz.f194
theorem FN.z.at : P.funcs[F.z]? = some FN.z := Tryz.func194
noncomputable abbrev FN.ai : Func := Tryz.f195
theorem FN.ai.at : P.funcs[F.ai]? = some FN.ai := Tryz.func195
noncomputable abbrev FN.q : Func := Tryz.f199
theorem FN.q.at : P.funcs[F.q]? = some FN.q := Tryz.func199
noncomputable abbrev FN.af : Func := Tryz.f200
theorem FN.af.at : P.funcs[F.af]? = some FN.af := Tryz.func200
noncomputable abbrev FN.r : Func := Tryz.f201
theorem FN.r.at : P.funcs[F.r]? = some FN.r := Tryz.func201
noncomputable abbrev FN.w : Func := Tryz.f202
theorem FN.w.at : P.funcs[F.w]? = some FN.w := Tryz.func202
noncomputable abbrev FN.t : Func := Tryz.f203
theorem FN.t.at : P.funcs[F.t]? = some FN.t := Tryz.func203
noncomputable abbrev FN.e : Func := Tryz.f204
theorem FN.e.at : P.funcs[F.e]? = some FN.e := Tryz.func204
noncomputable abbrev FN.cd : Func := Tryz.f205
theorem FN.cd.at : P.funcs[F.cd]? = some FN.cd := Tryz.func205
noncomputable abbrev FN.o : Func := Tryz.f206
theorem FN.o.at : P.funcs[F.o]? = some FN.o := Tryz.func206
noncomputable abbrev FN.aa : Func := Tryz.f207
theorem FN.aa.at : P.funcs[F.aa]? = some FN.aa := Tryz.func207
noncomputable abbrev FN.ab : Func := Tryz.f212
theorem FN.ab.at : P.funcs[F.ab]? = some FN.ab := Tryz.func212
noncomputable abbrev FN.ag : Func := Tryz.f214
theorem FN.ag.at : P.funcs[F.ag]? = some FN.ag := Tryz.func214
noncomputable abbrev FN.p : Func := Tryz.f215
theorem FN.p.at : P.funcs[F.p]? = some FN.p := Tryz.func215
noncomputable abbrev FN.al : Func := Tryz.f216
theorem FN.al.at : P.funcs[F.al]? = some FN.al := Tryz.func216
noncomputable abbrev FN.bz : Func := Tryz.f217
theorem FN.bz.at : P.funcs[F.bz]? = some FN.bz := Tryz.func217
noncomputable abbrev FN.am : Func := Tryz.f222
theorem FN.am.at : P.funcs[F.am]? = some FN.am := Tryz.func222
open Go.Eng
abbrev QQ := World → KV → Prop
def gS : Nat → Nat → PT → PT
 | _, 0, x => x
 | i, n + 1, x => .go i (gS (i + 1) n x)
abbrev fC (f : FuncId) : Prop := ∀ (args : List Value) (w : World) (K : KV), gb P f args w K = jr P f args w K
abbrev rC (f : FuncId) : Prop := ∀ (a c args : List Value) (w : World) (K : KV), mh P (.func (.func f) a.toArray c.toArray) args w K = jr P f (a ++ args ++ c) w K
theorem fcN {f : FuncId} {fn : Func} (hf : P.funcs[f]? = some fn) (h : ((fn.name == "runtime.NumGoroutine"), fn.body.isNone) = (false, false)) : fC f := fun args w K => agh hf (Prod.mk.inj h).1 (Prod.mk.inj h).2 args w K
theorem rcN {f : FuncId} {fn : Func} (hf : P.funcs[f]? = some fn) (h : ((fn.name == "runtime.NumGoroutine"), fn.body.isNone) = (false, false)) : rC f := fun a c args w K => arp hf (Prod.mk.inj h).1 (Prod.mk.inj h).2 a c args w K
abbrev C0 (f : FuncId) (X : World → KV → Prop) : Prop := ∀ {w : World} {K : KV}, X  w K → jr P f [] w K
theorem mk0 {f : FuncId} {fn : Func} {L : List Nat} {pl : Nat → po} {X :  World → KV → Prop} (hf : P.funcs[f]? = some fn) (h : (fn.body, ada L pl fn (fn.body.getD .skip) 0, X) = (some (fn.body.getD .skip), true, fun  w K => den P L pl (fn.body.getD .skip) (zl []) w (aba P fn.results.toList K))) : C0 f X := fun  {w K} h' => rg (by kernel_rfl) hf (Prod.mk.inj h).1 (Prod.mk.inj (Prod.mk.inj h).2).1 (cast (congrFun (congrFun ((Prod.mk.inj (Prod.mk.inj h).2).2) w) K) h')
abbrev C1 (f : FuncId) (X : Value → World → KV → Prop) : Prop := ∀ (a0 : Value) {w : World} {K : KV}, X a0 w K → jr P f [a0] w K
theorem mk1 {f : FuncId} {fn : Func} {L : List Nat} {pl : Nat → po} {X : Value →  World → KV → Prop} (hf : P.funcs[f]? = some fn) (h : (fn.body, ada L pl fn (fn.body.getD .skip) 1, X) = (some (fn.body.getD .skip), true, fun a0 w K => den P L pl (fn.body.getD .skip) (zl [a0]) w (aba P fn.results.toList K))) : C1 f X := fun a0 {w K} h' => rg (by kernel_rfl) hf (Prod.mk.inj h).1 (Prod.mk.inj (Prod.mk.inj h).2).1 (cast (congrFun (congrFun (congrFun ((Prod.mk.inj (Prod.mk.inj h).2).2) a0) w) K) h')
abbrev C2 (f : FuncId) (X : Value → Value → World → KV → Prop) : Prop := ∀ (a0 a1 : Value) {w : World} {K : KV}, X a0 a1 w K → jr P f [a0, a1] w K
theorem mk2 {f : FuncId} {fn : Func} {L : List Nat} {pl : Nat → po} {X : Value → Value →  World → KV → Prop} (hf : P.funcs[f]? = some fn) (h : (fn.body, ada L pl fn (fn.body.getD .skip) 2, X) = (some (fn.body.getD .skip), true, fun a0 a1 w K => den P L pl (fn.body.getD .skip) (zl [a0, a1]) w (aba P fn.results.toList K))) : C2 f X := fun a0 a1 {w K} h' => rg (by kernel_rfl) hf (Prod.mk.inj h).1 (Prod.mk.inj (Prod.mk.inj h).2).1 (cast (congrFun (congrFun (congrFun (congrFun ((Prod.mk.inj (Prod.mk.inj h).2).2) a0) a1) w) K) h')
abbrev C3 (f : FuncId) (X : Value → Value → Value → World → KV → Prop) : Prop := ∀ (a0 a1 a2 : Value) {w : World} {K : KV}, X a0 a1 a2 w K → jr P f [a0, a1, a2] w K
theorem mk3 {f : FuncId} {fn : Func} {L : List Nat} {pl : Nat → po} {X : Value → Value → Value →  World → KV → Prop} (hf : P.funcs[f]? = some fn) (h : (fn.body, ada L pl fn (fn.body.getD .skip) 3, X) = (some (fn.body.getD .skip), true, fun a0 a1 a2 w K => den P L pl (fn.body.getD .skip) (zl [a0, a1, a2]) w (aba P fn.results.toList K))) : C3 f X := fun a0 a1 a2 {w K} h' => rg (by kernel_rfl) hf (Prod.mk.inj h).1 (Prod.mk.inj (Prod.mk.inj h).2).1 (cast (congrFun (congrFun (congrFun (congrFun (congrFun ((Prod.mk.inj (Prod.mk.inj h).2).2) a0) a1) a2) w) K) h')
abbrev C4 (f : FuncId) (X : Value → Value → Value → Value → World → KV → Prop) : Prop := ∀ (a0 a1 a2 a3 : Value) {w : World} {K : KV}, X a0 a1 a2 a3 w K → jr P f [a0, a1, a2, a3] w K
theorem mk4 {f : FuncId} {fn : Func} {L : List Nat} {pl : Nat → po} {X : Value → Value → Value → Value →  World → KV → Prop} (hf : P.funcs[f]? = some fn) (h : (fn.body, ada L pl fn (fn.body.getD .skip) 4, X) = (some (fn.body.getD .skip), true, fun a0 a1 a2 a3 w K => den P L pl (fn.body.getD .skip) (zl [a0, a1, a2, a3]) w (aba P fn.results.toList K))) : C4 f X := fun a0 a1 a2 a3 {w K} h' => rg (by kernel_rfl) hf (Prod.mk.inj h).1 (Prod.mk.inj (Prod.mk.inj h).2).1 (cast (congrFun (congrFun (congrFun (congrFun (congrFun (congrFun ((Prod.mk.inj (Prod.mk.inj h).2).2) a0) a1) a2) a3) w) K) h')
abbrev C5 (f : FuncId) (X : Value → Value → Value → Value → Value → World → KV → Prop) : Prop := ∀ (a0 a1 a2 a3 a4 : Value) {w : World} {K : KV}, X a0 a1 a2 a3 a4 w K → jr P f [a0, a1, a2, a3, a4] w K
theorem mk5 {f : FuncId} {fn : Func} {L : List Nat} {pl : Nat → po} {X : Value → Value → Value → Value → Value →  World → KV → Prop} (hf : P.funcs[f]? = some fn) (h : (fn.body, ada L pl fn (fn.body.getD .skip) 5, X) = (some (fn.body.getD .skip), true, fun a0 a1 a2 a3 a4 w K => den P L pl (fn.body.getD .skip) (zl [a0, a1, a2, a3, a4]) w (aba P fn.results.toList K))) : C5 f X := fun a0 a1 a2 a3 a4 {w K} h' => rg (by kernel_rfl) hf (Prod.mk.inj h).1 (Prod.mk.inj (Prod.mk.inj h).2).1 (cast (congrFun (congrFun (congrFun (congrFun (congrFun (congrFun (congrFun ((Prod.mk.inj (Prod.mk.inj h).2).2) a0) a1) a2) a3) a4) w) K) h')
abbrev C6 (f : FuncId) (X : Value → Value → Value → Value → Value → Value → World → KV → Prop) : Prop := ∀ (a0 a1 a2 a3 a4 a5 : Value) {w : World} {K : KV}, X a0 a1 a2 a3 a4 a5 w K → jr P f [a0, a1, a2, a3, a4, a5] w K
theorem mk6 {f : FuncId} {fn : Func} {L : List Nat} {pl : Nat → po} {X : Value → Value → Value → Value → Value → Value →  World → KV → Prop} (hf : P.funcs[f]? = some fn) (h : (fn.body, ada L pl fn (fn.body.getD .skip) 6, X) = (some (fn.body.getD .skip), true, fun a0 a1 a2 a3 a4 a5 w K => den P L pl (fn.body.getD .skip) (zl [a0, a1, a2, a3, a4, a5]) w (aba P fn.results.toList K))) : C6 f X := fun a0 a1 a2 a3 a4 a5 {w K} h' => rg (by kernel_rfl) hf (Prod.mk.inj h).1 (Prod.mk.inj (Prod.mk.inj h).2).1 (cast (congrFun (congrFun (congrFun (congrFun (congrFun (congrFun (congrFun (congrFun ((Prod.mk.inj (Prod.mk.inj h).2).2) a0) a1) a2) a3) a4) a5) w) K) h')
abbrev C7 (f : FuncId) (X : Value → Value → Value → Value → Value → Value → Value → World → KV → Prop) : Prop := ∀ (a0 a1 a2 a3 a4 a5 a6 : Value) {w : World} {K : KV}, X a0 a1 a2 a3 a4 a5 a6 w K → jr P f [a0, a1, a2, a3, a4, a5, a6] w K
theorem mk7 {f : FuncId} {fn : Func} {L : List Nat} {pl : Nat → po} {X : Value → Value → Value → Value → Value → Value → Value →  World → KV → Prop} (hf : P.funcs[f]? = some fn) (h : (fn.body, ada L pl fn (fn.body.getD .skip) 7, X) = (some (fn.body.getD .skip), true, fun a0 a1 a2 a3 a4 a5 a6 w K => den P L pl (fn.body.getD .skip) (zl [a0, a1, a2, a3, a4, a5, a6]) w (aba P fn.results.toList K))) : C7 f X := fun a0 a1 a2 a3 a4 a5 a6 {w K} h' => rg (by kernel_rfl) hf (Prod.mk.inj h).1 (Prod.mk.inj (Prod.mk.inj h).2).1 (cast (congrFun (congrFun (congrFun (congrFun (congrFun (congrFun (congrFun (congrFun (congrFun ((Prod.mk.inj (Prod.mk.inj h).2).2) a0) a1) a2) a3) a4) a5) a6) w) K) h')
end Go.Proofs.YtfnhoaemapheoaaGreat
