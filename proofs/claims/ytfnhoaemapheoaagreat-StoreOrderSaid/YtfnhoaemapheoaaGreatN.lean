/-
  The numbers of the functions and types of this seat by name, printed by wip/Shallow.lean. No condition.
-/
import Derived.Test.YtfnhoaemapheoaaGreatZEng
import Derived.Test.YtfnhoaemapheoaaGreatChecked
import Derived.KernelRfl
namespace Go.Proofs.YtfnhoaemapheoaaGreat
noncomputable abbrev P : Program := Tryz.prog
abbrev F.dj := 11
abbrev F.ev := 15
abbrev F.du := 19
abbrev F.dv := 23
abbrev F.dk := 29
abbrev F.dl := 33
abbrev F.az := 34
abbrev F.db := 35
abbrev F.bb := 36
abbrev F.bm := 37
abbrev F.bp := 38
abbrev F.cp := 40
abbrev F.cg := 43
abbrev F.dm := 44
abbrev F.ch := 45
abbrev F.fl := 47
abbrev F.cu := 48
abbrev F.eb := 50
abbrev F.bs := 51
abbrev F.ar := 52
abbrev F.fa := 53
abbrev F.bw := 54
abbrev F.dn := 60
abbrev F.fb := 68
abbrev F.cv := 69
abbrev F.ba := 70
abbrev F.h := 71
abbrev F.aq := 72
abbrev F.bu := 73
abbrev F.d := 74
abbrev F.en := 75
abbrev F.fe := 76
abbrev F.bf := 77
abbrev F.ah := 78
abbrev F.eg := 79
abbrev F.bo := 83
abbrev F.z := 84
abbrev F.ff := 86
abbrev F.co := 87
abbrev F.ec := 88
abbrev F.af := 89
abbrev F.ew := 90
abbrev F.cc := 92
abbrev F.dc := 93
abbrev F.ca := 94
abbrev F.au := 95
abbrev F.ck := 96
abbrev F.ed := 97
abbrev F.da := 98
abbrev F.eh := 101
abbrev F.em := 102
abbrev F.dw := 103
abbrev F.cq := 104
abbrev F.cx := 105
abbrev F.dx := 106
abbrev F.dp := 107
abbrev F.fm := 108
abbrev F.fc := 109
abbrev F.bd := 110
abbrev F.fd := 111
abbrev F.aa := 112
abbrev F.ee := 113
abbrev F.ax := 114
abbrev F.bg := 115
abbrev F.dy := 116
abbrev F.g := 117
abbrev F.b := 118
abbrev F.cl := 121
abbrev F.a := 122
abbrev F.ce := 124
abbrev F.bv := 125
abbrev F.dd := 126
abbrev F.fg := 127
abbrev F.eo := 128
abbrev F.bx := 130
abbrev F.ct := 131
abbrev F.de := 132
abbrev F.ab := 133
abbrev F.c := 134
abbrev F.bh := 135
abbrev F.es := 136
abbrev F.aw := 137
abbrev F.bi := 138
abbrev F.ex := 139
abbrev F.ep := 140
abbrev F.cr := 141
abbrev F.dq := 142
abbrev F.bc := 143
abbrev F.ci := 144
abbrev F.cs := 145
abbrev F.er := 146
abbrev F.ei := 147
abbrev F.fn := 148
abbrev F.l := 149
abbrev F.w := 150
abbrev F.m := 151
abbrev F.p := 152
abbrev F.o := 153
abbrev F.e := 154
abbrev F.bq := 155
abbrev F.i := 156
abbrev F.u := 157
abbrev F.fq := 158
abbrev F.ej := 159
abbrev F.bk := 160
abbrev F.et := 161
abbrev F.bn := 162
abbrev F.n := 164
abbrev F.dz := 165
abbrev F.cy := 166
abbrev F.fh := 167
abbrev F.eu := 168
abbrev F.bt := 169
abbrev F.ag := 170
abbrev F.ak := 171
abbrev F.ef := 172
abbrev F.df := 173
abbrev F.cf := 174
abbrev F.dg := 175
abbrev F.av := 176
abbrev F.dt := 177
abbrev F.cz := 178
abbrev F.dh := 179
abbrev F.bj := 180
abbrev F.be := 181
abbrev F.br := 182
abbrev F.ey := 183
abbrev F.fj := 184
abbrev F.ek := 185
abbrev F.cw := 186
abbrev F.cb := 187
abbrev F.el := 188
abbrev F.ez := 189
abbrev F.x := 190
abbrev F.cm := 191
abbrev F.cn := 192
abbrev F.j := 193
abbrev F.ac := 194
abbrev F.al := 195
abbrev F.an := 196
abbrev F.k := 197
abbrev F.fk := 198
abbrev F.s := 199
abbrev F.ai := 200
abbrev F.t := 201
abbrev F.y := 202
abbrev F.v := 203
abbrev F.f := 204
abbrev F.cj := 205
abbrev F.q := 206
abbrev F.ad := 207
abbrev F.ay := 208
abbrev F.fp := 209
abbrev F.dr := 210
abbrev F.ds := 211
abbrev F.ae := 212
abbrev F.bl := 213
abbrev F.aj := 214
abbrev F.r := 215
abbrev F.ao := 216
abbrev F.cd := 217
abbrev F.fi := 218
abbrev F.ea := 219
abbrev F.bz := 220
abbrev F.am := 221
abbrev F.ap := 222
abbrev T.bm := 0
abbrev T.b := 3
abbrev T.aq := 4
abbrev T.am := 5
abbrev T.ae := 9
abbrev T.ap := 20
abbrev T.au := 21
abbrev T.an := 26
abbrev T.w := 27
abbrev T.u := 33
abbrev T.ad := 34
abbrev T.g := 35
abbrev T.p := 36
abbrev T.c := 40
abbrev T.d := 42
abbrev T.j := 43
abbrev T.i := 44
abbrev T.a := 46
abbrev T.av := 77
abbrev T.e := 85
abbrev T.af := 88
abbrev T.ar := 93
abbrev T.o := 101
abbrev T.ag := 103
abbrev T.be := 104
abbrev T.l := 110
abbrev T.f := 112
abbrev T.bg := 116
abbrev T.ah := 118
abbrev T.y := 123
abbrev T.q := 139
abbrev T.k := 143
abbrev T.aj := 145
abbrev T.h := 150
abbrev T.n := 157
abbrev T.ba := 160
abbrev T.bj := 163
abbrev T.s := 165
abbrev T.ao := 167
abbrev T.bk := 174
abbrev T.v := 177
abbrev T.ab := 179
abbrev T.aa := 182
abbrev T.ac := 185
abbrev T.bd := 187
abbrev T.bl := 193
abbrev T.bb := 208
abbrev T.ay := 213
abbrev T.r := 232
abbrev T.t := 235
abbrev T.m := 237
abbrev T.z := 239
abbrev T.ai := 247
abbrev T.bi := 254
abbrev T.bc := 263
abbrev T.az := 271
abbrev T.bh := 290
abbrev T.x := 291
abbrev T.aw := 304
abbrev T.ax := 307
abbrev T.bf := 310
noncomputable abbrev FN.aq : Func := Tryz.f72
theorem FN.aq.at : P.funcs[F.aq]? = some FN.aq := Tryz.func72
noncomputable abbrev FN.d : Func := Tryz.f74
theorem FN.d.at : P.funcs[F.d]? = some FN.d := Tryz.func74
noncomputable abbrev FN.aa : Func := Tryz.f112
theorem FN.aa.at : P.funcs[F.aa]? = some FN.aa := Tryz.func112
noncomputable abbrev FN.g : Func := Tryz.f117
theorem FN.g.at : P.funcs[F.g]? = some FN.g := Tryz.func117
noncomputable abbrev FN.b : Func := Tryz.f118
theorem FN.b.at : P.funcs[F.b]? = some FN.b := Tryz.func118
noncomputable abbrev FN.a : Func := Tryz.f122
theorem FN.a.at : P.funcs[F.a]? = some FN.a := Tryz.func122
noncomputable abbrev FN.ab : Func := Tryz.f133
theorem FN.ab.at : P.funcs[F.ab]? = some FN.ab := Tryz.func133
noncomputable abbrev FN.c : Func := Tryz.f134
theorem FN.c.at : P.funcs[F.c]? = some FN.c := Tryz.func134
noncomputable abbrev FN.l : Func := Tryz.f149
theorem FN.l.at : P.funcs[F.l]? = some FN.l := Tryz.func149
noncomputable abbrev FN.w : Func := Tryz.f150
theorem FN.w.at : P.funcs[F.w]? = some FN.w := Tryz.func150
noncomputable abbrev FN.m : Func := Tryz.f151
theorem FN.m.at : P.funcs[F.m]? = some FN.m := Tryz.func151
noncomputable abbrev FN.p : Func := Tryz.f152
theorem FN.p.at : P.funcs[F.p]? = some FN.p := Tryz.func152
noncomputable abbrev FN.o : Func := Tryz.f153
theorem FN.o.at : P.funcs[F.o]? = some FN.o := Tryz.func153
noncomputable abbrev FN.e : Func := Tryz.f154
theorem FN.e.at : P.funcs[F.e]? = some FN.e := Tryz.func154
noncomputable abbrev FN.bq : Func := Tryz.f155
theorem FN.bq.at : P.funcs[F.bq]? = some FN.bq := Tryz.func155
noncomputable abbrev FN.i : Func := Tryz.f156
theorem FN.i.at : P.funcs[F.i]? = some FN.i := Tryz.func156
noncomputable abbrev FN.u : Func := Tryz.f157
theorem FN.u.at : P.funcs[F.u]? = some FN.u := Tryz.func157
noncomputable abbrev FN.n : Func := Tryz.f164
theorem FN.n.at : P.funcs[F.n]? = some FN.n := Tryz.func164
noncomputable abbrev FN.ag : Func := Tryz.f170
theorem FN.ag.at : P.funcs[F.ag]? = some FN.ag := Tryz.func170
noncomputable abbrev FN.ak : Func := Tryz.f171
theorem FN.ak.at : P.funcs[F.ak]? = some FN.ak := Tryz.func171
noncomputable abbrev FN.x : Func := Tryz.f190
theorem FN.x.at : P.funcs[F.x]? = some FN.x := Tryz.func190
noncomputable abbrev FN.j : Func := Tryz.f193
theorem FN.j.at : P.funcs[F.j]? = some FN.j := Tryz.func193
noncomputable abbrev FN.ac : Func := Tryz.f194
theorem FN.ac.at : P.funcs[F.ac]? = some FN.ac := Tryz.func194
noncomputable abbrev FN.al : Func := Tryz.f195
theorem FN.al.at : P.funcs[F.al]? = some FN.al := Tryz.func195
noncomputable abbrev FN.s : Func := Tryz.f199
theorem FN.s.at : P.funcs[F.s]? = some FN.s := Tryz.func199
noncomputable abbrev FN.ai : Func := Tryz.f200
theorem FN.ai.at : P.funcs[F.ai]? = some FN.ai := Tryz.func200
noncomputable abbrev FN.t : Func := Tryz.f201
theorem FN.t.at : P.funcs[F.t]? = some FN.t := Tryz.func201
noncomputable abbrev FN.y : Func := Tryz.f202
theorem FN.y.at : P.funcs[F.y]? = some FN.y := Tryz.func202
noncomputable abbrev FN.v : Func := Tryz.f203
theorem FN.v.at : P.funcs[F.v]? = some FN.v := Tryz.func203
noncomputable abbrev FN.f : Func := Tryz.f204
theorem FN.f.at : P.funcs[F.f]? = some FN.f := Tryz.func204
noncomputable abbrev FN.cj : Func := Tryz.f205
theorem FN.cj.at : P.funcs[F.cj]? = some FN.cj := Tryz.func205
noncomputable abbrev FN.q : Func := Tryz.f206
theorem FN.q.at : P.funcs[F.q]? = some FN.q := Tryz.func206
noncomputable abbrev FN.ad : Func := Tryz.f207
theorem FN.ad.at : P.funcs[F.ad]? = some FN.ad := Tryz.func207
noncomputable abbrev FN.ae : Func := Tryz.f212
theorem FN.ae.at : P.funcs[F.ae]? = some FN.ae := Tryz.func212
noncomputable abbrev FN.aj : Func := Tryz.f214
theorem FN.aj.at : P.funcs[F.aj]? = some FN.aj := Tryz.func214
noncomputable abbrev FN.r : Func := Tryz.f215
theorem FN.r.at : P.funcs[F.r]? = some FN.r := Tryz.func215
noncomputable abbrev FN.ao : Func := Tryz.f216
theorem FN.ao.at : P.funcs[F.ao]? = some FN.ao := Tryz.func216
noncomputable abbrev FN.cd : Func := Tryz.f217
theorem FN.cd.at : P.funcs[F.cd]? = some FN.cd := Tryz.func217
noncomputable abbrev FN.ap : Func := Tryz.f222
theorem FN.ap.at : P.funcs[F.ap]? = some FN.ap := Tryz.func222
open Go.Eng
abbrev QQ := World → KV → Prop
abbrev bK (op : BinOp) (t : TypeId) (n : Nat) (x c : Value) (w : World) (K : KV) : Prop := ib P op t (.tmp n) (.const c) x c w K
abbrev bT (op : BinOp) (t : TypeId) (n m : Nat) (x y : Value) (w : World) (K : KV) : Prop := ib P op t (.tmp n) (.tmp m) x y w K
def p0 : po := ⟨.nil, [], false, []⟩
def pN : Nat → po := fun _ => p0
def gS : Nat → Nat → PT → PT
 | _, 0, x => x
 | i, n + 1, x => .go i (gS (i + 1) n x)
abbrev fC (f : FuncId) : Prop := ∀ (args : List Value) (w : World) (K : KV), gi P f args w K = kg P f args w K
abbrev rC (f : FuncId) : Prop := ∀ (a c args : List Value) (w : World) (K : KV), nf P (.func (.func f) a.toArray c.toArray) args w K = kg P f (a ++ args ++ c) w K
theorem fcN {f : FuncId} {fn : Func} (hf : P.funcs[f]? = some fn) (h : ((fn.name == "runtime.NumGoroutine"), fn.body.isNone) = (false, false) := by kernel_rfl) : fC f := fun args w K => ado hf (Prod.mk.inj h).1 (Prod.mk.inj h).2 args w K
theorem rcN {f : FuncId} {fn : Func} (hf : P.funcs[f]? = some fn) (h : ((fn.name == "runtime.NumGoroutine"), fn.body.isNone) = (false, false) := by kernel_rfl) : rC f := fun a c args w K => asn hf (Prod.mk.inj h).1 (Prod.mk.inj h).2 a c args w K
abbrev C0 (f : FuncId) (X : World → KV → Prop) : Prop := ∀ {w : World} {K : KV}, X  w K → kg P f [] w K
theorem mk0 {f : FuncId} {fn : Func} (L : List Nat) (pl : Nat → po) {X :  World → KV → Prop} (hf : P.funcs[f]? = some fn) (h : (fn.body, aea L pl fn (fn.body.getD .skip) 0, X) = (some (fn.body.getD .skip), true, fun  w K => den P L pl (fn.body.getD .skip) (aae []) w (abt P fn.results.toList K)) := by kernel_rfl) : C0 f X := fun  {w K} h' => rp (by kernel_rfl) hf (Prod.mk.inj h).1 (Prod.mk.inj (Prod.mk.inj h).2).1 (cast (congrFun (congrFun ((Prod.mk.inj (Prod.mk.inj h).2).2) w) K) h')
abbrev C1 (f : FuncId) (X : Value → World → KV → Prop) : Prop := ∀ (a0 : Value) {w : World} {K : KV}, X a0 w K → kg P f [a0] w K
theorem mk1 {f : FuncId} {fn : Func} (L : List Nat) (pl : Nat → po) {X : Value →  World → KV → Prop} (hf : P.funcs[f]? = some fn) (h : (fn.body, aea L pl fn (fn.body.getD .skip) 1, X) = (some (fn.body.getD .skip), true, fun a0 w K => den P L pl (fn.body.getD .skip) (aae [a0]) w (abt P fn.results.toList K)) := by kernel_rfl) : C1 f X := fun a0 {w K} h' => rp (by kernel_rfl) hf (Prod.mk.inj h).1 (Prod.mk.inj (Prod.mk.inj h).2).1 (cast (congrFun (congrFun (congrFun ((Prod.mk.inj (Prod.mk.inj h).2).2) a0) w) K) h')
abbrev C2 (f : FuncId) (X : Value → Value → World → KV → Prop) : Prop := ∀ (a0 a1 : Value) {w : World} {K : KV}, X a0 a1 w K → kg P f [a0, a1] w K
theorem mk2 {f : FuncId} {fn : Func} (L : List Nat) (pl : Nat → po) {X : Value → Value →  World → KV → Prop} (hf : P.funcs[f]? = some fn) (h : (fn.body, aea L pl fn (fn.body.getD .skip) 2, X) = (some (fn.body.getD .skip), true, fun a0 a1 w K => den P L pl (fn.body.getD .skip) (aae [a0, a1]) w (abt P fn.results.toList K)) := by kernel_rfl) : C2 f X := fun a0 a1 {w K} h' => rp (by kernel_rfl) hf (Prod.mk.inj h).1 (Prod.mk.inj (Prod.mk.inj h).2).1 (cast (congrFun (congrFun (congrFun (congrFun ((Prod.mk.inj (Prod.mk.inj h).2).2) a0) a1) w) K) h')
abbrev C3 (f : FuncId) (X : Value → Value → Value → World → KV → Prop) : Prop := ∀ (a0 a1 a2 : Value) {w : World} {K : KV}, X a0 a1 a2 w K → kg P f [a0, a1, a2] w K
theorem mk3 {f : FuncId} {fn : Func} (L : List Nat) (pl : Nat → po) {X : Value → Value → Value →  World → KV → Prop} (hf : P.funcs[f]? = some fn) (h : (fn.body, aea L pl fn (fn.body.getD .skip) 3, X) = (some (fn.body.getD .skip), true, fun a0 a1 a2 w K => den P L pl (fn.body.getD .skip) (aae [a0, a1, a2]) w (abt P fn.results.toList K)) := by kernel_rfl) : C3 f X := fun a0 a1 a2 {w K} h' => rp (by kernel_rfl) hf (Prod.mk.inj h).1 (Prod.mk.inj (Prod.mk.inj h).2).1 (cast (congrFun (congrFun (congrFun (congrFun (congrFun ((Prod.mk.inj (Prod.mk.inj h).2).2) a0) a1) a2) w) K) h')
abbrev C4 (f : FuncId) (X : Value → Value → Value → Value → World → KV → Prop) : Prop := ∀ (a0 a1 a2 a3 : Value) {w : World} {K : KV}, X a0 a1 a2 a3 w K → kg P f [a0, a1, a2, a3] w K
theorem mk4 {f : FuncId} {fn : Func} (L : List Nat) (pl : Nat → po) {X : Value → Value → Value → Value →  World → KV → Prop} (hf : P.funcs[f]? = some fn) (h : (fn.body, aea L pl fn (fn.body.getD .skip) 4, X) = (some (fn.body.getD .skip), true, fun a0 a1 a2 a3 w K => den P L pl (fn.body.getD .skip) (aae [a0, a1, a2, a3]) w (abt P fn.results.toList K)) := by kernel_rfl) : C4 f X := fun a0 a1 a2 a3 {w K} h' => rp (by kernel_rfl) hf (Prod.mk.inj h).1 (Prod.mk.inj (Prod.mk.inj h).2).1 (cast (congrFun (congrFun (congrFun (congrFun (congrFun (congrFun ((Prod.mk.inj (Prod.mk.inj h).2).2) a0) a1) a2) a3) w) K) h')
abbrev C5 (f : FuncId) (X : Value → Value → Value → Value → Value → World → KV → Prop) : Prop := ∀ (a0 a1 a2 a3 a4 : Value) {w : World} {K : KV}, X a0 a1 a2 a3 a4 w K → kg P f [a0, a1, a2, a3, a4] w K
theorem mk5 {f : FuncId} {fn : Func} (L : List Nat) (pl : Nat → po) {X : Value → Value → Value → Value → Value →  World → KV → Prop} (hf : P.funcs[f]? = some fn) (h : (fn.body, aea L pl fn (fn.body.getD .skip) 5, X) = (some (fn.body.getD .skip), true, fun a0 a1 a2 a3 a4 w K => den P L pl (fn.body.getD .skip) (aae [a0, a1, a2, a3, a4]) w (abt P fn.results.toList K)) := by kernel_rfl) : C5 f X := fun a0 a1 a2 a3 a4 {w K} h' => rp (by kernel_rfl) hf (Prod.mk.inj h).1 (Prod.mk.inj (Prod.mk.inj h).2).1 (cast (congrFun (congrFun (congrFun (congrFun (congrFun (congrFun (congrFun ((Prod.mk.inj (Prod.mk.inj h).2).2) a0) a1) a2) a3) a4) w) K) h')
abbrev C6 (f : FuncId) (X : Value → Value → Value → Value → Value → Value → World → KV → Prop) : Prop := ∀ (a0 a1 a2 a3 a4 a5 : Value) {w : World} {K : KV}, X a0 a1 a2 a3 a4 a5 w K → kg P f [a0, a1, a2, a3, a4, a5] w K
theorem mk6 {f : FuncId} {fn : Func} (L : List Nat) (pl : Nat → po) {X : Value → Value → Value → Value → Value → Value →  World → KV → Prop} (hf : P.funcs[f]? = some fn) (h : (fn.body, aea L pl fn (fn.body.getD .skip) 6, X) = (some (fn.body.getD .skip), true, fun a0 a1 a2 a3 a4 a5 w K => den P L pl (fn.body.getD .skip) (aae [a0, a1, a2, a3, a4, a5]) w (abt P fn.results.toList K)) := by kernel_rfl) : C6 f X := fun a0 a1 a2 a3 a4 a5 {w K} h' => rp (by kernel_rfl) hf (Prod.mk.inj h).1 (Prod.mk.inj (Prod.mk.inj h).2).1 (cast (congrFun (congrFun (congrFun (congrFun (congrFun (congrFun (congrFun (congrFun ((Prod.mk.inj (Prod.mk.inj h).2).2) a0) a1) a2) a3) a4) a5) w) K) h')
abbrev C7 (f : FuncId) (X : Value → Value → Value → Value → Value → Value → Value → World → KV → Prop) : Prop := ∀ (a0 a1 a2 a3 a4 a5 a6 : Value) {w : World} {K : KV}, X a0 a1 a2 a3 a4 a5 a6 w K → kg P f [a0, a1, a2, a3, a4, a5, a6] w K
theorem mk7 {f : FuncId} {fn : Func} (L : List Nat) (pl : Nat → po) {X : Value → Value → Value → Value → Value → Value → Value →  World → KV → Prop} (hf : P.funcs[f]? = some fn) (h : (fn.body, aea L pl fn (fn.body.getD .skip) 7, X) = (some (fn.body.getD .skip), true, fun a0 a1 a2 a3 a4 a5 a6 w K => den P L pl (fn.body.getD .skip) (aae [a0, a1, a2, a3, a4, a5, a6]) w (abt P fn.results.toList K)) := by kernel_rfl) : C7 f X := fun a0 a1 a2 a3 a4 a5 a6 {w K} h' => rp (by kernel_rfl) hf (Prod.mk.inj h).1 (Prod.mk.inj (Prod.mk.inj h).2).1 (cast (congrFun (congrFun (congrFun (congrFun (congrFun (congrFun (congrFun (congrFun (congrFun ((Prod.mk.inj (Prod.mk.inj h).2).2) a0) a1) a2) a3) a4) a5) a6) w) K) h')
end Go.Proofs.YtfnhoaemapheoaaGreat
