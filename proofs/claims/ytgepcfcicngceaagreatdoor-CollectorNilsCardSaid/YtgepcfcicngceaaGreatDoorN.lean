/-
  The numbers of the functions and types of this seat by name, printed by wip/Shallow.lean. No condition.
-/
import Derived.Test.YtgepcfcicngceaaGreatDoorZEng
import Derived.Test.YtgepcfcicngceaaGreatDoorChecked
import Derived.KernelRfl
namespace Go.Proofs.YtgepcfcicngceaaGreatDoor
noncomputable abbrev P:Program:=Tryz.prog
abbrev F.df:=3
abbrev F.ea:=10
abbrev F.cm:=11
abbrev F.ao:=12
abbrev F.ca:=13
abbrev F.bt:=14
abbrev F.ax:=15
abbrev F.ak:=16
abbrev F.be:=17
abbrev F.bu:=18
abbrev F.cf:=19
abbrev F.aq:=20
abbrev F.ac:=21
abbrev F.al:=22
abbrev F.ar:=23
abbrev F.ft:=24
abbrev F.ez:=25
abbrev F.eb:=26
abbrev F.ec:=32
abbrev F.fa:=33
abbrev F.fb:=35
abbrev F.ed:=37
abbrev F.e:=38
abbrev F.bk:=39
abbrev F.cc:=40
abbrev F.bz:=41
abbrev F.bp:=42
abbrev F.ci:=43
abbrev F.bl:=44
abbrev F.gw:=45
abbrev F.gu:=46
abbrev F.cq:=47
abbrev F.u:=48
abbrev F.fc:=49
abbrev F.cd:=50
abbrev F.ga:=51
abbrev F.hc:=52
abbrev F.am:=53
abbrev F.bg:=54
abbrev F.gn:=55
abbrev F.ap:=56
abbrev F.ag:=57
abbrev F.gs:=58
abbrev F.gj:=59
abbrev F.go:=60
abbrev F.v:=61
abbrev F.ad:=62
abbrev F.gp:=63
abbrev F.fl:=64
abbrev F.gk:=65
abbrev F.dh:=75
abbrev F.ee:=76
abbrev F.di:=77
abbrev F.ef:=82
abbrev F.af:=83
abbrev F.r:=84
abbrev F.dj:=85
abbrev F.fd:=86
abbrev F.en:=87
abbrev F.cr:=88
abbrev F.ay:=89
abbrev F.gx:=90
abbrev F.dr:=91
abbrev F.bs:=92
abbrev F.ce:=93
abbrev F.bq:=94
abbrev F.f:=95
abbrev F.d:=96
abbrev F.bb:=98
abbrev F.cu:=99
abbrev F.dd:=100
abbrev F.fm:=101
abbrev F.ct:=102
abbrev F.cb:=103
abbrev F.o:=104
abbrev F.cj:=105
abbrev F.dn:=106
abbrev F.cz:=107
abbrev F.ds:=109
abbrev F.dg:=110
abbrev F.bv:=111
abbrev F.eo:=112
abbrev F.bn:=115
abbrev F.cw:=116
abbrev F.g:=117
abbrev F.b:=118
abbrev F.gz:=119
abbrev F.ai:=120
abbrev F.dz:=121
abbrev F.fn:=122
abbrev F.az:=123
abbrev F.gb:=124
abbrev F.hi:=125
abbrev F.fo:=126
abbrev F.et:=127
abbrev F.fv:=128
abbrev F.gg:=129
abbrev F.eg:=133
abbrev F.a:=135
abbrev F.gh:=136
abbrev F.eh:=137
abbrev F.gv:=138
abbrev F.gt:=139
abbrev F.cv:=140
abbrev F.gi:=141
abbrev F.ch:=142
abbrev F.z:=143
abbrev F.fp:=144
abbrev F.fe:=145
abbrev F.gc:=146
abbrev F.av:=147
abbrev F.ha:=149
abbrev F.cn:=150
abbrev F.ff:=151
abbrev F.fy:=152
abbrev F.aj:=153
abbrev F.br:=154
abbrev F.bc:=155
abbrev F.bi:=156
abbrev F.eu:=157
abbrev F.bf:=158
abbrev F.dt:=162
abbrev F.hv:=163
abbrev F.cg:=164
abbrev F.co:=165
abbrev F.da:=166
abbrev F.m:=167
abbrev F.y:=168
abbrev F.dp:=169
abbrev F.au:=170
abbrev F.ae:=171
abbrev F.w:=172
abbrev F.gl:=173
abbrev F.gd:=174
abbrev F.ah:=175
abbrev F.dq:=176
abbrev F.fw:=177
abbrev F.fu:=178
abbrev F.fr:=179
abbrev F.hd:=180
abbrev F.gy:=181
abbrev F.de:=182
abbrev F.ep:=184
abbrev F.gm:=187
abbrev F.gq:=188
abbrev F.er:=189
abbrev F.bh:=190
abbrev F.db:=191
abbrev F.ge:=192
abbrev F.gf:=193
abbrev F.fg:=194
abbrev F.bw:=195
abbrev F.ei:=196
abbrev F.bo:=197
abbrev F.ev:=198
abbrev F.du:=199
abbrev F.cp:=200
abbrev F.dv:=201
abbrev F.an:=202
abbrev F.ek:=203
abbrev F.dm:=204
abbrev F.dw:=205
abbrev F.ba:=206
abbrev F.bd:=207
abbrev F.bj:=208
abbrev F.ck:=212
abbrev F.j:=213
abbrev F.s:=214
abbrev F.k:=215
abbrev F.p:=216
abbrev F.n:=217
abbrev F.c:=218
abbrev F.bx:=219
abbrev F.h:=220
abbrev F.q:=221
abbrev F.hf:=222
abbrev F.fh:=223
abbrev F.aw:=224
abbrev F.fs:=225
abbrev F.ex:=226
abbrev F.fk:=227
abbrev F.fj:=228
abbrev F.dx:=229
abbrev F.ew:=230
abbrev F.fq:=231
abbrev F.dc:=232
abbrev F.l:=233
abbrev F.fz:=234
abbrev F.fx:=235
abbrev F.he:=239
abbrev F.cs:=241
abbrev F.el:=242
abbrev F.hj:=243
abbrev F.hk:=244
abbrev F.hl:=245
abbrev F.hm:=246
abbrev F.hn:=248
abbrev F.cl:=249
abbrev F.t:=251
abbrev F.cx:=252
abbrev F.cy:=253
abbrev F.i:=254
abbrev F.aa:=255
abbrev F.bm:=259
abbrev F.em:=260
abbrev F.gr:=261
abbrev F.ey:=262
abbrev F.hg:=264
abbrev F.ab:=276
abbrev F.x:=278
abbrev F.fi:=311
abbrev F.dk:=312
abbrev F.dl:=313
abbrev F.es:=314
abbrev F.ej:=315
abbrev T.bz:=0
abbrev T.d:=3
abbrev T.bp:=4
abbrev T.bc:=5
abbrev T.l:=9
abbrev T.bg:=20
abbrev T.bi:=21
abbrev T.y:=22
abbrev T.a:=23
abbrev T.e:=25
abbrev T.z:=26
abbrev T.g:=27
abbrev T.o:=28
abbrev T.h:=29
abbrev T.c:=31
abbrev T.ag:=34
abbrev T.ac:=38
abbrev T.ap:=41
abbrev T.bd:=43
abbrev T.f:=54
abbrev T.p:=56
abbrev T.i:=59
abbrev T.av:=64
abbrev T.m:=68
abbrev T.bm:=70
abbrev T.ad:=87
abbrev T.bf:=88
abbrev T.ao:=89
abbrev T.bl:=90
abbrev T.w:=91
abbrev T.t:=92
abbrev T.u:=93
abbrev T.b:=95
abbrev T.bj:=98
abbrev T.x:=109
abbrev T.v:=111
abbrev T.k:=114
abbrev T.af:=117
abbrev T.aa:=120
abbrev T.bx:=124
abbrev T.am:=126
abbrev T.bh:=148
abbrev T.ba:=161
abbrev T.ai:=163
abbrev T.j:=167
abbrev T.bo:=168
abbrev T.ae:=170
abbrev T.n:=171
abbrev T.be:=173
abbrev T.an:=175
abbrev T.az:=177
abbrev T.bn:=183
abbrev T.aw:=191
abbrev T.bv:=195
abbrev T.ak:=196
abbrev T.au:=198
abbrev T.aq:=214
abbrev T.q:=224
abbrev T.br:=227
abbrev T.bq:=231
abbrev T.bt:=238
abbrev T.ab:=239
abbrev T.bb:=241
abbrev T.ar:=243
abbrev T.al:=256
abbrev T.r:=258
abbrev T.aj:=271
abbrev T.s:=273
abbrev T.bw:=288
abbrev T.cb:=299
abbrev T.bu:=319
abbrev T.bk:=320
abbrev T.bs:=333
abbrev T.ca:=340
abbrev T.ah:=353
noncomputable abbrev FN.ad:Func:=Tryz.f62
theorem FN.ad.at:P.funcs[F.ad]? =some FN.ad:=Tryz.func62
noncomputable abbrev FN.g:Func:=Tryz.f117
theorem FN.g.at:P.funcs[F.g]? =some FN.g:=Tryz.func117
noncomputable abbrev FN.b:Func:=Tryz.f118
theorem FN.b.at:P.funcs[F.b]? =some FN.b:=Tryz.func118
noncomputable abbrev FN.a:Func:=Tryz.f135
theorem FN.a.at:P.funcs[F.a]? =some FN.a:=Tryz.func135
noncomputable abbrev FN.m:Func:=Tryz.f167
theorem FN.m.at:P.funcs[F.m]? =some FN.m:=Tryz.func167
noncomputable abbrev FN.y:Func:=Tryz.f168
theorem FN.y.at:P.funcs[F.y]? =some FN.y:=Tryz.func168
noncomputable abbrev FN.ae:Func:=Tryz.f171
theorem FN.ae.at:P.funcs[F.ae]? =some FN.ae:=Tryz.func171
noncomputable abbrev FN.ah:Func:=Tryz.f175
theorem FN.ah.at:P.funcs[F.ah]? =some FN.ah:=Tryz.func175
noncomputable abbrev FN.db:Func:=Tryz.f191
theorem FN.db.at:P.funcs[F.db]? =some FN.db:=Tryz.func191
noncomputable abbrev FN.bw:Func:=Tryz.f195
theorem FN.bw.at:P.funcs[F.bw]? =some FN.bw:=Tryz.func195
noncomputable abbrev FN.j:Func:=Tryz.f213
theorem FN.j.at:P.funcs[F.j]? =some FN.j:=Tryz.func213
noncomputable abbrev FN.s:Func:=Tryz.f214
theorem FN.s.at:P.funcs[F.s]? =some FN.s:=Tryz.func214
noncomputable abbrev FN.k:Func:=Tryz.f215
theorem FN.k.at:P.funcs[F.k]? =some FN.k:=Tryz.func215
noncomputable abbrev FN.p:Func:=Tryz.f216
theorem FN.p.at:P.funcs[F.p]? =some FN.p:=Tryz.func216
noncomputable abbrev FN.n:Func:=Tryz.f217
theorem FN.n.at:P.funcs[F.n]? =some FN.n:=Tryz.func217
noncomputable abbrev FN.c:Func:=Tryz.f218
theorem FN.c.at:P.funcs[F.c]? =some FN.c:=Tryz.func218
noncomputable abbrev FN.bx:Func:=Tryz.f219
theorem FN.bx.at:P.funcs[F.bx]? =some FN.bx:=Tryz.func219
noncomputable abbrev FN.h:Func:=Tryz.f220
theorem FN.h.at:P.funcs[F.h]? =some FN.h:=Tryz.func220
noncomputable abbrev FN.q:Func:=Tryz.f221
theorem FN.q.at:P.funcs[F.q]? =some FN.q:=Tryz.func221
noncomputable abbrev FN.l:Func:=Tryz.f233
theorem FN.l.at:P.funcs[F.l]? =some FN.l:=Tryz.func233
noncomputable abbrev FN.cs:Func:=Tryz.f241
theorem FN.cs.at:P.funcs[F.cs]? =some FN.cs:=Tryz.func241
noncomputable abbrev FN.t:Func:=Tryz.f251
theorem FN.t.at:P.funcs[F.t]? =some FN.t:=Tryz.func251
noncomputable abbrev FN.i:Func:=Tryz.f254
theorem FN.i.at:P.funcs[F.i]? =some FN.i:=Tryz.func254
noncomputable abbrev FN.aa:Func:=Tryz.f255
theorem FN.aa.at:P.funcs[F.aa]? =some FN.aa:=Tryz.func255
noncomputable abbrev FN.ab:Func:=Tryz.f276
theorem FN.ab.at:P.funcs[F.ab]? =some FN.ab:=Tryz.func276
noncomputable abbrev FN.x:Func:=Tryz.f278
theorem FN.x.at:P.funcs[F.x]? =some FN.x:=Tryz.func278
open Go.Eng
abbrev QQ:=World->KV->Prop
abbrev bK(op:BinOp)(t:TypeId)(n:Nat)(x c:Value)(w:World)(K:KV):Prop:=iq P op t (.tmp n) (.const c) x c w K
abbrev bT(op:BinOp)(t:TypeId)(n m:Nat)(x y:Value)(w:World)(K:KV):Prop:=iq P op t (.tmp n) (.tmp m) x y w K
def p0:og:=⟨.nil,[],false,[]⟩
def pN:Nat->og:=fun _=>p0
def gS:Nat->Nat->PT->PT
 | _,0,x=>x
 | i,n+1,x=> .go i (gS (i+1) n x)
abbrev fC(f:FuncId):Prop:= ∀(args:List Value)(w:World)(K:KV),ig P f args w K=jp P f args w K
abbrev rC(f:FuncId):Prop:= ∀(a c args:List Value)(w:World)(K:KV),ku P (.func (.func f) a.toArray c.toArray) args w K=jp P f (a ++ args ++ c) w K
theorem fcN {f:FuncId} {fn:Func} (hf:P.funcs[f]? =some fn) (h:((fn.name == "runtime.NumGoroutine"),fn.body.isNone)=(false,false):=by kernel_rfl):fC f:=fun args w K=>afr hf (Prod.mk.inj h).1 (Prod.mk.inj h).2 args w K
theorem rcN {f:FuncId} {fn:Func} (hf:P.funcs[f]? =some fn) (h:((fn.name == "runtime.NumGoroutine"),fn.body.isNone)=(false,false):=by kernel_rfl):rC f:=fun a c args w K=>aij hf (Prod.mk.inj h).1 (Prod.mk.inj h).2 a c args w K
abbrev C0(f:FuncId)(X:World->KV->Prop):Prop:= ∀{w:World}{K:KV},X w K->jp P f [] w K
theorem mk0{f:FuncId}{fn:Func}(L:List Nat)(pl:Nat->og){X:World->KV->Prop}(hf:P.funcs[f]? =some fn)(h:(fn.body,adm L pl fn (fn.body.getD .skip) 0,X)=(some (fn.body.getD .skip),true,fun w K=>den P L pl (fn.body.getD .skip) (zq []) w (abk P fn.results.toList K)):=by kernel_rfl):C0 f X:=fun {w K} h'=>qx (by kernel_rfl) hf (Prod.mk.inj h).1 (Prod.mk.inj (Prod.mk.inj h).2).1 (cast (congrFun (congrFun ((Prod.mk.inj (Prod.mk.inj h).2).2) w) K) h')
abbrev C1(f:FuncId)(X:Value->World->KV->Prop):Prop:= ∀(a0:Value){w:World}{K:KV},X a0 w K->jp P f [a0] w K
theorem mk1{f:FuncId}{fn:Func}(L:List Nat)(pl:Nat->og){X:Value->World->KV->Prop}(hf:P.funcs[f]? =some fn)(h:(fn.body,adm L pl fn (fn.body.getD .skip) 1,X)=(some (fn.body.getD .skip),true,fun a0 w K=>den P L pl (fn.body.getD .skip) (zq [a0]) w (abk P fn.results.toList K)):=by kernel_rfl):C1 f X:=fun a0 {w K} h'=>qx (by kernel_rfl) hf (Prod.mk.inj h).1 (Prod.mk.inj (Prod.mk.inj h).2).1 (cast (congrFun (congrFun (congrFun ((Prod.mk.inj (Prod.mk.inj h).2).2) a0) w) K) h')
abbrev C2(f:FuncId)(X:Value->Value->World->KV->Prop):Prop:= ∀(a0 a1:Value){w:World}{K:KV},X a0 a1 w K->jp P f [a0,a1] w K
theorem mk2{f:FuncId}{fn:Func}(L:List Nat)(pl:Nat->og){X:Value->Value->World->KV->Prop}(hf:P.funcs[f]? =some fn)(h:(fn.body,adm L pl fn (fn.body.getD .skip) 2,X)=(some (fn.body.getD .skip),true,fun a0 a1 w K=>den P L pl (fn.body.getD .skip) (zq [a0,a1]) w (abk P fn.results.toList K)):=by kernel_rfl):C2 f X:=fun a0 a1 {w K} h'=>qx (by kernel_rfl) hf (Prod.mk.inj h).1 (Prod.mk.inj (Prod.mk.inj h).2).1 (cast (congrFun (congrFun (congrFun (congrFun ((Prod.mk.inj (Prod.mk.inj h).2).2) a0) a1) w) K) h')
abbrev C3(f:FuncId)(X:Value->Value->Value->World->KV->Prop):Prop:= ∀(a0 a1 a2:Value){w:World}{K:KV},X a0 a1 a2 w K->jp P f [a0,a1,a2] w K
theorem mk3{f:FuncId}{fn:Func}(L:List Nat)(pl:Nat->og){X:Value->Value->Value->World->KV->Prop}(hf:P.funcs[f]? =some fn)(h:(fn.body,adm L pl fn (fn.body.getD .skip) 3,X)=(some (fn.body.getD .skip),true,fun a0 a1 a2 w K=>den P L pl (fn.body.getD .skip) (zq [a0,a1,a2]) w (abk P fn.results.toList K)):=by kernel_rfl):C3 f X:=fun a0 a1 a2 {w K} h'=>qx (by kernel_rfl) hf (Prod.mk.inj h).1 (Prod.mk.inj (Prod.mk.inj h).2).1 (cast (congrFun (congrFun (congrFun (congrFun (congrFun ((Prod.mk.inj (Prod.mk.inj h).2).2) a0) a1) a2) w) K) h')
abbrev C4(f:FuncId)(X:Value->Value->Value->Value->World->KV->Prop):Prop:= ∀(a0 a1 a2 a3:Value){w:World}{K:KV},X a0 a1 a2 a3 w K->jp P f [a0,a1,a2,a3] w K
theorem mk4{f:FuncId}{fn:Func}(L:List Nat)(pl:Nat->og){X:Value->Value->Value->Value->World->KV->Prop}(hf:P.funcs[f]? =some fn)(h:(fn.body,adm L pl fn (fn.body.getD .skip) 4,X)=(some (fn.body.getD .skip),true,fun a0 a1 a2 a3 w K=>den P L pl (fn.body.getD .skip) (zq [a0,a1,a2,a3]) w (abk P fn.results.toList K)):=by kernel_rfl):C4 f X:=fun a0 a1 a2 a3 {w K} h'=>qx (by kernel_rfl) hf (Prod.mk.inj h).1 (Prod.mk.inj (Prod.mk.inj h).2).1 (cast (congrFun (congrFun (congrFun (congrFun (congrFun (congrFun ((Prod.mk.inj (Prod.mk.inj h).2).2) a0) a1) a2) a3) w) K) h')
abbrev C5(f:FuncId)(X:Value->Value->Value->Value->Value->World->KV->Prop):Prop:= ∀(a0 a1 a2 a3 a4:Value){w:World}{K:KV},X a0 a1 a2 a3 a4 w K->jp P f [a0,a1,a2,a3,a4] w K
theorem mk5{f:FuncId}{fn:Func}(L:List Nat)(pl:Nat->og){X:Value->Value->Value->Value->Value->World->KV->Prop}(hf:P.funcs[f]? =some fn)(h:(fn.body,adm L pl fn (fn.body.getD .skip) 5,X)=(some (fn.body.getD .skip),true,fun a0 a1 a2 a3 a4 w K=>den P L pl (fn.body.getD .skip) (zq [a0,a1,a2,a3,a4]) w (abk P fn.results.toList K)):=by kernel_rfl):C5 f X:=fun a0 a1 a2 a3 a4 {w K} h'=>qx (by kernel_rfl) hf (Prod.mk.inj h).1 (Prod.mk.inj (Prod.mk.inj h).2).1 (cast (congrFun (congrFun (congrFun (congrFun (congrFun (congrFun (congrFun ((Prod.mk.inj (Prod.mk.inj h).2).2) a0) a1) a2) a3) a4) w) K) h')
abbrev C6(f:FuncId)(X:Value->Value->Value->Value->Value->Value->World->KV->Prop):Prop:= ∀(a0 a1 a2 a3 a4 a5:Value){w:World}{K:KV},X a0 a1 a2 a3 a4 a5 w K->jp P f [a0,a1,a2,a3,a4,a5] w K
theorem mk6{f:FuncId}{fn:Func}(L:List Nat)(pl:Nat->og){X:Value->Value->Value->Value->Value->Value->World->KV->Prop}(hf:P.funcs[f]? =some fn)(h:(fn.body,adm L pl fn (fn.body.getD .skip) 6,X)=(some (fn.body.getD .skip),true,fun a0 a1 a2 a3 a4 a5 w K=>den P L pl (fn.body.getD .skip) (zq [a0,a1,a2,a3,a4,a5]) w (abk P fn.results.toList K)):=by kernel_rfl):C6 f X:=fun a0 a1 a2 a3 a4 a5 {w K} h'=>qx (by kernel_rfl) hf (Prod.mk.inj h).1 (Prod.mk.inj (Prod.mk.inj h).2).1 (cast (congrFun (congrFun (congrFun (congrFun (congrFun (congrFun (congrFun (congrFun ((Prod.mk.inj (Prod.mk.inj h).2).2) a0) a1) a2) a3) a4) a5) w) K) h')
abbrev C7(f:FuncId)(X:Value->Value->Value->Value->Value->Value->Value->World->KV->Prop):Prop:= ∀(a0 a1 a2 a3 a4 a5 a6:Value){w:World}{K:KV},X a0 a1 a2 a3 a4 a5 a6 w K->jp P f [a0,a1,a2,a3,a4,a5,a6] w K
theorem mk7{f:FuncId}{fn:Func}(L:List Nat)(pl:Nat->og){X:Value->Value->Value->Value->Value->Value->Value->World->KV->Prop}(hf:P.funcs[f]? =some fn)(h:(fn.body,adm L pl fn (fn.body.getD .skip) 7,X)=(some (fn.body.getD .skip),true,fun a0 a1 a2 a3 a4 a5 a6 w K=>den P L pl (fn.body.getD .skip) (zq [a0,a1,a2,a3,a4,a5,a6]) w (abk P fn.results.toList K)):=by kernel_rfl):C7 f X:=fun a0 a1 a2 a3 a4 a5 a6 {w K} h'=>qx (by kernel_rfl) hf (Prod.mk.inj h).1 (Prod.mk.inj (Prod.mk.inj h).2).1 (cast (congrFun (congrFun (congrFun (congrFun (congrFun (congrFun (congrFun (congrFun (congrFun ((Prod.mk.inj (Prod.mk.inj h).2).2) a0) a1) a2) a3) a4) a5) a6) w) K) h')
end Go.Proofs.YtgepcfcicngceaaGreatDoor
