/-
  The numbers of the functions and types of this seat by name, printed by wip/Shallow.lean. No condition.
-/
import Derived.Test.YtgepcfcicngceaaGreatDoorZEng
import Derived.Test.YtgepcfcicngceaaGreatDoorChecked
import Derived.KernelRfl
namespace Go.Proofs.YtgepcfcicngceaaGreatDoor
noncomputable abbrev P:Program:=Tryz.prog
abbrev F.cw:=5
abbrev F.br:=11
abbrev F.an:=12
abbrev F.aa:=15
abbrev F.bc:=16
abbrev F.bm:=17
abbrev F.ap:=20
abbrev F.ak:=21
abbrev F.bf:=22
abbrev F.bo:=23
abbrev F.eo:=24
abbrev F.dn:=25
abbrev F.db:=26
abbrev F.dy:=32
abbrev F.ew:=33
abbrev F.ex:=35
abbrev F.dz:=37
abbrev F.e:=38
abbrev F.bs:=39
abbrev F.cb:=40
abbrev F.bz:=41
abbrev F.bn:=42
abbrev F.ch:=43
abbrev F.bi:=44
abbrev F.gm:=46
abbrev F.co:=47
abbrev F.u:=48
abbrev F.ey:=49
abbrev F.cc:=50
abbrev F.fv:=51
abbrev F.gw:=52
abbrev F.al:=53
abbrev F.bd:=54
abbrev F.gi:=55
abbrev F.ao:=56
abbrev F.ag:=57
abbrev F.go:=58
abbrev F.ge:=59
abbrev F.gj:=60
abbrev F.v:=61
abbrev F.ad:=62
abbrev F.gk:=63
abbrev F.fh:=64
abbrev F.gf:=65
abbrev F.de:=75
abbrev F.ea:=76
abbrev F.df:=77
abbrev F.eb:=82
abbrev F.af:=83
abbrev F.r:=84
abbrev F.dg:=85
abbrev F.ez:=86
abbrev F.ej:=87
abbrev F.cp:=88
abbrev F.aw:=89
abbrev F.gr:=90
abbrev F.dp:=91
abbrev F.bt:=92
abbrev F.cd:=93
abbrev F.bp:=94
abbrev F.f:=95
abbrev F.d:=96
abbrev F.ar:=98
abbrev F.ce:=99
abbrev F.cl:=100
abbrev F.fi:=101
abbrev F.cr:=102
abbrev F.ca:=103
abbrev F.o:=104
abbrev F.ci:=105
abbrev F.dk:=106
abbrev F.cx:=107
abbrev F.dq:=109
abbrev F.dd:=110
abbrev F.bv:=111
abbrev F.ek:=112
abbrev F.bk:=115
abbrev F.ct:=116
abbrev F.g:=117
abbrev F.b:=118
abbrev F.gt:=119
abbrev F.ai:=120
abbrev F.dx:=121
abbrev F.fj:=122
abbrev F.ax:=123
abbrev F.fw:=124
abbrev F.hc:=125
abbrev F.fk:=126
abbrev F.ep:=127
abbrev F.fq:=128
abbrev F.gb:=129
abbrev F.ec:=133
abbrev F.a:=135
abbrev F.gc:=136
abbrev F.ed:=137
abbrev F.gq:=138
abbrev F.gp:=139
abbrev F.cs:=140
abbrev F.gd:=141
abbrev F.cg:=142
abbrev F.z:=143
abbrev F.fl:=144
abbrev F.fa:=145
abbrev F.fx:=146
abbrev F.au:=147
abbrev F.gu:=149
abbrev F.bu:=150
abbrev F.fb:=151
abbrev F.ft:=152
abbrev F.aj:=153
abbrev F.bq:=154
abbrev F.az:=155
abbrev F.bg:=156
abbrev F.er:=157
abbrev F.bb:=158
abbrev F.dr:=162
abbrev F.hp:=163
abbrev F.cf:=164
abbrev F.cm:=165
abbrev F.cy:=166
abbrev F.m:=167
abbrev F.y:=168
abbrev F.dl:=169
abbrev F.aq:=170
abbrev F.ae:=171
abbrev F.w:=172
abbrev F.gg:=173
abbrev F.fy:=174
abbrev F.ah:=175
abbrev F.dm:=176
abbrev F.fr:=177
abbrev F.fp:=178
abbrev F.fn:=179
abbrev F.gx:=180
abbrev F.gs:=181
abbrev F.dc:=182
abbrev F.el:=184
abbrev F.gh:=187
abbrev F.gl:=188
abbrev F.em:=189
abbrev F.be:=190
abbrev F.cz:=191
abbrev F.fz:=192
abbrev F.ga:=193
abbrev F.fc:=194
abbrev F.bw:=195
abbrev F.ee:=196
abbrev F.bl:=197
abbrev F.es:=198
abbrev F.ds:=199
abbrev F.cn:=200
abbrev F.dt:=201
abbrev F.am:=202
abbrev F.eg:=203
abbrev F.dj:=204
abbrev F.du:=205
abbrev F.ay:=206
abbrev F.ba:=207
abbrev F.bh:=208
abbrev F.cj:=212
abbrev F.j:=213
abbrev F.s:=214
abbrev F.k:=215
abbrev F.p:=216
abbrev F.n:=217
abbrev F.c:=218
abbrev F.bx:=219
abbrev F.h:=220
abbrev F.q:=221
abbrev F.gz:=222
abbrev F.fd:=223
abbrev F.av:=224
abbrev F.fo:=225
abbrev F.eu:=226
abbrev F.fg:=227
abbrev F.ff:=228
abbrev F.dv:=229
abbrev F.et:=230
abbrev F.fm:=231
abbrev F.da:=232
abbrev F.l:=233
abbrev F.fu:=234
abbrev F.fs:=235
abbrev F.gy:=239
abbrev F.cq:=241
abbrev F.eh:=242
abbrev F.hd:=243
abbrev F.he:=244
abbrev F.hf:=245
abbrev F.hg:=246
abbrev F.hh:=248
abbrev F.ck:=249
abbrev F.t:=251
abbrev F.cu:=252
abbrev F.cv:=253
abbrev F.i:=254
abbrev F.ab:=255
abbrev F.bj:=259
abbrev F.ei:=260
abbrev F.gn:=261
abbrev F.ev:=262
abbrev F.ha:=264
abbrev F.ac:=276
abbrev F.x:=278
abbrev F.fe:=311
abbrev F.dh:=312
abbrev F.di:=313
abbrev F.en:=314
abbrev F.ef:=315
abbrev T.ca:=0
abbrev T.d:=3
abbrev T.br:=4
abbrev T.ba:=5
abbrev T.l:=9
abbrev T.be:=20
abbrev T.bi:=21
abbrev T.q:=22
abbrev T.a:=23
abbrev T.e:=25
abbrev T.ad:=26
abbrev T.h:=27
abbrev T.s:=28
abbrev T.g:=29
abbrev T.c:=31
abbrev T.an:=34
abbrev T.ac:=38
abbrev T.ap:=41
abbrev T.bh:=43
abbrev T.bp:=50
abbrev T.f:=54
abbrev T.m:=56
abbrev T.i:=59
abbrev T.av:=64
abbrev T.n:=68
abbrev T.bm:=70
abbrev T.ab:=87
abbrev T.bg:=88
abbrev T.ao:=89
abbrev T.bl:=90
abbrev T.x:=91
abbrev T.u:=92
abbrev T.v:=93
abbrev T.b:=95
abbrev T.bj:=98
abbrev T.y:=109
abbrev T.w:=111
abbrev T.k:=114
abbrev T.af:=117
abbrev T.z:=120
abbrev T.bz:=124
abbrev T.al:=126
abbrev T.bf:=148
abbrev T.bb:=161
abbrev T.ah:=163
abbrev T.j:=167
abbrev T.bo:=168
abbrev T.ae:=170
abbrev T.o:=171
abbrev T.bd:=173
abbrev T.am:=175
abbrev T.az:=177
abbrev T.bn:=183
abbrev T.ar:=191
abbrev T.bw:=195
abbrev T.aj:=196
abbrev T.aw:=198
abbrev T.aq:=214
abbrev T.p:=224
abbrev T.bs:=227
abbrev T.bq:=231
abbrev T.bu:=238
abbrev T.aa:=239
abbrev T.bc:=241
abbrev T.au:=243
abbrev T.ak:=256
abbrev T.r:=258
abbrev T.ai:=271
abbrev T.t:=273
abbrev T.bx:=288
abbrev T.cc:=299
abbrev T.bv:=319
abbrev T.bk:=320
abbrev T.bt:=333
abbrev T.cb:=340
abbrev T.ag:=353
noncomputable abbrev FN.ad:Func:=Tryz.f62
theorem FN.ad.at:P.funcs[F.ad]? =some FN.ad:=Tryz.func62
noncomputable abbrev FN.g:Func:=Tryz.f117
theorem FN.g.at:P.funcs[F.g]? =some FN.g:=Tryz.func117
noncomputable abbrev FN.b:Func:=Tryz.f118
theorem FN.b.at:P.funcs[F.b]? =some FN.b:=Tryz.func118
noncomputable abbrev FN.a:Func:=Tryz.f135
theorem FN.a.at:P.funcs[F.a]? =some FN.a:=Tryz.func135
noncomputable abbrev FN.m:Func:=Tryz.f167
theorem FN.m.at:P.funcs[F.m]? =some FN.m:=Tryz.func167
noncomputable abbrev FN.y:Func:=Tryz.f168
theorem FN.y.at:P.funcs[F.y]? =some FN.y:=Tryz.func168
noncomputable abbrev FN.ae:Func:=Tryz.f171
theorem FN.ae.at:P.funcs[F.ae]? =some FN.ae:=Tryz.func171
noncomputable abbrev FN.ah:Func:=Tryz.f175
theorem FN.ah.at:P.funcs[F.ah]? =some FN.ah:=Tryz.func175
noncomputable abbrev FN.cz:Func:=Tryz.f191
theorem FN.cz.at:P.funcs[F.cz]? =some FN.cz:=Tryz.func191
noncomputable abbrev FN.bw:Func:=Tryz.f195
theorem FN.bw.at:P.funcs[F.bw]? =some FN.bw:=Tryz.func195
noncomputable abbrev FN.j:Func:=Tryz.f213
theorem FN.j.at:P.funcs[F.j]? =some FN.j:=Tryz.func213
noncomputable abbrev FN.s:Func:=Tryz.f214
theorem FN.s.at:P.funcs[F.s]? =some FN.s:=Tryz.func214
noncomputable abbrev FN.k:Func:=Tryz.f215
theorem FN.k.at:P.funcs[F.k]? =some FN.k:=Tryz.func215
noncomputable abbrev FN.p:Func:=Tryz.f216
theorem FN.p.at:P.funcs[F.p]? =some FN.p:=Tryz.func216
noncomputable abbrev FN.n:Func:=Tryz.f217
theorem FN.n.at:P.funcs[F.n]? =some FN.n:=Tryz.func217
noncomputable abbrev FN.c:Func:=Tryz.f218
theorem FN.c.at:P.funcs[F.c]? =some FN.c:=Tryz.func218
noncomputable abbrev FN.bx:Func:=Tryz.f219
theorem FN.bx.at:P.funcs[F.bx]? =some FN.bx:=Tryz.func219
noncomputable abbrev FN.h:Func:=Tryz.f220
theorem FN.h.at:P.funcs[F.h]? =some FN.h:=Tryz.func220
noncomputable abbrev FN.q:Func:=Tryz.f221
theorem FN.q.at:P.funcs[F.q]? =some FN.q:=Tryz.func221
noncomputable abbrev FN.l:Func:=Tryz.f233
theorem FN.l.at:P.funcs[F.l]? =some FN.l:=Tryz.func233
noncomputable abbrev FN.cq:Func:=Tryz.f241
theorem FN.cq.at:P.funcs[F.cq]? =some FN.cq:=Tryz.func241
noncomputable abbrev FN.t:Func:=Tryz.f251
theorem FN.t.at:P.funcs[F.t]? =some FN.t:=Tryz.func251
noncomputable abbrev FN.i:Func:=Tryz.f254
theorem FN.i.at:P.funcs[F.i]? =some FN.i:=Tryz.func254
noncomputable abbrev FN.ab:Func:=Tryz.f255
theorem FN.ab.at:P.funcs[F.ab]? =some FN.ab:=Tryz.func255
noncomputable abbrev FN.ac:Func:=Tryz.f276
theorem FN.ac.at:P.funcs[F.ac]? =some FN.ac:=Tryz.func276
noncomputable abbrev FN.x:Func:=Tryz.f278
theorem FN.x.at:P.funcs[F.x]? =some FN.x:=Tryz.func278
open Go.Eng
abbrev QQ:=World->KV->Prop
abbrev bK(op:BinOp)(t:TypeId)(n:Nat)(x c:Value)(w:World)(K:KV):Prop:=ip P op t (.tmp n) (.const c) x c w K
abbrev bT(op:BinOp)(t:TypeId)(n m:Nat)(x y:Value)(w:World)(K:KV):Prop:=ip P op t (.tmp n) (.tmp m) x y w K
def p0:oy:=⟨.nil,[],false,[]⟩
def pN:Nat->oy:=fun _=>p0
def gS:Nat->Nat->PT->PT
 | _,0,x=>x
 | i,n+1,x=> .go i (gS (i+1) n x)
abbrev fC(f:FuncId):Prop:= ∀(args:List Value)(w:World)(K:KV),ie P f args w K=jo P f args w K
abbrev rC(f:FuncId):Prop:= ∀(a c args:List Value)(w:World)(K:KV),ku P (.func (.func f) a.toArray c.toArray) args w K=jo P f (a ++ args ++ c) w K
theorem fcN {f:FuncId} {fn:Func} (hf:P.funcs[f]? =some fn) (h:((fn.name == "runtime.NumGoroutine"),fn.body.isNone)=(false,false):=by kernel_rfl):fC f:=fun args w K=>agv hf (Prod.mk.inj h).1 (Prod.mk.inj h).2 args w K
theorem rcN {f:FuncId} {fn:Func} (hf:P.funcs[f]? =some fn) (h:((fn.name == "runtime.NumGoroutine"),fn.body.isNone)=(false,false):=by kernel_rfl):rC f:=fun a c args w K=>ajd hf (Prod.mk.inj h).1 (Prod.mk.inj h).2 a c args w K
abbrev C0(f:FuncId)(X:World->KV->Prop):Prop:= ∀{w:World}{K:KV},X w K->jo P f [] w K
theorem mk0{f:FuncId}{fn:Func}(L:List Nat)(pl:Nat->oy){X:World->KV->Prop}(hf:P.funcs[f]? =some fn)(h:(fn.body,adt L pl fn (fn.body.getD .skip) 0,X)=(some (fn.body.getD .skip),true,fun w K=>den P L pl (fn.body.getD .skip) (zp []) w (abj P fn.results.toList K)):=by kernel_rfl):C0 f X:=fun {w K} h'=>rg (by kernel_rfl) hf (Prod.mk.inj h).1 (Prod.mk.inj (Prod.mk.inj h).2).1 (cast (congrFun (congrFun ((Prod.mk.inj (Prod.mk.inj h).2).2) w) K) h')
abbrev C1(f:FuncId)(X:Value->World->KV->Prop):Prop:= ∀(a0:Value){w:World}{K:KV},X a0 w K->jo P f [a0] w K
theorem mk1{f:FuncId}{fn:Func}(L:List Nat)(pl:Nat->oy){X:Value->World->KV->Prop}(hf:P.funcs[f]? =some fn)(h:(fn.body,adt L pl fn (fn.body.getD .skip) 1,X)=(some (fn.body.getD .skip),true,fun a0 w K=>den P L pl (fn.body.getD .skip) (zp [a0]) w (abj P fn.results.toList K)):=by kernel_rfl):C1 f X:=fun a0 {w K} h'=>rg (by kernel_rfl) hf (Prod.mk.inj h).1 (Prod.mk.inj (Prod.mk.inj h).2).1 (cast (congrFun (congrFun (congrFun ((Prod.mk.inj (Prod.mk.inj h).2).2) a0) w) K) h')
abbrev C2(f:FuncId)(X:Value->Value->World->KV->Prop):Prop:= ∀(a0 a1:Value){w:World}{K:KV},X a0 a1 w K->jo P f [a0,a1] w K
theorem mk2{f:FuncId}{fn:Func}(L:List Nat)(pl:Nat->oy){X:Value->Value->World->KV->Prop}(hf:P.funcs[f]? =some fn)(h:(fn.body,adt L pl fn (fn.body.getD .skip) 2,X)=(some (fn.body.getD .skip),true,fun a0 a1 w K=>den P L pl (fn.body.getD .skip) (zp [a0,a1]) w (abj P fn.results.toList K)):=by kernel_rfl):C2 f X:=fun a0 a1 {w K} h'=>rg (by kernel_rfl) hf (Prod.mk.inj h).1 (Prod.mk.inj (Prod.mk.inj h).2).1 (cast (congrFun (congrFun (congrFun (congrFun ((Prod.mk.inj (Prod.mk.inj h).2).2) a0) a1) w) K) h')
abbrev C3(f:FuncId)(X:Value->Value->Value->World->KV->Prop):Prop:= ∀(a0 a1 a2:Value){w:World}{K:KV},X a0 a1 a2 w K->jo P f [a0,a1,a2] w K
theorem mk3{f:FuncId}{fn:Func}(L:List Nat)(pl:Nat->oy){X:Value->Value->Value->World->KV->Prop}(hf:P.funcs[f]? =some fn)(h:(fn.body,adt L pl fn (fn.body.getD .skip) 3,X)=(some (fn.body.getD .skip),true,fun a0 a1 a2 w K=>den P L pl (fn.body.getD .skip) (zp [a0,a1,a2]) w (abj P fn.results.toList K)):=by kernel_rfl):C3 f X:=fun a0 a1 a2 {w K} h'=>rg (by kernel_rfl) hf (Prod.mk.inj h).1 (Prod.mk.inj (Prod.mk.inj h).2).1 (cast (congrFun (congrFun (congrFun (congrFun (congrFun ((Prod.mk.inj (Prod.mk.inj h).2).2) a0) a1) a2) w) K) h')
abbrev C4(f:FuncId)(X:Value->Value->Value->Value->World->KV->Prop):Prop:= ∀(a0 a1 a2 a3:Value){w:World}{K:KV},X a0 a1 a2 a3 w K->jo P f [a0,a1,a2,a3] w K
theorem mk4{f:FuncId}{fn:Func}(L:List Nat)(pl:Nat->oy){X:Value->Value->Value->Value->World->KV->Prop}(hf:P.funcs[f]? =some fn)(h:(fn.body,adt L pl fn (fn.body.getD .skip) 4,X)=(some (fn.body.getD .skip),true,fun a0 a1 a2 a3 w K=>den P L pl (fn.body.getD .skip) (zp [a0,a1,a2,a3]) w (abj P fn.results.toList K)):=by kernel_rfl):C4 f X:=fun a0 a1 a2 a3 {w K} h'=>rg (by kernel_rfl) hf (Prod.mk.inj h).1 (Prod.mk.inj (Prod.mk.inj h).2).1 (cast (congrFun (congrFun (congrFun (congrFun (congrFun (congrFun ((Prod.mk.inj (Prod.mk.inj h).2).2) a0) a1) a2) a3) w) K) h')
abbrev C5(f:FuncId)(X:Value->Value->Value->Value->Value->World->KV->Prop):Prop:= ∀(a0 a1 a2 a3 a4:Value){w:World}{K:KV},X a0 a1 a2 a3 a4 w K->jo P f [a0,a1,a2,a3,a4] w K
theorem mk5{f:FuncId}{fn:Func}(L:List Nat)(pl:Nat->oy){X:Value->Value->Value->Value->Value->World->KV->Prop}(hf:P.funcs[f]? =some fn)(h:(fn.body,adt L pl fn (fn.body.getD .skip) 5,X)=(some (fn.body.getD .skip),true,fun a0 a1 a2 a3 a4 w K=>den P L pl (fn.body.getD .skip) (zp [a0,a1,a2,a3,a4]) w (abj P fn.results.toList K)):=by kernel_rfl):C5 f X:=fun a0 a1 a2 a3 a4 {w K} h'=>rg (by kernel_rfl) hf (Prod.mk.inj h).1 (Prod.mk.inj (Prod.mk.inj h).2).1 (cast (congrFun (congrFun (congrFun (congrFun (congrFun (congrFun (congrFun ((Prod.mk.inj (Prod.mk.inj h).2).2) a0) a1) a2) a3) a4) w) K) h')
abbrev C6(f:FuncId)(X:Value->Value->Value->Value->Value->Value->World->KV->Prop):Prop:= ∀(a0 a1 a2 a3 a4 a5:Value){w:World}{K:KV},X a0 a1 a2 a3 a4 a5 w K->jo P f [a0,a1,a2,a3,a4,a5] w K
theorem mk6{f:FuncId}{fn:Func}(L:List Nat)(pl:Nat->oy){X:Value->Value->Value->Value->Value->Value->World->KV->Prop}(hf:P.funcs[f]? =some fn)(h:(fn.body,adt L pl fn (fn.body.getD .skip) 6,X)=(some (fn.body.getD .skip),true,fun a0 a1 a2 a3 a4 a5 w K=>den P L pl (fn.body.getD .skip) (zp [a0,a1,a2,a3,a4,a5]) w (abj P fn.results.toList K)):=by kernel_rfl):C6 f X:=fun a0 a1 a2 a3 a4 a5 {w K} h'=>rg (by kernel_rfl) hf (Prod.mk.inj h).1 (Prod.mk.inj (Prod.mk.inj h).2).1 (cast (congrFun (congrFun (congrFun (congrFun (congrFun (congrFun (congrFun (congrFun ((Prod.mk.inj (Prod.mk.inj h).2).2) a0) a1) a2) a3) a4) a5) w) K) h')
abbrev C7(f:FuncId)(X:Value->Value->Value->Value->Value->Value->Value->World->KV->Prop):Prop:= ∀(a0 a1 a2 a3 a4 a5 a6:Value){w:World}{K:KV},X a0 a1 a2 a3 a4 a5 a6 w K->jo P f [a0,a1,a2,a3,a4,a5,a6] w K
theorem mk7{f:FuncId}{fn:Func}(L:List Nat)(pl:Nat->oy){X:Value->Value->Value->Value->Value->Value->Value->World->KV->Prop}(hf:P.funcs[f]? =some fn)(h:(fn.body,adt L pl fn (fn.body.getD .skip) 7,X)=(some (fn.body.getD .skip),true,fun a0 a1 a2 a3 a4 a5 a6 w K=>den P L pl (fn.body.getD .skip) (zp [a0,a1,a2,a3,a4,a5,a6]) w (abj P fn.results.toList K)):=by kernel_rfl):C7 f X:=fun a0 a1 a2 a3 a4 a5 a6 {w K} h'=>rg (by kernel_rfl) hf (Prod.mk.inj h).1 (Prod.mk.inj (Prod.mk.inj h).2).1 (cast (congrFun (congrFun (congrFun (congrFun (congrFun (congrFun (congrFun (congrFun (congrFun ((Prod.mk.inj (Prod.mk.inj h).2).2) a0) a1) a2) a3) a4) a5) a6) w) K) h')
end Go.Proofs.YtgepcfcicngceaaGreatDoor
