/-
  The numbers of the functions and types of this seat by name, printed by wip/Shallow.lean. No condition.
-/
import Derived.Test.YtgepcfcicngceaaGreatDoorZEng
import Derived.Test.YtgepcfcicngceaaGreatDoorChecked
import Derived.KernelRfl
namespace Go.Proofs.YtgepcfcicngceaaGreatDoor
noncomputable abbrev P:Program:=Tryz.prog
abbrev F.dj:=4
abbrev F.aw:=11
abbrev F.bm:=12
abbrev F.be:=14
abbrev F.r:=15
abbrev F.bf:=16
abbrev F.ap:=17
abbrev F.bg:=18
abbrev F.aa:=20
abbrev F.ay:=21
abbrev F.bj:=22
abbrev F.bs:=23
abbrev F.eu:=24
abbrev F.du:=25
abbrev F.df:=26
abbrev F.fb:=27
abbrev F.co:=28
abbrev F.dg:=32
abbrev F.fc:=33
abbrev F.fd:=35
abbrev F.ee:=37
abbrev F.f:=38
abbrev F.bv:=39
abbrev F.ce:=40
abbrev F.cc:=41
abbrev F.br:=42
abbrev F.ck:=43
abbrev F.bn:=44
abbrev F.gs:=46
abbrev F.ct:=47
abbrev F.w:=48
abbrev F.fe:=49
abbrev F.cf:=50
abbrev F.gb:=51
abbrev F.hc:=52
abbrev F.am:=53
abbrev F.bh:=54
abbrev F.go:=55
abbrev F.ao:=56
abbrev F.ai:=57
abbrev F.gu:=58
abbrev F.gk:=59
abbrev F.gp:=60
abbrev F.x:=61
abbrev F.af:=62
abbrev F.gq:=63
abbrev F.fn:=64
abbrev F.gl:=65
abbrev F.a:=66
abbrev F.cs:=67
abbrev F.dk:=75
abbrev F.ef:=76
abbrev F.dl:=77
abbrev F.eg:=82
abbrev F.ah:=83
abbrev F.t:=84
abbrev F.dm:=85
abbrev F.ff:=86
abbrev F.eo:=87
abbrev F.cu:=88
abbrev F.ax:=89
abbrev F.gx:=90
abbrev F.dv:=91
abbrev F.bw:=92
abbrev F.cg:=93
abbrev F.bt:=94
abbrev F.g:=95
abbrev F.e:=96
abbrev F.ar:=98
abbrev F.ch:=99
abbrev F.cp:=100
abbrev F.fo:=101
abbrev F.cw:=102
abbrev F.cd:=103
abbrev F.p:=104
abbrev F.cl:=105
abbrev F.dr:=106
abbrev F.db:=107
abbrev F.dw:=109
abbrev F.di:=110
abbrev F.bz:=111
abbrev F.ep:=112
abbrev F.bp:=115
abbrev F.cy:=116
abbrev F.h:=117
abbrev F.c:=118
abbrev F.gz:=119
abbrev F.ak:=120
abbrev F.ed:=121
abbrev F.fp:=122
abbrev F.az:=123
abbrev F.gc:=124
abbrev F.hi:=125
abbrev F.fq:=126
abbrev F.ev:=127
abbrev F.fw:=128
abbrev F.gh:=129
abbrev F.eh:=133
abbrev F.b:=135
abbrev F.gi:=136
abbrev F.ei:=137
abbrev F.gw:=138
abbrev F.gv:=139
abbrev F.cx:=140
abbrev F.gj:=141
abbrev F.cj:=142
abbrev F.ac:=143
abbrev F.fr:=144
abbrev F.fg:=145
abbrev F.gd:=146
abbrev F.au:=147
abbrev F.ha:=149
abbrev F.bx:=150
abbrev F.fh:=151
abbrev F.fz:=152
abbrev F.al:=153
abbrev F.bu:=154
abbrev F.bb:=155
abbrev F.bk:=156
abbrev F.ew:=157
abbrev F.bd:=158
abbrev F.dx:=162
abbrev F.hv:=163
abbrev F.ci:=164
abbrev F.cq:=165
abbrev F.dc:=166
abbrev F.n:=167
abbrev F.ab:=168
abbrev F.ds:=169
abbrev F.aq:=170
abbrev F.ag:=171
abbrev F.y:=172
abbrev F.gm:=173
abbrev F.ge:=174
abbrev F.aj:=175
abbrev F.dt:=176
abbrev F.fx:=177
abbrev F.fv:=178
abbrev F.ft:=179
abbrev F.hd:=180
abbrev F.gy:=181
abbrev F.dh:=182
abbrev F.er:=184
abbrev F.gn:=187
abbrev F.gr:=188
abbrev F.es:=189
abbrev F.bi:=190
abbrev F.dd:=191
abbrev F.gf:=192
abbrev F.gg:=193
abbrev F.fi:=194
abbrev F.ca:=195
abbrev F.ej:=196
abbrev F.bq:=197
abbrev F.ex:=198
abbrev F.dy:=199
abbrev F.cr:=200
abbrev F.dz:=201
abbrev F.an:=202
abbrev F.el:=203
abbrev F.dq:=204
abbrev F.ea:=205
abbrev F.ba:=206
abbrev F.bc:=207
abbrev F.bl:=208
abbrev F.cm:=212
abbrev F.k:=213
abbrev F.u:=214
abbrev F.l:=215
abbrev F.q:=216
abbrev F.o:=217
abbrev F.d:=218
abbrev F.cb:=219
abbrev F.i:=220
abbrev F.s:=221
abbrev F.hf:=222
abbrev F.fj:=223
abbrev F.av:=224
abbrev F.fu:=225
abbrev F.ez:=226
abbrev F.fm:=227
abbrev F.fl:=228
abbrev F.eb:=229
abbrev F.ey:=230
abbrev F.fs:=231
abbrev F.de:=232
abbrev F.m:=233
abbrev F.ga:=234
abbrev F.fy:=235
abbrev F.he:=239
abbrev F.cv:=241
abbrev F.em:=242
abbrev F.hj:=243
abbrev F.hk:=244
abbrev F.hl:=245
abbrev F.hm:=246
abbrev F.hn:=248
abbrev F.cn:=249
abbrev F.v:=251
abbrev F.cz:=252
abbrev F.da:=253
abbrev F.j:=254
abbrev F.ad:=255
abbrev F.bo:=259
abbrev F.en:=260
abbrev F.gt:=261
abbrev F.fa:=262
abbrev F.hg:=264
abbrev F.ae:=276
abbrev F.z:=278
abbrev F.fk:=311
abbrev F.dn:=312
abbrev F.dp:=313
abbrev F.et:=314
abbrev F.ek:=315
abbrev T.ca:=0
abbrev T.d:=3
abbrev T.br:=4
abbrev T.ac:=5
abbrev T.m:=9
abbrev T.bf:=20
abbrev T.bi:=21
abbrev T.g:=22
abbrev T.a:=23
abbrev T.e:=25
abbrev T.ae:=26
abbrev T.j:=27
abbrev T.s:=28
abbrev T.i:=29
abbrev T.c:=31
abbrev T.ak:=34
abbrev T.z:=38
abbrev T.ar:=41
abbrev T.ax:=43
abbrev T.bp:=50
abbrev T.h:=54
abbrev T.p:=56
abbrev T.f:=59
abbrev T.ap:=64
abbrev T.n:=68
abbrev T.bm:=70
abbrev T.ad:=87
abbrev T.bh:=88
abbrev T.aq:=89
abbrev T.bl:=90
abbrev T.x:=91
abbrev T.u:=92
abbrev T.v:=93
abbrev T.b:=95
abbrev T.bj:=98
abbrev T.y:=109
abbrev T.w:=111
abbrev T.l:=114
abbrev T.ag:=117
abbrev T.aa:=120
abbrev T.bz:=124
abbrev T.an:=126
abbrev T.bg:=148
abbrev T.bc:=161
abbrev T.ai:=163
abbrev T.k:=167
abbrev T.bo:=168
abbrev T.af:=170
abbrev T.o:=171
abbrev T.be:=173
abbrev T.ao:=175
abbrev T.bb:=177
abbrev T.bn:=183
abbrev T.av:=191
abbrev T.bw:=195
abbrev T.al:=196
abbrev T.ay:=198
abbrev T.au:=214
abbrev T.q:=224
abbrev T.bs:=227
abbrev T.bq:=231
abbrev T.bu:=238
abbrev T.ab:=239
abbrev T.bd:=241
abbrev T.aw:=243
abbrev T.am:=256
abbrev T.r:=258
abbrev T.aj:=271
abbrev T.t:=273
abbrev T.bx:=288
abbrev T.cc:=299
abbrev T.bv:=319
abbrev T.bk:=320
abbrev T.bt:=333
abbrev T.cb:=340
abbrev T.ah:=353
noncomputable abbrev FN.af:Func:=Tryz.f62
theorem FN.af.at:P.funcs[F.af]? =some FN.af:=Tryz.func62
noncomputable abbrev FN.h:Func:=Tryz.f117
theorem FN.h.at:P.funcs[F.h]? =some FN.h:=Tryz.func117
noncomputable abbrev FN.c:Func:=Tryz.f118
theorem FN.c.at:P.funcs[F.c]? =some FN.c:=Tryz.func118
noncomputable abbrev FN.b:Func:=Tryz.f135
theorem FN.b.at:P.funcs[F.b]? =some FN.b:=Tryz.func135
noncomputable abbrev FN.n:Func:=Tryz.f167
theorem FN.n.at:P.funcs[F.n]? =some FN.n:=Tryz.func167
noncomputable abbrev FN.ab:Func:=Tryz.f168
theorem FN.ab.at:P.funcs[F.ab]? =some FN.ab:=Tryz.func168
noncomputable abbrev FN.ag:Func:=Tryz.f171
theorem FN.ag.at:P.funcs[F.ag]? =some FN.ag:=Tryz.func171
noncomputable abbrev FN.aj:Func:=Tryz.f175
theorem FN.aj.at:P.funcs[F.aj]? =some FN.aj:=Tryz.func175
noncomputable abbrev FN.dd:Func:=Tryz.f191
theorem FN.dd.at:P.funcs[F.dd]? =some FN.dd:=Tryz.func191
noncomputable abbrev FN.ca:Func:=Tryz.f195
theorem FN.ca.at:P.funcs[F.ca]? =some FN.ca:=Tryz.func195
noncomputable abbrev FN.k:Func:=Tryz.f213
theorem FN.k.at:P.funcs[F.k]? =some FN.k:=Tryz.func213
noncomputable abbrev FN.u:Func:=Tryz.f214
theorem FN.u.at:P.funcs[F.u]? =some FN.u:=Tryz.func214
noncomputable abbrev FN.l:Func:=Tryz.f215
theorem FN.l.at:P.funcs[F.l]? =some FN.l:=Tryz.func215
noncomputable abbrev FN.q:Func:=Tryz.f216
theorem FN.q.at:P.funcs[F.q]? =some FN.q:=Tryz.func216
noncomputable abbrev FN.o:Func:=Tryz.f217
theorem FN.o.at:P.funcs[F.o]? =some FN.o:=Tryz.func217
noncomputable abbrev FN.d:Func:=Tryz.f218
theorem FN.d.at:P.funcs[F.d]? =some FN.d:=Tryz.func218
noncomputable abbrev FN.cb:Func:=Tryz.f219
theorem FN.cb.at:P.funcs[F.cb]? =some FN.cb:=Tryz.func219
noncomputable abbrev FN.i:Func:=Tryz.f220
theorem FN.i.at:P.funcs[F.i]? =some FN.i:=Tryz.func220
noncomputable abbrev FN.s:Func:=Tryz.f221
theorem FN.s.at:P.funcs[F.s]? =some FN.s:=Tryz.func221
noncomputable abbrev FN.m:Func:=Tryz.f233
theorem FN.m.at:P.funcs[F.m]? =some FN.m:=Tryz.func233
noncomputable abbrev FN.cv:Func:=Tryz.f241
theorem FN.cv.at:P.funcs[F.cv]? =some FN.cv:=Tryz.func241
noncomputable abbrev FN.v:Func:=Tryz.f251
theorem FN.v.at:P.funcs[F.v]? =some FN.v:=Tryz.func251
noncomputable abbrev FN.j:Func:=Tryz.f254
theorem FN.j.at:P.funcs[F.j]? =some FN.j:=Tryz.func254
noncomputable abbrev FN.ad:Func:=Tryz.f255
theorem FN.ad.at:P.funcs[F.ad]? =some FN.ad:=Tryz.func255
noncomputable abbrev FN.ae:Func:=Tryz.f276
theorem FN.ae.at:P.funcs[F.ae]? =some FN.ae:=Tryz.func276
noncomputable abbrev FN.z:Func:=Tryz.f278
theorem FN.z.at:P.funcs[F.z]? =some FN.z:=Tryz.func278
open Go.Eng
abbrev QQ:=World->KV->Prop
abbrev bK(op:BinOp)(t:TypeId)(n:Nat)(x c:Value)(w:World)(K:KV):Prop:=iq P op t (.tmp n) (.const c) x c w K
abbrev bT(op:BinOp)(t:TypeId)(n m:Nat)(x y:Value)(w:World)(K:KV):Prop:=iq P op t (.tmp n) (.tmp m) x y w K
def p0:pe:=⟨.nil,[],false,[]⟩
def pN:Nat->pe:=fun _=>p0
def gS:Nat->Nat->PT->PT
 | _,0,x=>x
 | i,n+1,x=> .go i (gS (i+1) n x)
abbrev fC(f:FuncId):Prop:= ∀(args:List Value)(w:World)(K:KV),ig P f args w K=jr P f args w K
abbrev rC(f:FuncId):Prop:= ∀(a c args:List Value)(w:World)(K:KV),kx P (.func (.func f) a.toArray c.toArray) args w K=jr P f (a ++ args ++ c) w K
theorem fcN {f:FuncId} {fn:Func} (hf:P.funcs[f]? =some fn) (h:((fn.name == "runtime.NumGoroutine"),fn.body.isNone)=(false,false):=by kernel_rfl):fC f:=fun args w K=>agv hf (Prod.mk.inj h).1 (Prod.mk.inj h).2 args w K
theorem rcN {f:FuncId} {fn:Func} (hf:P.funcs[f]? =some fn) (h:((fn.name == "runtime.NumGoroutine"),fn.body.isNone)=(false,false):=by kernel_rfl):rC f:=fun a c args w K=>ajw hf (Prod.mk.inj h).1 (Prod.mk.inj h).2 a c args w K
abbrev C0(f:FuncId)(X:World->KV->Prop):Prop:= ∀{w:World}{K:KV},X w K->jr P f [] w K
theorem mk0{f:FuncId}{fn:Func}(L:List Nat)(pl:Nat->pe){X:World->KV->Prop}(hf:P.funcs[f]? =some fn)(h:(fn.body,aef L pl fn (fn.body.getD .skip) 0,X)=(some (fn.body.getD .skip),true,fun w K=>den P L pl (fn.body.getD .skip) (aan []) w (ace P fn.results.toList K)):=by kernel_rfl):C0 f X:=fun {w K} h'=>ro (by kernel_rfl) hf (Prod.mk.inj h).1 (Prod.mk.inj (Prod.mk.inj h).2).1 (cast (congrFun (congrFun ((Prod.mk.inj (Prod.mk.inj h).2).2) w) K) h')
abbrev C1(f:FuncId)(X:Value->World->KV->Prop):Prop:= ∀(a0:Value){w:World}{K:KV},X a0 w K->jr P f [a0] w K
theorem mk1{f:FuncId}{fn:Func}(L:List Nat)(pl:Nat->pe){X:Value->World->KV->Prop}(hf:P.funcs[f]? =some fn)(h:(fn.body,aef L pl fn (fn.body.getD .skip) 1,X)=(some (fn.body.getD .skip),true,fun a0 w K=>den P L pl (fn.body.getD .skip) (aan [a0]) w (ace P fn.results.toList K)):=by kernel_rfl):C1 f X:=fun a0 {w K} h'=>ro (by kernel_rfl) hf (Prod.mk.inj h).1 (Prod.mk.inj (Prod.mk.inj h).2).1 (cast (congrFun (congrFun (congrFun ((Prod.mk.inj (Prod.mk.inj h).2).2) a0) w) K) h')
abbrev C2(f:FuncId)(X:Value->Value->World->KV->Prop):Prop:= ∀(a0 a1:Value){w:World}{K:KV},X a0 a1 w K->jr P f [a0,a1] w K
theorem mk2{f:FuncId}{fn:Func}(L:List Nat)(pl:Nat->pe){X:Value->Value->World->KV->Prop}(hf:P.funcs[f]? =some fn)(h:(fn.body,aef L pl fn (fn.body.getD .skip) 2,X)=(some (fn.body.getD .skip),true,fun a0 a1 w K=>den P L pl (fn.body.getD .skip) (aan [a0,a1]) w (ace P fn.results.toList K)):=by kernel_rfl):C2 f X:=fun a0 a1 {w K} h'=>ro (by kernel_rfl) hf (Prod.mk.inj h).1 (Prod.mk.inj (Prod.mk.inj h).2).1 (cast (congrFun (congrFun (congrFun (congrFun ((Prod.mk.inj (Prod.mk.inj h).2).2) a0) a1) w) K) h')
abbrev C3(f:FuncId)(X:Value->Value->Value->World->KV->Prop):Prop:= ∀(a0 a1 a2:Value){w:World}{K:KV},X a0 a1 a2 w K->jr P f [a0,a1,a2] w K
theorem mk3{f:FuncId}{fn:Func}(L:List Nat)(pl:Nat->pe){X:Value->Value->Value->World->KV->Prop}(hf:P.funcs[f]? =some fn)(h:(fn.body,aef L pl fn (fn.body.getD .skip) 3,X)=(some (fn.body.getD .skip),true,fun a0 a1 a2 w K=>den P L pl (fn.body.getD .skip) (aan [a0,a1,a2]) w (ace P fn.results.toList K)):=by kernel_rfl):C3 f X:=fun a0 a1 a2 {w K} h'=>ro (by kernel_rfl) hf (Prod.mk.inj h).1 (Prod.mk.inj (Prod.mk.inj h).2).1 (cast (congrFun (congrFun (congrFun (congrFun (congrFun ((Prod.mk.inj (Prod.mk.inj h).2).2) a0) a1) a2) w) K) h')
abbrev C4(f:FuncId)(X:Value->Value->Value->Value->World->KV->Prop):Prop:= ∀(a0 a1 a2 a3:Value){w:World}{K:KV},X a0 a1 a2 a3 w K->jr P f [a0,a1,a2,a3] w K
theorem mk4{f:FuncId}{fn:Func}(L:List Nat)(pl:Nat->pe){X:Value->Value->Value->Value->World->KV->Prop}(hf:P.funcs[f]? =some fn)(h:(fn.body,aef L pl fn (fn.body.getD .skip) 4,X)=(some (fn.body.getD .skip),true,fun a0 a1 a2 a3 w K=>den P L pl (fn.body.getD .skip) (aan [a0,a1,a2,a3]) w (ace P fn.results.toList K)):=by kernel_rfl):C4 f X:=fun a0 a1 a2 a3 {w K} h'=>ro (by kernel_rfl) hf (Prod.mk.inj h).1 (Prod.mk.inj (Prod.mk.inj h).2).1 (cast (congrFun (congrFun (congrFun (congrFun (congrFun (congrFun ((Prod.mk.inj (Prod.mk.inj h).2).2) a0) a1) a2) a3) w) K) h')
abbrev C5(f:FuncId)(X:Value->Value->Value->Value->Value->World->KV->Prop):Prop:= ∀(a0 a1 a2 a3 a4:Value){w:World}{K:KV},X a0 a1 a2 a3 a4 w K->jr P f [a0,a1,a2,a3,a4] w K
theorem mk5{f:FuncId}{fn:Func}(L:List Nat)(pl:Nat->pe){X:Value->Value->Value->Value->Value->World->KV->Prop}(hf:P.funcs[f]? =some fn)(h:(fn.body,aef L pl fn (fn.body.getD .skip) 5,X)=(some (fn.body.getD .skip),true,fun a0 a1 a2 a3 a4 w K=>den P L pl (fn.body.getD .skip) (aan [a0,a1,a2,a3,a4]) w (ace P fn.results.toList K)):=by kernel_rfl):C5 f X:=fun a0 a1 a2 a3 a4 {w K} h'=>ro (by kernel_rfl) hf (Prod.mk.inj h).1 (Prod.mk.inj (Prod.mk.inj h).2).1 (cast (congrFun (congrFun (congrFun (congrFun (congrFun (congrFun (congrFun ((Prod.mk.inj (Prod.mk.inj h).2).2) a0) a1) a2) a3) a4) w) K) h')
abbrev C6(f:FuncId)(X:Value->Value->Value->Value->Value->Value->World->KV->Prop):Prop:= ∀(a0 a1 a2 a3 a4 a5:Value){w:World}{K:KV},X a0 a1 a2 a3 a4 a5 w K->jr P f [a0,a1,a2,a3,a4,a5] w K
theorem mk6{f:FuncId}{fn:Func}(L:List Nat)(pl:Nat->pe){X:Value->Value->Value->Value->Value->Value->World->KV->Prop}(hf:P.funcs[f]? =some fn)(h:(fn.body,aef L pl fn (fn.body.getD .skip) 6,X)=(some (fn.body.getD .skip),true,fun a0 a1 a2 a3 a4 a5 w K=>den P L pl (fn.body.getD .skip) (aan [a0,a1,a2,a3,a4,a5]) w (ace P fn.results.toList K)):=by kernel_rfl):C6 f X:=fun a0 a1 a2 a3 a4 a5 {w K} h'=>ro (by kernel_rfl) hf (Prod.mk.inj h).1 (Prod.mk.inj (Prod.mk.inj h).2).1 (cast (congrFun (congrFun (congrFun (congrFun (congrFun (congrFun (congrFun (congrFun ((Prod.mk.inj (Prod.mk.inj h).2).2) a0) a1) a2) a3) a4) a5) w) K) h')
abbrev C7(f:FuncId)(X:Value->Value->Value->Value->Value->Value->Value->World->KV->Prop):Prop:= ∀(a0 a1 a2 a3 a4 a5 a6:Value){w:World}{K:KV},X a0 a1 a2 a3 a4 a5 a6 w K->jr P f [a0,a1,a2,a3,a4,a5,a6] w K
theorem mk7{f:FuncId}{fn:Func}(L:List Nat)(pl:Nat->pe){X:Value->Value->Value->Value->Value->Value->Value->World->KV->Prop}(hf:P.funcs[f]? =some fn)(h:(fn.body,aef L pl fn (fn.body.getD .skip) 7,X)=(some (fn.body.getD .skip),true,fun a0 a1 a2 a3 a4 a5 a6 w K=>den P L pl (fn.body.getD .skip) (aan [a0,a1,a2,a3,a4,a5,a6]) w (ace P fn.results.toList K)):=by kernel_rfl):C7 f X:=fun a0 a1 a2 a3 a4 a5 a6 {w K} h'=>ro (by kernel_rfl) hf (Prod.mk.inj h).1 (Prod.mk.inj (Prod.mk.inj h).2).1 (cast (congrFun (congrFun (congrFun (congrFun (congrFun (congrFun (congrFun (congrFun (congrFun ((Prod.mk.inj (Prod.mk.inj h).2).2) a0) a1) a2) a3) a4) a5) a6) w) K) h')
end Go.Proofs.YtgepcfcicngceaaGreatDoor
