/-
  The numbers of the functions and types of this seat by name, printed by wip/Shallow.lean. No condition.
-/
import Derived.Test.YtgepcfcicngceaaGreatDoorZEng
import Derived.Test.YtgepcfcicngceaaGreatDoorChecked
import Derived.KernelRfl
namespace Go.Proofs.YtgepcfcicngceaaGreatDoor
noncomputable abbrev P:Program:=Tryz.prog
abbrev F.dc:=6
abbrev F.bv:=11
abbrev F.au:=12
abbrev F.ad:=15
abbrev F.ao:=16
abbrev F.ax:=17
abbrev F.ca:=18
abbrev F.aw:=20
abbrev F.bc:=21
abbrev F.ap:=22
abbrev F.bs:=23
abbrev F.fa:=24
abbrev F.dt:=25
abbrev F.dg:=26
abbrev F.ef:=32
abbrev F.fi:=33
abbrev F.fj:=35
abbrev F.eg:=37
abbrev F.f:=38
abbrev F.bw:=39
abbrev F.cg:=40
abbrev F.ce:=41
abbrev F.bj:=42
abbrev F.cm:=43
abbrev F.bo:=44
abbrev F.gy:=46
abbrev F.cu:=47
abbrev F.v:=48
abbrev F.fk:=49
abbrev F.ch:=50
abbrev F.ft:=51
abbrev F.eh:=52
abbrev F.aq:=53
abbrev F.bk:=54
abbrev F.gs:=55
abbrev F.w:=56
abbrev F.ak:=57
abbrev F.ha:=58
abbrev F.go:=59
abbrev F.gt:=60
abbrev F.x:=61
abbrev F.ag:=62
abbrev F.gu:=63
abbrev F.fu:=64
abbrev F.gp:=65
abbrev F.dj:=75
abbrev F.ei:=76
abbrev F.dk:=77
abbrev F.ej:=82
abbrev F.ai:=83
abbrev F.s:=84
abbrev F.dl:=85
abbrev F.fl:=86
abbrev F.es:=87
abbrev F.cv:=88
abbrev F.bb:=89
abbrev F.hd:=90
abbrev F.du:=91
abbrev F.bx:=92
abbrev F.ci:=93
abbrev F.bt:=94
abbrev F.g:=95
abbrev F.e:=96
abbrev F.et:=97
abbrev F.az:=98
abbrev F.cj:=99
abbrev F.cq:=100
abbrev F.fv:=101
abbrev F.cx:=102
abbrev F.cf:=103
abbrev F.p:=104
abbrev F.cn:=105
abbrev F.dq:=106
abbrev F.cr:=107
abbrev F.gv:=108
abbrev F.dv:=109
abbrev F.di:=110
abbrev F.cb:=111
abbrev F.eu:=112
abbrev F.bq:=115
abbrev F.cz:=116
abbrev F.h:=117
abbrev F.c:=118
abbrev F.hf:=119
abbrev F.am:=120
abbrev F.ee:=121
abbrev F.ev:=122
abbrev F.av:=123
abbrev F.ew:=124
abbrev F.hn:=125
abbrev F.fw:=126
abbrev F.fb:=127
abbrev F.gc:=128
abbrev F.gl:=129
abbrev F.ek:=133
abbrev F.a:=135
abbrev F.gm:=136
abbrev F.el:=137
abbrev F.hc:=138
abbrev F.hb:=139
abbrev F.cy:=140
abbrev F.gn:=141
abbrev F.cl:=142
abbrev F.ab:=143
abbrev F.fx:=144
abbrev F.fm:=145
abbrev F.gh:=146
abbrev F.aj:=147
abbrev F.dw:=148
abbrev F.hg:=149
abbrev F.bz:=150
abbrev F.dx:=151
abbrev F.gf:=152
abbrev F.an:=153
abbrev F.bu:=154
abbrev F.bf:=155
abbrev F.bm:=156
abbrev F.fc:=157
abbrev F.bh:=158
abbrev F.be:=159
abbrev F.gw:=160
abbrev F.ac:=161
abbrev F.dy:=162
abbrev F.ia:=163
abbrev F.ck:=164
abbrev F.cs:=165
abbrev F.dd:=166
abbrev F.n:=167
abbrev F.aa:=168
abbrev F.dr:=169
abbrev F.ay:=170
abbrev F.ah:=171
abbrev F.y:=172
abbrev F.gq:=173
abbrev F.gi:=174
abbrev F.al:=175
abbrev F.ds:=176
abbrev F.gd:=177
abbrev F.gb:=178
abbrev F.fz:=179
abbrev F.hi:=180
abbrev F.he:=181
abbrev F.dh:=182
abbrev F.ex:=184
abbrev F.gr:=187
abbrev F.gx:=188
abbrev F.ey:=189
abbrev F.bl:=190
abbrev F.de:=191
abbrev F.gj:=192
abbrev F.gk:=193
abbrev F.fn:=194
abbrev F.cc:=195
abbrev F.em:=196
abbrev F.br:=197
abbrev F.fd:=198
abbrev F.dz:=199
abbrev F.ct:=200
abbrev F.ea:=201
abbrev F.ar:=202
abbrev F.eo:=203
abbrev F.dp:=204
abbrev F.eb:=205
abbrev F.bd:=206
abbrev F.bg:=207
abbrev F.bn:=208
abbrev F.bi:=209
abbrev F.fo:=210
abbrev F.b:=211
abbrev F.co:=212
abbrev F.k:=213
abbrev F.t:=214
abbrev F.l:=215
abbrev F.q:=216
abbrev F.o:=217
abbrev F.d:=218
abbrev F.cd:=219
abbrev F.i:=220
abbrev F.r:=221
abbrev F.hk:=222
abbrev F.fp:=223
abbrev F.ba:=224
abbrev F.ga:=225
abbrev F.fg:=226
abbrev F.fs:=227
abbrev F.fr:=228
abbrev F.ec:=229
abbrev F.fe:=230
abbrev F.fy:=231
abbrev F.df:=232
abbrev F.m:=233
abbrev F.gg:=234
abbrev F.ge:=235
abbrev F.hj:=239
abbrev F.cw:=241
abbrev F.ep:=242
abbrev F.ho:=243
abbrev F.hp:=244
abbrev F.hq:=245
abbrev F.hr:=246
abbrev F.hs:=248
abbrev F.cp:=249
abbrev F.ff:=250
abbrev F.u:=251
abbrev F.da:=252
abbrev F.db:=253
abbrev F.j:=254
abbrev F.ae:=255
abbrev F.bp:=259
abbrev F.er:=260
abbrev F.gz:=261
abbrev F.fh:=262
abbrev F.hl:=264
abbrev F.af:=276
abbrev F.z:=278
abbrev F.fq:=311
abbrev F.dm:=312
abbrev F.dn:=313
abbrev F.ez:=314
abbrev F.en:=315
abbrev T.cc:=0
abbrev T.d:=3
abbrev T.bs:=4
abbrev T.be:=5
abbrev T.n:=9
abbrev T.bh:=20
abbrev T.bk:=21
abbrev T.t:=22
abbrev T.a:=23
abbrev T.e:=25
abbrev T.ae:=26
abbrev T.h:=27
abbrev T.k:=28
abbrev T.g:=29
abbrev T.c:=31
abbrev T.ao:=34
abbrev T.aa:=38
abbrev T.ah:=41
abbrev T.bd:=43
abbrev T.br:=50
abbrev T.f:=54
abbrev T.p:=56
abbrev T.j:=59
abbrev T.ar:=64
abbrev T.i:=68
abbrev T.bj:=70
abbrev T.ad:=87
abbrev T.bb:=88
abbrev T.aq:=89
abbrev T.bo:=90
abbrev T.v:=91
abbrev T.x:=92
abbrev T.y:=93
abbrev T.b:=95
abbrev T.bm:=98
abbrev T.z:=109
abbrev T.s:=111
abbrev T.m:=114
abbrev T.ag:=117
abbrev T.ab:=120
abbrev T.cb:=124
abbrev T.an:=126
abbrev T.bi:=148
abbrev T.ax:=161
abbrev T.q:=163
abbrev T.l:=167
abbrev T.bq:=168
abbrev T.af:=170
abbrev T.o:=171
abbrev T.bg:=173
abbrev T.ap:=175
abbrev T.bc:=177
abbrev T.bp:=183
abbrev T.av:=191
abbrev T.ca:=195
abbrev T.al:=196
abbrev T.ay:=198
abbrev T.au:=214
abbrev T.r:=224
abbrev T.bu:=227
abbrev T.bt:=231
abbrev T.bx:=238
abbrev T.ac:=239
abbrev T.bf:=241
abbrev T.aw:=243
abbrev T.am:=256
abbrev T.u:=258
abbrev T.aj:=271
abbrev T.w:=273
abbrev T.ak:=274
abbrev T.bz:=288
abbrev T.ce:=299
abbrev T.bv:=319
abbrev T.bn:=320
abbrev T.bl:=328
abbrev T.bw:=333
abbrev T.cd:=340
abbrev T.ai:=353
noncomputable abbrev FN.ag:Func:=Tryz.f62
theorem FN.ag.at:P.funcs[F.ag]? =some FN.ag:=Tryz.func62
noncomputable abbrev FN.h:Func:=Tryz.f117
theorem FN.h.at:P.funcs[F.h]? =some FN.h:=Tryz.func117
noncomputable abbrev FN.c:Func:=Tryz.f118
theorem FN.c.at:P.funcs[F.c]? =some FN.c:=Tryz.func118
noncomputable abbrev FN.a:Func:=Tryz.f135
theorem FN.a.at:P.funcs[F.a]? =some FN.a:=Tryz.func135
noncomputable abbrev FN.n:Func:=Tryz.f167
theorem FN.n.at:P.funcs[F.n]? =some FN.n:=Tryz.func167
noncomputable abbrev FN.aa:Func:=Tryz.f168
theorem FN.aa.at:P.funcs[F.aa]? =some FN.aa:=Tryz.func168
noncomputable abbrev FN.ah:Func:=Tryz.f171
theorem FN.ah.at:P.funcs[F.ah]? =some FN.ah:=Tryz.func171
noncomputable abbrev FN.al:Func:=Tryz.f175
theorem FN.al.at:P.funcs[F.al]? =some FN.al:=Tryz.func175
noncomputable abbrev FN.de:Func:=Tryz.f191
theorem FN.de.at:P.funcs[F.de]? =some FN.de:=Tryz.func191
noncomputable abbrev FN.cc:Func:=Tryz.f195
theorem FN.cc.at:P.funcs[F.cc]? =some FN.cc:=Tryz.func195
noncomputable abbrev FN.b:Func:=Tryz.f211
theorem FN.b.at:P.funcs[F.b]? =some FN.b:=Tryz.func211
noncomputable abbrev FN.k:Func:=Tryz.f213
theorem FN.k.at:P.funcs[F.k]? =some FN.k:=Tryz.func213
noncomputable abbrev FN.t:Func:=Tryz.f214
theorem FN.t.at:P.funcs[F.t]? =some FN.t:=Tryz.func214
noncomputable abbrev FN.l:Func:=Tryz.f215
theorem FN.l.at:P.funcs[F.l]? =some FN.l:=Tryz.func215
noncomputable abbrev FN.q:Func:=Tryz.f216
theorem FN.q.at:P.funcs[F.q]? =some FN.q:=Tryz.func216
noncomputable abbrev FN.o:Func:=Tryz.f217
theorem FN.o.at:P.funcs[F.o]? =some FN.o:=Tryz.func217
noncomputable abbrev FN.d:Func:=Tryz.f218
theorem FN.d.at:P.funcs[F.d]? =some FN.d:=Tryz.func218
noncomputable abbrev FN.cd:Func:=Tryz.f219
theorem FN.cd.at:P.funcs[F.cd]? =some FN.cd:=Tryz.func219
noncomputable abbrev FN.i:Func:=Tryz.f220
theorem FN.i.at:P.funcs[F.i]? =some FN.i:=Tryz.func220
noncomputable abbrev FN.r:Func:=Tryz.f221
theorem FN.r.at:P.funcs[F.r]? =some FN.r:=Tryz.func221
noncomputable abbrev FN.m:Func:=Tryz.f233
theorem FN.m.at:P.funcs[F.m]? =some FN.m:=Tryz.func233
noncomputable abbrev FN.cw:Func:=Tryz.f241
theorem FN.cw.at:P.funcs[F.cw]? =some FN.cw:=Tryz.func241
noncomputable abbrev FN.u:Func:=Tryz.f251
theorem FN.u.at:P.funcs[F.u]? =some FN.u:=Tryz.func251
noncomputable abbrev FN.j:Func:=Tryz.f254
theorem FN.j.at:P.funcs[F.j]? =some FN.j:=Tryz.func254
noncomputable abbrev FN.ae:Func:=Tryz.f255
theorem FN.ae.at:P.funcs[F.ae]? =some FN.ae:=Tryz.func255
noncomputable abbrev FN.af:Func:=Tryz.f276
theorem FN.af.at:P.funcs[F.af]? =some FN.af:=Tryz.func276
noncomputable abbrev FN.z:Func:=Tryz.f278
theorem FN.z.at:P.funcs[F.z]? =some FN.z:=Tryz.func278
open Go.Eng
abbrev QQ:=World->KV->Prop
abbrev bK(op:BinOp)(t:TypeId)(n:Nat)(x c:Value)(w:World)(K:KV):Prop:=iy P op t (.tmp n) (.const c) x c w K
abbrev bT(op:BinOp)(t:TypeId)(n m:Nat)(x y:Value)(w:World)(K:KV):Prop:=iy P op t (.tmp n) (.tmp m) x y w K
def p0:pz:=⟨.nil,[],false,[]⟩
def pN:Nat->pz:=fun _=>p0
def gS:Nat->Nat->PT->PT
 | _,0,x=>x
 | i,n+1,x=> .go i (gS (i+1) n x)
abbrev fC(f:FuncId):Prop:= ∀(args:List Value)(w:World)(K:KV),ik P f args w K=jy P f args w K
abbrev rC(f:FuncId):Prop:= ∀(a c args:List Value)(w:World)(K:KV),lh P (.func (.func f) a.toArray c.toArray) args w K=jy P f (a ++ args ++ c) w K
theorem fcN {f:FuncId} {fn:Func} (hf:P.funcs[f]? =some fn) (h:((fn.name == "runtime.NumGoroutine"),fn.body.isNone)=(false,false):=by kernel_rfl):fC f:=fun args w K=>ait hf (Prod.mk.inj h).1 (Prod.mk.inj h).2 args w K
theorem rcN {f:FuncId} {fn:Func} (hf:P.funcs[f]? =some fn) (h:((fn.name == "runtime.NumGoroutine"),fn.body.isNone)=(false,false):=by kernel_rfl):rC f:=fun a c args w K=>amo hf (Prod.mk.inj h).1 (Prod.mk.inj h).2 a c args w K
abbrev C0(f:FuncId)(X:World->KV->Prop):Prop:= ∀{w:World}{K:KV},X w K->jy P f [] w K
theorem mk0{f:FuncId}{fn:Func}(L:List Nat)(pl:Nat->pz){X:World->KV->Prop}(hf:P.funcs[f]? =some fn)(h:(fn.body,afy L pl fn (fn.body.getD .skip) 0,X)=(some (fn.body.getD .skip),true,fun w K=>den P L pl (fn.body.getD .skip) (ace []) w (adv P fn.results.toList K)):=by kernel_rfl):C0 f X:=fun {w K} h'=>tg (by kernel_rfl) hf (Prod.mk.inj h).1 (Prod.mk.inj (Prod.mk.inj h).2).1 (cast (congrFun (congrFun ((Prod.mk.inj (Prod.mk.inj h).2).2) w) K) h')
abbrev C1(f:FuncId)(X:Value->World->KV->Prop):Prop:= ∀(a0:Value){w:World}{K:KV},X a0 w K->jy P f [a0] w K
theorem mk1{f:FuncId}{fn:Func}(L:List Nat)(pl:Nat->pz){X:Value->World->KV->Prop}(hf:P.funcs[f]? =some fn)(h:(fn.body,afy L pl fn (fn.body.getD .skip) 1,X)=(some (fn.body.getD .skip),true,fun a0 w K=>den P L pl (fn.body.getD .skip) (ace [a0]) w (adv P fn.results.toList K)):=by kernel_rfl):C1 f X:=fun a0 {w K} h'=>tg (by kernel_rfl) hf (Prod.mk.inj h).1 (Prod.mk.inj (Prod.mk.inj h).2).1 (cast (congrFun (congrFun (congrFun ((Prod.mk.inj (Prod.mk.inj h).2).2) a0) w) K) h')
abbrev C2(f:FuncId)(X:Value->Value->World->KV->Prop):Prop:= ∀(a0 a1:Value){w:World}{K:KV},X a0 a1 w K->jy P f [a0,a1] w K
theorem mk2{f:FuncId}{fn:Func}(L:List Nat)(pl:Nat->pz){X:Value->Value->World->KV->Prop}(hf:P.funcs[f]? =some fn)(h:(fn.body,afy L pl fn (fn.body.getD .skip) 2,X)=(some (fn.body.getD .skip),true,fun a0 a1 w K=>den P L pl (fn.body.getD .skip) (ace [a0,a1]) w (adv P fn.results.toList K)):=by kernel_rfl):C2 f X:=fun a0 a1 {w K} h'=>tg (by kernel_rfl) hf (Prod.mk.inj h).1 (Prod.mk.inj (Prod.mk.inj h).2).1 (cast (congrFun (congrFun (congrFun (congrFun ((Prod.mk.inj (Prod.mk.inj h).2).2) a0) a1) w) K) h')
abbrev C3(f:FuncId)(X:Value->Value->Value->World->KV->Prop):Prop:= ∀(a0 a1 a2:Value){w:World}{K:KV},X a0 a1 a2 w K->jy P f [a0,a1,a2] w K
theorem mk3{f:FuncId}{fn:Func}(L:List Nat)(pl:Nat->pz){X:Value->Value->Value->World->KV->Prop}(hf:P.funcs[f]? =some fn)(h:(fn.body,afy L pl fn (fn.body.getD .skip) 3,X)=(some (fn.body.getD .skip),true,fun a0 a1 a2 w K=>den P L pl (fn.body.getD .skip) (ace [a0,a1,a2]) w (adv P fn.results.toList K)):=by kernel_rfl):C3 f X:=fun a0 a1 a2 {w K} h'=>tg (by kernel_rfl) hf (Prod.mk.inj h).1 (Prod.mk.inj (Prod.mk.inj h).2).1 (cast (congrFun (congrFun (congrFun (congrFun (congrFun ((Prod.mk.inj (Prod.mk.inj h).2).2) a0) a1) a2) w) K) h')
abbrev C4(f:FuncId)(X:Value->Value->Value->Value->World->KV->Prop):Prop:= ∀(a0 a1 a2 a3:Value){w:World}{K:KV},X a0 a1 a2 a3 w K->jy P f [a0,a1,a2,a3] w K
theorem mk4{f:FuncId}{fn:Func}(L:List Nat)(pl:Nat->pz){X:Value->Value->Value->Value->World->KV->Prop}(hf:P.funcs[f]? =some fn)(h:(fn.body,afy L pl fn (fn.body.getD .skip) 4,X)=(some (fn.body.getD .skip),true,fun a0 a1 a2 a3 w K=>den P L pl (fn.body.getD .skip) (ace [a0,a1,a2,a3]) w (adv P fn.results.toList K)):=by kernel_rfl):C4 f X:=fun a0 a1 a2 a3 {w K} h'=>tg (by kernel_rfl) hf (Prod.mk.inj h).1 (Prod.mk.inj (Prod.mk.inj h).2).1 (cast (congrFun (congrFun (congrFun (congrFun (congrFun (congrFun ((Prod.mk.inj (Prod.mk.inj h).2).2) a0) a1) a2) a3) w) K) h')
abbrev C5(f:FuncId)(X:Value->Value->Value->Value->Value->World->KV->Prop):Prop:= ∀(a0 a1 a2 a3 a4:Value){w:World}{K:KV},X a0 a1 a2 a3 a4 w K->jy P f [a0,a1,a2,a3,a4] w K
theorem mk5{f:FuncId}{fn:Func}(L:List Nat)(pl:Nat->pz){X:Value->Value->Value->Value->Value->World->KV->Prop}(hf:P.funcs[f]? =some fn)(h:(fn.body,afy L pl fn (fn.body.getD .skip) 5,X)=(some (fn.body.getD .skip),true,fun a0 a1 a2 a3 a4 w K=>den P L pl (fn.body.getD .skip) (ace [a0,a1,a2,a3,a4]) w (adv P fn.results.toList K)):=by kernel_rfl):C5 f X:=fun a0 a1 a2 a3 a4 {w K} h'=>tg (by kernel_rfl) hf (Prod.mk.inj h).1 (Prod.mk.inj (Prod.mk.inj h).2).1 (cast (congrFun (congrFun (congrFun (congrFun (congrFun (congrFun (congrFun ((Prod.mk.inj (Prod.mk.inj h).2).2) a0) a1) a2) a3) a4) w) K) h')
abbrev C6(f:FuncId)(X:Value->Value->Value->Value->Value->Value->World->KV->Prop):Prop:= ∀(a0 a1 a2 a3 a4 a5:Value){w:World}{K:KV},X a0 a1 a2 a3 a4 a5 w K->jy P f [a0,a1,a2,a3,a4,a5] w K
theorem mk6{f:FuncId}{fn:Func}(L:List Nat)(pl:Nat->pz){X:Value->Value->Value->Value->Value->Value->World->KV->Prop}(hf:P.funcs[f]? =some fn)(h:(fn.body,afy L pl fn (fn.body.getD .skip) 6,X)=(some (fn.body.getD .skip),true,fun a0 a1 a2 a3 a4 a5 w K=>den P L pl (fn.body.getD .skip) (ace [a0,a1,a2,a3,a4,a5]) w (adv P fn.results.toList K)):=by kernel_rfl):C6 f X:=fun a0 a1 a2 a3 a4 a5 {w K} h'=>tg (by kernel_rfl) hf (Prod.mk.inj h).1 (Prod.mk.inj (Prod.mk.inj h).2).1 (cast (congrFun (congrFun (congrFun (congrFun (congrFun (congrFun (congrFun (congrFun ((Prod.mk.inj (Prod.mk.inj h).2).2) a0) a1) a2) a3) a4) a5) w) K) h')
abbrev C7(f:FuncId)(X:Value->Value->Value->Value->Value->Value->Value->World->KV->Prop):Prop:= ∀(a0 a1 a2 a3 a4 a5 a6:Value){w:World}{K:KV},X a0 a1 a2 a3 a4 a5 a6 w K->jy P f [a0,a1,a2,a3,a4,a5,a6] w K
theorem mk7{f:FuncId}{fn:Func}(L:List Nat)(pl:Nat->pz){X:Value->Value->Value->Value->Value->Value->Value->World->KV->Prop}(hf:P.funcs[f]? =some fn)(h:(fn.body,afy L pl fn (fn.body.getD .skip) 7,X)=(some (fn.body.getD .skip),true,fun a0 a1 a2 a3 a4 a5 a6 w K=>den P L pl (fn.body.getD .skip) (ace [a0,a1,a2,a3,a4,a5,a6]) w (adv P fn.results.toList K)):=by kernel_rfl):C7 f X:=fun a0 a1 a2 a3 a4 a5 a6 {w K} h'=>tg (by kernel_rfl) hf (Prod.mk.inj h).1 (Prod.mk.inj (Prod.mk.inj h).2).1 (cast (congrFun (congrFun (congrFun (congrFun (congrFun (congrFun (congrFun (congrFun (congrFun ((Prod.mk.inj (Prod.mk.inj h).2).2) a0) a1) a2) a3) a4) a5) a6) w) K) h')
end Go.Proofs.YtgepcfcicngceaaGreatDoor
