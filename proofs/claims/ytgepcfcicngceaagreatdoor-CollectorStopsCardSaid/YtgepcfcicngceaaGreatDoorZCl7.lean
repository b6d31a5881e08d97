/-
  A collector: Unwritten, due (a trace without a run), the heads and ends of Tick. No condition.
-/
import Derived.Test.YtgepcfcicngceaaGreatDoorZRn3
import Derived.Test.YtgepcfcicngceaaGreatDoorZEngSl
import Derived.Test.YtgepcfcicngceaaGreatDoorZTim4
import Derived.Test.YtgepcfcicngceaaGreatDoorM
import Derived.Test.YtgepcfcicngceaaGreatDoorFacts
import Derived.Test.YtgepcfcicngceaaGreatDoorZMs9
set_option maxRecDepth 100000
namespace Go.Proofs.YtgepcfcicngceaaGreatDoor
open Go.Eng Go.Proofs.YtgepcfcicngceaaGreatDoor.Sint
section
variable {w0 w : World} {R : List Asn} {p : Nat} {q : Cl} {n : Nd} {g : Cfg} {A : List AE} {c : CT} {a0 : Int} {m rm um : MP} {es : List Evn} {ls : List Ltr}
theorem acr(S:St w0 w (clA p q :: jh q.un .u64 um :: R))(hl:um.length < 60000){K:KV}(h: ∀w' v,St w0 w' (adu v (Suint64.tk (jm um)) :: clA p q :: jh q.un .u64 um :: R)->K v w'):ie P F.ak [km p] w K:=by
 rw[M.ak.fcall]
 apply M.ak.calls
 unfold M.ak
 obtain⟨_,_,_,_,_,_,_,_,_,_,c19,_⟩:=nq (p:=p) (q:=q) S (by simp)
 simp only[km]
 simp
 unfold M.ak.j0
 simp[c19]
 refine KeyU.amk S.swap.mp S.swap.bce hl fun w' v o f=>?_
 exact h w' v (S.add (a:=adu v (Suint64.tk (jm um))) f (B:=fun b=>v.ownBlock=some b) ⟨o.mono (Nat.zero_le _),fun b hb=>hb⟩ fun b hb=>⟨(o.lt hb).1,(o.lt hb).2⟩)
theorem asy{t:Int}(S:St w0 w (ll p q n g A c a0 m es ls rm um ++ R))(hr:ki rm t=none){K:KV}(h:ie P F.aw [km p,.int .u64 t] w fun _ w=>K (.tuple #[]) w):ie P F.ch [km p,.int .u64 t] w K:=by
 rw[M.au.fcall]
 apply M.au.calls
 unfold M.au
 obtain⟨_,_,_,_,_,_,_,_,c17,_⟩:=nq (p:=p) (q:=q) S (by simp)
 have lu: ∀K,luT P T.x (.map (some q.ru)) (.int .u64 t) false w K=K (.pointer none) w:=fun K=>by
  rw[ta mt.x (S.pick (L:=[_,_,_,_,_,_,_,_,_,_,_]) [8] 11 rfl (by decide)).mp,hr]
  rfl
 simp only[km] at *
 simp[c17,lu]
 exact h
def yy(n:Nd)(inc:Int):Prop:=n.id=1/\n.v=[⟨1,inc,0⟩]
theorem age{inc now pick:Int}(h:yy n inc):yy (n.vd now pick).1 inc/\(n.vd now pick).2=[]:=by
 obtain⟨h1,h2⟩:=h
 unfold Nd.vd
 generalize ud n.now now=t
 have ha:sf 1 t n.jn n.h ⟨1,inc,0⟩=⟨1,inc,0⟩:=by simp[sf]
 split
 ·exact⟨⟨h1,h2⟩,rfl⟩
 ·simp[yy,h1,h2,ha,zk,ot,zl]
theorem acx{inc:Int}(hn:qn n)(h:yy n inc):afe n.v=[1]:=by
 unfold afe
 rw[if_pos ((afc _).2 hn.zm),h.2]
 rfl
theorem acz{v:Value}{l:List Int}(h:Sl w 1 Suint64.rk v l){w':World}{K:KV}:biT P .len #[T.g] T.d [false] [v] w' K=K (.int .i64 l.length) w':=h.jq (by kernel_rfl) [false]
theorem aqe(S:St w0 w (ll p q n g A c a0 m es ls rm [] ++ R))(h0:0<=q.qd/\q.qd<=q.now/\q.now<=18446744073709551615){K:KV}(h: ∀w' ag,(ag=q.qd\/ag=q.now)->St w0 w' (ll p {q with qd:=ag} n g A c a0 m es ls rm [] ++ R)->K (.tuple #[]) w'):M.a.j6 (km p) w K:=by
 unfold M.a.j6
 have S1:=S.ju ((Fr.refl _ w).dr 1)
 rw[pz]
 generalize dr w 1=w1 at *
 obtain⟨_,_,_,c8,_,_,_,_,_,_,_,c22,c23,_⟩:=nq (p:=p) (q:=q) S1 (by simp)
 have hw:IntKind.u64.wrap (q.now - q.qd)=q.now - q.qd:=by rw[lr (by omega) (by omega)]
 simp only[km]
 simp[c8,c22,c23,hw]
 by_cases hb:4<=q.now - q.qd
 ·simp[hb]
  refine St.nj S1 rfl (by simp[clC]) fun w2 S2=>?_
  have S3:St w0 w2 (clA p {q with qd:=q.now} :: _):=S2
  refine acr (S3.pick (L:=[_,_,_,_,_,_,_,_,_,_,_]) [0,10,1,2,3,4,5,6,7,8,9] 11 rfl (by decide)) (by simp) fun w4 v4 S4=>?_
  have hln:=fun w' K=>acz (w':=w') (K:=K) (S4.row nt)
  have hz:(Suint64.tk (jm ([]:MP))).length=0:=by rw[show jm ([]:MP)=[] from rfl];simp[Suint64.tk]
  rw[hz] at hln
  simp only[hln,il]
  have S5:St w0 w4 (ll p {q with qd:=q.now} n g A c a0 m es ls rm [] ++ R):=S4.pick (L:=[_,_,_,_,_,_,_,_,_,_,_,_]) [1,3,4,5,6,7,8,9,10,11,2] 12 rfl (by decide)
  refine⟨fun x w'=>x=[undef,.int .i64 0]/\w'=w4,fun _ _=>0,⟨rfl,rfl⟩,?_⟩
  rintro x w' ⟨rfl,rfl⟩
  simp
  exact h _ _ (.inr rfl) S5
 ·simp[hb]
  exact h _ q.qd (.inl rfl) S1
def LoI(w0:World)(L:List Asn)(m:Nat):KL:=fun x w1=> ∃(u1 u2:Value)(i:Nat),x=[u1,u2,.int .i64 (i:Nat)]/\i<=m/\St w0 w1 L
theorem ard{inc now pick:Int}(S:St w0 w (ll p q n g A c a0 m es ls rm um ++ R))(hn:qn n)(hs:yy n inc)(hA:A.length<=1000)(h0:0<=q.now/\q.now<=18446744073709551615)(h1:0<=now/\now<=18446744073709551615)(hp:0<=pick){K:KV}
  (h: ∀w' v K6 x7,(∀x w,M.a.j6 (km p) w K->K6 x w)->gv x7 8=v->gv x7 9= .int .i64 (nk c (max q.now now)).length->gv x7 10= .int .i64 0->St w0 w' (rdA 1 lw v (nk c (max q.now now)) :: (ll p {q with now:=max q.now now} (n.vd (max q.now now) pick).1 g A c a0 m es ls rm um ++ R))->M.a.j7 x7 K6 (km p) w' K):ie P F.an [km p,.int .u64 now,.int .u64 pick] w K:=by
 rw[M.a.fcall]
 apply M.a.calls
 unfold M.a
 obtain⟨_,_,_,_,_,_,_,_,_,_,_,_,c23,_⟩:=nq (p:=p) (q:=q) S (by simp)
 simp only[km]
 simp
 unfold M.a.j0
 simp[c23,ro]
 have hn0:0<=max q.now now:=by omega
 have hn1:max q.now now<=18446744073709551615:=by omega
 generalize max q.now now=nw at *
 refine St.nj S rfl (by simp[clC]) fun w1 S1=>?_
 have S2:St w0 w1 (clA p {q with now:=nw} :: _):=S1
 have S3:=S2.ju ((Fr.refl _ w1).dr 1)
 generalize dr w1 1=w2 at *
 obtain⟨_,_,_,_,_,d14,_,_,_,_,_,_,d23,_⟩:=nq (p:=p) (q:={q with now:=nw}) S3 (by simp)
 simp[d14,d23]
 refine bgq (S3.pick (L:=[_,_,_,_,_,_,_,_,_,_,_]) [1,0,2,3,4,5,6,7,8,9,10] 11 rfl (by decide)) hn ⟨hn0,by omega⟩ hp fun w4 v4 S4=>?_
 obtain⟨hs',ht⟩:=age (now:=nw) (pick:=pick) hs
 have hnk:=aev (pick:=pick) hn ⟨hn0,show nw < 18446744073709551616 by omega⟩
 rw[ht] at S4
 have hln:=fun w' K=>acz (w':=w') (K:=K) (S4.row nt)
 simp[hln]
 have S5:St w0 w4 (ll p {q with now:=nw} (n.vd nw pick).1 g A c a0 m es ls rm um ++ R):=S4.pick (L:=[_,_,_,_,_,_,_,_,_,_,_,_]) [2,1,3,4,5,6,7,8,9,10,11] 12 rfl (by decide)
 unfold M.a.j1
 refine aal fun K2 hK2=>?_
 obtain⟨_,_,_,_,_,_,e15,_⟩:=nq (p:=p) (q:={q with now:=nw}) S5 (by simp)
 simp[e15]
 refine anl (S5.pick (L:=[_,_,_,_,_,_,_,_,_,_,_]) [2,0,1,3,4,5,6,7,8,9,10] 11 rfl (by decide)) hA fun w6 v6 S6=>?_
 have hln6:=fun w' K=>acz (w':=w') (K:=K) (S6.row nt)
 simp only[hln6,il]
 refine⟨LoI w0 (clA p {q with now:=nw} :: jy q.tb (n.vd nw pick).1 :: adu v6 (og A) :: mf q.hb g A c :: om q.kb a0 m :: nh q.ev es :: mo q.out ls :: rdA 1 lw q.rep [101] :: rdA 4 kz q.rul [jx] :: jh q.ru .u64 rm :: jh q.se .u64 [] :: jh q.un .u64 um :: R) (og A).length,fun x _=>(og A).length - ms x 2,⟨_,_,0,rfl,Nat.zero_le _,S6.pick (L:=[_,_,_,_,_,_,_,_,_,_,_,_]) [2,3,0,1,4,5,6,7,8,9,10,11] 12 rfl (by decide)⟩,?_⟩
 rintro x w7 ⟨u1,u2,i,rfl,hi,S7⟩
 by_cases hil:i < (og A).length
 ·have hili:(i:Int) < (og A).length:=by omega
  have hwi:IntKind.i64.wrap ((i:Int)+1)=((i+1:Nat):Int):=by
   have:(og A).length<=1000:=by
    unfold og
    rw[(Suint64.adi _).length_eq,List.length_map]
    exact hA
   rw[iy];rfl
  obtain⟨ab,ao,cap,hv,_,_,hc⟩:=(S7.up2.row nt).at hil
  have hia: ∀w' K,iaT P T.g v6 (.int .i64 (i:Nat)) w' K=K (.pointer (some ⟨ab,ao+i,none⟩)) w':=fun w' K=>by rw[hv];simp[hil]
  have hcell:ik w7 ab (ao+i)=some (.int .u64 (og A)[i]):=by simpa [Suint64.rk] using hc 0 _ rfl
  generalize (og A)[i]=t at *
  simp[hili]
  unfold M.a.j4
  simp[hia,hcell]
  refine agi S7 hnk (acx hnk hs') ⟨by decide,trivial⟩ (by simp) (by simp) t fun w8 o ho S8=>?_
  obtain rfl:=ho.one
  obtain⟨f0,_⟩:=nq (p:=p) (q:={q with now:=nw}) S8 (by simp)
  simp[f0]
  refine⟨⟨_,_,i+1,by rw[hwi],by omega,S8⟩,by rw[hwi];simp[ms,gv];omega⟩
 ·have hie:i=(og A).length:=by omega
  subst hie
  simp
  refine hK2 _ _ ?_
  unfold M.a.j2
  refine aal fun K6 hK6=>?_
  have S9:=S7.ju ((Fr.refl _ w7).dr 1)
  rw[pz]
  generalize dr w7 1=w8 at *
  have e15: ∀{w':World}{L:List Asn},St w0 w' L->clA p {q with now:=nw}∈L->ik w' p 15=some (.pointer (some ⟨q.hb,0,none⟩))/\ik w' p 23=some (.int .u64 nw):=fun S' hm=>by
   obtain⟨_,_,_,_,_,_,e15,_,_,_,_,_,e23,_⟩:=nq S' hm
   exact⟨e15,e23⟩
  obtain⟨k15,k23⟩:=e15 S9 (by simp)
  refine aal fun K7 hK7=>?_
  have du: ∀{K':KV},(∀w' v,(∀K,biT P .len #[T.g] T.d [false] [v] w' K=K (.int .i64 (nk c nw).length) w')->(ik w' p 15=some (.pointer (some ⟨q.hb,0,none⟩))/\ik w' p 23=some (.int .u64 nw))->St w0 w' (rdA 1 lw v (nk c nw) :: (ll p {q with now:=nw} (n.vd nw pick).1 g A c a0 m es ls rm um ++ R))->K' v w')->ie P F.bn [.pointer (some ⟨q.hb,0,none⟩),.int .u64 nw] w8 K':=fun h'=>by
   refine bjz (S9.pick (L:=[_,_,_,_,_,_,_,_,_,_,_,_]) [3,0,1,4,5,6,7,8,9,10,11] 12 rfl (by decide)) hA nw fun w' v S'=>?_
   refine h' w' v (fun K=>S'.rd.jq (by kernel_rfl) [false]) (e15 S' (by simp)) ?_
   exact S'.pick (L:=[_,_,_,_,_,_,_,_,_,_,_,_]) [0,2,3,1,4,5,6,7,8,9,10,11] 12 rfl (by decide)
  simp[k15,k23]
  refine⟨du fun w' v hl hk S'=>⟨?_,?_⟩,du fun w' v hl hk S'=>?_⟩
  ·rw[hl]
   simp[hk.1,hk.2]
   exact hK7 _ _ (h w' v K6 _ hK6 rfl rfl rfl S')
  ·simp[hk.1,hk.2]
   rw[hl]
   exact hK7 _ _ (h w' v K6 _ hK6 rfl rfl rfl S')
  ·rw[hl]
   exact hK7 _ _ (h w' v K6 _ hK6 rfl rfl rfl S')
theorem akq(hn:qn n):0<=qf n/\qf n < 18446744073709551616:=by
 unfold qf ajf
 have hnn:0<=zo n.v:=asc fun m hm=>by
  have:=aqa hn.zm hn.inc hm
  unfold ahz
  omega
 have hv:=(afc _).2 hn.zm
 by_cases hb:18446744073709551616<=zo n.v
 ·simp[hb,hv]
 ·simp[hb,hv]
  omega
def goI(w0:World)(p:Nat)(q:Cl)(n:Nd)(g:Cfg)(A:List AE)(c:CT)(a0:Int)(m:MP)(es:List Evn)(ls:List Ltr)(um:MP)(R:List Asn)(v:Value)(e:AE):KL:=fun x w1=> ∃(u:Value)(i:Nat),x=[u,.int .i64 (i:Nat)]/\i<=1/\(i=0->St w0 w1 (rdA 1 lw v [e.t] :: (ll p q n g A c a0 m es ls [] um ++ R)))/\(i=1->∃ov rb,St w0 w1 (ll p {q with ke:=(nxB q n).1,out:=ov} n g A (pa c e.t (aao q.now)) a0 m es (ls ++ oh [101] (rz e.t (nxB q n).1 (sy e) 0) pp) [(e.t,.pointer (some ⟨rb,0,none⟩))] um ++ po rb e.t (nxB q n).1 (sy e) 0 :: R))
theorem bhi{inc now pick:Int}{e:AE}(S:St w0 w (ll p q n g A c a0 m es ls [] [] ++ R))(hn:qn n)(hs:yy n inc)(hA:A.length<=1000)(h0:0<=q.now/\q.now<=18446744073709551615)(h1:0<=now/\now<=18446744073709551615)(hag:0<=q.qd/\q.qd<=q.now)(hp:0<=pick)(hi:1<=q.inc)(hb:q.ke.rng)(hl: ∀e∈A,e.l.length<=1000)(he:e∈A)(hfi:A.find? (fun x=>decide (x.t=e.t))=some e)(hls:ls.length<=200)(ht:e.t≠0)(hd:nk c (max q.now now)=[e.t])
  (hy: ∀n',n'=(n.vd (max q.now now) pick).1->(nxB q n').2=0/\(nxB q n').1.n≠0/\(1<=sy e/\sy e<=3)) {K:KV}
  (h: ∀w' ov rb ag n',(ag=q.qd\/ag=max q.now now)->n'=(n.vd (max q.now now) pick).1->St w0 w' (ll p {q with now:=max q.now now,ke:=(nxB q n').1,out:=ov,qd:=ag} n' g A (pa c e.t (aao (max q.now now))) a0 m es (ls ++ oh [101] (rz e.t (nxB q n').1 (sy e) 0) pp) [(e.t,.pointer (some ⟨rb,0,none⟩))] [] ++ po rb e.t (nxB q n').1 (sy e) 0 :: R)->K (.tuple #[]) w'):ie P F.an [km p,.int .u64 now,.int .u64 pick] w K:=by
 refine ard S hn hs hA h0 h1 hp fun w1 v K6 x7 hK6 g8 g9 g10 S1=>?_
 have hnk:=aev (now:=max q.now now) (pick:=pick) hn ⟨by omega,by omega⟩
 have hy':=hy _ rfl
 have h':=fun w' ov rb ag hag=>h w' ov rb ag _ hag rfl
 have hn0:0<=max q.now now:=by omega
 have hn1:max q.now now<=18446744073709551615:=by omega
 have hag':q.qd<=max q.now now:=by omega
 clear h hy
 generalize max q.now now=nw at *
 generalize (n.vd nw pick).1=n' at *
 rw[hd] at S1 g9
 unfold M.a.j7
 simp only[il,g8,g9,g10]
 refine⟨goI w0 p {q with now:=nw} n' g A c a0 m es ls [] R v e,fun x _=>1 - ms x 1,⟨_,0,rfl,Nat.zero_le _,fun _=>S1,fun h=>absurd h (by decide)⟩,?_⟩
 rintro x w2 ⟨u,i,rfl,hi1,hz,ho⟩
 by_cases hi0:i=0
 ·subst hi0
  have S2:=hz rfl
  obtain⟨ab,ao,cap,hv,_,_,hc⟩:=S2.rd.at (i:=0) (by simp)
  have hia: ∀w' K,iaT P T.g v (.int .i64 0) w' K=K (.pointer (some ⟨ab,ao,none⟩)) w':=fun w' K=>by rw[hv];simp
  have hcell:ik w2 ab ao=some (.int .u64 e.t):=by simpa [lw] using hc 0 _ rfl
  simp
  unfold M.a.j9
  simp[g8,hia,hcell]
  have S3:=S2.drop
  refine asy S3 rfl ?_
  refine amo S3 hnk hi hb (akq hnk) hA hl he hfi hn0 hn1 hls ht (fun hno=>absurd hy'.1 hno) fun _=>⟨hy'.2.1,hy'.2.2,fun w4 ov rb S4=>?_⟩
  refine⟨⟨_,1,rfl,Nat.le_refl _,?_⟩,by simp[ms,gv,show IntKind.i64.wrap 1=1 from by decide]⟩
  refine And.intro ?_ ?_
  ·intro hx
   exact absurd hx (by decide)
  ·intro _
   exact⟨ov,rb,S4⟩
 ·have hi1:i=1:=by omega
  subst hi1
  obtain⟨ov,rb,S2⟩:=ho rfl
  simp
  refine hK6 _ _ ?_
  refine aqe S2 ⟨hag.1,hag',hn1⟩ fun w3 ag hag S3=>?_
  exact h' w3 ov rb ag hag S3
end
end Go.Proofs.YtgepcfcicngceaaGreatDoor
set_option maxRecDepth 100000
namespace Go.Proofs.YtgepcfcicngceaaGreatDoor.CS
open Go.Eng
theorem bgb{w:World}{n:Nat}(hn:n<=1000000000){K:KV}(h: ∀w' v,Ow w' w.heap.size T.i 8 jr v []->Fz w w'->K v w'):
  jo P F.bl [.slice none 0 0,.int .i64 n] w K:=by
 apply M.an.calls
 unfold M.an
 have hneg: ¬(n:Int) < 0:=by omega
 simp[hneg]
 unfold M.an.j0
 have hsl:ni P T.h=true:=by kernel_rfl
 have w0:IntKind.i64.wrap 0=0:=by decide
 have wn:IntKind.i64.wrap (n:Int)=n:=iy
 rw[il,ayc hsl,xk hsl]
 simp only[nf,vj]
 have e1:IntKind.i64.wrap ((n:Int) - IntKind.i64.wrap (((0:Nat):Int) - ((0:Nat):Int)))=n:=by
  rw[show ((0:Nat):Int) - ((0:Nat):Int)=0 from by omega,w0,Int.sub_zero,wn]
 rw[e1]
 by_cases h0:0 < n
 ·have h0':(0:Int) < n:=by omega
  simp only[h0',decide_true,Eng.cond_true]
  rw[ayc hsl,arr (i:=0) (j:=0) hsl (.inl ⟨rfl,rfl⟩) (.inr ⟨.i64,rfl⟩) (Nat.le_refl _) (Nat.le_refl _)]
  refine bjw (enc:=jr) et.h (kn:= .i64) (by kernel_rfl) h0 hn (by decide) _ fun w' cap hc o f=>?_
  rw[xk hsl,arr (i:=0) (j:=0) hsl (.inl ⟨rfl,rfl⟩) (.inr ⟨.i64,rfl⟩) (Nat.le_refl _) (Nat.zero_le _)]
  rw[if_neg (by omega)]
  have:=h w' _ o f
  simpa [Addr.add,gv] using this
 ·have h0': ¬(0:Int) < n:=by omega
  simp only[h0',decide_false,Eng.cond_false]
  exact h w _ Ow.none (Fr.refl _ _)
abbrev Sls(w:World)(v:Value)(l:List Spn):Prop:=Sl w 8 jr v l
abbrev Ows(w:World)(base:Nat)(v:Value)(l:List Spn):Prop:=Ow w base T.i 8 jr v l
def tot(L:List (Value×List Spn)):Nat:=(L.map fun p=>p.2.length).sum
theorem aqq{L:List (Value×List Spn)}{i:Nat}(hi:i < L.length):tot (L.take (i+1))=tot (L.take i)+L[i].2.length:=by
 unfold tot
 rw[List.take_succ_eq_append_getElem hi,List.map_append,List.sum_append];simp
theorem ayk{L:List (Value×List Spn)}(i:Nat):tot (L.take i)<=tot L:=by
 unfold tot
 conv=>rhs;rw[<-List.take_append_drop i L,List.map_append,List.sum_append]
 omega
theorem bdj(L:List (Value×List Spn)):(L.flatMap (·.2)).length=tot L:=by
 unfold tot
 induction L with
 | nil=>rfl
 | cons p L ih=>simp[ih]
def CaI(w:World)(L:List (Value×List Spn)):KL:=fun x w1=> ∃(u:Value)(i:Nat),x=[u,.int .i64 (tot (L.take i):Nat),.int .i64 (i:Nat)]/\w1=w/\i<=L.length
def CbI(w:World)(L:List (Value×List Spn)):KL:=fun x w1=> ∃(u v:Value)(i:Nat),x=[u,v,.int .i64 (i:Nat)]/\i<=L.length/\Fz w w1/\Ows w1 w.heap.size v ((L.take i).flatMap (·.2))
theorem azd{w:World}{b cap:Nat}{L:List (Value×List Spn)}{e:TypeId}(hb:w.heap[b]? =some (.cells (L.map (·.1)).toArray e (0,0)))(hs: ∀p∈L,Sls w p.1 p.2)(ht:tot L<=100000000)(hL:L.length<=1000){K:KV}
  (h: ∀w' v,Ows w' w.heap.size v (L.flatMap (·.2))->Fz w w'->K v w'):jo P F.aj [.slice (some ⟨b,0,none⟩) L.length cap] w K:=by
 apply M.j.calls
 unfold M.j
 have hss:ni P T.bk=true:=by kernel_rfl
 have hsl:ni P T.h=true:=by kernel_rfl
 have q0: ∀a b c:Value,gv [a,b,c] 0=a:=fun _ _ _=>rfl
 have q1: ∀a b c:Value,gv [a,b,c] 1=b:=fun _ _ _=>rfl
 have q2: ∀a b c:Value,gv [a,b,c] 2=c:=fun _ _ _=>rfl
 have q4: ∀a b c d e:Value,gv [a,b,c,d,e] 4=e:=fun _ _ _ _ _=>rfl
 have cell: ∀(w':World),Fz w w'->∀(i:Nat)(hi:i < L.length),ik w' b i=some L[i].1:=fun w' f i hi=>by
  rw[iq (f.heap hb fun h=>h)]
  simp[hi]
 rw[il,xk hss]
 refine⟨CaI w L,fun x _=>L.length - ms x 2,⟨_,0,rfl,rfl,Nat.zero_le _⟩,?_⟩
 rintro x w1 ⟨u,i,rfl,rfl,hi⟩
 simp only[q0,q1,q2,mw,il]
 by_cases hil:i < L.length
 ·have hil':(i:Int) < L.length:=by omega
  simp only[hil',decide_true,Eng.cond_true]
  unfold M.j.j2
  have hwi:IntKind.i64.wrap ((i:Int)+1)=((i+1:Nat):Int):=by rw[iy];rfl
  have c0:=cell w1 (Fr.refl _ _) i hil
  have hsi:=hs L[i] (List.getElem_mem hil)
  obtain⟨a',cap',hv',_⟩:=hsi
  have htt:=aqq hil
  have hle:=ayk (L:=L) (i+1)
  have hwt:IntKind.i64.wrap ((tot (L.take i):Int)+(L[i].2.length:Int))=((tot (L.take (i+1)):Nat):Int):=by rw[iy];omega
  have hng: ¬((tot (L.take (i+1)):Nat):Int) < 0:=by omega
  simp only[q0,q1,q2,il]
  simp[hil,c0,hv',hwt,hwi,-Int.natCast_add]
  refine⟨⟨_,i+1,rfl,rfl,by omega⟩,?_⟩
  simp[ms,gv];omega
 ·have hie:i=L.length:=by omega
  have hil': ¬(i:Int) < L.length:=by omega
  simp only[hil',decide_false,Eng.cond_false]
  have htk:L.take i=L:=List.take_of_length_le (by omega)
  rw[htk]
  unfold M.j.j0
  simp only[q4]
  rw[M.an.fcall]
  refine bgb (by omega) fun w2 v2 o2 f2=>?_
  rw[il,xk hss]
  refine⟨CbI w1 L,fun x _=>L.length - ms x 2,⟨_,v2,0,rfl,Nat.zero_le _,f2,o2⟩,?_⟩
  rintro x w3 ⟨u',v,j,rfl,hj,f3,o3⟩
  simp only[q0,q1,q2,mw,il]
  by_cases hjl:j < L.length
  ·have hjl':(j:Int) < L.length:=by omega
   simp only[hjl',decide_true,Eng.cond_true]
   unfold M.j.j6
   have hwj:IntKind.i64.wrap ((j:Int)+1)=((j+1:Nat):Int):=by rw[iy];rfl
   have c0:=cell w3 f3 j hjl
   have hsj:=(hs L[j] (List.getElem_mem hjl)).fr f3 fun _ _ _ h=>h
   have hl1:((L.take j).flatMap (·.2)).length=tot (L.take j):=bdj _
   have htt:=aqq hjl
   have hle:=ayk (L:=L) (j+1)
   simp only[q0,q1,q2,il]
   simp[hjl,c0,-List.length_flatMap]
   have hge:=f3.size
   refine zc et.h oe ph o3 hsj (by rw[hl1];omega) (by decide) hge _ fun v' w4 o4 f4 g4=>?_
   simp only[hwj]
   refine⟨⟨_,v',j+1,rfl,by omega,f3.jt f4 fun x hx he=>by have:=(o3.lt he).1;omega,?_⟩,?_⟩
   ·rw[List.take_succ_eq_append_getElem hjl,List.flatMap_append]
    simpa using o4
   ·simp[ms,gv];omega
  ·have hjl': ¬(j:Int) < L.length:=by omega
   simp only[hjl',decide_false,Eng.cond_false,q4]
   have htj:L.take j=L:=List.take_of_length_le (by omega)
   rw[htj] at o3
   exact h w3 v o3 f3
end Go.Proofs.YtgepcfcicngceaaGreatDoor.CS
set_option maxRecDepth 100000
namespace Go.Proofs.YtgepcfcicngceaaGreatDoor
open Go.Eng Go.Proofs.YtgepcfcicngceaaGreatDoor.Sint
section
variable {w0 w : World} {R : List Asn} {p : Nat} {q : Cl} {n : Nd} {g : Cfg} {A : List AE} {c : CT} {a0 : Int} {m rm um : MP} {es : List Evn} {ls : List Ltr}
def xl(t ver:Int)(sv:Value):Pk:=⟨9,t,⟨max ver 1,1⟩,ja,0,false,sv,.slice none 0 0,.slice none 0 0⟩
theorem awe(t ver:Int)(aa:Option Addr)(c d:Nat): ∀u∈pkC (xl t ver (.slice aa c d)),kt u=true:=fun u hu=>by
 simp only[pkC,xl,List.mem_cons,List.not_mem_nil,or_false] at hu
 rcases hu with rfl|rfl|rfl|rfl|rfl|rfl|rfl|rfl|rfl|rfl|rfl <;>rfl
theorem akz{v:Value}{l:List Spn}(S:St w0 w R)(hs:SlS w v l)(hlen:l.length<=1000000){K:KV}(h: ∀w' v',St w0 w' (rdA 8 jr v' l :: R)->K v' w'):ie P F.d [v] w K:=by
 rw[M.v.fcall]
 exact yb hs hlen fun w' v' s n f=>h w' v' (S.add (a:=rdA 8 jr v' l) f (B:=fun x=>v'.ownBlock=some x) ⟨s,fun b hb=>hb⟩ n)
theorem bgl{t:Int}{lv:Value}{l:List Spn}(S:St w0 w (clA p q :: jy q.tb n :: mo q.out ls :: R))(hn:qn n)(hs: ∀w' L,St w0 w' (L ++ R)->SlS w' lv l)(hl:l.length<=1000000)(hls:ls.length<=200){K:KV}
  (h: ∀w' ov sv hh,St w0 w' (clA p {q with out:=ov} :: mo ov (ls ++ oh [200] (xl t (qf n) sv) hh) :: jy q.tb n :: R)->K (.tuple #[]) w'):ie P F.bi [km p,.int .u64 t,lv] w K:=by
 rw[M.bd.fcall]
 apply M.bd.calls
 unfold M.bd
 have S1:=S.ju ((Fr.refl _ w).dr 1)
 rw[pz]
 generalize dr w 1=w1 at *
 refine aal fun K0 hK0=>?_
 have e0: ∀{w':World}{L:List Asn},St w0 w' L->clA p q∈L->ik w' p 0=some (.int .u64 1):=fun S' hm=>(nq S' hm).1
 have fin: ∀{w':World}{tb:Nat},St w0 w' (baB tb ⟨max (qf n) 1,1⟩ :: clA p q :: jy q.tb n :: mo q.out ls :: R)->∀x,gv x 9= .pointer (some ⟨tb,0,none⟩)->K0 x w':=fun{w' tb} S' x hx=>by
  refine hK0 _ _ ?_
  unfold M.bd.j0
  have S2:=S'.ju ((Fr.refl _ w').dr 1)
  rw[pz]
  generalize dr w' 1=w2 at *
  refine aal fun K1 hK1=>?_
  have lb: ∀{w':World}{L:List Asn},St w0 w' L->baB tb ⟨max (qf n) 1,1⟩∈L->∀K,ldN P 2 tb 0 w' K=K (kj ⟨max (qf n) 1,1⟩) w':=fun S' hm K=>by
   obtain⟨s,t,rfl⟩:=List.append_of_mem hm
   exact (S'.perm List.perm_middle).ldA (n:=2) (i:=0) (tx ⟨max (qf n) 1,1⟩) rfl rfl K
  have e3: ∀{w':World}{L:List Asn},St w0 w' L->clA p q∈L->ik w' p 3=some (.int .u64 200):=fun S' hm=>by
   obtain⟨_,_,e,_⟩:=nq S' hm
   exact e
  have bld: ∀(aa:Option Addr)(c d:Nat) w' K,jj P T.c #[(0,.int .i64 9),(1,.int .u64 t),(2,kj ⟨max (qf n) 1,1⟩),(6,.slice aa c d)] w' K=K (pkA (xl t (qf n) (.slice aa c d))) w':=fun aa c d w' K=>by
   simp[kj,pkA,pkC,xl,ja]
  simp only[km]
  simp[hx,lb S2,e3 S2]
  have sd: ∀{w':World}{uv:Value}{aa:Option Addr}{c d:Nat}{K':KV},St w0 w' (adu uv [200] :: clA p q :: jy q.tb n :: mo q.out ls :: R)->(∀w2,(∃ov sv hh,St w0 w2 (clA p {q with out:=ov} :: mo ov (ls ++ oh [200] (xl t (qf n) sv) hh) :: jy q.tb n :: R))->K' (.tuple #[]) w2)->ie P F.e [km p,pkA (xl t (qf n) (.slice aa c d)),uv] w' K':=fun S3 h3=>by
   refine aib (to:=[200]) (S3.pick (L:=[_,_,_,_]) [1,3,0,2] 4 rfl (by decide)) (awe _ _ _ _ _) (fun w' L S'=>(S'.perm List.perm_middle).row nt) (by simp;omega) fun w4 ov S4=>h3 w4 ?_
   exact⟨ov,_,_,S4.pick (L:=[_,_,_,_]) [0,1,3] 4 rfl (by decide)⟩
  have nu: ∀{w':World}{L:List Asn},St w0 w' L->St w0 (w'.alloc (.cells #[.int .u64 200] T.a)) (adu (.slice (some ⟨w'.heap.size,0,none⟩) 1 1) [200] :: L):=fun S'=>St.tz (l:=[(200:Int)]) S' nt rfl (by simp[maxLen])
  have ed: ∀{w':World} x,(∃ov sv hh,St w0 w' (clA p {q with out:=ov} :: mo ov (ls ++ oh [200] (xl t (qf n) sv) hh) :: jy q.tb n :: R))->K1 x w':=fun x ⟨ov,sv,hh,S'⟩=>hK1 _ _ (h _ ov sv hh S')
  have hs2: ∀w' L,St w0 w' (L ++ (baB tb ⟨max (qf n) 1,1⟩ :: clA p q :: jy q.tb n :: mo q.out ls :: R))->SlS w' lv l:=fun w' L S'=>hs w' (L ++ [_,_,_,_]) (by simpa using S')
  refine⟨?_,?_⟩
  ·refine akz S2 (hs2 w2 [] S2) hl fun w3 v3 S3=>?_
   obtain⟨aa,cc,rfl,_⟩:=S3.rd
   have S4:=nu S3
   simp[e3 S3,lb S3,bld,lb S4]
   exact sd (S4.pick (L:=[_,_,_,_,_,_]) [0,3,4,5] 6 rfl (by decide)) fun w5 h5=>ed _ h5
  ·have S3:=nu S2
   simp[lb S3]
   refine akz S3 (hs2 _ [_] S3) hl fun w4 v4 S4=>?_
   obtain⟨aa,cc,rfl,_⟩:=S4.rd
   simp[e3 S4,lb S4,bld]
   exact sd (S4.pick (L:=[_,_,_,_,_,_]) [1,3,4,5] 6 rfl (by decide)) fun w5 h5=>ed _ h5
 have vr: ∀{w':World}{L:List Asn}{K':KV},St w0 w' (clA p q :: jy q.tb n :: L)->(∀w2,St w0 w2 (clA p q :: jy q.tb n :: L)->K' (.int .u64 (qf n)) w2)->ie P F.f [.pointer (some ⟨p,0,none⟩)] w' K':=fun S' h'=>akp S' hn h'
 have bb: ∀w' K,jj P T.e #[(0,.int .u64 (max (qf n) 1)),(1,.int .u64 1)] w' K=K (kj ⟨max (qf n) 1,1⟩) w':=fun w' K=>by simp[kj]
 simp only[km]
 simp[e0 S1]
 refine⟨?_,?_⟩
 ·refine vr S1 fun w2 S2=>?_
  have S3:=abp S2
  simp[e0 S2,e0 S3,ro,bb]
  exact adh S3 fun w4 S4=>fin S4 _ rfl
 ·have S2:=(abp S1).pick (L:=[_,_,_,_]) [1,2,3,0] 4 rfl (by decide)
  simp[e0 S2 (by simp)]
  refine vr S2 fun w3 S3=>?_
  simp[e0 S3 (by simp),ro,bb]
  exact adh (S3.pick (L:=[_,_,_,_]) [3,0,1,2] 4 rfl (by decide)) fun w4 S4=>fin S4 _ rfl
end
set_option maxRecDepth 100000
section
variable {w0 w : World} {R : List Asn} {p : Nat} {q : Cl} {n : Nd} {g : Cfg} {A : List AE} {c : CT} {a0 : Int} {m rm um : MP} {es : List Evn} {ls : List Ltr}
theorem anz{cb:Nat}{v1 v2:Value}{l1 l2:List Spn}(S:St w0 w (iz cb #[v1,v2] T.h :: R))(h1:SlS w v1 l1)(h2:SlS w v2 l2)(hl1:l1.length<=1000000)(hl2:l2.length<=1000000){K:KV}(h: ∀w' v',St w0 w' (vt v' (l1 ++ l2) :: R)->K v' w'):ie P F.aj [.slice (some ⟨cb,0,none⟩) 2 2] w K:=by
 rw[M.j.fcall]
 refine CS.azd (b:=cb) (cap:=2) (L:=[(v1,l1),(v2,l2)]) (e:=T.h) S.blk (by
  intro p hp
  simp only[List.mem_cons,List.not_mem_nil,or_false] at hp
  rcases hp with rfl|rfl
  ·exact h1
  ·exact h2) (by simp[CS.tot];omega) (by simp) fun w' v o f=>?_
 have e:[(v1,l1),(v2,l2)].flatMap (·.2)=l1 ++ l2:=by simp
 rw[e] at o
 exact h w' v (S.drop.add (a:=vt v (l1 ++ l2)) f (B:=fun b=>v.ownBlock=some b) ⟨o.mono (Nat.zero_le _),fun b hb=>hb⟩ fun b hb=>⟨(o.lt hb).1,(o.lt hb).2⟩)
theorem bba{x1:Value}{tb:Nat}{s:Spn}{L0:List Asn}(hx:x1= .pointer (some ⟨tb,0,none⟩)):avh w0 (iz tb (jr s).toArray T.i :: L0) (.func (.func F.bq) #[] #[x1]) fun x=>decide (x.id=s.id):=fun w' L x K S' hK=>by
 subst hx
 rw[M.ca.rcall]
 apply M.ca.calls
 unfold M.ca li
 have S0:=St.kl w'
 refine St.sm S0 fun b w1 S1=>?_
 have c1:ik w1 b 1=some (.int .u64 x.id):=by rw[S1.cell];rfl
 have f1:Fz w' w1:=S1.fr
 have ct:ik w1 tb 1=some (.int .u64 s.id):=by
  rw[((S'.perm List.perm_middle).ju f1).cell]
  rfl
 simp[c1,ct]
 exact hK w1 f1
theorem yz{α:Type}{e:TypeId}{sz:Nat}{enc:α->List Value}{v:Value}{l:List α}{L:List Asn}(S:St w0 w L)(h:pc e sz enc v l∈L)(he: ∀x,(enc x).length=sz):Sl w sz enc v l:=by
 obtain⟨s,t,rfl⟩:=List.append_of_mem h
 exact (S.perm List.perm_middle).row he
def aeu(now t:Int)(s:Spn):Evn:=⟨4,now,1,t,ja,1,s,0⟩
def WoI(w0:World)(L:List Asn)(s:Spn):KL:=fun x w1=> ∃(u0 u1 u2 fv:Value)(i:Nat),x=[u0,u1,u2,fv,.int .i64 (i:Nat)]/\i<=1/\(i=0->fv= .slice none 0 0)/\St w0 w1 (vt fv ([s].take i) :: L)
def WeI(w0:World)(p:Nat)(q:Cl)(s:Spn)(t:Int)(L:List Asn)(es:List Evn):KL:=fun x w1=> ∃(i:Nat),x=[.int .i64 (i:Nat)]/\i<=1/\∃ev,St w0 w1 (clA p {q with ev:=ev} :: nh ev (es ++ [aeu q.now t s].take i) :: L)
theorem azo{t:Int}{lv:Value}{s:Spn}(S:St w0 w (ll p q n g A c a0 m es ls rm [] ++ R))(hn:qn n)(htr:0 < q.tr)(hs: ∀w' L,St w0 w' (L ++ R)->SlS w' lv [s])(hes:es.length<=1000)(hls:ls.length<=200){K:KV}
  (h: ∀w' ov ev uv sv hh,St w0 w' (ll p {q with out:=ov,ev:=ev} n g A c a0 m (es ++ [aeu q.now t s]) (ls ++ oh [200] (xl t (qf n) sv) hh) rm [(t,uv)] ++ R)->K (.tuple #[]) w'):ie P F.ca [km p,.int .u64 t,lv] w K:=by
 rw[M.g.fcall]
 apply M.g.calls
 unfold M.g
 obtain⟨_,_,_,_,_,_,_,_,_,_,c19,_⟩:=nq (p:=p) (q:=q) S (by simp)
 have hmp:=(S.pick (L:=[_,_,_,_,_,_,_,_,_,_,_]) [10] 11 rfl (by decide)).mp
 have hlu: ∀K,luT P T.v (.map (some q.un)) (.int .u64 t) true w K=K (.tuple #[.slice none 0 0,.bool false]) w:=fun K=>by
  rw[atw mt.v hmp]
  rfl
 simp only[km]
 simp[c19,hlu]
 have S1:=S.ju ((Fr.refl _ w).dr 1)
 generalize dr w 1=w1 at *
 obtain⟨_,_,_,_,_,_,_,_,_,_,d19,_⟩:=nq (p:=p) (q:=q) S1 (by simp)
 have d9:ik w1 p 9=some (.int .i64 q.tr):=by
  obtain⟨_,_,_,_,_,_,e,_⟩:=ly S1
  exact e
 have hmp1:=(S1.pick (L:=[_,_,_,_,_,_,_,_,_,_,_]) [10] 11 rfl (by decide)).mp
 have hl:=fun cs K=>adk (ty:=T.d) mt.v hmp1 cs K
 have hnt: ¬q.tr<=0:=by omega
 simp[d19,d9,hl,hnt]
 unfold M.g.j0
 have hln: ∀w' K,biT P .len #[T.h] T.d [false] [lv] w' K=K (.int .i64 1) w':=fun w' K=>(hs w1 _ S1).jq (by kernel_rfl) [false]
 have hs2: ∀w' L,St w0 w' (L ++ (ll p q n g A c a0 m es ls rm [] ++ R))->SlS w' lv [s]:=fun w' L S'=>hs w' (L ++ _) (by rw[List.append_assoc];exact S')
 generalize hG:ll p q n g A c a0 m es ls rm [] ++ R=G at *
 refine aal fun K1 hK1=>?_
 simp only[hln,il]
 refine⟨WoI w0 G s,fun x _=>1 - ms x 4,⟨_,_,_,_,0,rfl,Nat.zero_le _,fun _=>rfl,Go.Eng.yq S1⟩,?_⟩
 rintro x w2 ⟨u0,u1,u2,fv,i,rfl,hi,hfv,S2⟩
 by_cases hi0:i=0
 ·subst hi0
  obtain rfl:=hfv rfl
  simp
  unfold M.g.j3
  obtain⟨ab,ao,cap,hv,_,_,hc⟩:=(hs2 w2 [_] S2).at (i:=0) (by simp)
  have hia: ∀w' K,iaT P T.h lv (.int .i64 0) w' K=K (.pointer (some ⟨ab,ao,none⟩)) w':=fun w' K=>by rw[hv];simp
  have hld: ∀K,ldN P 8 ab ao w2 K=K (li s) w2:=fun K=>su (jr s) 8 rfl (fun k u hk=>by have:=hc k u hk;simpa using this) K
  simp[hia,hld]
  have S3:=S2.mkB #[.int .u64 0,.int .u64 0,.int .u64 0,.int .u64 0,.int .u64 0,.string ⟨#[]⟩,.string ⟨#[]⟩,.bool false] T.i
  generalize w2.heap.size=tb at *
  generalize w2.alloc _=w3 at *
  unfold li
  simp
  refine St.put (vs:=jr s) (cs':=(jr s).toArray) S3 (ph s) (by simp[jr]) (by simp[jr]) fun w4 S4=>?_
  have S5:=S4.mkB #[.slice none 0 0,.slice none 0 0] T.h
  refine anz (l1:=[]) (l2:=[]) S5 Sl.nil Sl.nil (by simp) (by simp) fun w6 v6 S6=>?_
  rw[aaj]
  have S6':St w0 w6 (spB tb s :: vt v6 [] :: vt (.slice none 0 0) [] :: G):=S6.swap
  refine aow (l:=[]) S6' (fun w' L S'=>yz S' (e:=T.i) (v:=v6) (by simp) oe) (bba rfl) (by simp) fun w7 S7=>?_
  have ld8: ∀K,ldN P 8 tb 0 w7 K=K (li s) w7:=fun K=>S7.ldA (n:=8) (i:=0) (jr s) rfl rfl K
  simp only[List.any_nil,ig,show IntKind.i64.wrap 0=0 from by decide,show IntKind.i64.wrap 1=1 from by decide,ld8,axo]
  simp
  have S8:St w0 (w7.alloc (.cells #[.int .u64 s.je,.int .u64 s.id,.int .u64 s.mr,.int .u64 s.kl,.int .u64 s.len,.string s.kq,.string s.name,.bool s.ol] T.i)) (vt (.slice (some ⟨w7.heap.size,0,none⟩) 1 1) [s] :: _):=St.tz (l:=[s]) S7 oe (by simp[jr]) (by simp[maxLen])
  generalize w7.heap.size=nb at *
  generalize w7.alloc _=w8 at *
  have S9:St w0 w8 (vt (.slice none 0 0) [] :: vt (.slice (some ⟨nb,0,none⟩) 1 1) [s] :: G):=S8.pick (L:=[_,_,_,_]) [3,0] 4 rfl (by decide)
  refine Go.Eng.ul et.h oe ph S9 (S9.swap.row oe) (by simp) (by decide) fun w10 v10 S10=>?_
  exact⟨⟨_,_,_,v10,1,rfl,Nat.le_refl _,fun h=>absurd h (by decide),S10.swap.drop⟩,by simp[ms,gv]⟩
 ·have hi1:i=1:=by omega
  subst hi1
  simp
  refine hK1 _ _ ?_
  unfold M.g.j1
  have S3:St w0 w2 (vt fv [s] :: G):=S2
  obtain⟨fa,fc,rfl,_⟩:=S3.row oe
  have hlf: ∀{w':World}{L:List Asn},St w0 w' L->vt (.slice fa 1 fc) [s]∈L->∀K,biT P .len #[T.h] T.d [false] [.slice fa 1 fc] w' K=K (.int .i64 1) w':=fun S' hm K=>(yz S' hm oe).jq (by kernel_rfl) [false]
  simp[hlf S3]
  unfold M.g.j6
  have S4:=S3.ju ((Fr.refl _ w2).dr 1)
  rw[pz]
  generalize dr w2 1=w4 at *
  subst hG
  obtain⟨_,_,_,_,_,_,_,_,_,_,e19,_⟩:=nq (p:=p) (q:=q) S4 (by simp)
  have S5:=S4.mkB #[.slice none 0 0,.slice fa 1 fc] T.h
  obtain⟨_,_,_,_,_,_,_,_,_,_,f19,_⟩:=nq (p:=p) (q:=q) S5 (by simp)
  simp[e19,f19]
  refine anz (l1:=[]) (l2:=[s]) S5 Sl.nil (S5.swap.row oe) (by simp) (by simp) fun w6 v6 S6=>?_
  obtain⟨_,_,_,_,_,_,_,_,_,_,g19,_⟩:=nq (p:=p) (q:=q) S6 (by simp)
  simp[g19]
  have S7:St w0 w6 (jh q.un .u64 [] :: vt (.slice fa 1 fc) [s] :: clA p q :: jy q.tb n :: mf q.hb g A c :: om q.kb a0 m :: nh q.ev es :: mo q.out ls :: rdA 1 lw q.rep [101] :: rdA 4 kz q.rul [jx] :: jh q.ru .u64 rm :: jh q.se .u64 [] :: R):=S6.pick (L:=[_,_,_,_,_,_,_,_,_,_,_,_,_]) [12,1,2,3,4,5,6,7,8,9,10,11] 13 rfl (by decide)
  refine S7.avc mt.v t v6 fun w8 S8=>?_
  rw[show ub ([]:MP) t v6=[(t,v6)] from rfl] at S8
  have S9:St w0 w8 (clA p q :: nh q.ev es :: vt (.slice fa 1 fc) [s] :: jy q.tb n :: mf q.hb g A c :: om q.kb a0 m :: mo q.out ls :: rdA 1 lw q.rep [101] :: rdA 4 kz q.rul [jx] :: jh q.ru .u64 rm :: jh q.se .u64 [] :: jh q.un .u64 [(t,v6)] :: R):=S8.pick (L:=[_,_,_,_,_,_,_,_,_,_,_,_]) [2,6,1,3,4,5,7,8,9,10,11,0] 12 rfl (by decide)
  refine⟨WeI w0 p q s t (vt (.slice fa 1 fc) [s] :: jy q.tb n :: mf q.hb g A c :: om q.kb a0 m :: mo q.out ls :: rdA 1 lw q.rep [101] :: rdA 4 kz q.rul [jx] :: jh q.ru .u64 rm :: jh q.se .u64 [] :: jh q.un .u64 [(t,v6)] :: R) es,fun x _=>1 - ms x 0,⟨0,rfl,Nat.zero_le _,q.ev,by simpa using S9⟩,?_⟩
  rintro x w10 ⟨j,rfl,hj,evv,S10⟩
  by_cases hj0:j=0
  ·subst hj0
   simp
   unfold M.g.j9
   have S11:=S10
   simp only[List.take_zero,List.append_nil] at S11
   obtain⟨ab,ao,cap,hv,_,_,hc⟩:=(yz S11 (e:=T.i) (v:= .slice fa 1 fc) (l:=[s]) (by simp) oe).at (i:=0) (by simp)
   have hia: ∀w' K,iaT P T.h (.slice fa 1 fc) (.int .i64 0) w' K=K (.pointer (some ⟨ab,ao,none⟩)) w':=fun w' K=>by rw[hv];simp
   have hld: ∀K,ldN P 8 ab ao w10 K=K (li s) w10:=fun K=>su (jr s) 8 rfl (fun k u hk=>by have:=hc k u hk;simpa using this) K
   simp[hia,hld]
   have S12:=S11.mkB #[.int .u64 0,.int .u64 0,.int .u64 0,.int .u64 0,.int .u64 0,.string ⟨#[]⟩,.string ⟨#[]⟩,.bool false] T.i
   generalize w10.heap.size=tb at *
   generalize w10.alloc _=w11 at *
   unfold li
   simp
   refine St.put (vs:=jr s) (cs':=(jr s).toArray) S12 (ph s) (by simp[jr]) (by simp[jr]) fun w13 S13=>?_
   have ld8: ∀K,ldN P 8 tb 0 w13 K=K (li s) w13:=fun K=>S13.ldA (n:=8) (i:=0) (jr s) rfl rfl K
   have be: ∀K,jj P T.av #[(0,.int .i64 4),(3,.int .u64 t),(5,.int .i64 1),(6,li s)] w13 K=K (evA ⟨4,0,0,t,ja,1,s,0⟩) w13:=fun K=>by simp[li,evA,evC,ja]
   simp[ld8,be]
   refine aco (S13.pick (L:=[_,_,_]) [1,2] 3 rfl (by decide)) ⟨4,0,0,t,ja,1,s,0⟩ (by omega) fun w14 v14 S14=>?_
   exact⟨⟨1,rfl,Nat.le_refl _,v14,S14⟩,by simp[ms,gv,show IntKind.i64.wrap 1=1 from by decide]⟩
  ·have hj1:j=1:=by omega
   subst hj1
   simp
   have S11:St w0 w10 (clA p {q with ev:=evv} :: jy q.tb n :: mo q.out ls :: vt (.slice fa 1 fc) [s] :: nh evv (es ++ [aeu q.now t s]) :: mf q.hb g A c :: om q.kb a0 m :: rdA 1 lw q.rep [101] :: rdA 4 kz q.rul [jx] :: jh q.ru .u64 rm :: jh q.se .u64 [] :: jh q.un .u64 [(t,v6)] :: R):=S10.pick (L:=[_,_,_,_,_,_,_,_,_,_,_,_]) [0,3,6,2,1,4,5,7,8,9,10,11] 12 rfl (by decide)
   refine bgl (q:={q with ev:=evv}) (l:=[s]) S11 hn (fun w' L S'=>yz S' (e:=T.i) (by simp) oe) (by simp) hls fun w12 ov sv hh S12=>?_
   exact h w12 ov evv v6 sv hh (S12.pick (L:=[_,_,_,_,_,_,_,_,_,_,_,_]) [0,2,5,6,4,1,7,8,9,10,11] 12 rfl (by decide))
end
section
variable {w0 w : World} {R : List Asn} {p : Nat} {q : Cl} {n : Nd} {g : Cfg} {A : List AE} {c : CT} {a0 : Int} {m rm um : MP} {es : List Evn} {ls : List Ltr}
theorem azy{inc:Int}(S:St w0 w (clA p q :: jy q.tb n :: R))(hn:qn n)(hs:yy n inc){K:KV}(h: ∀w' v,St w0 w' (rdA 1 lw v [] :: clA p q :: jy q.tb n :: R)->K v w'):ie P F.bv [km p] w K:=by
 rw[M.ce.fcall]
 apply M.ce.calls
 unfold M.ce
 rw[tw]
 have hc1:(km p).cells= #[km p]:=rfl
 rw[hc1]
 have S1:=S.mkB #[km p] T.an
 generalize w.heap.size=tb at *
 generalize w.alloc _=w1 at *
 have ct: ∀{w':World}{L:List Asn},St w0 w' L->iz tb #[km p] T.an∈L->ik w' tb 0=some (km p):=fun S' hm=>by
  obtain⟨s,t,rfl⟩:=List.append_of_mem hm
  rw[(S'.perm List.perm_middle).cell]
  rfl
 obtain⟨_,_,_,_,_,c14,_⟩:=nq (p:=p) (q:=q) S1 (by simp)
 simp[ct S1,c14]
 refine ami (S1.pick (L:=[_,_,_]) [2,0,1] 3 rfl (by decide)) hn fun w2 v2 S2=>?_
 refine asx (l:=n.v) S2 (fun w' L S'=>aed S' (by simp)) (by have:=hn.zm.few;omega) fun w3 v3 S3=>?_
 rw[acx hn hs] at S3
 obtain⟨g,cap,cur,rfl,_,n1,_⟩:=S3.aij (k:=0) (by simp)
 have e1:([1]:List Int).length=1:=rfl
 rw[e1] at S3 n1⊢
 rw[aaj,M.n.fcall]
 apply M.n.calls
 unfold M.n
 rw[M.al.fcall]
 apply M.al.calls
 unfold M.al
 simp only[il,xk (show ni P T.g=true from by kernel_rfl)]
 refine⟨fun x w'=>x=[undef,.int .i64 0,.int .i64 0]/\w'=w3,fun _ _=>0,⟨rfl,rfl⟩,?_⟩
 rintro x w' ⟨rfl,rfl⟩
 obtain⟨_,ao,_,hv,_,_,hc⟩:=(S3.row (fun _=>rfl)).at (i:=0) (by simp)
 have hcell:ik w' g 0=some (.int .u64 1):=by
  injection hv with h1 _ _
  injection h1 with h1
  injection h1 with h1 h2 _
  subst h1 h2
  simpa [Suint64.rk] using hc 0 _ rfl
 simp
 unfold M.al.j2
 simp[hcell]
 have hcl:=M.bu.rcall [] [.pointer (some ⟨tb,0,none⟩)] [.int .u64 1] w'
 simp only[List.nil_append,List.cons_append] at hcl
 rw[show (#[Value.pointer (some ⟨tb,0,none⟩)]:Array Value)=[Value.pointer (some ⟨tb,0,none⟩)].toArray from rfl,show (#[]:Array Value)=([]:List Value).toArray from rfl,hcl]
 apply M.bu.calls
 unfold M.bu
 obtain⟨c0,_⟩:=nq (p:=p) (q:=q) S3 (by simp)
 simp[ct S3 (by simp),c0]
 unfold M.n.j0
 simp only[il]
 simp
 refine⟨fun x w1=>x=[undef,.int .i64 0,.int .i64 1]/\w1=w',fun _ _=>0,⟨by rw[show IntKind.i64.wrap 1=1 from by decide],rfl⟩,?_⟩
 rintro x w1 ⟨rfl,rfl⟩
 unfold M.n.j2
 simp only[il]
 have e2: ∀w' K,slT P T.g (.slice (some ⟨g,0,none⟩) 1 cap) (some (.int .i64 0)) none none w' K=K (.slice (some ⟨g,0 * 1,none⟩) (1 - 0) cap) w':=fun w' K=>by
  rw[blx (by kernel_rfl) (by omega) (by omega),show szE P T.g=1 from by kernel_rfl]
  simp
 have e3: ∀w' K,slT P T.g (.slice (some ⟨g,0,none⟩) 1 cap) none (some (.int .i64 0)) none w' K=K (.slice (some ⟨g,0,none⟩) 0 cap) w':=fun w' K=>by
  rw[avs (by kernel_rfl) (by omega) (by omega)]
  simp
 simp only[xk (show ni P T.g=true from by kernel_rfl)]
 simp only[mw,gv,List.getD_cons_succ,List.getD_cons_zero,ig]
 simp
 rw[e2]
 refine bdz (by':=8) et.g (by kernel_rfl) (fun _=>rfl) S3 (by decide) fun w4 S4=>?_
 exact h w4 _ (S4.pick (L:=[_,_,_,_,_]) [0,4,2] 5 rfl (by decide))
theorem avb{t:Int}{s:Spn}{rb:Nat}(S:St w0 w (ll p q n g A c 0 [] es ls [(t,.pointer (some ⟨rb,0,none⟩))] [] ++ R))(hn:qn n)(htr:0 < q.tr)(hA:A.length<=1000)(hu: ∀x∈A,x.t=t->x.l=[s])(he: ∃x∈A,x.t=t)(ht:t≠0)(hes:es.length<=1000)(hls:ls.length<=200){K:KV}
  (h: ∀w' ov ev uv sv hh,St w0 w' (ll p {q with out:=ov,ev:=ev} n g (tq A t) (qm c t) t [(t,.int .i64 1)] (es ++ [aeu q.now t s]) (ls ++ oh [200] (xl t (qf n) sv) hh) [] [(t,uv)] ++ R)->K (.tuple #[]) w'):ie P F.bd [km p,.int .u64 t,.int .i64 1] w K:=by
 rw[M.cd.fcall]
 apply M.cd.calls
 unfold M.cd
 obtain⟨_,_,_,_,_,_,_,c16,_⟩:=nq (p:=p) (q:=q) S (by simp)
 simp only[km]
 simp[c16]
 refine bhv (S.pick (L:=[_,_,_,_,_,_,_,_,_,_,_]) [3,0,1,2,4,5,6,7,8,9,10] 11 rfl (by decide)) ht (by omega) fun w1 S1=>?_
 obtain⟨_,_,_,_,_,_,_,_,c17,_⟩:=nq (p:=p) (q:=q) S1 (by simp)
 simp[c17]
 have S2:St w0 w1 (jh q.ru .u64 [(t,.pointer (some ⟨rb,0,none⟩))] :: jh q.se .u64 [] :: clA p q :: jy q.tb n :: mf q.hb g A c :: om q.kb t [(t,.int .i64 1)] :: nh q.ev es :: mo q.out ls :: rdA 1 lw q.rep [101] :: rdA 4 kz q.rul [jx] :: jh q.un .u64 [] :: R):=S1.pick (L:=[_,_,_,_,_,_,_,_,_,_,_]) [8,9,1,2,3,0,4,5,6,7,10] 11 rfl (by decide)
 refine S2.bew mt.x t fun w3 S3=>?_
 rw[show uu ([(t,.pointer (some ⟨rb,0,none⟩))]:MP) t=[] from by simp[uu]] at S3
 obtain⟨_,_,_,_,_,_,_,_,_,d18,_⟩:=nq (p:=p) (q:=q) S3 (by simp)
 simp[d18]
 refine S3.swap.bew mt.u t fun w4 S4=>?_
 rw[show uu ([]:MP) t=[] from rfl] at S4
 obtain⟨_,_,_,_,_,_,e15,_⟩:=nq (p:=p) (q:=q) S4 (by simp)
 simp[e15]
 have S5:St w0 w4 (mf q.hb g A c :: clA p q :: jy q.tb n :: om q.kb t [(t,.int .i64 1)] :: nh q.ev es :: mo q.out ls :: rdA 1 lw q.rep [101] :: rdA 4 kz q.rul [jx] :: jh q.ru .u64 [] :: jh q.se .u64 [] :: jh q.un .u64 [] :: R):=S4.pick (L:=[_,_,_,_,_,_,_,_,_,_,_]) [4,2,3,5,6,7,8,9,1,0,10] 11 rfl (by decide)
 refine bec S5 hA t (fun hno=>by
  obtain⟨x,hx,hxt⟩:=he
  exact absurd hxt (hno x hx)) fun x hx hxt w5 v5 S6=>?_
 rw[hu x hx hxt] at S6
 have hln: ∀w' K,biT P .len #[T.h] T.d [false] [v5] w' K=K (.int .i64 1) w':=fun w' K=>S6.rd.jq (by kernel_rfl) [false]
 simp[hln]
 refine azo (a0:=t) (rm:=[]) (s:=s) (S6.pick (L:=[_,_,_,_,_,_,_,_,_,_,_,_]) [2,3,1,4,5,6,7,8,9,10,11,0] 12 rfl (by decide)) hn htr (fun w' L S'=>aed S' (by simp)) hes hls fun w7 ov ev uv sv hh S7=>?_
 exact h w7 ov ev uv sv hh (S7.pick (L:=[_,_,_,_,_,_,_,_,_,_,_,_]) [0,1,2,3,4,5,6,7,8,9,10] 12 rfl (by decide))
end
section
variable {w0 w : World} {R : List Asn} {p : Nat} {q : Cl} {n : Nd} {g : Cfg} {A : List AE} {c : CT} {a0 : Int} {m rm um : MP} {es : List Evn} {ls : List Ltr}
theorem ala{t v half:Int}{b:Bal}{rb:Nat}(S:St w0 w (ll p q n g A c 0 [] es ls [(t,.pointer (some ⟨rb,0,none⟩))] [] ++ po rb t b v half :: R))(hh:half=0\/half=1)(ht:0 < t/\t < 18446744073709551616)(hb:b.rng)(hb0:0 < b.n){K:KV}
  (h: ∀w' pb,St w0 w' (iz pb (pkC (qi t b half)).toArray T.c :: po rb t b v (half+1) :: (ll p q n g A c 0 [] es ls [(t,.pointer (some ⟨rb,0,none⟩))] [] ++ R))->M.m.j1 (.pointer (some ⟨rb,0,none⟩)) (.pointer (some ⟨pb,0,none⟩)) (km p) (.int .i64 (if half=1 then 6 else 4)) w' K):ie P F.al [km p,.int .u64 101,pkA (qi t b half)] w K:=by
 rw[M.m.fcall]
 apply M.m.calls
 unfold M.m pkA
 refine St.sm S fun pb w1 S1=>?_
 have S2:St w0 (dr w1 1) (iz pb (pkC (qi t b half)).toArray T.c :: _):=S1.ju ((Fr.refl _ w1).dr 1)
 obtain⟨_,_,_,_,_,_,_,_,c17,_⟩:=nq (p:=p) (q:=q) S2 (by simp)
 have k1:ik (dr w1 1) pb 1=some (.int .u64 t):=by rw[S2.cell];rfl
 have hmp:=(S2.pick (L:=[_,_,_,_,_,_,_,_,_,_,_,_]) [9] 12 rfl (by decide)).mp
 have lu: ∀K,luT P T.x (.map (some q.ru)) (.int .u64 t) false (dr w1 1) K=K (.pointer (some ⟨rb,0,none⟩)) (dr w1 1):=fun K=>by
  rw[ta mt.x hmp]
  simp[ki]
 simp only[km]
 simp[c17,k1,lu]
 unfold M.m.j0
 have S3:St w0 (dr w1 1) (po rb t b v half :: iz pb (pkC (qi t b half)).toArray T.c :: (ll p q n g A c 0 [] es ls [(t,.pointer (some ⟨rb,0,none⟩))] [] ++ R)):=S2.pick (L:=[_,_,_,_,_,_,_,_,_,_,_,_,_]) [12,0,1,2,3,4,5,6,7,8,9,10,11] 13 rfl (by decide)
 generalize dr w1 1=w2 at *
 refine aly S3 hh fun w4 S4=>?_
 have fd: ∀w' K,fdT P T.c (pkA (rz t b v half)) 0 w' K=K (.int .i64 (if half=1 then 6 else 4)) w':=fun w' K=>by
  refine Eq.trans ?_ rfl
  kernel_rfl
 simp[fd,vq S4.swap]
 refine bbo S4 hh ht hb hb0 fun w5 S5=>?_
 simp
 exact h w5 pb S5.swap
theorem auy{t v:Int}{b:Bal}{rb:Nat}(S:St w0 w (ll p q n g A c 0 [] es ls [(t,.pointer (some ⟨rb,0,none⟩))] [] ++ po rb t b v 0 :: R))(ht:0 < t/\t < 18446744073709551616)(hb:b.rng)(hb0:0 < b.n)(hls:ls.length<=200){K:KV}
  (h: ∀w' ov,St w0 w' (ll p {q with out:=ov} n g A c 0 [] es (ls ++ oh [101] (rz t b v 1) pp) [(t,.pointer (some ⟨rb,0,none⟩))] [] ++ po rb t b v 1 :: R)->K (.tuple #[]) w'):ie P F.al [km p,.int .u64 101,pkA (qi t b 0)] w K:=by
 refine ala S (.inl rfl) ht hb hb0 fun w1 pb S1=>?_
 unfold M.m.j1
 simp only[il]
 refine amq S1.swap (fun h=>absurd h (by decide)) fun _=>?_
 simp
 unfold M.m.j2
 refine aly S1.swap (.inr rfl) fun w2 S2=>?_
 have S3:=auu S2
 simp
 generalize w2.heap.size=qb at *
 generalize w2.alloc _=w3 at *
 rw[biq]
 refine awq (q:=rz t b v 1) S3 rfl pp fun w4 S4=>?_
 have k0:ik w4 qb 0=some (.int .i64 6):=by rw[S4.cell];rfl
 have S5:=S4.ju ((Fr.refl _ w4).dr 1)
 simp[k0,vq S5]
 refine aqw S5.swap (.inr rfl) fun w6 ov S6=>?_
 have S7:St w0 w6 (iz qb (pkC (rz t b v 1)).toArray T.c :: qx ov [101] :: po rb t b v 1 :: iz pb (pkC (qi t b 0)).toArray T.c :: (ll p q n g A c 0 [] es ls [(t,.pointer (some ⟨rb,0,none⟩))] [] ++ R)):=S6.pick (L:=[_,_,_,_]) [2,0,1,3] 4 rfl (by decide)
 simp[vq S7]
 refine aib (to:=[101]) (S7.pick (L:=[_,_,_,_,_,_,_,_,_,_,_,_,_,_,_]) [4,9,1,2,5,6,7,8,10,11,12,13,14] 15 rfl (by decide)) pp (fun w' L S'=>yz S' (e:=T.a) (v:=ov) (by simp) nt) (by simp;omega) fun w8 lv S8=>?_
 exact h w8 lv (S8.pick (L:=[_,_,_,_,_,_,_,_,_,_,_,_,_]) [0,4,5,6,7,1,8,9,10,11,12,3] 13 rfl (by decide))
theorem aym{t:Int}{b:Bal}{rb:Nat}{s:Spn}{inc:Int}(S:St w0 w (ll p q n g A c 0 [] es ls [(t,.pointer (some ⟨rb,0,none⟩))] [] ++ po rb t b 1 1 :: R))(hn:qn n)(hs:yy n inc)(htr:0 < q.tr)(hA:A.length<=1000)(hu: ∀x∈A,x.t=t->x.l=[s])(he: ∃x∈A,x.t=t)(hes:es.length<=1000)(ht:0 < t/\t < 18446744073709551616)(hb:b.rng)(hb0:0 < b.n)(hls:ls.length<=200){K:KV}
  (h: ∀w' ov ev uv ls',St w0 w' (ll p {q with out:=ov,ev:=ev} n g (tq A t) (qm c t) t [(t,.int .i64 1)] (es ++ [aeu q.now t s]) ls' [] [(t,uv)] ++ R)->K (.tuple #[]) w'):ie P F.al [km p,.int .u64 101,pkA (qi t b 1)] w K:=by
 refine ala S (.inr rfl) ht hb hb0 fun w1 pb S1=>?_
 unfold M.m.j1
 simp only[il]
 refine amq S1.swap (fun _=>?_) fun h=>absurd rfl h
 have k1:ik w1 pb 1=some (.int .u64 t):=by rw[S1.cell];rfl
 simp[k1]
 refine avb (rb:=rb) (s:=s) (S1.pick (L:=[_,_,_,_,_,_,_,_,_,_,_,_,_]) [2,3,4,5,6,7,8,9,10,11,12,0] 13 rfl (by decide)) hn htr hA hu he (by omega) hes hls fun w2 ov ev uv sv hh S2=>?_
 have S3:=S2.ju ((Fr.refl _ w2).dr 1)
 generalize dr w2 1=w3 at *
 have k1': ∀{w':World}{L:List Asn},St w0 w' L->iz pb (pkC (qi t b 1)).toArray T.c∈L->ik w' pb 1=some (.int .u64 t):=fun S' hm=>by
  obtain⟨s,t,rfl⟩:=List.append_of_mem hm
  rw[(S'.perm List.perm_middle).cell]
  rfl
 have bld: ∀w' K,jj P T.c #[(0,.int .i64 8),(1,.int .u64 t),(4,.int .i64 1)] w' K=K (pkA ⟨8,t,ja,ja,1,false,.slice none 0 0,.slice none 0 0,.slice none 0 0⟩) w':=fun w' K=>by simp[pkA,pkC,ja]
 simp[k1' S3 (by simp),bld]
 refine azy (q:={q with out:=ov,ev:=ev}) S3 hn hs fun w4 v4 S4=>?_
 simp[k1' S4 (by simp)]
 refine aib (q:={q with out:=ov,ev:=ev}) (to:=[]) (pk:=⟨8,t,ja,ja,1,false,.slice none 0 0,.slice none 0 0,.slice none 0 0⟩) (S4.pick (L:=[_,_,_,_,_,_,_,_,_,_,_,_]) [1,6,0,2,3,4,5,7,8,9,10,11] 12 rfl (by decide)) (atr _ _ _ _ _ _) (fun w' L S'=>aed (sz:=1) (enc:=lw) (v:=v4) (l:=[]) S' (by simp)) (by simp[oh];omega) fun w5 ov2 S5=>?_
 exact h w5 ov2 ev uv _ (S5.pick (L:=[_,_,_,_,_,_,_,_,_,_,_,_,_]) [0,3,4,5,6,1,7,8,9,10,11] 13 rfl (by decide))
theorem bgg{t half:Int}{b:Bal}(ht:0 < t/\t < 18446744073709551616)(hb:b.rng):alb (qi t b half):=⟨⟨by show 0<=t;omega,ht.2⟩,hb,show ja.rng from⟨⟨by decide,by decide⟩,⟨by decide,by decide⟩⟩⟩
theorem ake{t half now:Int}{b:Bal}(S:St w0 w (ll p q n g A c a0 m es ls rm um ++ R))(hh:half=0\/half=1)(ht:0 < t/\t < 18446744073709551616)(hb:b.rng)(hb0:0 < b.n){K:KV}
  (h: ∀w',St w0 w' (ll p {q with now:=max q.now now} n g A c a0 m es ls rm um ++ R)->ie P F.al [km p,.int .u64 101,pkA (qi t b half)] w' fun _ w=>K (.int .i64 0) w):ie P F.bc [km p,.int .u64 101,pkA (qi t b half),.int .u64 now] w K:=by
 rw[M.s.fcall]
 apply M.s.calls
 unfold M.s pkA
 refine St.sm S fun pb w1 S1=>?_
 have S1':St w0 w1 (iz pb (pkC (qi t b half)).toArray T.c :: _):=S1
 simp only[km]
 simp
 unfold M.s.j0
 simp[vq S1']
 refine arc (p:=qi t b half) (ls:=[]) (lm:=[]) (lu:=[]) (aze _ _ _ _ _ _ _) (bgg ht hb) (fun hr w2 t2 hth _ f2=>?_) fun hr=>absurd (ana ht.1 hb0) (by rw[hr];simp)
 have S2:=S1'.ju f2
 rw[anx hth]
 obtain⟨_,_,_,_,_,_,_,_,_,_,_,_,c23,_⟩:=nq (p:=p) (q:=q) S2 (by simp)
 simp
 unfold M.s.j1
 simp[c23,ro]
 refine St.nj S2.swap rfl (by simp[clC]) fun w3 S3=>?_
 have S4:St w0 w3 (clA p {q with now:=max q.now now} :: iz pb (pkC (qi t b half)).toArray T.c :: _):=S3
 simp[zz,yl]
 have S5:=S4.mkB #[.int .u64 0,.int .u64 0,.int .u64 0,.bool false,.int .u64 0,.int .u64 0,.int .i64 0,.bool false] T.k
 unfold vn
 simp
 generalize w3.heap.size=ab at *
 generalize w3.alloc _=w5 at *
 refine St.put (vs:=vn t b half) (cs':=(vn t b half).toArray) S5 (by simp[vn,kt]) (by simp[vn]) (by simp[vn]) fun w6 S6=>?_
 have S7:=S6.pick (L:=[_,_,_]) [2,1] 3 rfl (by decide)
 simp[vq S7]
 exact h w6 S7.drop
end
def cfC(inc tr:Int)(rv:Value):List Value:=[.int .u64 1,.int .u64 inc,rv,.int .u64 200,.int .i64 3,.int .u64 5,.int .u64 20,.int .u64 10,.int .u64 4,.int .i64 tr,.int .i64 4,.int .i64 4,.string kw]
def cfA(inc tr:Int)(rv:Value):Value:= .agg (cfC inc tr rv).toArray
def cfZ:Array Value:= #[.int .u64 0,.int .u64 0,.slice none 0 0,.int .u64 0,.int .i64 0,.int .u64 0,.int .u64 0,.int .u64 0,.int .u64 0,.int .i64 0,.int .i64 0,.int .i64 0,.string ⟨#[]⟩]
section
variable {w0 w : World} {R : List Asn}
theorem ayt{ty a b c:TypeId}{k:IntKind}{x y z:Int}{w:World}{K:KV}(cs:List Bool):biT P .min #[a,b,c] ty cs [.int k x,.int k y,.int k z] w K=K (.int k (min (min x y) z)) w:=by
 simp[biT,ky,builtin,Builtin.min_,Builtin.min2,Sem.run_bind,Result.andThen,Sem.run_pure]
 rw[show (if z < if y < x then y else x then z else if y < x then y else x)=min x (min y z) from by (repeat' split) <;>omega]
theorem bbq(w:World)(K:KV):biT P .min #[T.a,T.a,T.a,T.a] T.a [false,false,false,false] [.int .u64 5,.int .u64 20,.int .u64 10,.int .u64 4] w K=K (.int .u64 4) w:=by
 refine Eq.trans ?_ rfl
 kernel_rfl
theorem bdv(w:World)(K:KV):biT P .max #[T.a,T.a,T.a,T.a] T.a [false,false,false,false] [.int .u64 5,.int .u64 20,.int .u64 10,.int .u64 4] w K=K (.int .u64 20) w:=by
 refine Eq.trans ?_ rfl
 kernel_rfl
theorem axe(inc tr:Int)(a:Option Addr)(n c:Nat): ∀u∈cfC inc tr (.slice a n c),kt u=true:=fun u hu=>by
 simp only[cfC,List.mem_cons,List.not_mem_nil,or_false] at hu
 rcases hu with rfl|rfl|rfl|rfl|rfl|rfl|rfl|rfl|rfl|rfl|rfl|rfl|rfl <;>rfl
theorem bez{t:TypeId}(ht: ∀b w K,ng P t (.pointer (some ⟨b,0,none⟩)) w K=ldN P 13 b 0 w K){b:Nat}{inc tr:Int}{a:Option Addr}{n c:Nat}{cs:Array Value}{e:TypeId}(hs:cs.size=13)(S:St w0 w (iz b cs e :: R)){K:KV}(h: ∀w',St w0 w' (iz b (cfC inc tr (.slice a n c)).toArray e :: R)->K (cfA inc tr (.slice a n c)) w'):
  stN P b 0 (cfC inc tr (.slice a n c)) w fun _ w=>ng P t (.pointer (some ⟨b,0,none⟩)) w fun r w'=>w'=w/\K r w:=by
 refine St.put (cs':=(cfC inc tr (.slice a n c)).toArray) S (axe inc tr a n c) (by simp[cfC,hs]) (by
  have hl:cs.toList.length=13:=by simpa using hs
  simp[cfC,hl]) fun w' S'=>?_
 rw[ht,S'.ldA (n:=13) (i:=0) (cfC inc tr (.slice a n c)) rfl rfl]
 exact⟨rfl,h w' S'⟩
theorem bnk(b:Nat)(w:World)(K:KV):ng P T.m (.pointer (some ⟨b,0,none⟩)) w K=ldN P 13 b 0 w K:=kr
theorem bng(b:Nat)(w:World)(K:KV):ng P T.f (.pointer (some ⟨b,0,none⟩)) w K=ldN P 13 b 0 w K:=kr
theorem ars(S:St w0 w R){K:KV}(h: ∀w' a c,St w0 w' (adu (.slice a 1 c) [101] :: R)->K (cfA 1 4 (.slice a 1 c)) w'):ie P F.db [] w K:=by
 rw[M.dv.fcall]
 apply M.dv.calls
 unfold M.dv
 have S1:=S.mkB cfZ T.m
 have S2:St w0 ((w.alloc (.cells cfZ T.m)).alloc (.cells #[.int .u64 101] T.a)) (adu (.slice (some ⟨(w.alloc (.cells cfZ T.m)).heap.size,0,none⟩) 1 1) [101] :: _):=St.tz (l:=[(101:Int)]) S1 nt rfl (by simp[maxLen])
 simp only[jc] at S2
 unfold cfZ at S2
 simp
 generalize World.alloc (w.alloc _) _=w2 at *
 generalize w.heap.size+1=rb at *
 generalize w.heap.size=cb at *
 exact bez (inc:=1) (tr:=4) (t:=T.m) bnk rfl S2.swap fun w3 S3=>h w3 _ _ S3.drop
theorem azw{inc tr:Int}{a:Option Addr}{n c:Nat}(S:St w0 w R){K:KV}(h: ∀w',St w0 w' R->K (cfA inc tr (.slice a n c)) w'):ie P F.dn [cfA inc tr (.slice a n c)] w K:=by
 rw[M.en.fcall]
 apply M.en.calls
 unfold M.en cfA
 refine St.sm S fun tb w1 S1=>?_
 have S2:=S1.mkB cfZ T.f
 have cc: ∀{w':World}{L:List Asn},St w0 w' (iz tb (cfC inc tr (.slice a n c)).toArray T.m :: L)->∀i v,(cfC inc tr (.slice a n c))[i]? =some v->ik w' tb i=some v:=fun S' i v hv=>by
  rw[S'.cell]
  simpa using hv
 have c':=cc S2.swap
 have c0:=c' 0 _ rfl
 have c1:=c' 1 _ rfl
 have c2:=c' 2 _ rfl
 have c3:=c' 3 _ rfl
 have c4:=c' 4 _ rfl
 have c5:=c' 5 _ rfl
 have c6:=c' 6 _ rfl
 have c7:=c' 7 _ rfl
 have c8:=c' 8 _ rfl
 have c9:=c' 9 _ rfl
 have c10:=c' 10 _ rfl
 have c11:=c' 11 _ rfl
 have c12:=c' 12 _ rfl
 unfold cfZ at S2 c0 c1 c2 c3 c4 c5 c6 c7 c8 c9 c10 c11 c12
 simp
 generalize w1.heap.size=cb at *
 generalize w1.alloc _=w2 at *
 simp[c0,c1,c2,c3,c4,c5,c6,c7,c8,c9,c10,c11,c12]
 exact bez (inc:=inc) (tr:=tr) (t:=T.f) bng rfl S2 fun w3 S3=>h w3 S3.drop.drop
def bnp(w0:World)(L:List Asn):KL:=fun x w1=> ∃(u0 u1:Value)(i:Nat),x=[u0,u1,.int .u64 (if i=0 then 0 else 101),.int .i64 (i:Nat)]/\i<=1/\St w0 w1 L
theorem bar{inc tr:Int}{a:Option Addr}{c:Nat}(S:St w0 w R)(hs: ∀w' L,St w0 w' (L ++ R)->SlU w' (.slice a 1 c) [101])(hi:1<=inc)(htr:1<=tr/\tr<=64){K:KV}(h: ∀w',St w0 w' R->K (.int .i64 0) w'):ie P F.ex [cfA inc tr (.slice a 1 c)] w K:=by
 rw[M.bg.fcall]
 apply M.bg.calls
 unfold M.bg cfA
 refine St.sm S fun tb w1 S1=>?_
 have cc: ∀{w':World}{L:List Asn},St w0 w' L->iz tb (cfC inc tr (.slice a 1 c)).toArray T.f∈L->∀i v,(cfC inc tr (.slice a 1 c))[i]? =some v->ik w' tb i=some v:=fun S' hm i v hv=>by
  obtain⟨s,t,rfl⟩:=List.append_of_mem hm
  rw[(S'.perm List.perm_middle).cell]
  simpa using hv
 have c2:=cc S1 (by simp) 2 _ rfl
 have hln: ∀w' K,biT P .len #[T.g] T.d [false] [.slice a 1 c] w' K=K (.int .i64 1) w':=fun w' K=>(hs w [] S).jq (by kernel_rfl) [false]
 have hs1: ∀w' L,St w0 w' (L ++ (iz tb (cfC inc tr (.slice a 1 c)).toArray T.f :: R))->SlU w' (.slice a 1 c) [101]:=fun w' L S'=>hs w' (L ++ [_]) (by simpa using S')
 simp[c2,hln]
 refine⟨bnp w0 (iz tb (cfC inc tr (.slice a 1 c)).toArray T.f :: R),fun x _=>1 - ms x 3,⟨_,_,0,rfl,Nat.zero_le _,S1⟩,?_⟩
 rintro x w2 ⟨u0,u1,i,rfl,hi1,S2⟩
 have d0:=cc S2 (by simp) 0 _ rfl
 have d1:=cc S2 (by simp) 1 _ rfl
 have d2:=cc S2 (by simp) 2 _ rfl
 have d3:=cc S2 (by simp) 3 _ rfl
 by_cases hi0:i=0
 ·subst hi0
  obtain⟨ab,ao,cap,hv,_,_,hc⟩:=(hs1 w2 [] S2).at (i:=0) (by simp)
  have hia: ∀w' K,iaT P T.g (.slice a 1 c) (.int .i64 0) w' K=K (.pointer (some ⟨ab,ao,none⟩)) w':=fun w' K=>by rw[hv];simp
  have hcell:ik w2 ab ao=some (.int .u64 101):=by simpa [lw] using hc 0 _ rfl
  simp
  unfold M.bg.j2
  simp[hia,hcell,d0,d3]
  exact⟨⟨_,_,1,rfl,Nat.le_refl _,S2⟩,by simp[ms,gv,show IntKind.i64.wrap 1=1 from by decide]⟩
 ·have hi2:i=1:=by omega
  subst hi2
  have d4:=cc S2 (by simp) 4 _ rfl
  have d7:=cc S2 (by simp) 7 _ rfl
  have d9:=cc S2 (by simp) 9 _ rfl
  have d10:=cc S2 (by simp) 10 _ rfl
  simp
  unfold M.bg.j0
  simp[d7,d9,d10]
  refine bam S2 tr 4 10 (fun hb=>by omega) fun g w3 hb e1 e2 e3 _ _ _ _ _ S3=>?_
  have f11:=cc S3 (by simp) 11 _ rfl
  simp[f11]
  refine atk S3 fun w4 kb S4=>?_
  have g0:=cc S4 (by simp) 0 _ rfl
  have g1:=cc S4 (by simp) 1 _ rfl
  have g2:=cc S4 (by simp) 2 _ rfl
  have g3:=cc S4 (by simp) 3 _ rfl
  have g4:=cc S4 (by simp) 4 _ rfl
  have g5:=cc S4 (by simp) 5 _ rfl
  have g6:=cc S4 (by simp) 6 _ rfl
  have g7:=cc S4 (by simp) 7 _ rfl
  have g8:=cc S4 (by simp) 8 _ rfl
  have g12:=cc S4 (by simp) 12 _ rfl
  have hm:min (min 1 inc) 200=1:=by omega
  simp[g0,g1,g2,g3,g4,hln,ayt,hm]
  unfold M.bg.j6
  simp[g5,g6,g7,g8,bbq,bdv,g12]
  refine amt S4 fun w5 v5 S5=>?_
  simp
  exact h w5 S5.drop.drop.drop.drop
end
section
variable {w0 w : World} {R : List Asn}
def aeb(inc tr:Int)(rv:Value)(ru se un:Nat):Array Value:= #[.int .u64 1,.int .u64 inc,rv,.int .u64 200,.int .i64 3,.int .u64 5,.int .u64 20,.int .u64 10,.int .u64 4,.int .i64 tr,.int .i64 4,.int .i64 4,.string kw,.slice none 0 0,.pointer none,.pointer none,.pointer none,.map (some ru),.map (some se),.map (some un),.int .u64 0,.int .u64 0,.int .u64 0,.int .u64 0,.slice none 0 0,.slice none 0 0,.int .u64 0,.int .u64 0]
def acy(inc tr:Int)(rep rul:Value)(tb hb kb ru se un:Nat):Cl:=⟨inc,tr,4,kw,rep,rul,tb,hb,kb,ru,se,un,ja,0,0,.slice none 0 0,.slice none 0 0,0,0⟩
theorem bgt{α:Type}{e:TypeId}{sz:Nat}{enc:α->List Value}{v:Value}{l:List α}(he: ∀x,(enc x).length=sz)(S:St w0 w (pc e sz enc v l :: R)):St w0 w (rdA sz enc v l :: R):=by
 obtain⟨B,⟨k1,k2⟩,hB,cl⟩:=S.open
 exact cl w [rdA sz enc v l] (Fr.refl _ _) (Rs.one (B:=B) ⟨k1.sl he,k2⟩ fun x hx=> .inl hx)
theorem bdf{v:Value}(S:St w0 w R)(hs:SlU w v [101]): ∀{K:KV},(∀w' v',St w0 w' (rdA 1 lw v' [101] :: R)->K v' w')->ie P F.v [v] w K:=fun{K} h=>by
 refine aar hs (by simp) fun w4 rv s4 n4 f4=>h w4 rv (S.add f4 (a:=rdA 1 lw rv [101]) (B:=fun x=>rv.ownBlock=some x) ⟨s4,fun b hb=>hb⟩ fun x hx=>⟨n4 x hx,by
  obtain⟨g,hg,hlt⟩:=s4.lt (x:=101) (by simp)
  rw[hx] at hg;cases hg;exact hlt⟩)
theorem anj{inc tr:Int}{a:Option Addr}{c:Nat}(S:St w0 w R)(hs: ∀w' L,St w0 w' (L ++ R)->SlU w' (.slice a 1 c) [101])(hi:1<=inc)(htr:1<=tr/\tr<=64){K:KV}
  (h: ∀w' p (g:Cfg) rep rul tb hb kb ru se un,tr=g.kp->(4:Int)=g.kh->10=g.jn->St w0 w' (ll p (acy inc tr rep rul tb hb kb ru se un) (Nd.new 1 inc 5 20 0) g [] [] 0 [] [] [] [] [] ++ R)->K (.tuple #[km p,.int .i64 0]) w'):ie P F.eo [cfA inc tr (.slice a 1 c),.int .u64 0] w K:=by
 rw[M.dm.fcall]
 apply M.dm.calls
 unfold M.dm cfA
 refine St.sm S fun tb w1 S1=>?_
 have cc: ∀{w':World}{L:List Asn},St w0 w' L->iz tb (cfC inc tr (.slice a 1 c)).toArray T.f∈L->∀i v,(cfC inc tr (.slice a 1 c))[i]? =some v->ik w' tb i=some v:=fun S' hm i v hv=>by
  obtain⟨s,t,rfl⟩:=List.append_of_mem hm
  rw[(S'.perm List.perm_middle).cell]
  simpa using hv
 have ld: ∀{w':World}{L:List Asn},St w0 w' L->iz tb (cfC inc tr (.slice a 1 c)).toArray T.f∈L->∀K,ldN P 13 tb 0 w' K=K (cfA inc tr (.slice a 1 c)) w':=fun S' hm K=>by
  obtain⟨s,t,rfl⟩:=List.append_of_mem hm
  exact (S'.perm List.perm_middle).ldA (n:=13) (i:=0) (cfC inc tr (.slice a 1 c)) rfl rfl K
 have hs1: ∀w' L,St w0 w' (L ++ (iz tb (cfC inc tr (.slice a 1 c)).toArray T.f :: R))->SlU w' (.slice a 1 c) [101]:=fun w' L S'=>hs w' (L ++ [_]) (by simpa using S')
 simp only[il]
 simp[ld S1]
 refine bar S1 hs1 hi htr fun w2 S2=>?_
 simp
 unfold M.dm.j0
 have S3:=((S2.aig .u64).aig .u64).aig .u64
 simp[ld S2,zn]
 have S4:=S3.mkB (aeb inc tr (.slice a 1 c) w2.heap.size (w2.heap.size+1) (w2.heap.size+1+1)) T.b
 simp only[jc] at S4 S3
 have bld: ∀(x1 x2 x3:Nat) w K,jj P T.b #[(0,cfA inc tr (.slice a 1 c)),(10,.int .u64 0),(9,.int .u64 0),(5,.map (some x1)),(6,.map (some x2)),(7,.map (some x3))] w K=K (.agg (aeb inc tr (.slice a 1 c) x1 x2 x3)) w:=fun x1 x2 x3 w K=>by simp[cfA,cfC,aeb]
 rw[bld]
 have hcl: ∀x1 x2 x3,(Value.agg (aeb inc tr (.slice a 1 c) x1 x2 x3)).cells=aeb inc tr (.slice a 1 c) x1 x2 x3:=fun _ _ _=>rfl
 simp only[hcl,jc]
 generalize w2.heap.size+1+1+1=p at *
 generalize w2.heap.size+1+1=un at *
 generalize w2.heap.size+1=se at *
 generalize w2.heap.size=ru at *
 generalize World.alloc (World.alloc (World.alloc (w2.alloc _) _) _) _=w4 at *
 have d2:=cc S4 (by simp) 2 _ rfl
 simp[d2]
 refine bdf S4 (hs1 _ [_,_,_,_] S4) fun w5 rep S5=>?_
 obtain⟨ra,rc,hrep,_⟩:=S5.rd
 subst hrep
 simp
 refine St.nj S5.swap rfl (by simp[aeb]) fun w6 S6=>?_
 have d12:=cc S6 (.tail _ (.tail _ (.tail _ (.tail _ (.tail _ (.head _)))))) 12 _ rfl
 simp[d12]
 refine amt S6 fun w7 rul S7=>?_
 obtain⟨ua,uc,hrul,_⟩:=S7.row wj
 subst hrul
 simp
 refine St.nj S7.swap rfl (by simp[aeb]) fun w8 S8=>?_
 have e0:=cc S8 (.tail _ (.tail _ (.tail _ (.tail _ (.tail _ (.tail _ (.head _))))))) 0 _ rfl
 have e1:=cc S8 (.tail _ (.tail _ (.tail _ (.tail _ (.tail _ (.tail _ (.head _))))))) 1 _ rfl
 have e5:=cc S8 (.tail _ (.tail _ (.tail _ (.tail _ (.tail _ (.tail _ (.head _))))))) 5 _ rfl
 have e6:=cc S8 (.tail _ (.tail _ (.tail _ (.tail _ (.tail _ (.tail _ (.head _))))))) 6 _ rfl
 simp[e0,e1,e5,e6]
 refine bhs S8 (by decide) (show 0<=inc by omega) (by decide) (by decide) (fun hb=>by omega) fun _ _ _ _ w9 nb S9=>?_
 simp[adr]
 refine St.nj S9.swap rfl (by simp[aeb]) fun w10 S10=>?_
 have f9:=cc S10 (.tail _ (.tail _ (.tail _ (.tail _ (.tail _ (.tail _ (.tail _ (.head _)))))))) 9 _ rfl
 have f10:=cc S10 (.tail _ (.tail _ (.tail _ (.tail _ (.tail _ (.tail _ (.tail _ (.head _)))))))) 10 _ rfl
 have f7:=cc S10 (.tail _ (.tail _ (.tail _ (.tail _ (.tail _ (.tail _ (.tail _ (.head _)))))))) 7 _ rfl
 simp[f9,f10,f7]
 refine bam S10 tr 4 10 (fun hb=>by omega) fun g w11 hb g1 g2 g3 _ _ _ _ _ S11=>?_
 simp
 refine St.nj S11.swap rfl (by simp[aeb]) fun w12 S12=>?_
 have f11:=cc S12 (.tail _ (.tail _ (.tail _ (.tail _ (.tail _ (.tail _ (.tail _ (.tail _ (.head _))))))))) 11 _ rfl
 simp[f11]
 refine atk S12 fun w13 kb S13=>?_
 simp
 refine St.nj S13.swap rfl (by simp[aeb]) fun w14 S14=>?_
 refine h w14 p g (.slice ra 1 rc) (.slice ua 1 uc) nb hb kb ru se un g1 g2 g3 ?_
 have S15:St w0 w14 (clA p (acy inc tr (.slice ra 1 rc) (.slice ua 1 uc) nb hb kb ru se un) :: _):=S14
 have S16:=bgt wj (S15.pick (L:=[_,_,_,_,_,_,_,_,_,_]) [4,0,1,2,3,5,6,7,8] 10 rfl (by decide))
 have S17:St w0 w14 (nh (.slice none 0 0) [] :: mo (.slice none 0 0) [] :: _):=Go.Eng.yq (Go.Eng.yq S16)
 exact S17.pick (L:=[_,_,_,_,_,_,_,_,_,_,_]) [3,6,5,4,0,1,7,2,10,9,8] 11 rfl (by decide)
end
def s7:Spn:=⟨7,1,0,0,0,⟨#[97]⟩,⟨#[98]⟩,true⟩
def g4:Cfg:=⟨4,4,10⟩
theorem aiv:kv s7=0:=by decide+kernel
theorem bik:tj g4 [] s7=[⟨7,[s7],false⟩]/\qj g4 [] s7=0/\aea g4 [] [] s7 0=[(7,10)]:=by
 unfold tj qj aea
 rw[aiv]
 refine⟨rfl,rfl,rfl⟩
theorem bkn:nk [(7,10)] 10=[7]:=by decide+kernel
theorem bkf:qf ((Nd.new 1 1 5 20 0).vd 10 0).1=1:=by decide+kernel
theorem aty:sy ⟨7,[s7],false⟩=1:=by decide+kernel
theorem bjn{x:Int}(h0:0<=x)(h1:x < 18446744073709551616):IntKind.u8.wrap (IntKind.u64.wrap ((BitVec.ofInt IntKind.u64.bits x &&& BitVec.ofInt IntKind.u64.bits 255).toNat:Nat))=b8 x:=by
 obtain⟨n,rfl⟩:=Int.eq_ofNat_of_zero_le h0
 have hn:n < 18446744073709551616:=by omega
 have h2:(BitVec.ofInt IntKind.u64.bits ((n:Nat):Int) &&& BitVec.ofInt IntKind.u64.bits 255).toNat=n % 256:=by
  rw[BitVec.toNat_and]
  have e1:(BitVec.ofInt IntKind.u64.bits ((n:Nat):Int)).toNat=n:=aah hn
  have e2:(BitVec.ofInt IntKind.u64.bits 255).toNat=2 ^ 8 - 1:=by decide
  rw[e1,e2,Nat.and_two_pow_sub_one_eq_mod]
 rw[h2,ww (by omega)]
 unfold b8 IntKind.wrap
 simp[IntKind.bits,IntKind.signed]
section
variable {w0 w : World} {R : List Asn}
def E8I(w0:World)(n:Int)(R:List Asn):KL:=fun x w1=> ∃(v:Value)(k:Nat),x=[v,.int .i64 (7 - (k:Int))]/\k<=8/\St w0 w1 (yp v ((mu n).take k) :: R)
theorem bbg(S:St w0 w R){n:Int}(hn:yd n){K:KV}(h: ∀w' v',St w0 w' (yp v' (mu n) :: R)->K v' w'):ie P F.ea [.int .u64 n] w K:=by
 obtain⟨n0,n1⟩:=hn
 rw[M.cm.fcall]
 apply M.cm.calls
 unfold M.cm
 simp only[il]
 refine⟨E8I w0 n R,fun x _=>bkz x,⟨_,0,rfl,by omega,by simpa using Go.Eng.yq S⟩,?_⟩
 rintro x w1 ⟨v,k,rfl,hk,S⟩
 have q0:gv [v,.int .i64 (7 - (k:Int))] 0=v:=rfl
 have q1:gv [v,.int .i64 (7 - (k:Int))] 1= .int .i64 (7 - (k:Int)):=rfl
 simp only[q1]
 by_cases hil:k < 8
 ·have hil':(0:Int)<=7 - (k:Int):=by omega
  have hw8:IntKind.i64.wrap (8 * (7 - (k:Int)))=56 - 8 * (k:Int):=by rw[iy];omega
  have hwu:IntKind.u64.wrap (56 - 8 * (k:Int))=56 - 8 * (k:Int):=lr (by omega) (by omega)
  have hwi:IntKind.i64.wrap (7 - (k:Int) - 1)=7 - ((k+1:Nat):Int):=by rw[iy];omega
  have htn:(56 - 8 * (k:Int)).toNat=56 - 8 * k:=by omega
  simp only[qu]
  rw[decide_eq_true hil']
  simp only[ig]
  unfold M.cm.j2
  have hp:(0:Int) < 2 ^ min (56 - 8 * k) IntKind.u64.bits:=Int.pow_pos (by decide)
  have g0:0<=n.fdiv (2 ^ min (56 - 8 * k) IntKind.u64.bits):=Int.fdiv_nonneg n0 (by omega)
  have g1:n.fdiv (2 ^ min (56 - 8 * k) IntKind.u64.bits) < 18446744073709551616:=by
   rw[Int.fdiv_eq_ediv_of_nonneg _ (by omega)]
   exact Int.lt_of_le_of_lt (Int.ediv_le_self _ n0) n1
  have hsh: ∀(rx ry:Operand)(w:World)(K:KV),ip P .shr T.a rx ry (.int .u64 n) (.int .u64 (56 - 8 * (k:Int))) w K=K (.int .u64 (n.fdiv (2 ^ min (56 - 8 * k) IntKind.u64.bits))) w:=fun rx ry w K=>by rw[abu (by omega),htn]
  have hcu: ∀w K,cvT P T.d T.bs (.int .i64 (56 - 8 * (k:Int))) w K=K (.int .u64 (56 - 8 * (k:Int))) w:=fun w K=>by rw[ou (ks:= .i64) (kd:= .u64) (by kernel_rfl) (by kernel_rfl),hwu]
  have hcb: ∀w K,cvT P T.a T.ba (.int .u64 (IntKind.u64.wrap ((BitVec.ofInt IntKind.u64.bits (n.fdiv (2 ^ min (56 - 8 * k) IntKind.u64.bits)) &&& BitVec.ofInt IntKind.u64.bits 255).toNat:Nat))) w K=K (.int .u8 (b8 (n.fdiv (2 ^ min (56 - 8 * k) IntKind.u64.bits)))) w:=fun w K=>by rw[ou (ks:= .u64) (kd:= .u8) (by kernel_rfl) (by kernel_rfl),bjn g0 g1]
  simp only[q0,q1,il,vm,hw8,hcu,hsh,amh,hcb]
  simp
  have S1:=bbx S (b8 (n.fdiv (2 ^ min (56 - 8 * k) IntKind.u64.bits)))
  refine Go.Eng.ul et.q ny zv S1.swap (l2:=[b8 (n.fdiv (2 ^ min (56 - 8 * k) IntKind.u64.bits))]) (S1.row ny) (by simp[sk];omega) (by decide) fun w2 v2 S2=>?_
  rw[hwi]
  refine⟨⟨v2,k+1,rfl,by omega,?_⟩,by simp[bkz,gv];omega⟩
  rw[avw n hil]
  exact S2.swap.drop
 ·have hk8:k=8:=by omega
  subst hk8
  have hil': ¬(0:Int)<=7 - ((8:Nat):Int):=by omega
  simp only[qu]
  rw[decide_eq_false hil']
  simp only[ig]
  rw[List.take_of_length_le (by rw[sk];omega)] at S
  exact h w1 v S
theorem anw{v:Value}{l:List Int}(S:St w0 w (yp v l :: R))(s:ByteArray)(hs:s.size<=32)(hl:l.length<=1000000){K:KV}(h: ∀w' v',St w0 w' (yp v' (l ++ abw s) :: R)->K v' w'):ie P F.df [v,.string s] w K:=by
 rw[M.ed.fcall]
 apply M.ed.calls
 unfold M.ed
 have hw8:IntKind.u8.wrap (s.size:Int)=(s.size:Int):=by
  unfold IntKind.wrap
  simp[IntKind.bits,IntKind.signed]
  omega
 have hcv: ∀w' K',cvT P T.d T.ba (.int .i64 (s.size:Int)) w' K'=K' (.int .u8 (s.size:Int)) w':=fun w' K'=>by
  rw[ou (ks:= .i64) (kd:= .u8) (by kernel_rfl) (by kernel_rfl),hw8]
 simp[hcv]
 have S8:=bbx S (s.size:Int)
 refine Go.Eng.ul et.q ny zv S8.swap (l2:=[(s.size:Int)]) (S8.row ny) (by simp;omega) (by decide) fun w9 v9 S9=>?_
 refine bhj et.q (by kernel_rfl) (by kernel_rfl) (fun _=>rfl) S9 s (by simp;omega) fun w10 v10 S10=>?_
 refine h w10 v10 ?_
 have:=S10.swap.drop
 rw[List.append_assoc] at this
 exact this
def RpI(w0:World)(s:Spn)(R:List Asn):KL:=fun x w1=> ∃(v:Value)(i:Nat),x=[v,.int .i64 (i:Nat)]/\i<=5/\St w0 w1 (yp v (((rj s).take i).flatMap mu) :: R)
theorem ayz(S:St w0 w R){s:Spn}(hr:kv s=0)(hR:afs s){K:KV}(h: ∀w' v',St w0 w' (yp v' (afa s) :: R)->K (.tuple #[v',.int .i64 0]) w'):ie P F.ew [.slice none 0 0,li s] w K:=by
 obtain⟨n1,n2⟩:=ams hr
 rw[M.ba.fcall]
 apply M.ba.calls
 unfold M.ba
 refine St.sm S fun b w1 S1=>?_
 have S1':St w0 w1 (iz b (jr s).toArray T.i :: R):=S1
 have cl: ∀{w':World}{L:List Asn},St w0 w' (iz b (jr s).toArray T.i :: L)->ik w' b 0=some (.int .u64 s.je)/\ik w' b 1=some (.int .u64 s.id)/\ik w' b 2=some (.int .u64 s.mr)/\ik w' b 3=some (.int .u64 s.kl)/\ik w' b 4=some (.int .u64 s.len)/\ik w' b 5=some (.string s.kq)/\ik w' b 6=some (.string s.name)/\ik w' b 7=some (.bool s.ol):=fun S'=>by
  refine⟨?_,?_,?_,?_,?_,?_,?_,?_⟩ <;>rw[S'.cell] <;>rfl
 have sl: ∀K,ldN P 8 b 0 w1 K=K (li s) w1:=fun K=>S1'.ldA (n:=8) (i:=0) (jr s) rfl rfl K
 simp[sl]
 rw[M.cl.fcall]
 refine art s fun w2 f2=>?_
 rw[hr]
 have S2:=S1'.ju f2
 simp
 unfold M.ba.j0
 have hb0: ∀w' K,bsT P T.q 0 #[] w' K=K (.slice (some ⟨w'.heap.size,0,none⟩) 0 0) (w'.alloc (.cells #[] T.ba)):=fun w' K=>kr
 have S3:St w0 (w2.alloc (.cells #[] T.ba)) (yp (.slice (some ⟨w2.heap.size,0,none⟩) 0 0) [] :: _):=St.tz (l:=[]) S2 ny rfl (by simp)
 simp only[hb0]
 generalize w2.heap.size=eb at *
 generalize w2.alloc _=w3 at *
 refine Go.Eng.ul et.q ny zv S3 (l2:=[]) Sl.nil (by simp) (by decide) fun w4 v4 S4=>?_
 simp only[List.append_nil] at S4
 obtain⟨c0,c1,c2,c3,c4,_⟩:=cl S4.swap
 simp[c0,c1,c2,c3,c4]
 have S5:St w0 (w4.alloc (.cells #[.int .u64 s.je,.int .u64 s.id,.int .u64 s.mr,.int .u64 s.kl,.int .u64 s.len] T.a)) (qx (.slice (some ⟨w4.heap.size,0,none⟩) 5 5) (rj s) :: _):=St.tz (l:=rj s) S4 (fun _=>rfl) rfl (by simp[maxLen,rj])
 generalize w4.heap.size=fb at *
 generalize w4.alloc _=w5 at *
 have hl5: ∀i,(((rj s).take i).flatMap mu).length<=40:=fun i=>by
  rw[aku,List.length_take]
  have:(rj s).length=5:=rfl
  omega
 refine⟨RpI w0 s (qx (.slice (some ⟨fb,0,none⟩) 5 5) (rj s) :: iz b (jr s).toArray T.i :: R),fun x _=>5 - ms x 1,⟨_,0,rfl,Nat.zero_le _,by simpa using S5.swap⟩,?_⟩
 rintro x w6 ⟨v6,i,rfl,hi,S6⟩
 by_cases hil:i < 5
 ·have hili:(i:Int) < 5:=by omega
  have hwi:IntKind.i64.wrap ((i:Int)+1)=((i+1:Nat):Int):=by rw[iy];rfl
  have hil5:i < (rj s).length:=hil
  obtain⟨gb,go,gc,ge,_,_,hc⟩:=(S6.swap.row (fun _=>rfl):Sl w6 1 Suint64.rk (.slice (some ⟨fb,0,none⟩) 5 5) (rj s)).at hil5
  injection ge with ge _ _
  injection ge with ge
  injection ge with ge1 ge2 _
  subst ge1 ge2
  have hcell:ik w6 fb i=some (.int .u64 ((rj s)[i]'hil5)):=by simpa [Suint64.rk] using hc 0 _ rfl
  simp[hili]
  unfold M.ba.j3
  simp[hcell,hili]
  have hu:yd ((rj s)[i]'hil5):=by
   match i,hil5 with
   | 0,_=>exact hR.tr
   | 1,_=>exact hR.id
   | 2,_=>exact hR.par
   | 3,_=>exact hR.st
   | 4,_=>exact hR.ln
   | k+5,h=>exact absurd h (by simp[rj])
  refine bbg S6 hu fun w7 v7 S7=>?_
  refine Go.Eng.ul et.q ny zv S7.swap (S7.row ny) (by have:=hl5 i;rw[sk];omega) (by decide) fun w8 v8 S8=>?_
  simp[hwi]
  refine⟨⟨_,i+1,rfl,by omega,?_⟩,by simp[ms,gv];omega⟩
  have e:(((rj s).take (i+1)).flatMap mu)=(((rj s).take i).flatMap mu) ++ mu ((rj s)[i]'hil5):=by
   rw[List.take_add_one,List.getElem?_eq_getElem hil5,List.flatMap_append]
   simp
  rw[e]
  exact S8.swap.drop
 have hi5:i=5:=by omega
 subst hi5
 have e5:(rj s).take 5=rj s:=rfl
 rw[e5] at S6
 have hl6:=hl5 5
 rw[e5] at hl6
 obtain⟨_,_,_,_,_,d5,d6,d7⟩:=cl S6.up2
 have od: ∀(fb':Int)(y z:List Value),fb'=ado s.ol->gv y 0= .int .u8 fb'->gv z 1=v6->M.ba.j5 (.pointer (some ⟨b,0,none⟩)) y z w6 K:=fun fb' y z hfb y0 z1=>by
  unfold M.ba.j5
  rw[y0,z1]
  have S7:=S6.ju ((Fr.refl _ w6).dr 1)
  obtain⟨_,_,_,_,_,g5,g6,_⟩:=cl S7.up2
  simp[g5,g6]
  have S8:=bbx S7 fb'
  have hsz:(dr w6 1).heap.size=w6.heap.size:=rfl
  rw[hsz] at S8
  generalize w6.heap.size=ob at *
  generalize World.alloc _ _=w8 at *
  obtain⟨_,_,_,_,_,g5,g6,_⟩:=cl S8.up3
  simp[g5,g6]
  refine Go.Eng.ul et.q ny zv S8.swap (S8.row ny) (by simp only[List.length_cons,List.length_nil];omega) (by decide) fun w9 v9 S9=>?_
  obtain⟨_,_,_,_,_,g5,g6,_⟩:=cl S9.up3
  simp[g5,g6]
  refine anw S9 s.kq n1 (by simp only[List.length_append,List.length_cons,List.length_nil];omega) fun w10 v10 S10=>?_
  obtain⟨_,_,_,_,_,_,g6,_⟩:=cl S10.up3
  simp[g6]
  refine anw S10 s.name n2 (by simp only[abw,List.length_append,List.length_cons,List.length_nil,acl];omega) fun w11 v11 S11=>?_
  refine h w11 v11 ?_
  have e2:(rj s).flatMap mu ++ [fb'] ++ abw s.kq ++ abw s.name=afa s:=by rw[hfb];rfl
  rw[e2] at S11
  exact S11.swap.drop.swap.drop.swap.drop
 cases hf:s.ol with
 | true=>
  rw[hf] at d7
  simp[d7]
  exact od 1 _ _ (by rw[hf];rfl) rfl rfl
 | false=>
  rw[hf] at d7
  simp[d7]
  exact od 0 _ _ (by rw[hf];rfl) rfl rfl
end
section
variable {w0 w : World} {R : List Asn} {p : Nat} {q : Cl} {n : Nd} {g : Cfg} {A : List AE} {c : CT} {a0 : Int} {m rm um : MP} {es : List Evn} {ls : List Ltr}
theorem aez(S:St w0 w (ll p q n g A c a0 m es ls rm um ++ R))(hA:A.length<=1000){K:KV}(h: ∀w' v,St w0 w' (adu v (og A) :: (ll p q n g A c a0 m es ls rm um ++ R))->K v w'):ie P F.ap [km p] w K:=by
 rw[M.bw.fcall]
 apply M.bw.calls
 unfold M.bw
 obtain⟨_,_,_,_,_,_,c15,_⟩:=nq (p:=p) (q:=q) S (by simp)
 simp only[km]
 simp[c15]
 refine anl (S.pick (L:=[_,_,_,_,_,_,_,_,_,_,_]) [2,0,1,3,4,5,6,7,8,9,10] 11 rfl (by decide)) hA fun w2 v2 S2=>?_
 exact h w2 v2 (S2.pick (L:=[_,_,_,_,_,_,_,_,_,_,_,_]) [0,2,3,1,4,5,6,7,8,9,10,11] 12 rfl (by decide))
theorem axt:afs s7:=by
 constructor <;>(unfold s7;first|decide|exact⟨by decide,by decide⟩)
def sj:Bal:=⟨1,4294967297⟩
theorem avp{tb hb kb ru se un:Nat}{rep rul:Value}(S:St w0 w (ll p (acy 1 4 rep rul tb hb kb ru se un) (Nd.new 1 1 5 20 0) g4 [] [] 0 [] [] [] [] [] ++ R)){x0:List Value}{K:KV}(h: ∀w',St w0 w' R->K (.bool true) w'):M.bh.j0 (km p) x0 w K:=by
 unfold M.bh.j0
 have hs7: ∀w K,jj P T.i #[(0,.int .u64 7),(1,.int .u64 1),(5,.string ⟨#[97]⟩),(6,.string ⟨#[98]⟩),(7,.bool true)] w K=K (li s7) w:=fun w K=>by simp[li,s7]
 rw[hs7]
 refine ayz S aiv axt fun w1 rv S1=>?_
 simp
 have hnok:qn (Nd.new 1 1 5 20 0):=atm (by omega) (by omega) (by omega) (by omega) (by omega)
 have hsol:yy (Nd.new 1 1 5 20 0) 1:=⟨rfl,rfl⟩
 have S2:St w0 w1 (acq p (acy 1 4 rep rul tb hb kb ru se un) (Nd.new 1 1 5 20 0) g4 [] [] 0 [] ++ (yp rv (afa s7) :: mo (.slice none 0 0) [] :: rdA 1 lw rep [101] :: rdA 4 kz rul [jx] :: jh ru .u64 [] :: jh se .u64 [] :: jh un .u64 [] :: R)):=S1.pick (L:=[_,_,_,_,_,_,_,_,_,_,_,_]) [1,2,3,4,5,0,6,7,8,9,10,11] 12 rfl (by decide)
 refine bau S2 hnok (acx hnok hsol) (fun w' L S'=>yz S' (e:=T.ba) (v:=rv) (by simp) ny) aiv axt (show (0:Int)<=0 by decide) (show (0:Int)<=18446744073709551615 by decide) (by decide) (by decide) (by simp) (by simp) (by decide) (by simp) fun w2 ev S3=>?_
 obtain⟨p1,p2,p3⟩:=bik
 simp only[show max (acy 1 4 rep rul tb hb kb ru se un).now 0=0 from rfl,p1,p2,p3] at S3⊢
 simp
 have S4:St w0 w2 (ll p {acy 1 4 rep rul tb hb kb ru se un with ev:=ev} (Nd.new 1 1 5 20 0) g4 [⟨7,[s7],false⟩] [(7,10)] 0 [] [sr 0 0 s7] [] [] [] ++ R):=S3.pick (L:=[_,_,_,_,_,_,_,_,_,_,_,_]) [0,1,2,3,4,6,7,8,9,10,11] 12 rfl (by decide)
 have hy: ∀n',n'=((Nd.new 1 1 5 20 0).vd 10 0).1->nxB {acy 1 4 rep rul tb hb kb ru se un with ev:=ev} n'=(sj,0):=fun n' e=>by
  subst e
  unfold nxB
  rw[bkf]
  rfl
 refine bhi (e:=⟨7,[s7],false⟩) (inc:=1) S4 hnok hsol (by simp) ⟨show (0:Int)<=0 by decide,show (0:Int)<=18446744073709551615 by decide⟩ (by decide) ⟨show (0:Int)<=0 by decide,show (0:Int)<=0 by decide⟩ (by decide) (show (1:Int)<=1 by decide) (show ja.rng from⟨⟨by decide,by decide⟩,⟨by decide,by decide⟩⟩) (fun e he=>by simp at he;subst he;simp) (by simp) (by simp) (by simp) (by decide) bkn (fun n' e=>by rw[hy n' e,aty];exact⟨rfl,by decide,by decide⟩) fun w3 ov rb ag n' hag hn' S5=>?_
 rw[hy n' hn',aty] at S5
 have hn7:qn n':=by rw[hn'];exact aev hnok ⟨show (0:Int)<=10 by decide,show (10:Int) < 18446744073709551616 by decide⟩
 have hs7':yy n' 1:=by rw[hn'];exact (age hsol).1
 clear hn' hy hag
 have S6:St w0 w3 (clA p ⟨1,4,4,kw,rep,rul,tb,hb,kb,ru,se,un,sj,ag,10,ov,ev,0,0⟩ :: mo ov (oh [101] (rz 7 sj 1 0) pp) :: jy tb n' :: mf hb g4 [⟨7,[s7],false⟩] (pa [(7,10)] 7 (aao 10)) :: om kb 0 [] :: nh ev [sr 0 0 s7] :: rdA 1 lw rep [101] :: rdA 4 kz rul [jx] :: jh ru .u64 [(7,.pointer (some ⟨rb,0,none⟩))] :: jh se .u64 [] :: jh un .u64 [] :: po rb 7 sj 1 0 :: R):=S5.pick (L:=[_,_,_,_,_,_,_,_,_,_,_]) [0,5,1,2,3,4,6,7,8,9,10] 11 rfl (by decide)
 refine bax S6 fun w4 S7=>?_
 have S8:St w0 w4 (ll p ⟨1,4,4,kw,rep,rul,tb,hb,kb,ru,se,un,sj,ag,10,.slice none 0 0,ev,0,0⟩ n' g4 [⟨7,[s7],false⟩] (pa [(7,10)] 7 (aao 10)) 0 [] [sr 0 0 s7] [] [(7,.pointer (some ⟨rb,0,none⟩))] [] ++ (po rb 7 sj 1 0 :: mo ov (oh [101] (rz 7 sj 1 0) pp) :: R)):=(Go.Eng.yq S7:St w0 w4 (mo (.slice none 0 0) [] :: _)).pick (L:=[_,_,_,_,_,_,_,_,_,_,_,_,_]) [1,3,4,5,6,0,7,8,9,10,11,12,2] 13 rfl (by decide)
 have hlt:Sl w4 13 ltC ov (oh [101] (rz 7 sj 1 0) pp):=yz S8 (e:=T.bm) (by simp) abv
 obtain⟨ab,ao,cap,hv,_,_,hc⟩:=hlt.at (i:=0) (by simp[oh])
 have hia: ∀w' K,iaT P T.ap ov (.int .i64 0) w' K=K (.pointer (some ⟨ab,ao,none⟩)) w':=fun w' K=>by rw[hv];simp[oh]
 have hln: ∀w' K,biT P .len #[T.ap] T.d [false] [ov] w' K=K (.int .i64 1) w':=fun w' K=>hlt.jq (by kernel_rfl) [false]
 have k1:ik w4 ab (ao+1)=some (.int .u64 101):=by simpa [ltC,oh] using hc 1 _ rfl
 have k2:ik w4 ab (ao+2)=some (.int .i64 4):=by simpa [ltC,oh,pkC,rz] using hc 2 _ rfl
 have k4:ik w4 ab (ao+4)=some (.int .u64 1):=by simpa [ltC,oh,pkC,rz,sj] using hc 4 _ rfl
 have k5:ik w4 ab (ao+5)=some (.int .u64 4294967297):=by simpa [ltC,oh,pkC,rz,sj] using hc 5 _ rfl
 have kb2: ∀K,ldN P 2 ab (ao+4) w4 K=K (kj sj) w4:=fun K=>su (tx sj) 2 rfl (fun k u hk=>by
  match k,hk with
  | 0,hk=>injection hk with hk;subst hk;exact k4
  | 1,hk=>injection hk with hk;subst hk;exact k5
  | k+2,hk=>simp[tx] at hk) K
 simp[hln,hia,k1,k2]
 unfold M.bh.j1
 simp[hia,kb2]
 have S9:=(abp S8).pick (L:=[_,_,_,_,_,_,_,_,_,_,_,_,_,_]) [1,2,3,4,5,6,7,8,9,10,11,12,0,13] 14 rfl (by decide)
 generalize w4.heap.size=tb2 at *
 generalize w4.alloc _=w5 at *
 have lb: ∀{w':World}{L:List Asn},St w0 w' L->baB tb2 sj∈L->∀K,ldN P 2 tb2 0 w' K=K (kj sj) w':=fun S' hm K=>by
  obtain⟨s,t,rfl⟩:=List.append_of_mem hm
  exact (S'.perm List.perm_middle).ldA (n:=2) (i:=0) (tx sj) rfl rfl K
 have hb7:sj.rng:=⟨⟨by decide,by decide⟩,⟨by decide,by decide⟩⟩
 have bld: ∀(half:Int)(k:Int),k=(if half=1 then 7 else 5)->∀w' K,jj P T.c #[(0,.int .i64 k),(1,.int .u64 7),(2,kj sj),(5,.bool true)] w' K=K (pkA (qi 7 sj half)) w':=fun half k hk w' K=>by
  subst hk
  simp[kj,pkA,pkC,qi,pk0,ja]
 refine adh (b:=tb2) (x:=ja) (y:=sj) (S9.pick (L:=[_,_,_,_,_,_,_,_,_,_,_,_,_,_]) [12,0,1,2,3,4,5,6,7,8,9,10,11] 14 rfl (by decide)) fun w6 S10=>?_
 have S11:St w0 w6 (ll p ⟨1,4,4,kw,rep,rul,tb,hb,kb,ru,se,un,sj,ag,10,.slice none 0 0,ev,0,0⟩ n' g4 [⟨7,[s7],false⟩] (pa [(7,10)] 7 (aao 10)) 0 [] [sr 0 0 s7] [] [(7,.pointer (some ⟨rb,0,none⟩))] [] ++ (po rb 7 sj 1 0 :: baB tb2 sj :: R)):=S10.pick (L:=[_,_,_,_,_,_,_,_,_,_,_,_,_]) [1,2,3,4,5,6,7,8,9,10,11,12,0] 13 rfl (by decide)
 simp[lb S10 (.head _),bld 0 5 rfl]
 refine ake S11 (.inl rfl) (by decide) hb7 (by decide) fun w7 S12=>?_
 refine auy S12 (by decide) hb7 (by decide) (by simp) fun w8 ov2 S13=>?_
 simp[lb S13 (by simp),bld 1 7 rfl]
 refine ake S13 (.inr rfl) (by decide) hb7 (by decide) fun w9 S14=>?_
 refine aym (s:=s7) S14 hn7 hs7' (show (0:Int) < 4 by decide) (by simp) (by simp) (by simp) (by simp) (by decide) hb7 (by decide) (by simp[oh]) fun w10 ov3 ev3 uv ls' S15=>?_
 refine awm (S15.pick (L:=[_,_,_,_,_,_,_,_,_,_,_]) [0,3] 11 rfl (by decide)) 7 ?_
 simp[ki]
 refine acr (S15.pick (L:=[_,_,_,_,_,_,_,_,_,_,_]) [0,10,1,2,3,4,5,6,7,8,9] 11 rfl (by decide)) (by simp) fun w11 v11 S16=>?_
 have hl1:(Suint64.tk (jm [((7:Int),uv)])).length=1:=by rw[(Suint64.adi _).length_eq];rfl
 have hln1:=fun w' K=>acz (w':=w') (K:=K) (S16.row nt)
 rw[hl1] at hln1
 simp[hln1]
 have S17:St w0 w11 (ll p ⟨1,4,4,kw,rep,rul,tb,hb,kb,ru,se,un,sj,ag,12,ov3,ev3,0,0⟩ n' g4 (tq [⟨7,[s7],false⟩] 7) (qm (pa [(7,10)] 7 (aao 10)) 7) 7 [(7,.int .i64 1)] ([sr 0 0 s7] ++ [aeu 12 7 s7]) ls' [] [(7,uv)] ++ (baB tb2 sj :: R)):=S16.pick (L:=[_,_,_,_,_,_,_,_,_,_,_,_]) [1,3,4,5,6,7,8,9,10,11,2] 12 rfl (by decide)
 refine aez S17 (by simp[tq]) fun w12 v12 S18=>?_
 have hl0:(og (tq [⟨7,[s7],false⟩] 7)).length=0:=by
  unfold og
  rw[(Suint64.adi _).length_eq]
  simp[tq]
 have hln0:=fun w' K=>acz (w':=w') (K:=K) (S18.row nt)
 rw[hl0] at hln0
 simp[hln0]
 exact h w12 ((S18.pick (L:=[_,_,_,_,_,_,_,_,_,_,_,_,_]) [] 13 rfl (by decide)))
theorem akf(S:St w0 w R){K:KV}(h: ∀w',St w0 w' R->K (.bool true) w'):ie P F.br [] w K:=by
 rw[M.bh.fcall]
 apply M.bh.calls
 unfold M.bh
 refine ars S fun w1 a c S1=>?_
 refine azw S1 fun w2 S2=>?_
 refine anj S2 (fun w' L S'=>yz S' (e:=T.a) (sz:=1) (enc:=Suint64.rk) (v:= .slice a 1 c) (l:=[101]) (by simp) nt) (by decide) (by decide) fun w3 p g rep rul tb hb kb ru se un g1 g2 g3 S3=>?_
 have hg:g=g4:=by
  obtain⟨a,b,c⟩:=g
  have h1:(4:Int)=a:=g1
  have h2:(4:Int)=b:=g2
  have h3:(10:Int)=c:=g3
  unfold g4
  rw[show a=4 by omega,show b=4 by omega,<-h3]
 subst hg
 simp only[il]
 simp
 exact avp S3 fun w4 S4=>h w4 S4.drop
end
structure SV where
 a:Option Addr
 n:Nat
 c:Nat
def SV.v(s:SV):Value:= .slice s.a s.n s.c
abbrev PB:=SV×List Int
def bcy(x:PB):List Value:=[x.1.v]
def SlP(w:World)(v:Value)(l:List PB):Prop:=Sl w 1 bcy v l/\∀x∈l,SlB w x.1.v x.2
section
variable {w0 w w' : World} {R : List Asn} {v : Value} {l : List PB} {ls : List (List Int)}
theorem SlP.fr(h:SlP w v l)(hf:Fz w w'):SlP w' v l:=⟨h.1.fr hf fun _ _ _ h=>h,fun x hx=>(h.2 x hx).fr hf fun _ _ _ h=>h⟩
theorem SlP.len(h:SlP w v l)(w':World)(K:KV):biT P .len #[T.bp] T.d [false] [v] w' K=K (.int .i64 l.length) w':=h.1.jq (by kernel_rfl) [false]
theorem SlP.at(h:SlP w v l){i:Nat}(hi:i < l.length): ∃b o s,(∀w' K,iaT P T.bp v (.int .i64 (i:Nat)) w' K=K (.pointer (some ⟨b,o,none⟩)) w')/\(∀{w1},SlP w1 v l->ik w1 b o=some (SV.v s))/\∀{w1},SlP w1 v l->SlB w1 (SV.v s) l[i].2:=by
 obtain⟨b,o,cap,hv,_,_,hc⟩:=h.1.at hi
 refine⟨b,o+i,l[i].1,fun w' K=>by rw[hv];simp[hi],fun{w1} h1=>?_,fun{w1} h1=>h1.2 _ (List.getElem_mem hi)⟩
 obtain⟨b',o',cap',hv',_,_,hc'⟩:=h1.1.at hi
 have hx:=hv.symm.trans hv'
 cases hx
 have c0:=hc' 0 _ rfl
 simp only[Nat.mul_one,Nat.add_zero] at c0
 exact c0
theorem bai{n:Nat}(h:TV P w n T.q [v]): ∃l,SlB w v l:=by
 refine aqg (sz:=1) (rd:=rdE ack) (e:=T.ba) (by kernel_rfl) (by kernel_rfl) (by decide) (fun n b o cs ht hl hc=>?_) h
 obtain⟨x,hx,_⟩:=bjs (k:= .u8) (by kernel_rfl) ht
 subst hx
 exact⟨x,fun j u hj=>hc j u hj⟩
theorem bcm{n:Nat}(h:TV P w n T.bp [v]): ∃l,SlP w v l:=by
 have: ∃l:List PB,agh w 1 (fun w b o x=>rdE bcy w b o x/\SlB w x.1.v x.2) v l:=by
  refine aqg (sz:=1) (rd:=fun w b o (x:PB)=>rdE bcy w b o x/\SlB w x.1.v x.2) (e:=T.q) (by kernel_rfl) (by kernel_rfl) (by decide) (fun n b o cs ht hl hc=>?_) h
  match cs,hl with
  | [u],_=>
   obtain⟨d,hd⟩:=bai ht
   obtain⟨a,c,hu,_⟩:=id hd
   exact⟨(⟨a,d.length,c⟩,d),fun j y hj=>hc j y (by rw[hu];exact hj),by simpa [SV.v,<-hu] using hd⟩
 obtain⟨l,hl⟩:=this
 refine⟨l,hl.mono fun b o x hx=>hx.1,fun x hx=>?_⟩
 obtain⟨i,hi,rfl⟩:=List.getElem_of_mem hx
 obtain⟨a,cap,hv,_,_,h3⟩:=hl
 obtain⟨b,o,_,_,hr⟩:=h3 i _ (List.getElem?_eq_getElem hi)
 exact hr.2
end
structure Gat(A:List AE)(es:List Evn)(k:Nat):Prop where
 few:A.length<=k
 len: ∀e∈A,e.l.length<=k
 nz: ∀e∈A,e.t≠0
 si: ∀e∈A,∀s∈e.l,∃v∈es,v.jg=1/\v.s=s
 ev:es.length<=k
theorem bdp{s:Spn}(h:kv s=0):s.je≠0:=fun e=>by
 unfold kv at h
 rw[if_pos (.inl e)] at h
 cases h
theorem bge{g:Cfg}{A:List AE}{es:List Evn}{k:Nat}(G:Gat A es k){s:Spn}(hr:kv s=0)(now:Int):Gat (tj g A s) (es ++ [sr (qj g A s) now s]) (k+1):=by
 have hz:=bdp hr
 have hold: ∀e∈A,∀x∈e.l,∃v∈es ++ [sr (qj g A s) now s],v.jg=1/\v.s=x:=fun e he x hx=>by
  obtain⟨v,hv,h1,h2⟩:=G.si e he x hx
  exact⟨v,List.mem_append_left _ hv,h1,h2⟩
 have hnew:qj g A s=0->∃v∈es ++ [sr (qj g A s) now s],v.jg=1/\v.s=s:=fun h=>⟨_,List.mem_append_right _ (List.mem_singleton.2 rfl),by unfold sr;rw[if_pos h],by unfold sr;rw[if_pos h]⟩
 have hel:(es ++ [sr (qj g A s) now s]).length<=k+1:=by
  rw[List.length_append]
  have:=G.ev
  simp
  omega
 have same:Gat A (es ++ [sr (qj g A s) now s]) (k+1):=⟨by have:=G.few;omega,fun e he=>by have:=G.len e he;omega,G.nz,hold,hel⟩
 have hr': ¬kv s≠0:=fun h=>h hr
 cases hf:A.find? (fun e=>decide (e.t=s.je)) with
 | none=>
  by_cases hg:g.kp<=A.length
  ·have e1:tj g A s=A:=by unfold tj;rw[if_neg hr',hf];simp only[if_pos hg]
   rw[e1]
   exact same
  ·have e1:tj g A s=A ++ [⟨s.je,[s],false⟩]:=by unfold tj;rw[if_neg hr',hf];simp only[if_neg hg]
   have e2:qj g A s=0:=by unfold qj;rw[if_neg hr',hf];simp only[if_neg hg]
   rw[e1]
   refine⟨?_,fun e he=>?_,fun e he=>?_,fun e he x hx=>?_,hel⟩
   ·have:=G.few;simp;omega
   ·rcases List.mem_append.1 he with h|h
    ·have:=G.len e h;omega
    ·rw[List.mem_singleton.1 h];simp
   ·rcases List.mem_append.1 he with h|h
    ·exact G.nz e h
    ·rw[List.mem_singleton.1 h];exact hz
   ·rcases List.mem_append.1 he with h|h
    ·exact hold e h x hx
    ·rw[List.mem_singleton.1 h] at hx
     rw[List.mem_singleton.1 hx]
     exact hnew e2
 | some e0=>
  have he0:=List.mem_of_find?_eq_some hf
  by_cases hd:(e0.l.any fun x=>decide (x.id=s.id))=true
  ·have e1:tj g A s=A:=by unfold tj;rw[if_neg hr',hf];simp only[if_pos hd]
   rw[e1]
   exact same
  ·by_cases hg:g.kh<=e0.l.length
   ·have e1:tj g A s=akb A s.je:=by unfold tj;rw[if_neg hr',hf];simp only[if_neg hd,if_pos hg]
    rw[e1]
    unfold akb
    refine⟨by rw[List.length_map];exact same.few,fun e he=>?_,fun e he=>?_,fun e he x hx=>?_,hel⟩ <;>obtain⟨e',he',rfl⟩:=List.mem_map.1 he
    ·split
     ·exact same.len e' he'
     ·exact same.len e' he'
    ·split
     ·exact same.nz e' he'
     ·exact same.nz e' he'
    ·split at hx
     ·exact same.si e' he' x hx
     ·exact same.si e' he' x hx
   ·have e1:tj g A s=aou A s.je s:=by unfold tj;rw[if_neg hr',hf];simp only[if_neg hd,if_neg hg]
    have e2:qj g A s=0:=by unfold qj;rw[if_neg hr',hf];simp only[if_neg hd,if_neg hg]
    rw[e1]
    unfold aou
    refine⟨by rw[List.length_map];exact same.few,fun e he=>?_,fun e he=>?_,fun e he x hx=>?_,hel⟩ <;>obtain⟨e',he',rfl⟩:=List.mem_map.1 he
    ·split
     ·have:=G.len e' he';simp;omega
     ·exact same.len e' he'
    ·split
     ·exact same.nz e' he'
     ·exact same.nz e' he'
    ·split at hx
     ·rcases List.mem_append.1 hx with hx|hx
      ·exact same.si e' he' x hx
      ·rw[List.mem_singleton.1 hx]
       exact hnew e2
     ·exact same.si e' he' x hx
theorem bbm{A:List AE}{es:List Evn}{k:Nat}(G:Gat A es k):Gat A es (k+1):=⟨by have:=G.few;omega,fun e he=>by have:=G.len e he;omega,G.nz,G.si,by have:=G.ev;omega⟩
section
variable {w0 w : World} {R : List Asn} {p : Nat} {q : Cl} {n : Nd} {g : Cfg} {A : List AE} {c : CT} {es : List Evn}
theorem bhw{rv:Value}{l:List Int}{inc:Int}(S:St w0 w (ll p q n g A c 0 [] es [] [] [] ++ R))(hn:qn n)(hsol:yy n inc)(hA:A.length<=1000)(hL: ∀e∈A,e.l.length<=1000)(he:es.length<=1000000)(hs:Rdv w0 R rv l)(hll:l.length<=1000000)(hbd:0<=q.bad/\q.bad<=1000000)(hq:q.now=0)(hw:0<=g.jn){K:KV}
  (h: ∀s,xc l=some (s,[])->afs s->kv s=0->∀w' v',St w0 w' (ll p {q with ev:=v'} n g (tj g A s) (aea g A c s 0) 0 [] (es ++ [sr (qj g A s) 0 s]) [] [] [] ++ R)->K (.int .i64 (if qj g A s=0 then 0 else 8)) w')
  (hno:(∀s,xc l≠some (s,[]))->∀w' kk,kk≠0->St w0 w' (ll p {q with bad:=q.bad+1} n g A c 0 [] es [] [] [] ++ R)->K (.int .i64 kk) w'):ie P F.aa [km p,rv,.int .u64 0] w K:=by
 have hmx:max q.now 0=0:=by rw[hq];rfl
 have e1: ∀v',({q with now:=0,ev:=v'}:Cl)={q with ev:=v'}:=fun v'=>by
  cases q
  simp only at hq
  subst hq
  rfl
 have e2:({q with now:=0,bad:=q.bad+1}:Cl)={q with bad:=q.bad+1}:=by
  cases q
  simp only at hq
  subst hq
  rfl
 have S2:St w0 w (acq p q n g A c 0 es ++ (mo q.out [] :: rdA 1 lw q.rep [101] :: rdA 4 kz q.rul [jx] :: jh q.ru .u64 [] :: jh q.se .u64 [] :: jh q.un .u64 [] :: R)):=S
 refine bfz S2 hn (acx hn hsol) (aji hs [_,_,_,_,_,_]) hll hbd (by omega) (by omega) (by decide) (by decide) hA hL hw he (fun s hco hR hr w' v' S'=>?_) fun hno' w' kk hkk S'=>?_
 ·rw[hmx,e1] at S'
  exact h s hco hR hr w' v' S'
 ·rw[hmx,e2] at S'
  exact hno hno' w' kk hkk S'
theorem bgp{rv:Value}{l:List Int}{inc:Int}{k:Nat}(S:St w0 w (ll p q n g A c 0 [] es [] [] [] ++ R))(hn:qn n)(hsol:yy n inc)(G:Gat A es k)(hk:k<=900)(hs:Rdv w0 R rv l)(hll:l.length<=1000000)(hbd:0<=q.bad/\q.bad<=k)(hq:q.now=0)(hw:0<=g.jn){K:KV}
  (h: ∀s,xc l=some (s,[])->afs s->kv s=0->Gat (tj g A s) (es ++ [sr (qj g A s) 0 s]) (k+1)->∀w' v',St w0 w' (ll p {q with ev:=v'} n g (tj g A s) (aea g A c s 0) 0 [] (es ++ [sr (qj g A s) 0 s]) [] [] [] ++ R)->K (.int .i64 (if qj g A s=0 then 0 else 8)) w')
  (hno:(∀s,xc l≠some (s,[]))->Gat A es (k+1)->∀w' kk,kk≠0->St w0 w' (ll p {q with bad:=q.bad+1} n g A c 0 [] es [] [] [] ++ R)->K (.int .i64 kk) w'):ie P F.aa [km p,rv,.int .u64 0] w K:=
 bhw S hn hsol (by have:=G.few;omega) (fun e he=>by have:=G.len e he;omega) (by have:=G.ev;omega) hs hll ⟨hbd.1,by omega⟩ hq hw (fun s hco hR hr=>h s hco hR hr (bge G hr 0)) fun hno'=>hno hno' (bbm G)
end
section
variable {w0 w : World} {R : List Asn} {p : Nat} {q : Cl} {n : Nd} {g : Cfg} {A : List AE} {c : CT} {a0 : Int} {m rm um : MP} {es : List Evn} {ls : List Ltr}
theorem aqf{hb:Nat}(S:St w0 w (mf hb g A c :: R)):(jz c).Perm (A.map AE.t)/\(A.map AE.t).Nodup:=by
 obtain⟨B,I,hB,cl⟩:=S.open
 obtain⟨⟨O,r,m,es,hAe,J,hfp⟩,hlt⟩:=(I:Buf w hb g B A c)
 have e:A.map AE.t=es.map Ent.t:=by rw[hAe,List.map_map];rfl
 rw[e]
 exact⟨J.ck,J.tn⟩
theorem bea{t now:Int}(h:t∈nk c now):t∈jz c:=by
 unfold nk at h
 obtain⟨p,hp,rfl⟩:=List.mem_map.1 h
 have:=(List.mem_filter.1 hp).1
 exact List.mem_map_of_mem ((vy c).mem_iff.1 this)
theorem bei{hb:Nat}{t now:Int}(S:St w0 w (mf hb g A c :: R))(h:t∈nk c now): ∃e∈A,e.t=t/\A.find? (fun x=>decide (x.t=e.t))=some e:=by
 obtain⟨hp,hnd⟩:=aqf S
 have:=hp.mem_iff.1 (bea h)
 obtain⟨e,he,het⟩:=List.mem_map.1 this
 refine⟨e,he,het,?_⟩
 rcases alq A e.t with⟨e',hf,he',het'⟩|⟨_,hno⟩
 ·rw[hf]
  rw[ark hnd he' he het']
 ·exact absurd rfl (hno e he)
def NoI(w0:World)(p:Nat)(q:Cl)(n:Nd)(g:Cfg)(A:List AE)(a0:Int)(m:MP)(es:List Evn)(ls:List Ltr)(R:List Asn)(v:Value)(ds:List Int):KL:=fun x w1=> ∃(u:Value)(i:Nat)(c:CT),x=[u,.int .i64 (i:Nat)]/\i<=ds.length/\St w0 w1 (rdA 1 lw v ds :: (ll p q n g A c a0 m es ls [] [] ++ R))
theorem bgn{inc now pick:Int}(S:St w0 w (ll p q n g A c a0 m es ls [] [] ++ R))(hn:qn n)(hs:yy n inc)(hA:A.length<=1000)(h0:0<=q.now/\q.now<=18446744073709551615)(h1:0<=now/\now<=18446744073709551615)(hag:0<=q.qd/\q.qd<=q.now)(hp:0<=pick)(hi:4294967295 < q.inc)(hb:q.ke.rng)(hl: ∀e∈A,e.l.length<=1000)(hls:ls.length<=200)(ht: ∀e∈A,e.t≠0){K:KV}
  (h: ∀w' ag c',(ag=q.qd\/ag=max q.now now)->St w0 w' (ll p {q with now:=max q.now now,qd:=ag} (n.vd (max q.now now) pick).1 g A c' a0 m es ls [] [] ++ R)->K (.tuple #[]) w'):ie P F.an [km p,.int .u64 now,.int .u64 pick] w K:=by
 refine ard S hn hs hA h0 h1 hp fun w1 v K6 x7 hK6 g8 g9 g10 S1=>?_
 have hnk:=aev (now:=max q.now now) (pick:=pick) hn ⟨by omega,by omega⟩
 have hn0:0<=max q.now now:=by omega
 have hn1:max q.now now<=18446744073709551615:=by omega
 have hag':q.qd<=max q.now now:=by omega
 have hf: ∀t∈nk c (max q.now now),∃e∈A,e.t=t/\A.find? (fun x=>decide (x.t=e.t))=some e:=fun t ht=>bei (S1.pick (L:=[_,_,_,_,_,_,_,_,_,_,_,_]) [3] 12 rfl (by decide)) ht
 have hlen:(nk c (max q.now now)).length<=1000:=by
  have hp:=(aqf (S1.pick (L:=[_,_,_,_,_,_,_,_,_,_,_,_]) [3] 12 rfl (by decide))).1
  have h1:(nk c (max q.now now)).length<=c.length:=by
   unfold nk
   rw[List.length_map]
   exact Nat.le_trans (List.length_filter_le _ _) (Nat.le_of_eq (vy c).length_eq)
  have h2:=hp.length_eq
  unfold jz at h2
  rw[List.length_map,List.length_map] at h2
  omega
 generalize max q.now now=nw at *
 generalize (n.vd nw pick).1=n' at *
 generalize nk c nw=ds at *
 unfold M.a.j7
 simp only[il,g8,g9,g10]
 refine⟨NoI w0 p {q with now:=nw} n' g A a0 m es ls R v ds,fun x _=>ds.length - ms x 1,⟨_,0,c,rfl,Nat.zero_le _,S1⟩,?_⟩
 rintro x w2 ⟨u,i,ci,rfl,hi1,S2⟩
 by_cases hil:i < ds.length
 ·have hili:(i:Int) < ds.length:=by omega
  have hwi:IntKind.i64.wrap ((i:Int)+1)=((i+1:Nat):Int):=by rw[iy];rfl
  obtain⟨ab,ao,cap,hv,_,_,hc⟩:=S2.rd.at hil
  have hia: ∀w' K,iaT P T.g v (.int .i64 (i:Nat)) w' K=K (.pointer (some ⟨ab,ao+i,none⟩)) w':=fun w' K=>by rw[hv];simp[hil]
  have hcell:ik w2 ab (ao+i)=some (.int .u64 ds[i]):=by simpa [lw] using hc 0 _ rfl
  obtain⟨e,he,het,hfi⟩:=hf ds[i] (List.getElem_mem hil)
  rw[<-het] at hcell
  simp[hili]
  unfold M.a.j9
  simp[g8,hia,hcell]
  have S3:St w0 w2 (ll p {q with now:=nw} n' g A ci a0 m es ls [] [] ++ (rdA 1 lw v ds :: R)):=S2.pick (L:=[_,_,_,_,_,_,_,_,_,_,_,_]) [1,2,3,4,5,6,7,8,9,10,11,0] 12 rfl (by decide)
  refine asy S3 rfl ?_
  have hz:(nxB {q with now:=nw} n').2=1:=by
   unfold nxB ade afn
   rw[if_pos hi,if_pos rfl]
  refine amo S3 hnk (show 1<=q.inc by omega) hb (akq hnk) hA hl he hfi hn0 hn1 hls (ht e he) (fun _ w4 S4=>?_) fun hy=>absurd (hy.symm.trans hz) (by decide)
  rw[hwi]
  exact⟨⟨_,i+1,_,rfl,by omega,S4.pick (L:=[_,_,_,_,_,_,_,_,_,_,_,_]) [11,0,1,2,3,4,5,6,7,8,9,10] 12 rfl (by decide)⟩,by simp[ms,gv];omega⟩
 ·have hie:i=ds.length:=by omega
  subst hie
  simp
  refine hK6 _ _ ?_
  refine aqe S2.drop ⟨hag.1,hag',hn1⟩ fun w3 ag hag S3=>?_
  exact h w3 ag ci hag S3
end
def clG(inc:Int)(rep rul:Value)(tb hb kb ru se un:Nat)(ag now:Int)(ev:Value)(bad:Int):Cl:=⟨inc,4,4,kw,rep,rul,tb,hb,kb,ru,se,un,ja,ag,now,.slice none 0 0,ev,bad,0⟩
section
variable {W w : World} {R : List Asn} {inc : Int} {p tb hb kb ru se un : Nat} {rep rul : Value}
theorem bjk(b:Nat)(inc tr:Int)(a:Option Addr)(n c:Nat)(w:World)(K:KV):stT P T.m (.pointer (some ⟨b,0,none⟩)) (cfA inc tr (.slice a n c)) w K=stN P b 0 (cfC inc tr (.slice a n c)) w K:=by simp[cfA,cfC]
def SgI(W:World)(R:List Asn)(p:Nat)(inc:Int)(rep rul:Value)(tb hb kb ru se un:Nat)(l:List PB):KL:=fun x w1=> ∃(u:Value)(i:Nat)(A:List AE)(c:CT)(es:List Evn)(ev:Value)(bad:Int),x=[u,.int .i64 (i:Nat)]/\i<=l.length/\Gat A es i/\(0<=bad/\bad<=i)/\St W w1 (ll p (clG inc rep rul tb hb kb ru se un 0 0 ev bad) (Nd.new 1 inc 5 20 0) g4 A c 0 [] es [] [] [] ++ R)
def bne(W:World)(R:List Asn)(p:Nat)(inc:Int)(rep rul:Value)(tb hb kb ru se un:Nat)(A:List AE)(es:List Evn)(ev:Value)(bad:Int):KL:=fun x w1=> ∃(j:Nat)(c:CT)(n:Nd)(ag now:Int),x=[.int .u64 ((9 * j:Nat):Int)]/\j<=12/\qn n/\yy n inc/\(0<=ag/\ag<=now/\now<=9 * (j:Int))/\St W w1 (ll p (clG inc rep rul tb hb kb ru se un ag now ev bad) n g4 A c 0 [] es [] [] [] ++ R)
theorem bbb{A:List AE}{c:CT}{es:List Evn}{ev:Value}{bad ag now:Int}{n:Nd}{k:Nat}(S:St W w (ll p (clG inc rep rul tb hb kb ru se un ag now ev bad) n g4 A c 0 [] es [] [] [] ++ R))(hA:A.length<=1000)(hk:k=(og A).length){K:KV}(h: ∀w',Fz W w'->K (.bool true) w'):M.c.j7 (km p) (.int .i64 (k:Nat)) w K:=by
 unfold M.c.j7
 have S0:St W w (clA p (clG inc rep rul tb hb kb ru se un ag now ev bad) :: mo (.slice none 0 0) [] :: jy tb n :: mf hb g4 A c :: om kb 0 [] :: nh ev es :: rdA 1 lw rep [101] :: rdA 4 kz rul [jx] :: jh ru .u64 [] :: jh se .u64 [] :: jh un .u64 [] :: R):=S.pick (L:=[_,_,_,_,_,_,_,_,_,_,_]) [0,5,1,2,3,4,6,7,8,9,10] 11 rfl (by decide)
 refine bax S0 fun w1 S1=>?_
 have S2:St W w1 (ll p (clG inc rep rul tb hb kb ru se un ag now ev bad) n g4 A c 0 [] es [] [] [] ++ R):=S1.pick (L:=[_,_,_,_,_,_,_,_,_,_,_]) [0,2,3,4,5,1,6,7,8,9,10] 11 rfl (by decide)
 have e0:(clG inc rep rul tb hb kb ru se un ag now ev bad).out= .slice none 0 0:=rfl
 simp only[e0]
 simp
 refine aez S2 hA fun w3 v3 S3=>?_
 have hln:=fun w' K=>acz (w':=w') (K:=K) (S3.row nt)
 simp[hln,hk]
 refine acr (S3.pick (L:=[_,_,_,_,_,_,_,_,_,_,_,_]) [1,11,0,2,3,4,5,6,7,8,9,10] 12 rfl (by decide)) (by simp) fun w4 v4 S4=>?_
 have hz:(Suint64.tk (jm ([]:MP))).length=0:=by rw[show jm ([]:MP)=[] from rfl];simp[Suint64.tk]
 have hln4:=fun w' K=>acz (w':=w') (K:=K) (S4.row nt)
 rw[hz] at hln4
 simp[hln4]
 exact akf (St.kl _) fun w5 S5=>h w5 (S4.fr.trans S5.fr)
theorem auc{A:List AE}{es:List Evn}{ev:Value}{bad:Int}{k i:Nat}(hi:4294967295 < inc)(G:Gat A es i)(hi9:i<=900)(hk:k=(og A).length){c:CT}(S:St W w (ll p (clG inc rep rul tb hb kb ru se un 0 0 ev bad) (Nd.new 1 inc 5 20 0) g4 A c 0 [] es [] [] [] ++ R))(hn:qn (Nd.new 1 inc 5 20 0)){K:KV}(h: ∀w',Fz W w'->K (.bool true) w'){K7:KL}(hK7: ∀x w,M.c.j7 (km p) (.int .i64 (k:Nat)) w K->K7 x w):
  jl [.int .u64 0] w fun K8 x8 w=>M.c.j8 x8 K7 (km p) K8 w K:=by
 refine⟨bne W R p inc rep rul tb hb kb ru se un A es ev bad,fun x _=>200 - ms x 0,⟨0,c,_,0,0,rfl,by omega,hn,⟨rfl,rfl⟩,⟨by omega,by omega,by omega⟩,S⟩,?_⟩
 rintro x w2 ⟨j,c2,n2,ag,now,rfl,hj,hn2,hs2,⟨b1,b2,b3⟩,S2⟩
 unfold M.c.j8
 simp only[il]
 by_cases hj12:j < 12
 ·have h100:((9 * j:Nat):Int) < 100:=by omega
  simp only[mw,show∀a:Value,gv [a] 0=a from fun _=>rfl,h100,decide_true,ig]
  refine bgn S2 hn2 hs2 (by have:=G.few;omega) ⟨show 0<=now by omega,show now<=18446744073709551615 by omega⟩ (by omega) ⟨b1,b2⟩ (by decide) hi (show ja.rng from⟨⟨by decide,by decide⟩,⟨by decide,by decide⟩⟩) (fun e he=>by have:=G.len e he;omega) (by simp) G.nz fun w3 ag3 c3 hag3 S3=>?_
  have hmx:max now ((9 * j:Nat):Int)=((9 * j:Nat):Int):=by omega
  have hmx':max (clG inc rep rul tb hb kb ru se un ag now ev bad).now ((9 * j:Nat):Int)=((9 * j:Nat):Int):=hmx
  rw[hmx'] at S3 hag3
  have hw9:IntKind.u64.wrap (((9 * j:Nat):Int)+9)=((9 * (j+1):Nat):Int):=by rw[lr (by omega) (by omega)];omega
  simp only[lx,hw9]
  refine⟨⟨j+1,c3,_,ag3,((9 * j:Nat):Int),rfl,by omega,aev hn2 ⟨by omega,by omega⟩,(age hs2).1,?_,S3⟩,by simp[ms,gv];omega⟩
  rcases hag3 with e|e
  ·have e':ag3=ag:=e
   refine⟨by omega,by omega,by omega⟩
  ·refine⟨by omega,by omega,by omega⟩
 ·have hje:j=12:=by omega
  subst hje
  simp only[mw,show∀a:Value,gv [a] 0=a from fun _=>rfl,show decide (((9 * 12:Nat):Int) < 100)=false from by decide,ig]
  exact hK7 _ _ (bbb S2 (by have:=G.few;omega) hk h)
theorem bgs:Gat [] [] 0:=⟨Nat.le_refl _,fun _ h=>(List.not_mem_nil h).elim,fun _ h=>(List.not_mem_nil h).elim,fun _ h=>(List.not_mem_nil h).elim,Nat.le_refl _⟩
theorem bgr(inc:Int)(rep rul:Value)(tb hb kb ru se un:Nat):acy inc 4 rep rul tb hb kb ru se un=clG inc rep rul tb hb kb ru se un 0 0 (.slice none 0 0) 0:=rfl
theorem ahr{n0:Nat}{v0:Value}(h0:TV P W n0 T.bp [v0]){a1:Int}(h1:(Lit.int .u64 a1).wf=true){K:KV}
  (h: ∀w',Fz W w'->K (.bool true) w'):jo P F.cw [v0,.int .u64 a1] W K:=by
 obtain⟨l,hl⟩:=bcm h0
 have hr1:0<=a1/\a1 < 18446744073709551616:=by
  have:IntKind.u64.min<=a1/\a1<=IntKind.u64.max:=by simpa [Lit.wf] using h1
  have e1:IntKind.u64.min=0:=by decide
  have e2:IntKind.u64.max=18446744073709551615:=by decide
  omega
 apply M.c.calls
 unfold M.c
 have ex: ∀{w'},Fz W w'->(ie P F.br [] w' fun v w=>K v w):=fun f=>akf (St.kl _) fun w'' S''=>h w'' (f.trans S''.fr)
 simp only[il,hl.len]
 by_cases n1:12 < (l.length:Int)
 ·simp[n1]
  exact ex (Fr.refl _ _)
 by_cases n2:a1 < 6148914691236517206
 ·simp[n1,n2]
  exact ex (Fr.refl _ _)
 simp[n1,n2]
 unfold M.c.j0
 refine ars (St.kl W) fun w1 a c S1=>?_
 have S2:=S1.mkB cfZ T.m
 unfold cfZ at S2
 simp
 generalize w1.heap.size=cb at *
 generalize w1.alloc _=w2 at *
 rw[bjk]
 refine St.put (cs':=(cfC 1 4 (.slice a 1 c)).toArray) S2 (axe 1 4 a 1 c) (by simp[cfC]) (by simp[cfC]) fun w3 S3=>?_
 refine St.nj S3 rfl (by simp[cfC]) fun w4 S4=>?_
 have S4':St W w4 (iz cb (cfC a1 4 (.slice a 1 c)).toArray T.m :: _):=S4
 have ld: ∀K,ldN P 13 cb 0 w4 K=K (cfA a1 4 (.slice a 1 c)) w4:=fun K=>S4'.ldA (n:=13) (i:=0) (cfC a1 4 (.slice a 1 c)) rfl rfl K
 simp[ld]
 refine azw S4' fun w5 S5=>?_
 refine anj S5 (fun w' L S'=>yz S' (e:=T.a) (sz:=1) (enc:=Suint64.rk) (v:= .slice a 1 c) (l:=[101]) (by simp) nt) (by omega) (by decide) fun w6 p g rep rul tb hb kb ru se un g1 g2 g3 S6=>?_
 have hg:g=g4:=by
  obtain⟨a,b,c⟩:=g
  have h1:(4:Int)=a:=g1
  have h2:(4:Int)=b:=g2
  have h3:(10:Int)=c:=g3
  unfold g4
  rw[show a=4 by omega,show b=4 by omega,<-h3]
 subst hg
 rw[bgr] at S6
 have hn:qn (Nd.new 1 a1 5 20 0):=atm (by omega) (by omega) (by omega) (by omega) (by omega)
 simp
 generalize [iz cb _ _,_]=R1 at S6
 refine⟨SgI W R1 p a1 rep rul tb hb kb ru se un l,fun x _=>l.length - ms x 1,⟨_,0,[],[],[],_,0,rfl,Nat.zero_le _,bgs,⟨by omega,by omega⟩,S6⟩,?_⟩
 rintro x w7 ⟨u,i,A,c2,es,ev,bad,rfl,hi,G,⟨bd1,bd2⟩,S7⟩
 unfold M.c.j3
 simp only[il,hl.len]
 by_cases hil:i < l.length
 ·have hili:(i:Int) < (l.length:Int):=by omega
  obtain⟨b1,o1,x1,e1,k1,r1⟩:=hl.at hil
  have hlw: ∀{w':World}{L:List Asn},St W w' L->SlP w' v0 l:=fun S'=>hl.fr S'.fr
  have c1:=k1 (hlw S7)
  have s1:=r1 (hlw S7)
  simp only[mw,show∀a b:Value,gv [a,b] 1=b from fun _ _=>rfl,hili,decide_true,ig]
  unfold M.c.j4
  have hxv:SV.v x1= .slice x1.a x1.n x1.c:=rfl
  rw[hxv] at c1
  simp[e1,c1]
  have hlen1: ∀w' K,biT P .len #[T.q] T.d [false] [.slice x1.a x1.n x1.c] w' K=K (.int .i64 l[i].2.length) w':=fun w' K=>s1.jq (by kernel_rfl) [false]
  have hxn:x1.n=l[i].2.length:=by
   obtain⟨_,_,e,_⟩:=s1
   injection e
  have hwi:IntKind.i64.wrap ((i:Int)+1)=((i+1:Nat):Int):=by rw[iy];rfl
  by_cases hbig:(500:Int) < (x1.n:Int)
  ·simp only[hbig,decide_true,ig]
   exact ex S7.fr
  ·simp only[hbig,decide_false,ig]
   rw[hwi]
   refine bgp (k:=i) (l:=l[i].2) (inc:=a1) S7 hn ⟨rfl,rfl⟩ G (by omega) (fun w' L S'=>r1 (hlw S')) (by omega) ⟨bd1,bd2⟩ rfl (by decide) (fun s hco hR hr G' w8 v8 S8=>?_) fun hno G' w8 kk hkk S8=>?_
   ·exact⟨⟨_,i+1,_,_,_,v8,bad,rfl,by omega,G',⟨by omega,by omega⟩,S8⟩,by simp[ms,gv];omega⟩
   ·exact⟨⟨_,i+1,A,c2,es,ev,bad+1,rfl,by omega,G',⟨by omega,by omega⟩,S8⟩,by simp[ms,gv];omega⟩
 ·have hie:i=l.length:=by omega
  subst hie
  simp only[mw,show∀a b:Value,gv [a,b] 1=b from fun _ _=>rfl,show decide ((l.length:Int) < (l.length:Int))=false from by simp,ig]
  unfold M.c.j2
  refine aez S7 (by have:=G.few;omega) fun w8 v8 S8=>?_
  have hln:=fun w' K=>acz (w':=w') (K:=K) (S8.row nt)
  simp only[hln]
  refine aal fun K7 hK7=>?_
  refine auc (k:=(og A).length) (i:=l.length) (by omega) G (by omega) rfl (S8.pick (L:=[_,_,_,_,_,_,_,_,_,_,_,_]) [1,2,3,4,5,6,7,8,9,10,11] 12 rfl (by decide)) hn h fun x w hx=>hK7 x w hx
end
end Go.Proofs.YtgepcfcicngceaaGreatDoor
