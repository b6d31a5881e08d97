/-
  A collector: Unwritten, due (a trace without a run), the heads and ends of Tick. No condition.
-/
import Derived.Test.YtgepcfcicngceaaGreatDoorZRn3
import Derived.Test.YtgepcfcicngceaaGreatDoorZEngSl
import Derived.Test.YtgepcfcicngceaaGreatDoorZTim4
import Derived.Test.YtgepcfcicngceaaGreatDoorM
import Derived.Test.YtgepcfcicngceaaGreatDoorFacts
import Derived.Test.YtgepcfcicngceaaGreatDoorZMs9
set_option maxRecDepth 100000
namespace Go.Proofs.YtgepcfcicngceaaGreatDoor
open Go.Eng Go.Proofs.YtgepcfcicngceaaGreatDoor.Sint
section
variable {w0 w : World} {R : List Asn} {p : Nat} {q : Cl} {n : Nd} {g : Cfg} {A : List AE} {c : CT} {a0 : Int} {m rm um : MP} {es : List Evn} {ls : List Ltr}
theorem ahb(S:St w0 w (clA p q :: jl q.un .u64 um :: R))(hl:um.length < 60000){K:KV}(h: ∀w' v,St w0 w' (yu v (Suint64.ut (jo um)) :: clA p q :: jl q.un .u64 um :: R)->K v w'):ig P F.ay [km p] w K:=by
 rw[M.am.fcall]
 apply M.am.calls
 unfold M.am
 obtain⟨_,_,_,_,_,_,_,_,_,_,c19,_⟩:=oa (p:=p) (q:=q) S (by simp)
 simp only[km]
 simp
 unfold M.am.j0
 simp[c19]
 refine KeyU.ami S.swap.mp S.swap.bbx hl fun w' v o f=>?_
 exact h w' v (S.add (a:=yu v (Suint64.ut (jo um))) f (B:=fun b=>v.ownBlock=some b) ⟨o.mono (Nat.zero_le _),fun b hb=>hb⟩ fun b hb=>⟨(o.lt hb).1,(o.lt hb).2⟩)
theorem bhr{t:Int}(S:St w0 w (lk p q n g A c a0 m es ls rm um ++ R))(hr:kl rm t=none){K:KV}(h:ig P F.ax [km p,.int .u64 t] w fun _ w=>K (.tuple #[]) w):ig P F.ck [km p,.int .u64 t] w K:=by
 rw[M.ax.fcall]
 apply M.ax.calls
 unfold M.ax
 obtain⟨_,_,_,_,_,_,_,_,c17,_⟩:=oa (p:=p) (q:=q) S (by simp)
 have lu: ∀K,luT P T.x (.map (some q.ru)) (.int .u64 t) false w K=K (.pointer none) w:=fun K=>by
  rw[tp mt.x (S.pick (L:=[_,_,_,_,_,_,_,_,_,_,_]) [8] 11 rfl (by decide)).mp,hr]
  rfl
 simp only[km] at *
 simp[c17,lu]
 exact h
def abt(n:Nd)(inc:Int):Prop:=n.id=1/\n.v=[⟨1,inc,0⟩]
theorem ans{inc now pick:Int}(h:abt n inc):abt (n.wq now pick).1 inc/\(n.wq now pick).2=[]:=by
 obtain⟨h1,h2⟩:=h
 unfold Nd.wq
 generalize ui n.now now=t
 have ha:sr 1 t n.jq n.h ⟨1,inc,0⟩=⟨1,inc,0⟩:=by simp[sr]
 split
 ·exact⟨⟨h1,h2⟩,rfl⟩
 ·simp[abt,h1,h2,ha,zi,oz,zy]
theorem adu{inc:Int}(hn:sj n)(h:abt n inc):age n.v=[1]:=by
 unfold age
 rw[if_pos ((afx _).2 hn.zj),h.2]
 rfl
theorem alh{v:Value}{l:List Int}(h:Sl w 1 Suint64.sf v l){w':World}{K:KV}:biT P .len #[T.i] T.d [false] [v] w' K=K (.int .i64 l.length) w':=h.jp (by kernel_rfl) [false]
theorem bfb(S:St w0 w (lk p q n g A c a0 m es ls rm [] ++ R))(h0:0<=q.tm/\q.tm<=q.now/\q.now<=18446744073709551615){K:KV}(h: ∀w' ag,(ag=q.tm\/ag=q.now)->St w0 w' (lk p {q with tm:=ag} n g A c a0 m es ls rm [] ++ R)->K (.tuple #[]) w'):M.a.j6 (km p) w K:=by
 unfold M.a.j6
 have S1:=S.ju ((Fr.refl _ w).dr 1)
 rw[pu]
 generalize dr w 1=w1 at *
 obtain⟨_,_,_,c8,_,_,_,_,_,_,_,c22,c23,_⟩:=oa (p:=p) (q:=q) S1 (by simp)
 have hw:IntKind.u64.wrap (q.now - q.tm)=q.now - q.tm:=by rw[lq (by omega) (by omega)]
 simp only[km]
 simp[c8,c22,c23,hw]
 by_cases hb:4<=q.now - q.tm
 ·simp[hb]
  refine St.nh S1 rfl (by simp[clC]) fun w2 S2=>?_
  have S3:St w0 w2 (clA p {q with tm:=q.now} :: _):=S2
  refine ahb (S3.pick (L:=[_,_,_,_,_,_,_,_,_,_,_]) [0,10,1,2,3,4,5,6,7,8,9] 11 rfl (by decide)) (by simp) fun w4 v4 S4=>?_
  have hln:=fun w' K=>alh (w':=w') (K:=K) (S4.row oe)
  have hz:(Suint64.ut (jo ([]:MP))).length=0:=by rw[show jo ([]:MP)=[] from rfl];simp[Suint64.ut]
  rw[hz] at hln
  simp only[hln,im]
  have S5:St w0 w4 (lk p {q with tm:=q.now} n g A c a0 m es ls rm [] ++ R):=S4.pick (L:=[_,_,_,_,_,_,_,_,_,_,_,_]) [1,3,4,5,6,7,8,9,10,11,2] 12 rfl (by decide)
  refine⟨fun x w'=>x=[undef,.int .i64 0]/\w'=w4,fun _ _=>0,⟨rfl,rfl⟩,?_⟩
  rintro x w' ⟨rfl,rfl⟩
  simp
  exact h _ _ (.inr rfl) S5
 ·simp[hb]
  exact h _ q.tm (.inl rfl) S1
def LoI(w0:World)(L:List Asn)(m:Nat):KL:=fun x w1=> ∃(u1 u2:Value)(i:Nat),x=[u1,u2,.int .i64 (i:Nat)]/\i<=m/\St w0 w1 L
theorem bdl{inc now pick:Int}(S:St w0 w (lk p q n g A c a0 m es ls rm um ++ R))(hn:sj n)(hs:abt n inc)(hA:A.length<=1000)(h0:0<=q.now/\q.now<=18446744073709551615)(h1:0<=now/\now<=18446744073709551615)(hp:0<=pick){K:KV}
  (h: ∀w' v K6 x7,(∀x w,M.a.j6 (km p) w K->K6 x w)->gv x7 8=v->gv x7 9= .int .i64 (qa c (max q.now now)).length->gv x7 10= .int .i64 0->St w0 w' (rdA 1 mh v (qa c (max q.now now)) :: (lk p {q with now:=max q.now now} (n.wq (max q.now now) pick).1 g A c a0 m es ls rm um ++ R))->M.a.j7 x7 K6 (km p) w' K):ig P F.bm [km p,.int .u64 now,.int .u64 pick] w K:=by
 rw[M.a.fcall]
 apply M.a.calls
 unfold M.a
 obtain⟨_,_,_,_,_,_,_,_,_,_,_,_,c23,_⟩:=oa (p:=p) (q:=q) S (by simp)
 simp only[km]
 simp
 unfold M.a.j0
 simp[c23,si]
 have hn0:0<=max q.now now:=by omega
 have hn1:max q.now now<=18446744073709551615:=by omega
 generalize max q.now now=nw at *
 refine St.nh S rfl (by simp[clC]) fun w1 S1=>?_
 have S2:St w0 w1 (clA p {q with now:=nw} :: _):=S1
 have S3:=S2.ju ((Fr.refl _ w1).dr 1)
 generalize dr w1 1=w2 at *
 obtain⟨_,_,_,_,_,d14,_,_,_,_,_,_,d23,_⟩:=oa (p:=p) (q:={q with now:=nw}) S3 (by simp)
 simp[d14,d23]
 refine bia (S3.pick (L:=[_,_,_,_,_,_,_,_,_,_,_]) [1,0,2,3,4,5,6,7,8,9,10] 11 rfl (by decide)) hn ⟨hn0,by omega⟩ hp fun w4 v4 S4=>?_
 obtain⟨hs',ht⟩:=ans (now:=nw) (pick:=pick) hs
 have hnk:=amp (pick:=pick) hn ⟨hn0,show nw < 18446744073709551616 by omega⟩
 rw[ht] at S4
 have hln:=fun w' K=>alh (w':=w') (K:=K) (S4.row oe)
 simp[hln]
 have S5:St w0 w4 (lk p {q with now:=nw} (n.wq nw pick).1 g A c a0 m es ls rm um ++ R):=S4.pick (L:=[_,_,_,_,_,_,_,_,_,_,_,_]) [2,1,3,4,5,6,7,8,9,10,11] 12 rfl (by decide)
 unfold M.a.j1
 refine abh fun K2 hK2=>?_
 obtain⟨_,_,_,_,_,_,e15,_⟩:=oa (p:=p) (q:={q with now:=nw}) S5 (by simp)
 simp[e15]
 refine aoa (S5.pick (L:=[_,_,_,_,_,_,_,_,_,_,_]) [2,0,1,3,4,5,6,7,8,9,10] 11 rfl (by decide)) hA fun w6 v6 S6=>?_
 have hln6:=fun w' K=>alh (w':=w') (K:=K) (S6.row oe)
 simp only[hln6,im]
 refine⟨LoI w0 (clA p {q with now:=nw} :: kc q.tb (n.wq nw pick).1 :: yu v6 (mq A) :: mr q.hb g A c :: pd q.kb a0 m :: mu q.ev es :: mm q.out ls :: rdA 1 mh q.rep [101] :: rdA 4 li q.rul [jz] :: jl q.ru .u64 rm :: jl q.se .u64 [] :: jl q.un .u64 um :: R) (mq A).length,fun x _=>(mq A).length - ms x 2,⟨_,_,0,rfl,Nat.zero_le _,S6.pick (L:=[_,_,_,_,_,_,_,_,_,_,_,_]) [2,3,0,1,4,5,6,7,8,9,10,11] 12 rfl (by decide)⟩,?_⟩
 rintro x w7 ⟨u1,u2,i,rfl,hi,S7⟩
 by_cases hil:i < (mq A).length
 ·have hili:(i:Int) < (mq A).length:=by omega
  have hwi:IntKind.i64.wrap ((i:Int)+1)=((i+1:Nat):Int):=by
   have:(mq A).length<=1000:=by
    unfold mq
    rw[(Suint64.abc _).length_eq,List.length_map]
    exact hA
   rw[iy];rfl
  obtain⟨ab,ao,cap,hv,_,_,hc⟩:=(S7.up2.row oe).at hil
  have hia: ∀w' K,iaT P T.i v6 (.int .i64 (i:Nat)) w' K=K (.pointer (some ⟨ab,ao+i,none⟩)) w':=fun w' K=>by rw[hv];simp[hil]
  have hcell:il w7 ab (ao+i)=some (.int .u64 (mq A)[i]):=by simpa [Suint64.sf] using hc 0 _ rfl
  generalize (mq A)[i]=t at *
  simp[hili]
  unfold M.a.j4
  simp[hia,hcell]
  refine ahq S7 hnk (adu hnk hs') ⟨by decide,trivial⟩ (by simp) (by simp) t fun w8 o ho S8=>?_
  obtain rfl:=ho.one
  obtain⟨f0,_⟩:=oa (p:=p) (q:={q with now:=nw}) S8 (by simp)
  simp[f0]
  refine⟨⟨_,_,i+1,by rw[hwi],by omega,S8⟩,by rw[hwi];simp[ms,gv];omega⟩
 ·have hie:i=(mq A).length:=by omega
  subst hie
  simp
  refine hK2 _ _ ?_
  unfold M.a.j2
  refine abh fun K6 hK6=>?_
  have S9:=S7.ju ((Fr.refl _ w7).dr 1)
  rw[pu]
  generalize dr w7 1=w8 at *
  have e15: ∀{w':World}{L:List Asn},St w0 w' L->clA p {q with now:=nw}∈L->il w' p 15=some (.pointer (some ⟨q.hb,0,none⟩))/\il w' p 23=some (.int .u64 nw):=fun S' hm=>by
   obtain⟨_,_,_,_,_,_,e15,_,_,_,_,_,e23,_⟩:=oa S' hm
   exact⟨e15,e23⟩
  obtain⟨k15,k23⟩:=e15 S9 (by simp)
  refine abh fun K7 hK7=>?_
  have du: ∀{K':KV},(∀w' v,(∀K,biT P .len #[T.i] T.d [false] [v] w' K=K (.int .i64 (qa c nw).length) w')->(il w' p 15=some (.pointer (some ⟨q.hb,0,none⟩))/\il w' p 23=some (.int .u64 nw))->St w0 w' (rdA 1 mh v (qa c nw) :: (lk p {q with now:=nw} (n.wq nw pick).1 g A c a0 m es ls rm um ++ R))->K' v w')->ig P F.br [.pointer (some ⟨q.hb,0,none⟩),.int .u64 nw] w8 K':=fun h'=>by
   refine bjl (S9.pick (L:=[_,_,_,_,_,_,_,_,_,_,_,_]) [3,0,1,4,5,6,7,8,9,10,11] 12 rfl (by decide)) hA nw fun w' v S'=>?_
   refine h' w' v (fun K=>S'.rd.jp (by kernel_rfl) [false]) (e15 S' (by simp)) ?_
   exact S'.pick (L:=[_,_,_,_,_,_,_,_,_,_,_,_]) [0,2,3,1,4,5,6,7,8,9,10,11] 12 rfl (by decide)
  simp[k15,k23]
  refine⟨du fun w' v hl hk S'=>⟨?_,?_⟩,du fun w' v hl hk S'=>?_⟩
  ·rw[hl]
   simp[hk.1,hk.2]
   exact hK7 _ _ (h w' v K6 _ hK6 rfl rfl rfl S')
  ·simp[hk.1,hk.2]
   rw[hl]
   exact hK7 _ _ (h w' v K6 _ hK6 rfl rfl rfl S')
  ·rw[hl]
   exact hK7 _ _ (h w' v K6 _ hK6 rfl rfl rfl S')
theorem awj(hn:sj n):0<=qk n/\qk n < 18446744073709551616:=by
 unfold qk ajb
 have hnn:0<=zv n.v:=ast fun m hm=>by
  have:=ars hn.zj hn.inc hm
  unfold aip
  omega
 have hv:=(afx _).2 hn.zj
 by_cases hb:18446744073709551616<=zv n.v
 ·simp[hb,hv]
 ·simp[hb,hv]
  omega
def goI(w0:World)(p:Nat)(q:Cl)(n:Nd)(g:Cfg)(A:List AE)(c:CT)(a0:Int)(m:MP)(es:List Evn)(ls:List Ltr)(um:MP)(R:List Asn)(v:Value)(e:AE):KL:=fun x w1=> ∃(u:Value)(i:Nat),x=[u,.int .i64 (i:Nat)]/\i<=1/\(i=0->St w0 w1 (rdA 1 mh v [e.t] :: (lk p q n g A c a0 m es ls [] um ++ R)))/\(i=1->∃ov rb,St w0 w1 (lk p {q with kj:=(nxB q n).1,out:=ov} n g A (pc c e.t (abf q.now)) a0 m es (ls ++ pa [101] (sq e.t (nxB q n).1 (tj e) 0) px) [(e.t,.pointer (some ⟨rb,0,none⟩))] um ++ pq rb e.t (nxB q n).1 (tj e) 0 :: R))
theorem bgq{inc now pick:Int}{e:AE}(S:St w0 w (lk p q n g A c a0 m es ls [] [] ++ R))(hn:sj n)(hs:abt n inc)(hA:A.length<=1000)(h0:0<=q.now/\q.now<=18446744073709551615)(h1:0<=now/\now<=18446744073709551615)(hag:0<=q.tm/\q.tm<=q.now)(hp:0<=pick)(hi:1<=q.inc)(hb:q.kj.rng)(hl: ∀e∈A,e.l.length<=1000)(he:e∈A)(hfi:A.find? (fun x=>decide (x.t=e.t))=some e)(hls:ls.length<=200)(ht:e.t≠0)(hd:qa c (max q.now now)=[e.t])
  (hy: ∀n',n'=(n.wq (max q.now now) pick).1->(nxB q n').2=0/\(nxB q n').1.n≠0/\(1<=tj e/\tj e<=3)) {K:KV}
  (h: ∀w' ov rb ag n',(ag=q.tm\/ag=max q.now now)->n'=(n.wq (max q.now now) pick).1->St w0 w' (lk p {q with now:=max q.now now,kj:=(nxB q n').1,out:=ov,tm:=ag} n' g A (pc c e.t (abf (max q.now now))) a0 m es (ls ++ pa [101] (sq e.t (nxB q n').1 (tj e) 0) px) [(e.t,.pointer (some ⟨rb,0,none⟩))] [] ++ pq rb e.t (nxB q n').1 (tj e) 0 :: R)->K (.tuple #[]) w'):ig P F.bm [km p,.int .u64 now,.int .u64 pick] w K:=by
 refine bdl S hn hs hA h0 h1 hp fun w1 v K6 x7 hK6 g8 g9 g10 S1=>?_
 have hnk:=amp (now:=max q.now now) (pick:=pick) hn ⟨by omega,by omega⟩
 have hy':=hy _ rfl
 have h':=fun w' ov rb ag hag=>h w' ov rb ag _ hag rfl
 have hn0:0<=max q.now now:=by omega
 have hn1:max q.now now<=18446744073709551615:=by omega
 have hag':q.tm<=max q.now now:=by omega
 clear h hy
 generalize max q.now now=nw at *
 generalize (n.wq nw pick).1=n' at *
 rw[hd] at S1 g9
 unfold M.a.j7
 simp only[im,g8,g9,g10]
 refine⟨goI w0 p {q with now:=nw} n' g A c a0 m es ls [] R v e,fun x _=>1 - ms x 1,⟨_,0,rfl,Nat.zero_le _,fun _=>S1,fun h=>absurd h (by decide)⟩,?_⟩
 rintro x w2 ⟨u,i,rfl,hi1,hz,ho⟩
 by_cases hi0:i=0
 ·subst hi0
  have S2:=hz rfl
  obtain⟨ab,ao,cap,hv,_,_,hc⟩:=S2.rd.at (i:=0) (by simp)
  have hia: ∀w' K,iaT P T.i v (.int .i64 0) w' K=K (.pointer (some ⟨ab,ao,none⟩)) w':=fun w' K=>by rw[hv];simp
  have hcell:il w2 ab ao=some (.int .u64 e.t):=by simpa [mh] using hc 0 _ rfl
  simp
  unfold M.a.j9
  simp[g8,hia,hcell]
  have S3:=S2.drop
  refine bhr S3 rfl ?_
  refine ayl S3 hnk hi hb (awj hnk) hA hl he hfi hn0 hn1 hls ht (fun hno=>absurd hy'.1 hno) fun _=>⟨hy'.2.1,hy'.2.2,fun w4 ov rb S4=>?_⟩
  refine⟨⟨_,1,rfl,Nat.le_refl _,?_⟩,by simp[ms,gv,show IntKind.i64.wrap 1=1 from by decide]⟩
  refine And.intro ?_ ?_
  ·intro hx
   exact absurd hx (by decide)
  ·intro _
   exact⟨ov,rb,S4⟩
 ·have hi1:i=1:=by omega
  subst hi1
  obtain⟨ov,rb,S2⟩:=ho rfl
  simp
  refine hK6 _ _ ?_
  refine bfb S2 ⟨hag.1,hag',hn1⟩ fun w3 ag hag S3=>?_
  exact h' w3 ov rb ag hag S3
end
end Go.Proofs.YtgepcfcicngceaaGreatDoor
set_option maxRecDepth 100000
namespace Go.Proofs.YtgepcfcicngceaaGreatDoor.CS
open Go.Eng
theorem bhd{w:World}{n:Nat}(hn:n<=1000000000){K:KV}(h: ∀w' v,Ow w' w.heap.size T.f 8 jj v []->Fz w w'->K v w'):
  jr P F.bq [.slice none 0 0,.int .i64 n] w K:=by
 apply M.ap.calls
 unfold M.ap
 have hneg: ¬(n:Int) < 0:=by omega
 simp[hneg]
 unfold M.ap.j0
 have hsl:nl P T.j=true:=by kernel_rfl
 have w0:IntKind.i64.wrap 0=0:=by decide
 have wn:IntKind.i64.wrap (n:Int)=n:=iy
 rw[im,azb hsl,xv hsl]
 simp only[nq,vp]
 have e1:IntKind.i64.wrap ((n:Int) - IntKind.i64.wrap (((0:Nat):Int) - ((0:Nat):Int)))=n:=by
  rw[show ((0:Nat):Int) - ((0:Nat):Int)=0 from by omega,w0,Int.sub_zero,wn]
 rw[e1]
 by_cases h0:0 < n
 ·have h0':(0:Int) < n:=by omega
  simp only[h0',decide_true,Eng.cond_true]
  rw[azb hsl,arw (i:=0) (j:=0) hsl (.inl ⟨rfl,rfl⟩) (.inr ⟨.i64,rfl⟩) (Nat.le_refl _) (Nat.le_refl _)]
  refine bkm (enc:=jj) et.j (kn:= .i64) (by kernel_rfl) h0 hn (by decide) _ fun w' cap hc o f=>?_
  rw[xv hsl,arw (i:=0) (j:=0) hsl (.inl ⟨rfl,rfl⟩) (.inr ⟨.i64,rfl⟩) (Nat.le_refl _) (Nat.zero_le _)]
  rw[if_neg (by omega)]
  have:=h w' _ o f
  simpa [Addr.add,gv] using this
 ·have h0': ¬(0:Int) < n:=by omega
  simp only[h0',decide_false,Eng.cond_false]
  exact h w _ Ow.none (Fr.refl _ _)
abbrev Sls(w:World)(v:Value)(l:List Spn):Prop:=Sl w 8 jj v l
abbrev Ows(w:World)(base:Nat)(v:Value)(l:List Spn):Prop:=Ow w base T.f 8 jj v l
def tot(L:List (Value×List Spn)):Nat:=(L.map fun p=>p.2.length).sum
theorem arj{L:List (Value×List Spn)}{i:Nat}(hi:i < L.length):tot (L.take (i+1))=tot (L.take i)+L[i].2.length:=by
 unfold tot
 rw[List.take_succ_eq_append_getElem hi,List.map_append,List.sum_append];simp
theorem azu{L:List (Value×List Spn)}(i:Nat):tot (L.take i)<=tot L:=by
 unfold tot
 conv=>rhs;rw[<-List.take_append_drop i L,List.map_append,List.sum_append]
 omega
theorem bdu(L:List (Value×List Spn)):(L.flatMap (·.2)).length=tot L:=by
 unfold tot
 induction L with
 | nil=>rfl
 | cons p L ih=>simp[ih]
def CaI(w:World)(L:List (Value×List Spn)):KL:=fun x w1=> ∃(u:Value)(i:Nat),x=[u,.int .i64 (tot (L.take i):Nat),.int .i64 (i:Nat)]/\w1=w/\i<=L.length
def CbI(w:World)(L:List (Value×List Spn)):KL:=fun x w1=> ∃(u v:Value)(i:Nat),x=[u,v,.int .i64 (i:Nat)]/\i<=L.length/\Fz w w1/\Ows w1 w.heap.size v ((L.take i).flatMap (·.2))
theorem azk{w:World}{b cap:Nat}{L:List (Value×List Spn)}{e:TypeId}(hb:w.heap[b]? =some (.cells (L.map (·.1)).toArray e (0,0)))(hs: ∀p∈L,Sls w p.1 p.2)(ht:tot L<=100000000)(hL:L.length<=1000){K:KV}
  (h: ∀w' v,Ows w' w.heap.size v (L.flatMap (·.2))->Fz w w'->K v w'):jr P F.al [.slice (some ⟨b,0,none⟩) L.length cap] w K:=by
 apply M.j.calls
 unfold M.j
 have hss:nl P T.bk=true:=by kernel_rfl
 have hsl:nl P T.j=true:=by kernel_rfl
 have q0: ∀a b c:Value,gv [a,b,c] 0=a:=fun _ _ _=>rfl
 have q1: ∀a b c:Value,gv [a,b,c] 1=b:=fun _ _ _=>rfl
 have q2: ∀a b c:Value,gv [a,b,c] 2=c:=fun _ _ _=>rfl
 have q4: ∀a b c d e:Value,gv [a,b,c,d,e] 4=e:=fun _ _ _ _ _=>rfl
 have cell: ∀(w':World),Fz w w'->∀(i:Nat)(hi:i < L.length),il w' b i=some L[i].1:=fun w' f i hi=>by
  rw[iu (f.heap hb fun h=>h)]
  simp[hi]
 rw[im,xv hss]
 refine⟨CaI w L,fun x _=>L.length - ms x 2,⟨_,0,rfl,rfl,Nat.zero_le _⟩,?_⟩
 rintro x w1 ⟨u,i,rfl,rfl,hi⟩
 simp only[q0,q1,q2,nj,im]
 by_cases hil:i < L.length
 ·have hil':(i:Int) < L.length:=by omega
  simp only[hil',decide_true,Eng.cond_true]
  unfold M.j.j2
  have hwi:IntKind.i64.wrap ((i:Int)+1)=((i+1:Nat):Int):=by rw[iy];rfl
  have c0:=cell w1 (Fr.refl _ _) i hil
  have hsi:=hs L[i] (List.getElem_mem hil)
  obtain⟨a',cap',hv',_⟩:=hsi
  have htt:=arj hil
  have hle:=azu (L:=L) (i+1)
  have hwt:IntKind.i64.wrap ((tot (L.take i):Int)+(L[i].2.length:Int))=((tot (L.take (i+1)):Nat):Int):=by rw[iy];omega
  have hng: ¬((tot (L.take (i+1)):Nat):Int) < 0:=by omega
  simp only[q0,q1,q2,im]
  simp[hil,c0,hv',hwt,hwi,-Int.natCast_add]
  refine⟨⟨_,i+1,rfl,rfl,by omega⟩,?_⟩
  simp[ms,gv];omega
 ·have hie:i=L.length:=by omega
  have hil': ¬(i:Int) < L.length:=by omega
  simp only[hil',decide_false,Eng.cond_false]
  have htk:L.take i=L:=List.take_of_length_le (by omega)
  rw[htk]
  unfold M.j.j0
  simp only[q4]
  rw[M.ap.fcall]
  refine bhd (by omega) fun w2 v2 o2 f2=>?_
  rw[im,xv hss]
  refine⟨CbI w1 L,fun x _=>L.length - ms x 2,⟨_,v2,0,rfl,Nat.zero_le _,f2,o2⟩,?_⟩
  rintro x w3 ⟨u',v,j,rfl,hj,f3,o3⟩
  simp only[q0,q1,q2,nj,im]
  by_cases hjl:j < L.length
  ·have hjl':(j:Int) < L.length:=by omega
   simp only[hjl',decide_true,Eng.cond_true]
   unfold M.j.j6
   have hwj:IntKind.i64.wrap ((j:Int)+1)=((j+1:Nat):Int):=by rw[iy];rfl
   have c0:=cell w3 f3 j hjl
   have hsj:=(hs L[j] (List.getElem_mem hjl)).fr f3 fun _ _ _ h=>h
   have hl1:((L.take j).flatMap (·.2)).length=tot (L.take j):=bdu _
   have htt:=arj hjl
   have hle:=azu (L:=L) (j+1)
   simp only[q0,q1,q2,im]
   simp[hjl,c0,-List.length_flatMap]
   have hge:=f3.size
   refine zf et.j oy ni o3 hsj (by rw[hl1];omega) (by decide) hge _ fun v' w4 o4 f4 g4=>?_
   simp only[hwj]
   refine⟨⟨_,v',j+1,rfl,by omega,f3.jv f4 fun x hx he=>by have:=(o3.lt he).1;omega,?_⟩,?_⟩
   ·rw[List.take_succ_eq_append_getElem hjl,List.flatMap_append]
    simpa using o4
   ·simp[ms,gv];omega
  ·have hjl': ¬(j:Int) < L.length:=by omega
   simp only[hjl',decide_false,Eng.cond_false,q4]
   have htj:L.take j=L:=List.take_of_length_le (by omega)
   rw[htj] at o3
   exact h w3 v o3 f3
end Go.Proofs.YtgepcfcicngceaaGreatDoor.CS
set_option maxRecDepth 100000
namespace Go.Proofs.YtgepcfcicngceaaGreatDoor
open Go.Eng Go.Proofs.YtgepcfcicngceaaGreatDoor.Sint
section
variable {w0 w : World} {R : List Asn} {p : Nat} {q : Cl} {n : Nd} {g : Cfg} {A : List AE} {c : CT} {a0 : Int} {m rm um : MP} {es : List Evn} {ls : List Ltr}
def xz(t ver:Int)(sv:Value):Pk:=⟨9,t,⟨max ver 1,1⟩,jc,0,false,sv,.slice none 0 0,.slice none 0 0⟩
theorem avp(t ver:Int)(aa:Option Addr)(c d:Nat): ∀u∈pkC (xz t ver (.slice aa c d)),kw u=true:=fun u hu=>by
 simp only[pkC,xz,List.mem_cons,List.not_mem_nil,or_false] at hu
 rcases hu with rfl|rfl|rfl|rfl|rfl|rfl|rfl|rfl|rfl|rfl|rfl <;>rfl
theorem alo{v:Value}{l:List Spn}(S:St w0 w R)(hs:SlS w v l)(hlen:l.length<=1000000){K:KV}(h: ∀w' v',St w0 w' (rdA 8 jj v' l :: R)->K v' w'):ig P F.e [v] w K:=by
 rw[M.v.fcall]
 exact yg hs hlen fun w' v' s n f=>h w' v' (S.add (a:=rdA 8 jj v' l) f (B:=fun x=>v'.ownBlock=some x) ⟨s,fun b hb=>hb⟩ n)
theorem bhk{t:Int}{lv:Value}{l:List Spn}(S:St w0 w (clA p q :: kc q.tb n :: mm q.out ls :: R))(hn:sj n)(hs: ∀w' L,St w0 w' (L ++ R)->SlS w' lv l)(hl:l.length<=1000000)(hls:ls.length<=200){K:KV}
  (h: ∀w' ov sv hh,St w0 w' (clA p {q with out:=ov} :: mm ov (ls ++ pa [200] (xz t (qk n) sv) hh) :: kc q.tb n :: R)->K (.tuple #[]) w'):ig P F.bn [km p,.int .u64 t,lv] w K:=by
 rw[M.bg.fcall]
 apply M.bg.calls
 unfold M.bg
 have S1:=S.ju ((Fr.refl _ w).dr 1)
 rw[pu]
 generalize dr w 1=w1 at *
 refine abh fun K0 hK0=>?_
 have e0: ∀{w':World}{L:List Asn},St w0 w' L->clA p q∈L->il w' p 0=some (.int .u64 1):=fun S' hm=>(oa S' hm).1
 have fin: ∀{w':World}{tb:Nat},St w0 w' (baB tb ⟨max (qk n) 1,1⟩ :: clA p q :: kc q.tb n :: mm q.out ls :: R)->∀x,gv x 9= .pointer (some ⟨tb,0,none⟩)->K0 x w':=fun{w' tb} S' x hx=>by
  refine hK0 _ _ ?_
  unfold M.bg.j0
  have S2:=S'.ju ((Fr.refl _ w').dr 1)
  rw[pu]
  generalize dr w' 1=w2 at *
  refine abh fun K1 hK1=>?_
  have lb: ∀{w':World}{L:List Asn},St w0 w' L->baB tb ⟨max (qk n) 1,1⟩∈L->∀K,ldN P 2 tb 0 w' K=K (kq ⟨max (qk n) 1,1⟩) w':=fun S' hm K=>by
   obtain⟨s,t,rfl⟩:=List.append_of_mem hm
   exact (S'.perm List.perm_middle).ldA (n:=2) (i:=0) (ud ⟨max (qk n) 1,1⟩) rfl rfl K
  have e3: ∀{w':World}{L:List Asn},St w0 w' L->clA p q∈L->il w' p 3=some (.int .u64 200):=fun S' hm=>by
   obtain⟨_,_,e,_⟩:=oa S' hm
   exact e
  have bld: ∀(aa:Option Addr)(c d:Nat) w' K,jg P T.c #[(0,.int .i64 9),(1,.int .u64 t),(2,kq ⟨max (qk n) 1,1⟩),(6,.slice aa c d)] w' K=K (pkA (xz t (qk n) (.slice aa c d))) w':=fun aa c d w' K=>by
   simp[kq,pkA,pkC,xz,jc]
  simp only[km]
  simp[hx,lb S2,e3 S2]
  have sd: ∀{w':World}{uv:Value}{aa:Option Addr}{c d:Nat}{K':KV},St w0 w' (yu uv [200] :: clA p q :: kc q.tb n :: mm q.out ls :: R)->(∀w2,(∃ov sv hh,St w0 w2 (clA p {q with out:=ov} :: mm ov (ls ++ pa [200] (xz t (qk n) sv) hh) :: kc q.tb n :: R))->K' (.tuple #[]) w2)->ig P F.f [km p,pkA (xz t (qk n) (.slice aa c d)),uv] w' K':=fun S3 h3=>by
   refine aii (to:=[200]) (S3.pick (L:=[_,_,_,_]) [1,3,0,2] 4 rfl (by decide)) (avp _ _ _ _ _) (fun w' L S'=>(S'.perm List.perm_middle).row oe) (by simp;omega) fun w4 ov S4=>h3 w4 ?_
   exact⟨ov,_,_,S4.pick (L:=[_,_,_,_]) [0,1,3] 4 rfl (by decide)⟩
  have nu: ∀{w':World}{L:List Asn},St w0 w' L->St w0 (w'.alloc (.cells #[.int .u64 200] T.a)) (yu (.slice (some ⟨w'.heap.size,0,none⟩) 1 1) [200] :: L):=fun S'=>St.ug (l:=[(200:Int)]) S' oe rfl (by simp[maxLen])
  have ed: ∀{w':World} x,(∃ov sv hh,St w0 w' (clA p {q with out:=ov} :: mm ov (ls ++ pa [200] (xz t (qk n) sv) hh) :: kc q.tb n :: R))->K1 x w':=fun x ⟨ov,sv,hh,S'⟩=>hK1 _ _ (h _ ov sv hh S')
  have hs2: ∀w' L,St w0 w' (L ++ (baB tb ⟨max (qk n) 1,1⟩ :: clA p q :: kc q.tb n :: mm q.out ls :: R))->SlS w' lv l:=fun w' L S'=>hs w' (L ++ [_,_,_,_]) (by simpa using S')
  refine⟨?_,?_⟩
  ·refine alo S2 (hs2 w2 [] S2) hl fun w3 v3 S3=>?_
   obtain⟨aa,cc,rfl,_⟩:=S3.rd
   have S4:=nu S3
   simp[e3 S3,lb S3,bld,lb S4]
   exact sd (S4.pick (L:=[_,_,_,_,_,_]) [0,3,4,5] 6 rfl (by decide)) fun w5 h5=>ed _ h5
  ·have S3:=nu S2
   simp[lb S3]
   refine alo S3 (hs2 _ [_] S3) hl fun w4 v4 S4=>?_
   obtain⟨aa,cc,rfl,_⟩:=S4.rd
   simp[e3 S4,lb S4,bld]
   exact sd (S4.pick (L:=[_,_,_,_,_,_]) [1,3,4,5] 6 rfl (by decide)) fun w5 h5=>ed _ h5
 have vr: ∀{w':World}{L:List Asn}{K':KV},St w0 w' (clA p q :: kc q.tb n :: L)->(∀w2,St w0 w2 (clA p q :: kc q.tb n :: L)->K' (.int .u64 (qk n)) w2)->ig P F.g [.pointer (some ⟨p,0,none⟩)] w' K':=fun S' h'=>alg S' hn h'
 have bb: ∀w' K,jg P T.e #[(0,.int .u64 (max (qk n) 1)),(1,.int .u64 1)] w' K=K (kq ⟨max (qk n) 1,1⟩) w':=fun w' K=>by simp[kq]
 simp only[km]
 simp[e0 S1]
 refine⟨?_,?_⟩
 ·refine vr S1 fun w2 S2=>?_
  have S3:=aby S2
  simp[e0 S2,e0 S3,si,bb]
  exact adg S3 fun w4 S4=>fin S4 _ rfl
 ·have S2:=(aby S1).pick (L:=[_,_,_,_]) [1,2,3,0] 4 rfl (by decide)
  simp[e0 S2 (by simp)]
  refine vr S2 fun w3 S3=>?_
  simp[e0 S3 (by simp),si,bb]
  exact adg (S3.pick (L:=[_,_,_,_]) [3,0,1,2] 4 rfl (by decide)) fun w4 S4=>fin S4 _ rfl
end
set_option maxRecDepth 100000
section
variable {w0 w : World} {R : List Asn} {p : Nat} {q : Cl} {n : Nd} {g : Cfg} {A : List AE} {c : CT} {a0 : Int} {m rm um : MP} {es : List Evn} {ls : List Ltr}
theorem anq{cb:Nat}{v1 v2:Value}{l1 l2:List Spn}(S:St w0 w (ja cb #[v1,v2] T.j :: R))(h1:SlS w v1 l1)(h2:SlS w v2 l2)(hl1:l1.length<=1000000)(hl2:l2.length<=1000000){K:KV}(h: ∀w' v',St w0 w' (vz v' (l1 ++ l2) :: R)->K v' w'):ig P F.al [.slice (some ⟨cb,0,none⟩) 2 2] w K:=by
 rw[M.j.fcall]
 refine CS.azk (b:=cb) (cap:=2) (L:=[(v1,l1),(v2,l2)]) (e:=T.j) S.blk (by
  intro p hp
  simp only[List.mem_cons,List.not_mem_nil,or_false] at hp
  rcases hp with rfl|rfl
  ·exact h1
  ·exact h2) (by simp[CS.tot];omega) (by simp) fun w' v o f=>?_
 have e:[(v1,l1),(v2,l2)].flatMap (·.2)=l1 ++ l2:=by simp
 rw[e] at o
 exact h w' v (S.drop.add (a:=vz v (l1 ++ l2)) f (B:=fun b=>v.ownBlock=some b) ⟨o.mono (Nat.zero_le _),fun b hb=>hb⟩ fun b hb=>⟨(o.lt hb).1,(o.lt hb).2⟩)
theorem aym{x1:Value}{tb:Nat}{s:Spn}{L0:List Asn}(hx:x1= .pointer (some ⟨tb,0,none⟩)):avo w0 (ja tb (jj s).toArray T.f :: L0) (.func (.func F.bu) #[] #[x1]) fun x=>decide (x.id=s.id):=fun w' L x K S' hK=>by
 subst hx
 rw[M.ce.rcall]
 apply M.ce.calls
 unfold M.ce ki
 have S0:=St.jy w'
 refine St.td S0 fun b w1 S1=>?_
 have c1:il w1 b 1=some (.int .u64 x.id):=by rw[S1.cell];rfl
 have f1:Fz w' w1:=S1.fr
 have ct:il w1 tb 1=some (.int .u64 s.id):=by
  rw[((S'.perm List.perm_middle).ju f1).cell]
  rfl
 simp[c1,ct]
 exact hK w1 f1
theorem zm{α:Type}{e:TypeId}{sz:Nat}{enc:α->List Value}{v:Value}{l:List α}{L:List Asn}(S:St w0 w L)(h:ph e sz enc v l∈L)(he: ∀x,(enc x).length=sz):Sl w sz enc v l:=by
 obtain⟨s,t,rfl⟩:=List.append_of_mem h
 exact (S.perm List.perm_middle).row he
def aes(now t:Int)(s:Spn):Evn:=⟨4,now,1,t,jc,1,s,0⟩
def WoI(w0:World)(L:List Asn)(s:Spn):KL:=fun x w1=> ∃(u0 u1 u2 fv:Value)(i:Nat),x=[u0,u1,u2,fv,.int .i64 (i:Nat)]/\i<=1/\(i=0->fv= .slice none 0 0)/\St w0 w1 (vz fv ([s].take i) :: L)
def WeI(w0:World)(p:Nat)(q:Cl)(s:Spn)(t:Int)(L:List Asn)(es:List Evn):KL:=fun x w1=> ∃(i:Nat),x=[.int .i64 (i:Nat)]/\i<=1/\∃ev,St w0 w1 (clA p {q with ev:=ev} :: mu ev (es ++ [aes q.now t s].take i) :: L)
theorem bbh{t:Int}{lv:Value}{s:Spn}(S:St w0 w (lk p q n g A c a0 m es ls rm [] ++ R))(hn:sj n)(htr:0 < q.tr)(hs: ∀w' L,St w0 w' (L ++ R)->SlS w' lv [s])(hes:es.length<=1000)(hls:ls.length<=200){K:KV}
  (h: ∀w' ov ev uv sv hh,St w0 w' (lk p {q with out:=ov,ev:=ev} n g A c a0 m (es ++ [aes q.now t s]) (ls ++ pa [200] (xz t (qk n) sv) hh) rm [(t,uv)] ++ R)->K (.tuple #[]) w'):ig P F.cd [km p,.int .u64 t,lv] w K:=by
 rw[M.f.fcall]
 apply M.f.calls
 unfold M.f
 obtain⟨_,_,_,_,_,_,_,_,_,_,c19,_⟩:=oa (p:=p) (q:=q) S (by simp)
 have hmp:=(S.pick (L:=[_,_,_,_,_,_,_,_,_,_,_]) [10] 11 rfl (by decide)).mp
 have hlu: ∀K,luT P T.v (.map (some q.un)) (.int .u64 t) true w K=K (.tuple #[.slice none 0 0,.bool false]) w:=fun K=>by
  rw[att mt.v hmp]
  rfl
 simp only[km]
 simp[c19,hlu]
 have S1:=S.ju ((Fr.refl _ w).dr 1)
 generalize dr w 1=w1 at *
 obtain⟨_,_,_,_,_,_,_,_,_,_,d19,_⟩:=oa (p:=p) (q:=q) S1 (by simp)
 have d9:il w1 p 9=some (.int .i64 q.tr):=by
  obtain⟨_,_,_,_,_,_,e,_⟩:=lx S1
  exact e
 have hmp1:=(S1.pick (L:=[_,_,_,_,_,_,_,_,_,_,_]) [10] 11 rfl (by decide)).mp
 have hl:=fun cs K=>adw (ty:=T.d) mt.v hmp1 cs K
 have hnt: ¬q.tr<=0:=by omega
 simp[d19,d9,hl,hnt]
 unfold M.f.j0
 have hln: ∀w' K,biT P .len #[T.j] T.d [false] [lv] w' K=K (.int .i64 1) w':=fun w' K=>(hs w1 _ S1).jp (by kernel_rfl) [false]
 have hs2: ∀w' L,St w0 w' (L ++ (lk p q n g A c a0 m es ls rm [] ++ R))->SlS w' lv [s]:=fun w' L S'=>hs w' (L ++ _) (by rw[List.append_assoc];exact S')
 generalize hG:lk p q n g A c a0 m es ls rm [] ++ R=G at *
 refine abh fun K1 hK1=>?_
 simp only[hln,im]
 refine⟨WoI w0 G s,fun x _=>1 - ms x 4,⟨_,_,_,_,0,rfl,Nat.zero_le _,fun _=>rfl,Go.Eng.wg S1⟩,?_⟩
 rintro x w2 ⟨u0,u1,u2,fv,i,rfl,hi,hfv,S2⟩
 by_cases hi0:i=0
 ·subst hi0
  obtain rfl:=hfv rfl
  simp
  unfold M.f.j3
  obtain⟨ab,ao,cap,hv,_,_,hc⟩:=(hs2 w2 [_] S2).at (i:=0) (by simp)
  have hia: ∀w' K,iaT P T.j lv (.int .i64 0) w' K=K (.pointer (some ⟨ab,ao,none⟩)) w':=fun w' K=>by rw[hv];simp
  have hld: ∀K,ldN P 8 ab ao w2 K=K (ki s) w2:=fun K=>sm (jj s) 8 rfl (fun k u hk=>by have:=hc k u hk;simpa using this) K
  simp[hia,hld]
  have S3:=S2.mkB #[.int .u64 0,.int .u64 0,.int .u64 0,.int .u64 0,.int .u64 0,.string ⟨#[]⟩,.string ⟨#[]⟩,.bool false] T.f
  generalize w2.heap.size=tb at *
  generalize w2.alloc _=w3 at *
  unfold ki
  simp
  refine St.put (vs:=jj s) (cs':=(jj s).toArray) S3 (ni s) (by simp[jj]) (by simp[jj]) fun w4 S4=>?_
  have S5:=S4.mkB #[.slice none 0 0,.slice none 0 0] T.j
  refine anq (l1:=[]) (l2:=[]) S5 Sl.nil Sl.nil (by simp) (by simp) fun w6 v6 S6=>?_
  rw[aas]
  have S6':St w0 w6 (spB tb s :: vz v6 [] :: vz (.slice none 0 0) [] :: G):=S6.swap
  refine arh (l:=[]) S6' (fun w' L S'=>zm S' (e:=T.f) (v:=v6) (by simp) oy) (aym rfl) (by simp) fun w7 S7=>?_
  have ld8: ∀K,ldN P 8 tb 0 w7 K=K (ki s) w7:=fun K=>S7.ldA (n:=8) (i:=0) (jj s) rfl rfl K
  simp only[List.any_nil,ij,show IntKind.i64.wrap 0=0 from by decide,show IntKind.i64.wrap 1=1 from by decide,ld8,azz]
  simp
  have S8:St w0 (w7.alloc (.cells #[.int .u64 s.je,.int .u64 s.id,.int .u64 s.me,.int .u64 s.jy,.int .u64 s.len,.string s.kp,.string s.name,.bool s.ny] T.f)) (vz (.slice (some ⟨w7.heap.size,0,none⟩) 1 1) [s] :: _):=St.ug (l:=[s]) S7 oy (by simp[jj]) (by simp[maxLen])
  generalize w7.heap.size=nb at *
  generalize w7.alloc _=w8 at *
  have S9:St w0 w8 (vz (.slice none 0 0) [] :: vz (.slice (some ⟨nb,0,none⟩) 1 1) [s] :: G):=S8.pick (L:=[_,_,_,_]) [3,0] 4 rfl (by decide)
  refine Go.Eng.ux et.j oy ni S9 (S9.swap.row oy) (by simp) (by decide) fun w10 v10 S10=>?_
  exact⟨⟨_,_,_,v10,1,rfl,Nat.le_refl _,fun h=>absurd h (by decide),S10.swap.drop⟩,by simp[ms,gv]⟩
 ·have hi1:i=1:=by omega
  subst hi1
  simp
  refine hK1 _ _ ?_
  unfold M.f.j1
  have S3:St w0 w2 (vz fv [s] :: G):=S2
  obtain⟨fa,fc,rfl,_⟩:=S3.row oy
  have hlf: ∀{w':World}{L:List Asn},St w0 w' L->vz (.slice fa 1 fc) [s]∈L->∀K,biT P .len #[T.j] T.d [false] [.slice fa 1 fc] w' K=K (.int .i64 1) w':=fun S' hm K=>(zm S' hm oy).jp (by kernel_rfl) [false]
  simp[hlf S3]
  unfold M.f.j6
  have S4:=S3.ju ((Fr.refl _ w2).dr 1)
  rw[pu]
  generalize dr w2 1=w4 at *
  subst hG
  obtain⟨_,_,_,_,_,_,_,_,_,_,e19,_⟩:=oa (p:=p) (q:=q) S4 (by simp)
  have S5:=S4.mkB #[.slice none 0 0,.slice fa 1 fc] T.j
  obtain⟨_,_,_,_,_,_,_,_,_,_,f19,_⟩:=oa (p:=p) (q:=q) S5 (by simp)
  simp[e19,f19]
  refine anq (l1:=[]) (l2:=[s]) S5 Sl.nil (S5.swap.row oy) (by simp) (by simp) fun w6 v6 S6=>?_
  obtain⟨_,_,_,_,_,_,_,_,_,_,g19,_⟩:=oa (p:=p) (q:=q) S6 (by simp)
  simp[g19]
  have S7:St w0 w6 (jl q.un .u64 [] :: vz (.slice fa 1 fc) [s] :: clA p q :: kc q.tb n :: mr q.hb g A c :: pd q.kb a0 m :: mu q.ev es :: mm q.out ls :: rdA 1 mh q.rep [101] :: rdA 4 li q.rul [jz] :: jl q.ru .u64 rm :: jl q.se .u64 [] :: R):=S6.pick (L:=[_,_,_,_,_,_,_,_,_,_,_,_,_]) [12,1,2,3,4,5,6,7,8,9,10,11] 13 rfl (by decide)
  refine S7.avv mt.v t v6 fun w8 S8=>?_
  rw[show uj ([]:MP) t v6=[(t,v6)] from rfl] at S8
  have S9:St w0 w8 (clA p q :: mu q.ev es :: vz (.slice fa 1 fc) [s] :: kc q.tb n :: mr q.hb g A c :: pd q.kb a0 m :: mm q.out ls :: rdA 1 mh q.rep [101] :: rdA 4 li q.rul [jz] :: jl q.ru .u64 rm :: jl q.se .u64 [] :: jl q.un .u64 [(t,v6)] :: R):=S8.pick (L:=[_,_,_,_,_,_,_,_,_,_,_,_]) [2,6,1,3,4,5,7,8,9,10,11,0] 12 rfl (by decide)
  refine⟨WeI w0 p q s t (vz (.slice fa 1 fc) [s] :: kc q.tb n :: mr q.hb g A c :: pd q.kb a0 m :: mm q.out ls :: rdA 1 mh q.rep [101] :: rdA 4 li q.rul [jz] :: jl q.ru .u64 rm :: jl q.se .u64 [] :: jl q.un .u64 [(t,v6)] :: R) es,fun x _=>1 - ms x 0,⟨0,rfl,Nat.zero_le _,q.ev,by simpa using S9⟩,?_⟩
  rintro x w10 ⟨j,rfl,hj,evv,S10⟩
  by_cases hj0:j=0
  ·subst hj0
   simp
   unfold M.f.j9
   have S11:=S10
   simp only[List.take_zero,List.append_nil] at S11
   obtain⟨ab,ao,cap,hv,_,_,hc⟩:=(zm S11 (e:=T.f) (v:= .slice fa 1 fc) (l:=[s]) (by simp) oy).at (i:=0) (by simp)
   have hia: ∀w' K,iaT P T.j (.slice fa 1 fc) (.int .i64 0) w' K=K (.pointer (some ⟨ab,ao,none⟩)) w':=fun w' K=>by rw[hv];simp
   have hld: ∀K,ldN P 8 ab ao w10 K=K (ki s) w10:=fun K=>sm (jj s) 8 rfl (fun k u hk=>by have:=hc k u hk;simpa using this) K
   simp[hia,hld]
   have S12:=S11.mkB #[.int .u64 0,.int .u64 0,.int .u64 0,.int .u64 0,.int .u64 0,.string ⟨#[]⟩,.string ⟨#[]⟩,.bool false] T.f
   generalize w10.heap.size=tb at *
   generalize w10.alloc _=w11 at *
   unfold ki
   simp
   refine St.put (vs:=jj s) (cs':=(jj s).toArray) S12 (ni s) (by simp[jj]) (by simp[jj]) fun w13 S13=>?_
   have ld8: ∀K,ldN P 8 tb 0 w13 K=K (ki s) w13:=fun K=>S13.ldA (n:=8) (i:=0) (jj s) rfl rfl K
   have be: ∀K,jg P T.ap #[(0,.int .i64 4),(3,.int .u64 t),(5,.int .i64 1),(6,ki s)] w13 K=K (evA ⟨4,0,0,t,jc,1,s,0⟩) w13:=fun K=>by simp[ki,evA,evC,jc]
   simp[ld8,be]
   refine acl (S13.pick (L:=[_,_,_]) [1,2] 3 rfl (by decide)) ⟨4,0,0,t,jc,1,s,0⟩ (by omega) fun w14 v14 S14=>?_
   exact⟨⟨1,rfl,Nat.le_refl _,v14,S14⟩,by simp[ms,gv,show IntKind.i64.wrap 1=1 from by decide]⟩
  ·have hj1:j=1:=by omega
   subst hj1
   simp
   have S11:St w0 w10 (clA p {q with ev:=evv} :: kc q.tb n :: mm q.out ls :: vz (.slice fa 1 fc) [s] :: mu evv (es ++ [aes q.now t s]) :: mr q.hb g A c :: pd q.kb a0 m :: rdA 1 mh q.rep [101] :: rdA 4 li q.rul [jz] :: jl q.ru .u64 rm :: jl q.se .u64 [] :: jl q.un .u64 [(t,v6)] :: R):=S10.pick (L:=[_,_,_,_,_,_,_,_,_,_,_,_]) [0,3,6,2,1,4,5,7,8,9,10,11] 12 rfl (by decide)
   refine bhk (q:={q with ev:=evv}) (l:=[s]) S11 hn (fun w' L S'=>zm S' (e:=T.f) (by simp) oy) (by simp) hls fun w12 ov sv hh S12=>?_
   exact h w12 ov evv v6 sv hh (S12.pick (L:=[_,_,_,_,_,_,_,_,_,_,_,_]) [0,2,5,6,4,1,7,8,9,10,11] 12 rfl (by decide))
end
section
variable {w0 w : World} {R : List Asn} {p : Nat} {q : Cl} {n : Nd} {g : Cfg} {A : List AE} {c : CT} {a0 : Int} {m rm um : MP} {es : List Evn} {ls : List Ltr}
theorem azx{inc:Int}(S:St w0 w (clA p q :: kc q.tb n :: R))(hn:sj n)(hs:abt n inc){K:KV}(h: ∀w' v,St w0 w' (rdA 1 mh v [] :: clA p q :: kc q.tb n :: R)->K v w'):ig P F.bz [km p] w K:=by
 rw[M.cj.fcall]
 apply M.cj.calls
 unfold M.cj
 rw[ub]
 have hc1:(km p).cells= #[km p]:=rfl
 rw[hc1]
 have S1:=S.mkB #[km p] T.ak
 generalize w.heap.size=tb at *
 generalize w.alloc _=w1 at *
 have ct: ∀{w':World}{L:List Asn},St w0 w' L->ja tb #[km p] T.ak∈L->il w' tb 0=some (km p):=fun S' hm=>by
  obtain⟨s,t,rfl⟩:=List.append_of_mem hm
  rw[(S'.perm List.perm_middle).cell]
  rfl
 obtain⟨_,_,_,_,_,c14,_⟩:=oa (p:=p) (q:=q) S1 (by simp)
 simp[ct S1,c14]
 refine amo (S1.pick (L:=[_,_,_]) [2,0,1] 3 rfl (by decide)) hn fun w2 v2 S2=>?_
 refine auf (l:=n.v) S2 (fun w' L S'=>aez S' (by simp)) (by have:=hn.zj.few;omega) fun w3 v3 S3=>?_
 rw[adu hn hs] at S3
 obtain⟨g,cap,cur,rfl,_,n1,_⟩:=S3.aim (k:=0) (by simp)
 have e1:([1]:List Int).length=1:=rfl
 rw[e1] at S3 n1⊢
 rw[aas,M.n.fcall]
 apply M.n.calls
 unfold M.n
 rw[M.an.fcall]
 apply M.an.calls
 unfold M.an
 simp only[im,xv (show nl P T.i=true from by kernel_rfl)]
 refine⟨fun x w'=>x=[undef,.int .i64 0,.int .i64 0]/\w'=w3,fun _ _=>0,⟨rfl,rfl⟩,?_⟩
 rintro x w' ⟨rfl,rfl⟩
 obtain⟨_,ao,_,hv,_,_,hc⟩:=(S3.row (fun _=>rfl)).at (i:=0) (by simp)
 have hcell:il w' g 0=some (.int .u64 1):=by
  injection hv with h1 _ _
  injection h1 with h1
  injection h1 with h1 h2 _
  subst h1 h2
  simpa [Suint64.sf] using hc 0 _ rfl
 simp
 unfold M.an.j2
 simp[hcell]
 have hcl:=M.bz.rcall [] [.pointer (some ⟨tb,0,none⟩)] [.int .u64 1] w'
 simp only[List.nil_append,List.cons_append] at hcl
 rw[show (#[Value.pointer (some ⟨tb,0,none⟩)]:Array Value)=[Value.pointer (some ⟨tb,0,none⟩)].toArray from rfl,show (#[]:Array Value)=([]:List Value).toArray from rfl,hcl]
 apply M.bz.calls
 unfold M.bz
 obtain⟨c0,_⟩:=oa (p:=p) (q:=q) S3 (by simp)
 simp[ct S3 (by simp),c0]
 unfold M.n.j0
 simp only[im]
 simp
 refine⟨fun x w1=>x=[undef,.int .i64 0,.int .i64 1]/\w1=w',fun _ _=>0,⟨by rw[show IntKind.i64.wrap 1=1 from by decide],rfl⟩,?_⟩
 rintro x w1 ⟨rfl,rfl⟩
 unfold M.n.j2
 simp only[im]
 have e2: ∀w' K,slT P T.i (.slice (some ⟨g,0,none⟩) 1 cap) (some (.int .i64 0)) none none w' K=K (.slice (some ⟨g,0 * 1,none⟩) (1 - 0) cap) w':=fun w' K=>by
  rw[bmc (by kernel_rfl) (by omega) (by omega),show szE P T.i=1 from by kernel_rfl]
  simp
 have e3: ∀w' K,slT P T.i (.slice (some ⟨g,0,none⟩) 1 cap) none (some (.int .i64 0)) none w' K=K (.slice (some ⟨g,0,none⟩) 0 cap) w':=fun w' K=>by
  rw[awd (by kernel_rfl) (by omega) (by omega)]
  simp
 simp only[xv (show nl P T.i=true from by kernel_rfl)]
 simp only[nj,gv,List.getD_cons_succ,List.getD_cons_zero,ij]
 simp
 rw[e2]
 refine bec (by':=8) et.i (by kernel_rfl) (fun _=>rfl) S3 (by decide) fun w4 S4=>?_
 exact h w4 _ (S4.pick (L:=[_,_,_,_,_]) [0,4,2] 5 rfl (by decide))
theorem awm{t:Int}{s:Spn}{rb:Nat}(S:St w0 w (lk p q n g A c 0 [] es ls [(t,.pointer (some ⟨rb,0,none⟩))] [] ++ R))(hn:sj n)(htr:0 < q.tr)(hA:A.length<=1000)(hu: ∀x∈A,x.t=t->x.l=[s])(he: ∃x∈A,x.t=t)(ht:t≠0)(hes:es.length<=1000)(hls:ls.length<=200){K:KV}
  (h: ∀w' ov ev uv sv hh,St w0 w' (lk p {q with out:=ov,ev:=ev} n g (tx A t) (qu c t) t [(t,.int .i64 1)] (es ++ [aes q.now t s]) (ls ++ pa [200] (xz t (qk n) sv) hh) [] [(t,uv)] ++ R)->K (.tuple #[]) w'):ig P F.bh [km p,.int .u64 t,.int .i64 1] w K:=by
 rw[M.ci.fcall]
 apply M.ci.calls
 unfold M.ci
 obtain⟨_,_,_,_,_,_,_,c16,_⟩:=oa (p:=p) (q:=q) S (by simp)
 simp only[km]
 simp[c16]
 refine bgs (S.pick (L:=[_,_,_,_,_,_,_,_,_,_,_]) [3,0,1,2,4,5,6,7,8,9,10] 11 rfl (by decide)) ht (by omega) fun w1 S1=>?_
 obtain⟨_,_,_,_,_,_,_,_,c17,_⟩:=oa (p:=p) (q:=q) S1 (by simp)
 simp[c17]
 have S2:St w0 w1 (jl q.ru .u64 [(t,.pointer (some ⟨rb,0,none⟩))] :: jl q.se .u64 [] :: clA p q :: kc q.tb n :: mr q.hb g A c :: pd q.kb t [(t,.int .i64 1)] :: mu q.ev es :: mm q.out ls :: rdA 1 mh q.rep [101] :: rdA 4 li q.rul [jz] :: jl q.un .u64 [] :: R):=S1.pick (L:=[_,_,_,_,_,_,_,_,_,_,_]) [8,9,1,2,3,0,4,5,6,7,10] 11 rfl (by decide)
 refine S2.bft mt.x t fun w3 S3=>?_
 rw[show vf ([(t,.pointer (some ⟨rb,0,none⟩))]:MP) t=[] from by simp[vf]] at S3
 obtain⟨_,_,_,_,_,_,_,_,_,d18,_⟩:=oa (p:=p) (q:=q) S3 (by simp)
 simp[d18]
 refine S3.swap.bft mt.u t fun w4 S4=>?_
 rw[show vf ([]:MP) t=[] from rfl] at S4
 obtain⟨_,_,_,_,_,_,e15,_⟩:=oa (p:=p) (q:=q) S4 (by simp)
 simp[e15]
 have S5:St w0 w4 (mr q.hb g A c :: clA p q :: kc q.tb n :: pd q.kb t [(t,.int .i64 1)] :: mu q.ev es :: mm q.out ls :: rdA 1 mh q.rep [101] :: rdA 4 li q.rul [jz] :: jl q.ru .u64 [] :: jl q.se .u64 [] :: jl q.un .u64 [] :: R):=S4.pick (L:=[_,_,_,_,_,_,_,_,_,_,_]) [4,2,3,5,6,7,8,9,1,0,10] 11 rfl (by decide)
 refine bex S5 hA t (fun hno=>by
  obtain⟨x,hx,hxt⟩:=he
  exact absurd hxt (hno x hx)) fun x hx hxt w5 v5 S6=>?_
 rw[hu x hx hxt] at S6
 have hln: ∀w' K,biT P .len #[T.j] T.d [false] [v5] w' K=K (.int .i64 1) w':=fun w' K=>S6.rd.jp (by kernel_rfl) [false]
 simp[hln]
 refine bbh (a0:=t) (rm:=[]) (s:=s) (S6.pick (L:=[_,_,_,_,_,_,_,_,_,_,_,_]) [2,3,1,4,5,6,7,8,9,10,11,0] 12 rfl (by decide)) hn htr (fun w' L S'=>aez S' (by simp)) hes hls fun w7 ov ev uv sv hh S7=>?_
 exact h w7 ov ev uv sv hh (S7.pick (L:=[_,_,_,_,_,_,_,_,_,_,_,_]) [0,1,2,3,4,5,6,7,8,9,10] 12 rfl (by decide))
end
section
variable {w0 w : World} {R : List Asn} {p : Nat} {q : Cl} {n : Nd} {g : Cfg} {A : List AE} {c : CT} {a0 : Int} {m rm um : MP} {es : List Evn} {ls : List Ltr}
theorem alm{t v half:Int}{b:Bal}{rb:Nat}(S:St w0 w (lk p q n g A c 0 [] es ls [(t,.pointer (some ⟨rb,0,none⟩))] [] ++ pq rb t b v half :: R))(hh:half=0\/half=1)(ht:0 < t/\t < 18446744073709551616)(hb:b.rng)(hb0:0 < b.n){K:KV}
  (h: ∀w' pb,St w0 w' (ja pb (pkC (qo t b half)).toArray T.c :: pq rb t b v (half+1) :: (lk p q n g A c 0 [] es ls [(t,.pointer (some ⟨rb,0,none⟩))] [] ++ R))->M.m.j1 (.pointer (some ⟨rb,0,none⟩)) (.pointer (some ⟨pb,0,none⟩)) (km p) (.int .i64 (if half=1 then 6 else 4)) w' K):ig P F.am [km p,.int .u64 101,pkA (qo t b half)] w K:=by
 rw[M.m.fcall]
 apply M.m.calls
 unfold M.m pkA
 refine St.td S fun pb w1 S1=>?_
 have S2:St w0 (dr w1 1) (ja pb (pkC (qo t b half)).toArray T.c :: _):=S1.ju ((Fr.refl _ w1).dr 1)
 obtain⟨_,_,_,_,_,_,_,_,c17,_⟩:=oa (p:=p) (q:=q) S2 (by simp)
 have k1:il (dr w1 1) pb 1=some (.int .u64 t):=by rw[S2.cell];rfl
 have hmp:=(S2.pick (L:=[_,_,_,_,_,_,_,_,_,_,_,_]) [9] 12 rfl (by decide)).mp
 have lu: ∀K,luT P T.x (.map (some q.ru)) (.int .u64 t) false (dr w1 1) K=K (.pointer (some ⟨rb,0,none⟩)) (dr w1 1):=fun K=>by
  rw[tp mt.x hmp]
  simp[kl]
 simp only[km]
 simp[c17,k1,lu]
 unfold M.m.j0
 have S3:St w0 (dr w1 1) (pq rb t b v half :: ja pb (pkC (qo t b half)).toArray T.c :: (lk p q n g A c 0 [] es ls [(t,.pointer (some ⟨rb,0,none⟩))] [] ++ R)):=S2.pick (L:=[_,_,_,_,_,_,_,_,_,_,_,_,_]) [12,0,1,2,3,4,5,6,7,8,9,10,11] 13 rfl (by decide)
 generalize dr w1 1=w2 at *
 refine alx S3 hh fun w4 S4=>?_
 have fd: ∀w' K,fdT P T.c (pkA (sq t b v half)) 0 w' K=K (.int .i64 (if half=1 then 6 else 4)) w':=fun w' K=>by
  refine Eq.trans ?_ rfl
  kernel_rfl
 simp[fd,we S4.swap]
 refine bco S4 hh ht hb hb0 fun w5 S5=>?_
 simp
 exact h w5 pb S5.swap
theorem aus{t v:Int}{b:Bal}{rb:Nat}(S:St w0 w (lk p q n g A c 0 [] es ls [(t,.pointer (some ⟨rb,0,none⟩))] [] ++ pq rb t b v 0 :: R))(ht:0 < t/\t < 18446744073709551616)(hb:b.rng)(hb0:0 < b.n)(hls:ls.length<=200){K:KV}
  (h: ∀w' ov,St w0 w' (lk p {q with out:=ov} n g A c 0 [] es (ls ++ pa [101] (sq t b v 1) px) [(t,.pointer (some ⟨rb,0,none⟩))] [] ++ pq rb t b v 1 :: R)->K (.tuple #[]) w'):ig P F.am [km p,.int .u64 101,pkA (qo t b 0)] w K:=by
 refine alm S (.inl rfl) ht hb hb0 fun w1 pb S1=>?_
 unfold M.m.j1
 simp only[im]
 refine anp S1.swap (fun h=>absurd h (by decide)) fun _=>?_
 simp
 unfold M.m.j2
 refine alx S1.swap (.inr rfl) fun w2 S2=>?_
 have S3:=aww S2
 simp
 generalize w2.heap.size=qb at *
 generalize w2.alloc _=w3 at *
 rw[bji]
 refine awg (q:=sq t b v 1) S3 rfl px fun w4 S4=>?_
 have k0:il w4 qb 0=some (.int .i64 6):=by rw[S4.cell];rfl
 have S5:=S4.ju ((Fr.refl _ w4).dr 1)
 simp[k0,we S5]
 refine aqx S5.swap (.inr rfl) fun w6 ov S6=>?_
 have S7:St w0 w6 (ja qb (pkC (sq t b v 1)).toArray T.c :: rk ov [101] :: pq rb t b v 1 :: ja pb (pkC (qo t b 0)).toArray T.c :: (lk p q n g A c 0 [] es ls [(t,.pointer (some ⟨rb,0,none⟩))] [] ++ R)):=S6.pick (L:=[_,_,_,_]) [2,0,1,3] 4 rfl (by decide)
 simp[we S7]
 refine aii (to:=[101]) (S7.pick (L:=[_,_,_,_,_,_,_,_,_,_,_,_,_,_,_]) [4,9,1,2,5,6,7,8,10,11,12,13,14] 15 rfl (by decide)) px (fun w' L S'=>zm S' (e:=T.a) (v:=ov) (by simp) oe) (by simp;omega) fun w8 lv S8=>?_
 exact h w8 lv (S8.pick (L:=[_,_,_,_,_,_,_,_,_,_,_,_,_]) [0,4,5,6,7,1,8,9,10,11,12,3] 13 rfl (by decide))
theorem bba{t:Int}{b:Bal}{rb:Nat}{s:Spn}{inc:Int}(S:St w0 w (lk p q n g A c 0 [] es ls [(t,.pointer (some ⟨rb,0,none⟩))] [] ++ pq rb t b 1 1 :: R))(hn:sj n)(hs:abt n inc)(htr:0 < q.tr)(hA:A.length<=1000)(hu: ∀x∈A,x.t=t->x.l=[s])(he: ∃x∈A,x.t=t)(hes:es.length<=1000)(ht:0 < t/\t < 18446744073709551616)(hb:b.rng)(hb0:0 < b.n)(hls:ls.length<=200){K:KV}
  (h: ∀w' ov ev uv ls',St w0 w' (lk p {q with out:=ov,ev:=ev} n g (tx A t) (qu c t) t [(t,.int .i64 1)] (es ++ [aes q.now t s]) ls' [] [(t,uv)] ++ R)->K (.tuple #[]) w'):ig P F.am [km p,.int .u64 101,pkA (qo t b 1)] w K:=by
 refine alm S (.inr rfl) ht hb hb0 fun w1 pb S1=>?_
 unfold M.m.j1
 simp only[im]
 refine anp S1.swap (fun _=>?_) fun h=>absurd rfl h
 have k1:il w1 pb 1=some (.int .u64 t):=by rw[S1.cell];rfl
 simp[k1]
 refine awm (rb:=rb) (s:=s) (S1.pick (L:=[_,_,_,_,_,_,_,_,_,_,_,_,_]) [2,3,4,5,6,7,8,9,10,11,12,0] 13 rfl (by decide)) hn htr hA hu he (by omega) hes hls fun w2 ov ev uv sv hh S2=>?_
 have S3:=S2.ju ((Fr.refl _ w2).dr 1)
 generalize dr w2 1=w3 at *
 have k1': ∀{w':World}{L:List Asn},St w0 w' L->ja pb (pkC (qo t b 1)).toArray T.c∈L->il w' pb 1=some (.int .u64 t):=fun S' hm=>by
  obtain⟨s,t,rfl⟩:=List.append_of_mem hm
  rw[(S'.perm List.perm_middle).cell]
  rfl
 have bld: ∀w' K,jg P T.c #[(0,.int .i64 8),(1,.int .u64 t),(4,.int .i64 1)] w' K=K (pkA ⟨8,t,jc,jc,1,false,.slice none 0 0,.slice none 0 0,.slice none 0 0⟩) w':=fun w' K=>by simp[pkA,pkC,jc]
 simp[k1' S3 (by simp),bld]
 refine azx (q:={q with out:=ov,ev:=ev}) S3 hn hs fun w4 v4 S4=>?_
 simp[k1' S4 (by simp)]
 refine aii (q:={q with out:=ov,ev:=ev}) (to:=[]) (pk:=⟨8,t,jc,jc,1,false,.slice none 0 0,.slice none 0 0,.slice none 0 0⟩) (S4.pick (L:=[_,_,_,_,_,_,_,_,_,_,_,_]) [1,6,0,2,3,4,5,7,8,9,10,11] 12 rfl (by decide)) (aud _ _ _ _ _ _) (fun w' L S'=>aez (sz:=1) (enc:=mh) (v:=v4) (l:=[]) S' (by simp)) (by simp[pa];omega) fun w5 ov2 S5=>?_
 exact h w5 ov2 ev uv _ (S5.pick (L:=[_,_,_,_,_,_,_,_,_,_,_,_,_]) [0,3,4,5,6,1,7,8,9,10,11] 13 rfl (by decide))
theorem biw{t half:Int}{b:Bal}(ht:0 < t/\t < 18446744073709551616)(hb:b.rng):ala (qo t b half):=⟨⟨by show 0<=t;omega,ht.2⟩,hb,show jc.rng from⟨⟨by decide,by decide⟩,⟨by decide,by decide⟩⟩⟩
theorem aki{t half now:Int}{b:Bal}(S:St w0 w (lk p q n g A c a0 m es ls rm um ++ R))(hh:half=0\/half=1)(ht:0 < t/\t < 18446744073709551616)(hb:b.rng)(hb0:0 < b.n){K:KV}
  (h: ∀w',St w0 w' (lk p {q with now:=max q.now now} n g A c a0 m es ls rm um ++ R)->ig P F.am [km p,.int .u64 101,pkA (qo t b half)] w' fun _ w=>K (.int .i64 0) w):ig P F.bf [km p,.int .u64 101,pkA (qo t b half),.int .u64 now] w K:=by
 rw[M.s.fcall]
 apply M.s.calls
 unfold M.s pkA
 refine St.td S fun pb w1 S1=>?_
 have S1':St w0 w1 (ja pb (pkC (qo t b half)).toArray T.c :: _):=S1
 simp only[km]
 simp
 unfold M.s.j0
 simp[we S1']
 refine arv (p:=qo t b half) (ls:=[]) (lm:=[]) (lu:=[]) (ayu _ _ _ _ _ _ _) (biw ht hb) (fun hr w2 t2 hth _ f2=>?_) fun hr=>absurd (aoe ht.1 hb0) (by rw[hr];simp)
 have S2:=S1'.ju f2
 rw[anz hth]
 obtain⟨_,_,_,_,_,_,_,_,_,_,_,_,c23,_⟩:=oa (p:=p) (q:=q) S2 (by simp)
 simp
 unfold M.s.j1
 simp[c23,si]
 refine St.nh S2.swap rfl (by simp[clC]) fun w3 S3=>?_
 have S4:St w0 w3 (clA p {q with now:=max q.now now} :: ja pb (pkC (qo t b half)).toArray T.c :: _):=S3
 simp[aaa,yh]
 have S5:=S4.mkB #[.int .u64 0,.int .u64 0,.int .u64 0,.bool false,.int .u64 0,.int .u64 0,.int .i64 0,.bool false] T.l
 unfold vy
 simp
 generalize w3.heap.size=ab at *
 generalize w3.alloc _=w5 at *
 refine St.put (vs:=vy t b half) (cs':=(vy t b half).toArray) S5 (by simp[vy,kw]) (by simp[vy]) (by simp[vy]) fun w6 S6=>?_
 have S7:=S6.pick (L:=[_,_,_]) [2,1] 3 rfl (by decide)
 simp[we S7]
 exact h w6 S7.drop
end
def cfC(inc tr:Int)(rv:Value):List Value:=[.int .u64 1,.int .u64 inc,rv,.int .u64 200,.int .i64 3,.int .u64 5,.int .u64 20,.int .u64 10,.int .u64 4,.int .i64 tr,.int .i64 4,.int .i64 4,.string ky]
def cfA(inc tr:Int)(rv:Value):Value:= .agg (cfC inc tr rv).toArray
def cfZ:Array Value:= #[.int .u64 0,.int .u64 0,.slice none 0 0,.int .u64 0,.int .i64 0,.int .u64 0,.int .u64 0,.int .u64 0,.int .u64 0,.int .i64 0,.int .i64 0,.int .i64 0,.string ⟨#[]⟩]
section
variable {w0 w : World} {R : List Asn}
theorem bbj{ty a b c:TypeId}{k:IntKind}{x y z:Int}{w:World}{K:KV}(cs:List Bool):biT P .min #[a,b,c] ty cs [.int k x,.int k y,.int k z] w K=K (.int k (min (min x y) z)) w:=by
 simp[biT,kz,builtin,Builtin.min_,Builtin.min2,Sem.run_bind,Result.andThen,Sem.run_pure]
 rw[show (if z < if y < x then y else x then z else if y < x then y else x)=min x (min y z) from by (repeat' split) <;>omega]
theorem bde(w:World)(K:KV):biT P .min #[T.a,T.a,T.a,T.a] T.a [false,false,false,false] [.int .u64 5,.int .u64 20,.int .u64 10,.int .u64 4] w K=K (.int .u64 4) w:=by
 refine Eq.trans ?_ rfl
 kernel_rfl
theorem bcz(w:World)(K:KV):biT P .max #[T.a,T.a,T.a,T.a] T.a [false,false,false,false] [.int .u64 5,.int .u64 20,.int .u64 10,.int .u64 4] w K=K (.int .u64 20) w:=by
 refine Eq.trans ?_ rfl
 kernel_rfl
theorem blq(inc tr:Int)(a:Option Addr)(n c:Nat): ∀u∈cfC inc tr (.slice a n c),kw u=true:=fun u hu=>by
 simp only[cfC,List.mem_cons,List.not_mem_nil,or_false] at hu
 rcases hu with rfl|rfl|rfl|rfl|rfl|rfl|rfl|rfl|rfl|rfl|rfl|rfl|rfl <;>rfl
theorem bgl{t:TypeId}(ht: ∀b w K,mi P t (.pointer (some ⟨b,0,none⟩)) w K=ldN P 13 b 0 w K){b:Nat}{inc tr:Int}{a:Option Addr}{n c:Nat}{cs:Array Value}{e:TypeId}(hs:cs.size=13)(S:St w0 w (ja b cs e :: R)){K:KV}(h: ∀w',St w0 w' (ja b (cfC inc tr (.slice a n c)).toArray e :: R)->K (cfA inc tr (.slice a n c)) w'):
  stN P b 0 (cfC inc tr (.slice a n c)) w fun _ w=>mi P t (.pointer (some ⟨b,0,none⟩)) w fun r w'=>w'=w/\K r w:=by
 refine St.put (cs':=(cfC inc tr (.slice a n c)).toArray) S (blq inc tr a n c) (by simp[cfC,hs]) (by
  have hl:cs.toList.length=13:=by simpa using hs
  simp[cfC,hl]) fun w' S'=>?_
 rw[ht,S'.ldA (n:=13) (i:=0) (cfC inc tr (.slice a n c)) rfl rfl]
 exact⟨rfl,h w' S'⟩
theorem bnd(b:Nat)(w:World)(K:KV):mi P T.p (.pointer (some ⟨b,0,none⟩)) w K=ldN P 13 b 0 w K:=kr
theorem bmx(b:Nat)(w:World)(K:KV):mi P T.h (.pointer (some ⟨b,0,none⟩)) w K=ldN P 13 b 0 w K:=kr
theorem aqz(S:St w0 w R){K:KV}(h: ∀w' a c,St w0 w' (yu (.slice a 1 c) [101] :: R)->K (cfA 1 4 (.slice a 1 c)) w'):ig P F.df [] w K:=by
 rw[M.eb.fcall]
 apply M.eb.calls
 unfold M.eb
 have S1:=S.mkB cfZ T.p
 have S2:St w0 ((w.alloc (.cells cfZ T.p)).alloc (.cells #[.int .u64 101] T.a)) (yu (.slice (some ⟨(w.alloc (.cells cfZ T.p)).heap.size,0,none⟩) 1 1) [101] :: _):=St.ug (l:=[(101:Int)]) S1 oe rfl (by simp[maxLen])
 simp only[jd] at S2
 unfold cfZ at S2
 simp
 generalize World.alloc (w.alloc _) _=w2 at *
 generalize w.heap.size+1=rb at *
 generalize w.heap.size=cb at *
 exact bgl (inc:=1) (tr:=4) (t:=T.p) bnd rfl S2.swap fun w3 S3=>h w3 _ _ S3.drop
theorem bax{inc tr:Int}{a:Option Addr}{n c:Nat}(S:St w0 w R){K:KV}(h: ∀w',St w0 w' R->K (cfA inc tr (.slice a n c)) w'):ig P F.du [cfA inc tr (.slice a n c)] w K:=by
 rw[M.eu.fcall]
 apply M.eu.calls
 unfold M.eu cfA
 refine St.td S fun tb w1 S1=>?_
 have S2:=S1.mkB cfZ T.h
 have cc: ∀{w':World}{L:List Asn},St w0 w' (ja tb (cfC inc tr (.slice a n c)).toArray T.p :: L)->∀i v,(cfC inc tr (.slice a n c))[i]? =some v->il w' tb i=some v:=fun S' i v hv=>by
  rw[S'.cell]
  simpa using hv
 have c':=cc S2.swap
 have c0:=c' 0 _ rfl
 have c1:=c' 1 _ rfl
 have c2:=c' 2 _ rfl
 have c3:=c' 3 _ rfl
 have c4:=c' 4 _ rfl
 have c5:=c' 5 _ rfl
 have c6:=c' 6 _ rfl
 have c7:=c' 7 _ rfl
 have c8:=c' 8 _ rfl
 have c9:=c' 9 _ rfl
 have c10:=c' 10 _ rfl
 have c11:=c' 11 _ rfl
 have c12:=c' 12 _ rfl
 unfold cfZ at S2 c0 c1 c2 c3 c4 c5 c6 c7 c8 c9 c10 c11 c12
 simp
 generalize w1.heap.size=cb at *
 generalize w1.alloc _=w2 at *
 simp[c0,c1,c2,c3,c4,c5,c6,c7,c8,c9,c10,c11,c12]
 exact bgl (inc:=inc) (tr:=tr) (t:=T.h) bmx rfl S2 fun w3 S3=>h w3 S3.drop.drop
def bmu(w0:World)(L:List Asn):KL:=fun x w1=> ∃(u0 u1:Value)(i:Nat),x=[u0,u1,.int .u64 (if i=0 then 0 else 101),.int .i64 (i:Nat)]/\i<=1/\St w0 w1 L
theorem azw{inc tr:Int}{a:Option Addr}{c:Nat}(S:St w0 w R)(hs: ∀w' L,St w0 w' (L ++ R)->SlU w' (.slice a 1 c) [101])(hi:1<=inc)(htr:1<=tr/\tr<=64){K:KV}(h: ∀w',St w0 w' R->K (.int .i64 0) w'):ig P F.fd [cfA inc tr (.slice a 1 c)] w K:=by
 rw[M.bj.fcall]
 apply M.bj.calls
 unfold M.bj cfA
 refine St.td S fun tb w1 S1=>?_
 have cc: ∀{w':World}{L:List Asn},St w0 w' L->ja tb (cfC inc tr (.slice a 1 c)).toArray T.h∈L->∀i v,(cfC inc tr (.slice a 1 c))[i]? =some v->il w' tb i=some v:=fun S' hm i v hv=>by
  obtain⟨s,t,rfl⟩:=List.append_of_mem hm
  rw[(S'.perm List.perm_middle).cell]
  simpa using hv
 have c2:=cc S1 (by simp) 2 _ rfl
 have hln: ∀w' K,biT P .len #[T.i] T.d [false] [.slice a 1 c] w' K=K (.int .i64 1) w':=fun w' K=>(hs w [] S).jp (by kernel_rfl) [false]
 have hs1: ∀w' L,St w0 w' (L ++ (ja tb (cfC inc tr (.slice a 1 c)).toArray T.h :: R))->SlU w' (.slice a 1 c) [101]:=fun w' L S'=>hs w' (L ++ [_]) (by simpa using S')
 simp[c2,hln]
 refine⟨bmu w0 (ja tb (cfC inc tr (.slice a 1 c)).toArray T.h :: R),fun x _=>1 - ms x 3,⟨_,_,0,rfl,Nat.zero_le _,S1⟩,?_⟩
 rintro x w2 ⟨u0,u1,i,rfl,hi1,S2⟩
 have d0:=cc S2 (by simp) 0 _ rfl
 have d1:=cc S2 (by simp) 1 _ rfl
 have d2:=cc S2 (by simp) 2 _ rfl
 have d3:=cc S2 (by simp) 3 _ rfl
 by_cases hi0:i=0
 ·subst hi0
  obtain⟨ab,ao,cap,hv,_,_,hc⟩:=(hs1 w2 [] S2).at (i:=0) (by simp)
  have hia: ∀w' K,iaT P T.i (.slice a 1 c) (.int .i64 0) w' K=K (.pointer (some ⟨ab,ao,none⟩)) w':=fun w' K=>by rw[hv];simp
  have hcell:il w2 ab ao=some (.int .u64 101):=by simpa [mh] using hc 0 _ rfl
  simp
  unfold M.bj.j2
  simp[hia,hcell,d0,d3]
  exact⟨⟨_,_,1,rfl,Nat.le_refl _,S2⟩,by simp[ms,gv,show IntKind.i64.wrap 1=1 from by decide]⟩
 ·have hi2:i=1:=by omega
  subst hi2
  have d4:=cc S2 (by simp) 4 _ rfl
  have d7:=cc S2 (by simp) 7 _ rfl
  have d9:=cc S2 (by simp) 9 _ rfl
  have d10:=cc S2 (by simp) 10 _ rfl
  simp
  unfold M.bj.j0
  simp[d7,d9,d10]
  refine ays S2 tr 4 10 (fun hb=>by omega) fun g w3 hb e1 e2 e3 _ _ _ _ _ S3=>?_
  have f11:=cc S3 (by simp) 11 _ rfl
  simp[f11]
  refine atw S3 fun w4 kb S4=>?_
  have g0:=cc S4 (by simp) 0 _ rfl
  have g1:=cc S4 (by simp) 1 _ rfl
  have g2:=cc S4 (by simp) 2 _ rfl
  have g3:=cc S4 (by simp) 3 _ rfl
  have g4:=cc S4 (by simp) 4 _ rfl
  have g5:=cc S4 (by simp) 5 _ rfl
  have g6:=cc S4 (by simp) 6 _ rfl
  have g7:=cc S4 (by simp) 7 _ rfl
  have g8:=cc S4 (by simp) 8 _ rfl
  have g12:=cc S4 (by simp) 12 _ rfl
  have hm:min (min 1 inc) 200=1:=by omega
  simp[g0,g1,g2,g3,g4,hln,bbj,hm]
  unfold M.bj.j6
  simp[g5,g6,g7,g8,bde,bcz,g12]
  refine aoi S4 fun w5 v5 S5=>?_
  simp
  exact h w5 S5.drop.drop.drop.drop
end
section
variable {w0 w : World} {R : List Asn}
def aea(inc tr:Int)(rv:Value)(ru se un:Nat):Array Value:= #[.int .u64 1,.int .u64 inc,rv,.int .u64 200,.int .i64 3,.int .u64 5,.int .u64 20,.int .u64 10,.int .u64 4,.int .i64 tr,.int .i64 4,.int .i64 4,.string ky,.slice none 0 0,.pointer none,.pointer none,.pointer none,.map (some ru),.map (some se),.map (some un),.int .u64 0,.int .u64 0,.int .u64 0,.int .u64 0,.slice none 0 0,.slice none 0 0,.int .u64 0,.int .u64 0]
def adl(inc tr:Int)(rep rul:Value)(tb hb kb ru se un:Nat):Cl:=⟨inc,tr,4,ky,rep,rul,tb,hb,kb,ru,se,un,jc,0,0,.slice none 0 0,.slice none 0 0,0,0⟩
theorem bhw{α:Type}{e:TypeId}{sz:Nat}{enc:α->List Value}{v:Value}{l:List α}(he: ∀x,(enc x).length=sz)(S:St w0 w (ph e sz enc v l :: R)):St w0 w (rdA sz enc v l :: R):=by
 obtain⟨B,⟨k1,k2⟩,hB,cl⟩:=S.open
 exact cl w [rdA sz enc v l] (Fr.refl _ _) (Rs.one (B:=B) ⟨k1.sl he,k2⟩ fun x hx=> .inl hx)
theorem bcp{v:Value}(S:St w0 w R)(hs:SlU w v [101]): ∀{K:KV},(∀w' v',St w0 w' (rdA 1 mh v' [101] :: R)->K v' w')->ig P F.x [v] w K:=fun{K} h=>by
 refine abk hs (by simp) fun w4 rv s4 n4 f4=>h w4 rv (S.add f4 (a:=rdA 1 mh rv [101]) (B:=fun x=>rv.ownBlock=some x) ⟨s4,fun b hb=>hb⟩ fun x hx=>⟨n4 x hx,by
  obtain⟨g,hg,hlt⟩:=s4.lt (x:=101) (by simp)
  rw[hx] at hg;cases hg;exact hlt⟩)
theorem aof{inc tr:Int}{a:Option Addr}{c:Nat}(S:St w0 w R)(hs: ∀w' L,St w0 w' (L ++ R)->SlU w' (.slice a 1 c) [101])(hi:1<=inc)(htr:1<=tr/\tr<=64){K:KV}
  (h: ∀w' p (g:Cfg) rep rul tb hb kb ru se un,tr=g.ku->(4:Int)=g.kg->10=g.jq->St w0 w' (lk p (adl inc tr rep rul tb hb kb ru se un) (Nd.new 1 inc 5 20 0) g [] [] 0 [] [] [] [] [] ++ R)->K (.tuple #[km p,.int .i64 0]) w'):ig P F.eu [cfA inc tr (.slice a 1 c),.int .u64 0] w K:=by
 rw[M.dt.fcall]
 apply M.dt.calls
 unfold M.dt cfA
 refine St.td S fun tb w1 S1=>?_
 have cc: ∀{w':World}{L:List Asn},St w0 w' L->ja tb (cfC inc tr (.slice a 1 c)).toArray T.h∈L->∀i v,(cfC inc tr (.slice a 1 c))[i]? =some v->il w' tb i=some v:=fun S' hm i v hv=>by
  obtain⟨s,t,rfl⟩:=List.append_of_mem hm
  rw[(S'.perm List.perm_middle).cell]
  simpa using hv
 have ld: ∀{w':World}{L:List Asn},St w0 w' L->ja tb (cfC inc tr (.slice a 1 c)).toArray T.h∈L->∀K,ldN P 13 tb 0 w' K=K (cfA inc tr (.slice a 1 c)) w':=fun S' hm K=>by
  obtain⟨s,t,rfl⟩:=List.append_of_mem hm
  exact (S'.perm List.perm_middle).ldA (n:=13) (i:=0) (cfC inc tr (.slice a 1 c)) rfl rfl K
 have hs1: ∀w' L,St w0 w' (L ++ (ja tb (cfC inc tr (.slice a 1 c)).toArray T.h :: R))->SlU w' (.slice a 1 c) [101]:=fun w' L S'=>hs w' (L ++ [_]) (by simpa using S')
 simp only[im]
 simp[ld S1]
 refine azw S1 hs1 hi htr fun w2 S2=>?_
 simp
 unfold M.dt.j0
 have S3:=((S2.aif .u64).aif .u64).aif .u64
 simp[ld S2,zz]
 have S4:=S3.mkB (aea inc tr (.slice a 1 c) w2.heap.size (w2.heap.size+1) (w2.heap.size+1+1)) T.b
 simp only[jd] at S4 S3
 have bld: ∀(x1 x2 x3:Nat) w K,jg P T.b #[(0,cfA inc tr (.slice a 1 c)),(10,.int .u64 0),(9,.int .u64 0),(5,.map (some x1)),(6,.map (some x2)),(7,.map (some x3))] w K=K (.agg (aea inc tr (.slice a 1 c) x1 x2 x3)) w:=fun x1 x2 x3 w K=>by simp[cfA,cfC,aea]
 rw[bld]
 have hcl: ∀x1 x2 x3,(Value.agg (aea inc tr (.slice a 1 c) x1 x2 x3)).cells=aea inc tr (.slice a 1 c) x1 x2 x3:=fun _ _ _=>rfl
 simp only[hcl,jd]
 generalize w2.heap.size+1+1+1=p at *
 generalize w2.heap.size+1+1=un at *
 generalize w2.heap.size+1=se at *
 generalize w2.heap.size=ru at *
 generalize World.alloc (World.alloc (World.alloc (w2.alloc _) _) _) _=w4 at *
 have d2:=cc S4 (by simp) 2 _ rfl
 simp[d2]
 refine bcp S4 (hs1 _ [_,_,_,_] S4) fun w5 rep S5=>?_
 obtain⟨ra,rc,hrep,_⟩:=S5.rd
 subst hrep
 simp
 refine St.nh S5.swap rfl (by simp[aea]) fun w6 S6=>?_
 have d12:=cc S6 (.tail _ (.tail _ (.tail _ (.tail _ (.tail _ (.head _)))))) 12 _ rfl
 simp[d12]
 refine aoi S6 fun w7 rul S7=>?_
 obtain⟨ua,uc,hrul,_⟩:=S7.row xc
 subst hrul
 simp
 refine St.nh S7.swap rfl (by simp[aea]) fun w8 S8=>?_
 have e0:=cc S8 (.tail _ (.tail _ (.tail _ (.tail _ (.tail _ (.tail _ (.head _))))))) 0 _ rfl
 have e1:=cc S8 (.tail _ (.tail _ (.tail _ (.tail _ (.tail _ (.tail _ (.head _))))))) 1 _ rfl
 have e5:=cc S8 (.tail _ (.tail _ (.tail _ (.tail _ (.tail _ (.tail _ (.head _))))))) 5 _ rfl
 have e6:=cc S8 (.tail _ (.tail _ (.tail _ (.tail _ (.tail _ (.tail _ (.head _))))))) 6 _ rfl
 simp[e0,e1,e5,e6]
 refine bgy S8 (by decide) (show 0<=inc by omega) (by decide) (by decide) (fun hb=>by omega) fun _ _ _ _ w9 nb S9=>?_
 simp[aeg]
 refine St.nh S9.swap rfl (by simp[aea]) fun w10 S10=>?_
 have f9:=cc S10 (.tail _ (.tail _ (.tail _ (.tail _ (.tail _ (.tail _ (.tail _ (.head _)))))))) 9 _ rfl
 have f10:=cc S10 (.tail _ (.tail _ (.tail _ (.tail _ (.tail _ (.tail _ (.tail _ (.head _)))))))) 10 _ rfl
 have f7:=cc S10 (.tail _ (.tail _ (.tail _ (.tail _ (.tail _ (.tail _ (.tail _ (.head _)))))))) 7 _ rfl
 simp[f9,f10,f7]
 refine ays S10 tr 4 10 (fun hb=>by omega) fun g w11 hb g1 g2 g3 _ _ _ _ _ S11=>?_
 simp
 refine St.nh S11.swap rfl (by simp[aea]) fun w12 S12=>?_
 have f11:=cc S12 (.tail _ (.tail _ (.tail _ (.tail _ (.tail _ (.tail _ (.tail _ (.tail _ (.head _))))))))) 11 _ rfl
 simp[f11]
 refine atw S12 fun w13 kb S13=>?_
 simp
 refine St.nh S13.swap rfl (by simp[aea]) fun w14 S14=>?_
 refine h w14 p g (.slice ra 1 rc) (.slice ua 1 uc) nb hb kb ru se un g1 g2 g3 ?_
 have S15:St w0 w14 (clA p (adl inc tr (.slice ra 1 rc) (.slice ua 1 uc) nb hb kb ru se un) :: _):=S14
 have S16:=bhw xc (S15.pick (L:=[_,_,_,_,_,_,_,_,_,_]) [4,0,1,2,3,5,6,7,8] 10 rfl (by decide))
 have S17:St w0 w14 (mu (.slice none 0 0) [] :: mm (.slice none 0 0) [] :: _):=Go.Eng.wg (Go.Eng.wg S16)
 exact S17.pick (L:=[_,_,_,_,_,_,_,_,_,_,_]) [3,6,5,4,0,1,7,2,10,9,8] 11 rfl (by decide)
end
def s7:Spn:=⟨7,1,0,0,0,⟨#[97]⟩,⟨#[98]⟩,true⟩
def g4:Cfg:=⟨4,4,10⟩
theorem ajf:kv s7=0:=by decide+kernel
theorem bjp:rl g4 [] s7=[⟨7,[s7],false⟩]/\ou g4 [] s7=0/\aei g4 [] [] s7 0=[(7,10)]:=by
 unfold rl ou aei
 rw[ajf]
 refine⟨rfl,rfl,rfl⟩
theorem blm:qa [(7,10)] 10=[7]:=by decide+kernel
theorem blj:qk ((Nd.new 1 1 5 20 0).wq 10 0).1=1:=by decide+kernel
theorem auh:tj ⟨7,[s7],false⟩=1:=by decide+kernel
theorem bkg{x:Int}(h0:0<=x)(h1:x < 18446744073709551616):IntKind.u8.wrap (IntKind.u64.wrap ((BitVec.ofInt IntKind.u64.bits x &&& BitVec.ofInt IntKind.u64.bits 255).toNat:Nat))=b8 x:=by
 obtain⟨n,rfl⟩:=Int.eq_ofNat_of_zero_le h0
 have hn:n < 18446744073709551616:=by omega
 have h2:(BitVec.ofInt IntKind.u64.bits ((n:Nat):Int) &&& BitVec.ofInt IntKind.u64.bits 255).toNat=n % 256:=by
  rw[BitVec.toNat_and]
  have e1:(BitVec.ofInt IntKind.u64.bits ((n:Nat):Int)).toNat=n:=xx hn
  have e2:(BitVec.ofInt IntKind.u64.bits 255).toNat=2 ^ 8 - 1:=by decide
  rw[e1,e2,Nat.and_two_pow_sub_one_eq_mod]
 rw[h2,xk (by omega)]
 unfold b8 IntKind.wrap
 simp[IntKind.bits,IntKind.signed]
section
variable {w0 w : World} {R : List Asn}
def E8I(w0:World)(n:Int)(R:List Asn):KL:=fun x w1=> ∃(v:Value)(k:Nat),x=[v,.int .i64 (7 - (k:Int))]/\k<=8/\St w0 w1 (zp v ((ng n).take k) :: R)
theorem bea(S:St w0 w R){n:Int}(hn:ym n){K:KV}(h: ∀w' v',St w0 w' (zp v' (ng n) :: R)->K v' w'):ig P F.ef [.int .u64 n] w K:=by
 obtain⟨n0,n1⟩:=hn
 rw[M.cs.fcall]
 apply M.cs.calls
 unfold M.cs
 simp only[im]
 refine⟨E8I w0 n R,fun x _=>bkc x,⟨_,0,rfl,by omega,by simpa using Go.Eng.wg S⟩,?_⟩
 rintro x w1 ⟨v,k,rfl,hk,S⟩
 have q0:gv [v,.int .i64 (7 - (k:Int))] 0=v:=rfl
 have q1:gv [v,.int .i64 (7 - (k:Int))] 1= .int .i64 (7 - (k:Int)):=rfl
 simp only[q1]
 by_cases hil:k < 8
 ·have hil':(0:Int)<=7 - (k:Int):=by omega
  have hw8:IntKind.i64.wrap (8 * (7 - (k:Int)))=56 - 8 * (k:Int):=by rw[iy];omega
  have hwu:IntKind.u64.wrap (56 - 8 * (k:Int))=56 - 8 * (k:Int):=lq (by omega) (by omega)
  have hwi:IntKind.i64.wrap (7 - (k:Int) - 1)=7 - ((k+1:Nat):Int):=by rw[iy];omega
  have htn:(56 - 8 * (k:Int)).toNat=56 - 8 * k:=by omega
  simp only[qy]
  rw[decide_eq_true hil']
  simp only[ij]
  unfold M.cs.j2
  have hp:(0:Int) < 2 ^ min (56 - 8 * k) IntKind.u64.bits:=Int.pow_pos (by decide)
  have g0:0<=n.fdiv (2 ^ min (56 - 8 * k) IntKind.u64.bits):=Int.fdiv_nonneg n0 (by omega)
  have g1:n.fdiv (2 ^ min (56 - 8 * k) IntKind.u64.bits) < 18446744073709551616:=by
   rw[Int.fdiv_eq_ediv_of_nonneg _ (by omega)]
   exact Int.lt_of_le_of_lt (Int.ediv_le_self _ n0) n1
  have hsh: ∀(rx ry:Operand)(w:World)(K:KV),iq P .shr T.a rx ry (.int .u64 n) (.int .u64 (56 - 8 * (k:Int))) w K=K (.int .u64 (n.fdiv (2 ^ min (56 - 8 * k) IntKind.u64.bits))) w:=fun rx ry w K=>by rw[acj (by omega),htn]
  have hcu: ∀w K,cvT P T.d T.bs (.int .i64 (56 - 8 * (k:Int))) w K=K (.int .u64 (56 - 8 * (k:Int))) w:=fun w K=>by rw[od (ks:= .i64) (kd:= .u64) (by kernel_rfl) (by kernel_rfl),hwu]
  have hcb: ∀w K,cvT P T.a T.ac (.int .u64 (IntKind.u64.wrap ((BitVec.ofInt IntKind.u64.bits (n.fdiv (2 ^ min (56 - 8 * k) IntKind.u64.bits)) &&& BitVec.ofInt IntKind.u64.bits 255).toNat:Nat))) w K=K (.int .u8 (b8 (n.fdiv (2 ^ min (56 - 8 * k) IntKind.u64.bits)))) w:=fun w K=>by rw[od (ks:= .u64) (kd:= .u8) (by kernel_rfl) (by kernel_rfl),bkg g0 g1]
  simp only[q0,q1,im,vq,hw8,hcu,hsh,ams,hcb]
  simp
  have S1:=bds S (b8 (n.fdiv (2 ^ min (56 - 8 * k) IntKind.u64.bits)))
  refine Go.Eng.ux et.g oh aad S1.swap (l2:=[b8 (n.fdiv (2 ^ min (56 - 8 * k) IntKind.u64.bits))]) (S1.row oh) (by simp[sy];omega) (by decide) fun w2 v2 S2=>?_
  rw[hwi]
  refine⟨⟨v2,k+1,rfl,by omega,?_⟩,by simp[bkc,gv];omega⟩
  rw[axk n hil]
  exact S2.swap.drop
 ·have hk8:k=8:=by omega
  subst hk8
  have hil': ¬(0:Int)<=7 - ((8:Nat):Int):=by omega
  simp only[qy]
  rw[decide_eq_false hil']
  simp only[ij]
  rw[List.take_of_length_le (by rw[sy];omega)] at S
  exact h w1 v S
theorem ane{v:Value}{l:List Int}(S:St w0 w (zp v l :: R))(s:ByteArray)(hs:s.size<=32)(hl:l.length<=1000000){K:KV}(h: ∀w' v',St w0 w' (zp v' (l ++ adc s) :: R)->K v' w'):ig P F.dl [v,.string s] w K:=by
 rw[M.ej.fcall]
 apply M.ej.calls
 unfold M.ej
 have hw8:IntKind.u8.wrap (s.size:Int)=(s.size:Int):=by
  unfold IntKind.wrap
  simp[IntKind.bits,IntKind.signed]
  omega
 have hcv: ∀w' K',cvT P T.d T.ac (.int .i64 (s.size:Int)) w' K'=K' (.int .u8 (s.size:Int)) w':=fun w' K'=>by
  rw[od (ks:= .i64) (kd:= .u8) (by kernel_rfl) (by kernel_rfl),hw8]
 simp[hcv]
 have S8:=bds S (s.size:Int)
 refine Go.Eng.ux et.g oh aad S8.swap (l2:=[(s.size:Int)]) (S8.row oh) (by simp;omega) (by decide) fun w9 v9 S9=>?_
 refine bgr et.g (by kernel_rfl) (by kernel_rfl) (fun _=>rfl) S9 s (by simp;omega) fun w10 v10 S10=>?_
 refine h w10 v10 ?_
 have:=S10.swap.drop
 rw[List.append_assoc] at this
 exact this
def RpI(w0:World)(s:Spn)(R:List Asn):KL:=fun x w1=> ∃(v:Value)(i:Nat),x=[v,.int .i64 (i:Nat)]/\i<=5/\St w0 w1 (zp v (((rt s).take i).flatMap ng) :: R)
theorem bac(S:St w0 w R){s:Spn}(hr:kv s=0)(hR:aga s){K:KV}(h: ∀w' v',St w0 w' (zp v' (afn s) :: R)->K (.tuple #[v',.int .i64 0]) w'):ig P F.fc [.slice none 0 0,ki s] w K:=by
 obtain⟨n1,n2⟩:=anw hr
 rw[M.bd.fcall]
 apply M.bd.calls
 unfold M.bd
 refine St.td S fun b w1 S1=>?_
 have S1':St w0 w1 (ja b (jj s).toArray T.f :: R):=S1
 have cl: ∀{w':World}{L:List Asn},St w0 w' (ja b (jj s).toArray T.f :: L)->il w' b 0=some (.int .u64 s.je)/\il w' b 1=some (.int .u64 s.id)/\il w' b 2=some (.int .u64 s.me)/\il w' b 3=some (.int .u64 s.jy)/\il w' b 4=some (.int .u64 s.len)/\il w' b 5=some (.string s.kp)/\il w' b 6=some (.string s.name)/\il w' b 7=some (.bool s.ny):=fun S'=>by
  refine⟨?_,?_,?_,?_,?_,?_,?_,?_⟩ <;>rw[S'.cell] <;>rfl
 have sl: ∀K,ldN P 8 b 0 w1 K=K (ki s) w1:=fun K=>S1'.ldA (n:=8) (i:=0) (jj s) rfl rfl K
 simp[sl]
 rw[M.ck.fcall]
 refine aiu s fun w2 f2=>?_
 rw[hr]
 have S2:=S1'.ju f2
 simp
 unfold M.bd.j0
 have hb0: ∀w' K,bsT P T.g 0 #[] w' K=K (.slice (some ⟨w'.heap.size,0,none⟩) 0 0) (w'.alloc (.cells #[] T.ac)):=fun w' K=>kr
 have S3:St w0 (w2.alloc (.cells #[] T.ac)) (zp (.slice (some ⟨w2.heap.size,0,none⟩) 0 0) [] :: _):=St.ug (l:=[]) S2 oh rfl (by simp)
 simp only[hb0]
 generalize w2.heap.size=eb at *
 generalize w2.alloc _=w3 at *
 refine Go.Eng.ux et.g oh aad S3 (l2:=[]) Sl.nil (by simp) (by decide) fun w4 v4 S4=>?_
 simp only[List.append_nil] at S4
 obtain⟨c0,c1,c2,c3,c4,_⟩:=cl S4.swap
 simp[c0,c1,c2,c3,c4]
 have S5:St w0 (w4.alloc (.cells #[.int .u64 s.je,.int .u64 s.id,.int .u64 s.me,.int .u64 s.jy,.int .u64 s.len] T.a)) (rk (.slice (some ⟨w4.heap.size,0,none⟩) 5 5) (rt s) :: _):=St.ug (l:=rt s) S4 (fun _=>rfl) rfl (by simp[maxLen,rt])
 generalize w4.heap.size=fb at *
 generalize w4.alloc _=w5 at *
 have hl5: ∀i,(((rt s).take i).flatMap ng).length<=40:=fun i=>by
  rw[akt,List.length_take]
  have:(rt s).length=5:=rfl
  omega
 refine⟨RpI w0 s (rk (.slice (some ⟨fb,0,none⟩) 5 5) (rt s) :: ja b (jj s).toArray T.f :: R),fun x _=>5 - ms x 1,⟨_,0,rfl,Nat.zero_le _,by simpa using S5.swap⟩,?_⟩
 rintro x w6 ⟨v6,i,rfl,hi,S6⟩
 by_cases hil:i < 5
 ·have hili:(i:Int) < 5:=by omega
  have hwi:IntKind.i64.wrap ((i:Int)+1)=((i+1:Nat):Int):=by rw[iy];rfl
  have hil5:i < (rt s).length:=hil
  obtain⟨gb,go,gc,ge,_,_,hc⟩:=(S6.swap.row (fun _=>rfl):Sl w6 1 Suint64.sf (.slice (some ⟨fb,0,none⟩) 5 5) (rt s)).at hil5
  injection ge with ge _ _
  injection ge with ge
  injection ge with ge1 ge2 _
  subst ge1 ge2
  have hcell:il w6 fb i=some (.int .u64 ((rt s)[i]'hil5)):=by simpa [Suint64.sf] using hc 0 _ rfl
  simp[hili]
  unfold M.bd.j3
  simp[hcell,hili]
  have hu:ym ((rt s)[i]'hil5):=by
   match i,hil5 with
   | 0,_=>exact hR.tr
   | 1,_=>exact hR.id
   | 2,_=>exact hR.par
   | 3,_=>exact hR.st
   | 4,_=>exact hR.ln
   | k+5,h=>exact absurd h (by simp[rt])
  refine bea S6 hu fun w7 v7 S7=>?_
  refine Go.Eng.ux et.g oh aad S7.swap (S7.row oh) (by have:=hl5 i;rw[sy];omega) (by decide) fun w8 v8 S8=>?_
  simp[hwi]
  refine⟨⟨_,i+1,rfl,by omega,?_⟩,by simp[ms,gv];omega⟩
  have e:(((rt s).take (i+1)).flatMap ng)=(((rt s).take i).flatMap ng) ++ ng ((rt s)[i]'hil5):=by
   rw[List.take_add_one,List.getElem?_eq_getElem hil5,List.flatMap_append]
   simp
  rw[e]
  exact S8.swap.drop
 have hi5:i=5:=by omega
 subst hi5
 have e5:(rt s).take 5=rt s:=rfl
 rw[e5] at S6
 have hl6:=hl5 5
 rw[e5] at hl6
 obtain⟨_,_,_,_,_,d5,d6,d7⟩:=cl S6.up2
 have ot: ∀(fb':Int)(y z:List Value),fb'=ado s.ny->gv y 0= .int .u8 fb'->gv z 1=v6->M.bd.j5 (.pointer (some ⟨b,0,none⟩)) y z w6 K:=fun fb' y z hfb y0 z1=>by
  unfold M.bd.j5
  rw[y0,z1]
  have S7:=S6.ju ((Fr.refl _ w6).dr 1)
  obtain⟨_,_,_,_,_,g5,g6,_⟩:=cl S7.up2
  simp[g5,g6]
  have S8:=bds S7 fb'
  have hsz:(dr w6 1).heap.size=w6.heap.size:=rfl
  rw[hsz] at S8
  generalize w6.heap.size=ob at *
  generalize World.alloc _ _=w8 at *
  obtain⟨_,_,_,_,_,g5,g6,_⟩:=cl S8.up3
  simp[g5,g6]
  refine Go.Eng.ux et.g oh aad S8.swap (S8.row oh) (by simp only[List.length_cons,List.length_nil];omega) (by decide) fun w9 v9 S9=>?_
  obtain⟨_,_,_,_,_,g5,g6,_⟩:=cl S9.up3
  simp[g5,g6]
  refine ane S9 s.kp n1 (by simp only[List.length_append,List.length_cons,List.length_nil];omega) fun w10 v10 S10=>?_
  obtain⟨_,_,_,_,_,_,g6,_⟩:=cl S10.up3
  simp[g6]
  refine ane S10 s.name n2 (by simp only[adc,List.length_append,List.length_cons,List.length_nil,acq];omega) fun w11 v11 S11=>?_
  refine h w11 v11 ?_
  have e2:(rt s).flatMap ng ++ [fb'] ++ adc s.kp ++ adc s.name=afn s:=by rw[hfb];rfl
  rw[e2] at S11
  exact S11.swap.drop.swap.drop.swap.drop
 cases hf:s.ny with
 | true=>
  rw[hf] at d7
  simp[d7]
  exact ot 1 _ _ (by rw[hf];rfl) rfl rfl
 | false=>
  rw[hf] at d7
  simp[d7]
  exact ot 0 _ _ (by rw[hf];rfl) rfl rfl
end
section
variable {w0 w : World} {R : List Asn} {p : Nat} {q : Cl} {n : Nd} {g : Cfg} {A : List AE} {c : CT} {a0 : Int} {m rm um : MP} {es : List Evn} {ls : List Ltr}
theorem agb(S:St w0 w (lk p q n g A c a0 m es ls rm um ++ R))(hA:A.length<=1000){K:KV}(h: ∀w' v,St w0 w' (yu v (mq A) :: (lk p q n g A c a0 m es ls rm um ++ R))->K v w'):ig P F.aa [km p] w K:=by
 rw[M.cb.fcall]
 apply M.cb.calls
 unfold M.cb
 obtain⟨_,_,_,_,_,_,c15,_⟩:=oa (p:=p) (q:=q) S (by simp)
 simp only[km]
 simp[c15]
 refine aoa (S.pick (L:=[_,_,_,_,_,_,_,_,_,_,_]) [2,0,1,3,4,5,6,7,8,9,10] 11 rfl (by decide)) hA fun w2 v2 S2=>?_
 exact h w2 v2 (S2.pick (L:=[_,_,_,_,_,_,_,_,_,_,_,_]) [0,2,3,1,4,5,6,7,8,9,10,11] 12 rfl (by decide))
theorem bau:aga s7:=by
 constructor <;>(unfold s7;first|decide|exact⟨by decide,by decide⟩)
def su:Bal:=⟨1,4294967297⟩
theorem awf{tb hb kb ru se un:Nat}{rep rul:Value}(S:St w0 w (lk p (adl 1 4 rep rul tb hb kb ru se un) (Nd.new 1 1 5 20 0) g4 [] [] 0 [] [] [] [] [] ++ R)){x0:List Value}{K:KV}(h: ∀w',St w0 w' R->K (.bool true) w'):M.bk.j0 (km p) x0 w K:=by
 unfold M.bk.j0
 have hs7: ∀w K,jg P T.f #[(0,.int .u64 7),(1,.int .u64 1),(5,.string ⟨#[97]⟩),(6,.string ⟨#[98]⟩),(7,.bool true)] w K=K (ki s7) w:=fun w K=>by simp[ki,s7]
 rw[hs7]
 refine bac S ajf bau fun w1 rv S1=>?_
 simp
 have hnok:sj (Nd.new 1 1 5 20 0):=aue (by omega) (by omega) (by omega) (by omega) (by omega)
 have hsol:abt (Nd.new 1 1 5 20 0) 1:=⟨rfl,rfl⟩
 have S2:St w0 w1 (acn p (adl 1 4 rep rul tb hb kb ru se un) (Nd.new 1 1 5 20 0) g4 [] [] 0 [] ++ (zp rv (afn s7) :: mm (.slice none 0 0) [] :: rdA 1 mh rep [101] :: rdA 4 li rul [jz] :: jl ru .u64 [] :: jl se .u64 [] :: jl un .u64 [] :: R)):=S1.pick (L:=[_,_,_,_,_,_,_,_,_,_,_,_]) [1,2,3,4,5,0,6,7,8,9,10,11] 12 rfl (by decide)
 refine ayx S2 hnok (adu hnok hsol) (fun w' L S'=>zm S' (e:=T.ac) (v:=rv) (by simp) oh) ajf bau (show (0:Int)<=0 by decide) (show (0:Int)<=18446744073709551615 by decide) (by decide) (by decide) (by simp) (by simp) (by decide) (by simp) fun w2 ev S3=>?_
 obtain⟨p1,p2,p3⟩:=bjp
 simp only[show max (adl 1 4 rep rul tb hb kb ru se un).now 0=0 from rfl,p1,p2,p3] at S3⊢
 simp
 have S4:St w0 w2 (lk p {adl 1 4 rep rul tb hb kb ru se un with ev:=ev} (Nd.new 1 1 5 20 0) g4 [⟨7,[s7],false⟩] [(7,10)] 0 [] [qn 0 0 s7] [] [] [] ++ R):=S3.pick (L:=[_,_,_,_,_,_,_,_,_,_,_,_]) [0,1,2,3,4,6,7,8,9,10,11] 12 rfl (by decide)
 have hy: ∀n',n'=((Nd.new 1 1 5 20 0).wq 10 0).1->nxB {adl 1 4 rep rul tb hb kb ru se un with ev:=ev} n'=(su,0):=fun n' e=>by
  subst e
  unfold nxB
  rw[blj]
  rfl
 refine bgq (e:=⟨7,[s7],false⟩) (inc:=1) S4 hnok hsol (by simp) ⟨show (0:Int)<=0 by decide,show (0:Int)<=18446744073709551615 by decide⟩ (by decide) ⟨show (0:Int)<=0 by decide,show (0:Int)<=0 by decide⟩ (by decide) (show (1:Int)<=1 by decide) (show jc.rng from⟨⟨by decide,by decide⟩,⟨by decide,by decide⟩⟩) (fun e he=>by simp at he;subst he;simp) (by simp) (by simp) (by simp) (by decide) blm (fun n' e=>by rw[hy n' e,auh];exact⟨rfl,by decide,by decide⟩) fun w3 ov rb ag n' hag hn' S5=>?_
 rw[hy n' hn',auh] at S5
 have hn7:sj n':=by rw[hn'];exact amp hnok ⟨show (0:Int)<=10 by decide,show (10:Int) < 18446744073709551616 by decide⟩
 have hs7':abt n' 1:=by rw[hn'];exact (ans hsol).1
 clear hn' hy hag
 have S6:St w0 w3 (clA p ⟨1,4,4,ky,rep,rul,tb,hb,kb,ru,se,un,su,ag,10,ov,ev,0,0⟩ :: mm ov (pa [101] (sq 7 su 1 0) px) :: kc tb n' :: mr hb g4 [⟨7,[s7],false⟩] (pc [(7,10)] 7 (abf 10)) :: pd kb 0 [] :: mu ev [qn 0 0 s7] :: rdA 1 mh rep [101] :: rdA 4 li rul [jz] :: jl ru .u64 [(7,.pointer (some ⟨rb,0,none⟩))] :: jl se .u64 [] :: jl un .u64 [] :: pq rb 7 su 1 0 :: R):=S5.pick (L:=[_,_,_,_,_,_,_,_,_,_,_]) [0,5,1,2,3,4,6,7,8,9,10] 11 rfl (by decide)
 refine azv S6 fun w4 S7=>?_
 have S8:St w0 w4 (lk p ⟨1,4,4,ky,rep,rul,tb,hb,kb,ru,se,un,su,ag,10,.slice none 0 0,ev,0,0⟩ n' g4 [⟨7,[s7],false⟩] (pc [(7,10)] 7 (abf 10)) 0 [] [qn 0 0 s7] [] [(7,.pointer (some ⟨rb,0,none⟩))] [] ++ (pq rb 7 su 1 0 :: mm ov (pa [101] (sq 7 su 1 0) px) :: R)):=(Go.Eng.wg S7:St w0 w4 (mm (.slice none 0 0) [] :: _)).pick (L:=[_,_,_,_,_,_,_,_,_,_,_,_,_]) [1,3,4,5,6,0,7,8,9,10,11,12,2] 13 rfl (by decide)
 have hlt:Sl w4 13 ltC ov (pa [101] (sq 7 su 1 0) px):=zm S8 (e:=T.bm) (by simp) acf
 obtain⟨ab,ao,cap,hv,_,_,hc⟩:=hlt.at (i:=0) (by simp[pa])
 have hia: ∀w' K,iaT P T.ar ov (.int .i64 0) w' K=K (.pointer (some ⟨ab,ao,none⟩)) w':=fun w' K=>by rw[hv];simp[pa]
 have hln: ∀w' K,biT P .len #[T.ar] T.d [false] [ov] w' K=K (.int .i64 1) w':=fun w' K=>hlt.jp (by kernel_rfl) [false]
 have k1:il w4 ab (ao+1)=some (.int .u64 101):=by simpa [ltC,pa] using hc 1 _ rfl
 have k2:il w4 ab (ao+2)=some (.int .i64 4):=by simpa [ltC,pa,pkC,sq] using hc 2 _ rfl
 have k4:il w4 ab (ao+4)=some (.int .u64 1):=by simpa [ltC,pa,pkC,sq,su] using hc 4 _ rfl
 have k5:il w4 ab (ao+5)=some (.int .u64 4294967297):=by simpa [ltC,pa,pkC,sq,su] using hc 5 _ rfl
 have kb2: ∀K,ldN P 2 ab (ao+4) w4 K=K (kq su) w4:=fun K=>sm (ud su) 2 rfl (fun k u hk=>by
  match k,hk with
  | 0,hk=>injection hk with hk;subst hk;exact k4
  | 1,hk=>injection hk with hk;subst hk;exact k5
  | k+2,hk=>simp[ud] at hk) K
 simp[hln,hia,k1,k2]
 unfold M.bk.j1
 simp[hia,kb2]
 have S9:=(aby S8).pick (L:=[_,_,_,_,_,_,_,_,_,_,_,_,_,_]) [1,2,3,4,5,6,7,8,9,10,11,12,0,13] 14 rfl (by decide)
 generalize w4.heap.size=tb2 at *
 generalize w4.alloc _=w5 at *
 have lb: ∀{w':World}{L:List Asn},St w0 w' L->baB tb2 su∈L->∀K,ldN P 2 tb2 0 w' K=K (kq su) w':=fun S' hm K=>by
  obtain⟨s,t,rfl⟩:=List.append_of_mem hm
  exact (S'.perm List.perm_middle).ldA (n:=2) (i:=0) (ud su) rfl rfl K
 have hb7:su.rng:=⟨⟨by decide,by decide⟩,⟨by decide,by decide⟩⟩
 have bld: ∀(half:Int)(k:Int),k=(if half=1 then 7 else 5)->∀w' K,jg P T.c #[(0,.int .i64 k),(1,.int .u64 7),(2,kq su),(5,.bool true)] w' K=K (pkA (qo 7 su half)) w':=fun half k hk w' K=>by
  subst hk
  simp[kq,pkA,pkC,qo,pk0,jc]
 refine adg (b:=tb2) (x:=jc) (y:=su) (S9.pick (L:=[_,_,_,_,_,_,_,_,_,_,_,_,_,_]) [12,0,1,2,3,4,5,6,7,8,9,10,11] 14 rfl (by decide)) fun w6 S10=>?_
 have S11:St w0 w6 (lk p ⟨1,4,4,ky,rep,rul,tb,hb,kb,ru,se,un,su,ag,10,.slice none 0 0,ev,0,0⟩ n' g4 [⟨7,[s7],false⟩] (pc [(7,10)] 7 (abf 10)) 0 [] [qn 0 0 s7] [] [(7,.pointer (some ⟨rb,0,none⟩))] [] ++ (pq rb 7 su 1 0 :: baB tb2 su :: R)):=S10.pick (L:=[_,_,_,_,_,_,_,_,_,_,_,_,_]) [1,2,3,4,5,6,7,8,9,10,11,12,0] 13 rfl (by decide)
 simp[lb S10 (.head _),bld 0 5 rfl]
 refine aki S11 (.inl rfl) (by decide) hb7 (by decide) fun w7 S12=>?_
 refine aus S12 (by decide) hb7 (by decide) (by simp) fun w8 ov2 S13=>?_
 simp[lb S13 (by simp),bld 1 7 rfl]
 refine aki S13 (.inr rfl) (by decide) hb7 (by decide) fun w9 S14=>?_
 refine bba (s:=s7) S14 hn7 hs7' (show (0:Int) < 4 by decide) (by simp) (by simp) (by simp) (by simp) (by decide) hb7 (by decide) (by simp[pa]) fun w10 ov3 ev3 uv ls' S15=>?_
 refine avq (S15.pick (L:=[_,_,_,_,_,_,_,_,_,_,_]) [0,3] 11 rfl (by decide)) 7 ?_
 simp[kl]
 refine ahb (S15.pick (L:=[_,_,_,_,_,_,_,_,_,_,_]) [0,10,1,2,3,4,5,6,7,8,9] 11 rfl (by decide)) (by simp) fun w11 v11 S16=>?_
 have hl1:(Suint64.ut (jo [((7:Int),uv)])).length=1:=by rw[(Suint64.abc _).length_eq];rfl
 have hln1:=fun w' K=>alh (w':=w') (K:=K) (S16.row oe)
 rw[hl1] at hln1
 simp[hln1]
 have S17:St w0 w11 (lk p ⟨1,4,4,ky,rep,rul,tb,hb,kb,ru,se,un,su,ag,12,ov3,ev3,0,0⟩ n' g4 (tx [⟨7,[s7],false⟩] 7) (qu (pc [(7,10)] 7 (abf 10)) 7) 7 [(7,.int .i64 1)] ([qn 0 0 s7] ++ [aes 12 7 s7]) ls' [] [(7,uv)] ++ (baB tb2 su :: R)):=S16.pick (L:=[_,_,_,_,_,_,_,_,_,_,_,_]) [1,3,4,5,6,7,8,9,10,11,2] 12 rfl (by decide)
 refine agb S17 (by simp[tx]) fun w12 v12 S18=>?_
 have hl0:(mq (tx [⟨7,[s7],false⟩] 7)).length=0:=by
  unfold mq
  rw[(Suint64.abc _).length_eq]
  simp[tx]
 have hln0:=fun w' K=>alh (w':=w') (K:=K) (S18.row oe)
 rw[hl0] at hln0
 simp[hln0]
 exact h w12 ((S18.pick (L:=[_,_,_,_,_,_,_,_,_,_,_,_,_]) [] 13 rfl (by decide)))
theorem akr(S:St w0 w R){K:KV}(h: ∀w',St w0 w' R->K (.bool true) w'):ig P F.aw [] w K:=by
 rw[M.bk.fcall]
 apply M.bk.calls
 unfold M.bk
 refine aqz S fun w1 a c S1=>?_
 refine bax S1 fun w2 S2=>?_
 refine aof S2 (fun w' L S'=>zm S' (e:=T.a) (sz:=1) (enc:=Suint64.sf) (v:= .slice a 1 c) (l:=[101]) (by simp) oe) (by decide) (by decide) fun w3 p g rep rul tb hb kb ru se un g1 g2 g3 S3=>?_
 have hg:g=g4:=by
  obtain⟨a,b,c⟩:=g
  have h1:(4:Int)=a:=g1
  have h2:(4:Int)=b:=g2
  have h3:(10:Int)=c:=g3
  unfold g4
  rw[show a=4 by omega,show b=4 by omega,<-h3]
 subst hg
 simp only[im]
 simp
 exact awf S3 fun w4 S4=>h w4 S4.drop
end
structure SV where
 a:Option Addr
 n:Nat
 c:Nat
def SV.v(s:SV):Value:= .slice s.a s.n s.c
abbrev PB:=SV×List Int
def bcr(x:PB):List Value:=[x.1.v]
def SlP(w:World)(v:Value)(l:List PB):Prop:=Sl w 1 bcr v l/\∀x∈l,SlB w x.1.v x.2
section
variable {w0 w w' : World} {R : List Asn} {v : Value} {l : List PB} {ls : List (List Int)}
theorem SlP.fr(h:SlP w v l)(hf:Fz w w'):SlP w' v l:=⟨h.1.fr hf fun _ _ _ h=>h,fun x hx=>(h.2 x hx).fr hf fun _ _ _ h=>h⟩
theorem SlP.len(h:SlP w v l)(w':World)(K:KV):biT P .len #[T.bp] T.d [false] [v] w' K=K (.int .i64 l.length) w':=h.1.jp (by kernel_rfl) [false]
theorem SlP.at(h:SlP w v l){i:Nat}(hi:i < l.length): ∃b o s,(∀w' K,iaT P T.bp v (.int .i64 (i:Nat)) w' K=K (.pointer (some ⟨b,o,none⟩)) w')/\(∀{w1},SlP w1 v l->il w1 b o=some (SV.v s))/\∀{w1},SlP w1 v l->SlB w1 (SV.v s) l[i].2:=by
 obtain⟨b,o,cap,hv,_,_,hc⟩:=h.1.at hi
 refine⟨b,o+i,l[i].1,fun w' K=>by rw[hv];simp[hi],fun{w1} h1=>?_,fun{w1} h1=>h1.2 _ (List.getElem_mem hi)⟩
 obtain⟨b',o',cap',hv',_,_,hc'⟩:=h1.1.at hi
 have hx:=hv.symm.trans hv'
 cases hx
 have c0:=hc' 0 _ rfl
 simp only[Nat.mul_one,Nat.add_zero] at c0
 exact c0
theorem baa{n:Nat}(h:TV P w n T.g [v]): ∃l,SlB w v l:=by
 refine ajg (sz:=1) (rd:=rdE ww) (e:=T.ac) (by kernel_rfl) (by kernel_rfl) (by decide) (fun n b o cs ht hl hc=>?_) h
 obtain⟨x,hx,_⟩:=baz (k:= .u8) (by kernel_rfl) ht
 subst hx
 exact⟨x,fun j u hj=>hc j u hj⟩
theorem bez{n:Nat}(h:TV P w n T.bp [v]): ∃l,SlP w v l:=by
 have: ∃l:List PB,afl w 1 (fun w b o x=>rdE bcr w b o x/\SlB w x.1.v x.2) v l:=by
  refine ajg (sz:=1) (rd:=fun w b o (x:PB)=>rdE bcr w b o x/\SlB w x.1.v x.2) (e:=T.g) (by kernel_rfl) (by kernel_rfl) (by decide) (fun n b o cs ht hl hc=>?_) h
  match cs,hl with
  | [u],_=>
   obtain⟨d,hd⟩:=baa ht
   obtain⟨a,c,hu,_⟩:=id hd
   exact⟨(⟨a,d.length,c⟩,d),fun j y hj=>hc j y (by rw[hu];exact hj),by simpa [SV.v,<-hu] using hd⟩
 obtain⟨l,hl⟩:=this
 refine⟨l,hl.mono fun b o x hx=>hx.1,fun x hx=>?_⟩
 obtain⟨i,hi,rfl⟩:=List.getElem_of_mem hx
 obtain⟨a,cap,hv,_,_,h3⟩:=hl
 obtain⟨b,o,_,_,hr⟩:=h3 i _ (List.getElem?_eq_getElem hi)
 exact hr.2
end
structure Gat(A:List AE)(es:List Evn)(k:Nat):Prop where
 few:A.length<=k
 len: ∀e∈A,e.l.length<=k
 nz: ∀e∈A,e.t≠0
 sn: ∀e∈A,∀s∈e.l,∃v∈es,v.jh=1/\v.s=s
 ev:es.length<=k
theorem bep{s:Spn}(h:kv s=0):s.je≠0:=fun e=>by
 unfold kv at h
 rw[if_pos (.inl e)] at h
 cases h
theorem atj{g:Cfg}{A:List AE}{es:List Evn}{k:Nat}(G:Gat A es k){s:Spn}(hr:kv s=0)(now:Int):Gat (rl g A s) (es ++ [qn (ou g A s) now s]) (k+1):=by
 have hz:=bep hr
 have hold: ∀e∈A,∀x∈e.l,∃v∈es ++ [qn (ou g A s) now s],v.jh=1/\v.s=x:=fun e he x hx=>by
  obtain⟨v,hv,h1,h2⟩:=G.sn e he x hx
  exact⟨v,List.mem_append_left _ hv,h1,h2⟩
 have hnew:ou g A s=0->∃v∈es ++ [qn (ou g A s) now s],v.jh=1/\v.s=s:=fun h=>⟨_,List.mem_append_right _ (List.mem_singleton.2 rfl),by unfold qn;rw[if_pos h],by unfold qn;rw[if_pos h]⟩
 have hel:(es ++ [qn (ou g A s) now s]).length<=k+1:=by
  rw[List.length_append]
  have:=G.ev
  simp
  omega
 have same:Gat A (es ++ [qn (ou g A s) now s]) (k+1):=⟨by have:=G.few;omega,fun e he=>by have:=G.len e he;omega,G.nz,hold,hel⟩
 have hr': ¬kv s≠0:=fun h=>h hr
 cases hf:A.find? (fun e=>decide (e.t=s.je)) with
 | none=>
  by_cases hg:g.ku<=A.length
  ·have e1:rl g A s=A:=by unfold rl;rw[if_neg hr',hf];simp only[if_pos hg]
   rw[e1]
   exact same
  ·have e1:rl g A s=A ++ [⟨s.je,[s],false⟩]:=by unfold rl;rw[if_neg hr',hf];simp only[if_neg hg]
   have e2:ou g A s=0:=by unfold ou;rw[if_neg hr',hf];simp only[if_neg hg]
   rw[e1]
   refine⟨?_,fun e he=>?_,fun e he=>?_,fun e he x hx=>?_,hel⟩
   ·have:=G.few;simp;omega
   ·rcases List.mem_append.1 he with h|h
    ·have:=G.len e h;omega
    ·rw[List.mem_singleton.1 h];simp
   ·rcases List.mem_append.1 he with h|h
    ·exact G.nz e h
    ·rw[List.mem_singleton.1 h];exact hz
   ·rcases List.mem_append.1 he with h|h
    ·exact hold e h x hx
    ·rw[List.mem_singleton.1 h] at hx
     rw[List.mem_singleton.1 hx]
     exact hnew e2
 | some e0=>
  have he0:=List.mem_of_find?_eq_some hf
  by_cases hd:(e0.l.any fun x=>decide (x.id=s.id))=true
  ·have e1:rl g A s=A:=by unfold rl;rw[if_neg hr',hf];simp only[if_pos hd]
   rw[e1]
   exact same
  ·by_cases hg:g.kg<=e0.l.length
   ·have e1:rl g A s=afc A s.je:=by unfold rl;rw[if_neg hr',hf];simp only[if_neg hd,if_pos hg]
    rw[e1]
    unfold afc
    refine⟨by rw[List.length_map];exact same.few,fun e he=>?_,fun e he=>?_,fun e he x hx=>?_,hel⟩ <;>obtain⟨e',he',rfl⟩:=List.mem_map.1 he
    ·split
     ·exact same.len e' he'
     ·exact same.len e' he'
    ·split
     ·exact same.nz e' he'
     ·exact same.nz e' he'
    ·split at hx
     ·exact same.sn e' he' x hx
     ·exact same.sn e' he' x hx
   ·have e1:rl g A s=aqt A s.je s:=by unfold rl;rw[if_neg hr',hf];simp only[if_neg hd,if_neg hg]
    have e2:ou g A s=0:=by unfold ou;rw[if_neg hr',hf];simp only[if_neg hd,if_neg hg]
    rw[e1]
    unfold aqt
    refine⟨by rw[List.length_map];exact same.few,fun e he=>?_,fun e he=>?_,fun e he x hx=>?_,hel⟩ <;>obtain⟨e',he',rfl⟩:=List.mem_map.1 he
    ·split
     ·have:=G.len e' he';simp;omega
     ·exact same.len e' he'
    ·split
     ·exact same.nz e' he'
     ·exact same.nz e' he'
    ·split at hx
     ·rcases List.mem_append.1 hx with hx|hx
      ·exact same.sn e' he' x hx
      ·rw[List.mem_singleton.1 hx]
       exact hnew e2
     ·exact same.sn e' he' x hx
theorem bcb{A:List AE}{es:List Evn}{k:Nat}(G:Gat A es k):Gat A es (k+1):=⟨by have:=G.few;omega,fun e he=>by have:=G.len e he;omega,G.nz,G.sn,by have:=G.ev;omega⟩
section
variable {w0 w : World} {R : List Asn} {p : Nat} {q : Cl} {n : Nd} {g : Cfg} {A : List AE} {c : CT} {es : List Evn}
theorem aml{rv:Value}{l:List Int}{inc:Int}(S:St w0 w (lk p q n g A c 0 [] es [] [] [] ++ R))(hn:sj n)(hsol:abt n inc)(hA:A.length<=1000)(hL: ∀e∈A,e.l.length<=1000)(he:es.length<=1000000)(hs:Rdv w0 R rv l)(hll:l.length<=1000000)(hbd:0<=q.bad/\q.bad<=1000000)(hq:q.now=0)(hw:0<=g.jq){K:KV}
  (h: ∀s,pp l=some (s,[])->aga s->kv s=0->∀w' v',St w0 w' (lk p {q with ev:=v'} n g (rl g A s) (aei g A c s 0) 0 [] (es ++ [qn (ou g A s) 0 s]) [] [] [] ++ R)->K (.int .i64 (if ou g A s=0 then 0 else 8)) w')
  (hno:(∀s,pp l≠some (s,[]))->∀w' kk,kk≠0->St w0 w' (lk p {q with bad:=q.bad+1} n g A c 0 [] es [] [] [] ++ R)->K (.int .i64 kk) w'):ig P F.r [km p,rv,.int .u64 0] w K:=by
 have hmx:max q.now 0=0:=by rw[hq];rfl
 have e1: ∀v',({q with now:=0,ev:=v'}:Cl)={q with ev:=v'}:=fun v'=>by
  cases q
  simp only at hq
  subst hq
  rfl
 have e2:({q with now:=0,bad:=q.bad+1}:Cl)={q with bad:=q.bad+1}:=by
  cases q
  simp only at hq
  subst hq
  rfl
 have S2:St w0 w (acn p q n g A c 0 es ++ (mm q.out [] :: rdA 1 mh q.rep [101] :: rdA 4 li q.rul [jz] :: jl q.ru .u64 [] :: jl q.se .u64 [] :: jl q.un .u64 [] :: R)):=S
 refine bin S2 hn (adu hn hsol) (ajx hs [_,_,_,_,_,_]) hll hbd (by omega) (by omega) (by decide) (by decide) hA hL hw he (fun s hco hR hr w' v' S'=>?_) fun hno' w' kk hkk S'=>?_
 ·rw[hmx,e1] at S'
  exact h s hco hR hr w' v' S'
 ·rw[hmx,e2] at S'
  exact hno hno' w' kk hkk S'
theorem bhm{rv:Value}{l:List Int}{inc:Int}{k:Nat}(S:St w0 w (lk p q n g A c 0 [] es [] [] [] ++ R))(hn:sj n)(hsol:abt n inc)(G:Gat A es k)(hk:k<=900)(hs:Rdv w0 R rv l)(hll:l.length<=1000000)(hbd:0<=q.bad/\q.bad<=k)(hq:q.now=0)(hw:0<=g.jq){K:KV}
  (h: ∀s,pp l=some (s,[])->aga s->kv s=0->Gat (rl g A s) (es ++ [qn (ou g A s) 0 s]) (k+1)->∀w' v',St w0 w' (lk p {q with ev:=v'} n g (rl g A s) (aei g A c s 0) 0 [] (es ++ [qn (ou g A s) 0 s]) [] [] [] ++ R)->K (.int .i64 (if ou g A s=0 then 0 else 8)) w')
  (hno:(∀s,pp l≠some (s,[]))->Gat A es (k+1)->∀w' kk,kk≠0->St w0 w' (lk p {q with bad:=q.bad+1} n g A c 0 [] es [] [] [] ++ R)->K (.int .i64 kk) w'):ig P F.r [km p,rv,.int .u64 0] w K:=
 aml S hn hsol (by have:=G.few;omega) (fun e he=>by have:=G.len e he;omega) (by have:=G.ev;omega) hs hll ⟨hbd.1,by omega⟩ hq hw (fun s hco hR hr=>h s hco hR hr (atj G hr 0)) fun hno'=>hno hno' (bcb G)
end
section
variable {w0 w : World} {R : List Asn} {p : Nat} {q : Cl} {n : Nd} {g : Cfg} {A : List AE} {c : CT} {a0 : Int} {m rm um : MP} {es : List Evn} {ls : List Ltr}
end
def clG(inc:Int)(rep rul:Value)(tb hb kb ru se un:Nat)(ag now:Int)(ev:Value)(bad:Int):Cl:=⟨inc,4,4,ky,rep,rul,tb,hb,kb,ru,se,un,jc,ag,now,.slice none 0 0,ev,bad,0⟩
section
variable {W w : World} {R : List Asn} {inc : Int} {p tb hb kb ru se un : Nat} {rep rul : Value}
def SgI(W:World)(R:List Asn)(p:Nat)(inc:Int)(rep rul:Value)(tb hb kb ru se un:Nat)(l:List PB):KL:=fun x w1=> ∃(u:Value)(i:Nat)(A:List AE)(c:CT)(es:List Evn)(ev:Value)(bad:Int),x=[u,.int .i64 (i:Nat)]/\i<=l.length/\Gat A es i/\(0<=bad/\bad<=i)/\St W w1 (lk p (clG inc rep rul tb hb kb ru se un 0 0 ev bad) (Nd.new 1 inc 5 20 0) g4 A c 0 [] es [] [] [] ++ R)
theorem bix:Gat [] [] 0:=⟨Nat.le_refl _,fun _ h=>(List.not_mem_nil h).elim,fun _ h=>(List.not_mem_nil h).elim,fun _ h=>(List.not_mem_nil h).elim,Nat.le_refl _⟩
theorem bip(inc:Int)(rep rul:Value)(tb hb kb ru se un:Nat):adl inc 4 rep rul tb hb kb ru se un=clG inc rep rul tb hb kb ru se un 0 0 (.slice none 0 0) 0:=rfl
end
def BtR(l:List Int):Prop:= ∀x∈l,0<=x/\x < 256
def n8N(l:List Int):Nat->Int
 | 0=>0
 | i+1=>IntKind.u64.wrap (IntKind.u64.wrap (n8N l i * 2 ^ min (8:Int).toNat IntKind.u64.bits)+IntKind.u64.wrap (l.getD i 0))
theorem orB{a x:Int}(ha:0<=a/\a < 18446744073709551616)(hx:0<=x/\x < 256):orL (IntKind.u64.wrap (a * 2 ^ min (8:Int).toNat IntKind.u64.bits)) (IntKind.u64.wrap x)=IntKind.u64.wrap (IntKind.u64.wrap (a * 2 ^ min (8:Int).toNat IntKind.u64.bits)+IntKind.u64.wrap x):=by
 have e0:a * 2 ^ min (8:Int).toNat IntKind.u64.bits=a * 256:=rfl
 rw[e0]
 have hwx:IntKind.u64.wrap x=x:=lq (by omega) (by omega)
 rw[hwx]
 have hwa:IntKind.u64.wrap (a * 256)=(a % 72057594037927936) * 256:=by
  show (a * 256) % 18446744073709551616=_
  omega
 rw[hwa]
 obtain⟨m,hm⟩:=Int.eq_ofNat_of_zero_le (show 0<=a % 72057594037927936 by omega)
 obtain⟨y,hy⟩:=Int.eq_ofNat_of_zero_le hx.1
 have hml:m < 72057594037927936:=by omega
 rw[hm,hy]
 have hyl:y < 256:=by omega
 unfold orL
 have h1:(BitVec.ofInt IntKind.u64.bits ((m:Int) * 256) ||| BitVec.ofInt IntKind.u64.bits (y:Int)).toNat=m * 256+y:=by
  rw[BitVec.toNat_or]
  have e1:(BitVec.ofInt IntKind.u64.bits ((m:Int) * 256)).toNat=m * 256:=by
   have:((m:Int) * 256)=((m * 256:Nat):Int):=by omega
   rw[this]
   exact xx (by omega)
  have e2:(BitVec.ofInt IntKind.u64.bits (y:Int)).toNat=y:=xx (by omega)
  rw[e1,e2,show m * 256=2 ^ 8 * m from by rw[Nat.mul_comm],Nat.two_pow_add_eq_or_of_lt (by omega) m]
 rw[h1]
 congr 1
theorem ayo{l:List Int}(h:BtR l): ∀i,i<=8->n8N l i=ul l i/\0<=ul l i/\ul l i < 18446744073709551616
 | 0,_=>⟨rfl,show (0:Int)<=0 by decide,show (0:Int) < 18446744073709551616 by decide⟩
 | i+1,hi=>by
  obtain⟨h1,h2,h3⟩:=ayo h i (by omega)
  have hx:0<=l.getD i 0/\l.getD i 0 < 256:=by
   rw[List.getD_eq_getElem?_getD]
   cases hg:l[i]? with
   | none=>simp
   | some x=>exact h x (List.mem_of_getElem? hg)
  have he:n8N l (i+1)=ul l (i+1):=by
   unfold n8N ul
   rw[h1]
   exact (orB ⟨h2,h3⟩ hx).symm
  refine⟨he,?_⟩
  have:=atx (IntKind.u64.wrap (ul l i * 2 ^ min (8:Int).toNat IntKind.u64.bits)) (IntKind.u64.wrap (l.getD i 0))
  exact this
section
variable {w0 w : World} {R X : List Asn}
def N8I(w:World)(l:List Int):KL:=fun x w1=> ∃i:Nat,x=[.int .u64 (n8N l i),.int .i64 (i:Nat)]/\w1=w/\i<=8
theorem bhe{v:Value}{l:List Int}(hs:SlB w v l)(hl:8<=l.length)(hb:BtR l){K:KV}(h:K (.int .u64 (qm l)) w):ig P F.a [v] w K:=by
 rw[M.co.fcall]
 apply M.co.calls
 unfold M.co
 simp only[im]
 refine⟨N8I w l,fun x _=>8 - ms x 1,⟨0,rfl,rfl,by omega⟩,?_⟩
 rintro x w1 ⟨i,rfl,rfl,hi⟩
 have q0: ∀a b:Value,gv [a,b] 0=a:=fun _ _=>rfl
 have q1: ∀a b:Value,gv [a,b] 1=b:=fun _ _=>rfl
 simp only[q0,q1]
 by_cases hi8:i < 8
 ·have hili:(i:Int) < 8:=by omega
  simp only[nj,hili,decide_true,ij]
  unfold M.co.j2
  simp only[im,q0,q1]
  have hil:i < l.length:=by omega
  obtain⟨ab,ao,cap,hv,_,_,hc⟩:=hs.at hil
  have hia: ∀w' K,iaT P T.g v (.int .i64 (i:Nat)) w' K=K (.pointer (some ⟨ab,ao+i,none⟩)) w':=fun w' K=>by rw[hv];simp[hil]
  have hcell:il w1 ab (ao+i)=some (.int .u8 l[i]):=by simpa [ww] using hc 0 _ rfl
  have hg:l.getD i 0=l[i]:=by rw[List.getD_eq_getElem?_getD,List.getElem?_eq_getElem hil];rfl
  have hwi:IntKind.i64.wrap ((i:Int)+1)=((i+1:Nat):Int):=by rw[iy];rfl
  rw[ach (by decide)]
  simp only[hia]
  simp[hcell]
  rw[od (ks:= .u8) (kd:= .u64) (by kernel_rfl) (by kernel_rfl)]
  simp
  rw[hwi]
  have hn8:n8N l (i+1)=IntKind.u64.wrap (IntKind.u64.wrap (n8N l i * 2 ^ min (8:Int).toNat IntKind.u64.bits)+IntKind.u64.wrap l[i]):=by rw[<-hg];rfl
  have h88:(2:Int) ^ min (8:Int).toNat IntKind.u64.bits=2 ^ min 8 IntKind.u64.bits:=rfl
  refine⟨⟨i+1,?_,rfl,by omega⟩,by simp[ms,gv];omega⟩
  rw[hn8]
  simp
 ·have hie:i=8:=by omega
  subst hie
  simp only[nj,show decide (((8:Nat):Int) < 8)=false from by decide,ij,q1]
  have:=(ayo hb 8 (Nat.le_refl _)).1
  rw[this]
  exact h
end
section
variable {w0 w : World} {R X : List Asn}
theorem apj{v:Value}{l:List Int}(S:St w0 w (X ++ R))(hs:Rdv w0 R v l)(hb:BtR l)(hl:l.length<=1000000){K:KV}
  (h1: ∀r,tx1 (some l)=some r->∀w' v',Rdv w0 R v' r->St w0 w' (X ++ R)->K (.tuple #[.string (txV l),v',.int .i64 0]) w')
  (h0:tx1 (some l)=none->∀w' k,k≠0->St w0 w' (X ++ R)->K (.tuple #[.string ⟨#[]⟩,.slice none 0 0,.int .i64 k]) w'):ig P F.cs [v] w K:=by
 rw[M.ak.fcall]
 apply M.ak.calls
 unfold M.ak
 have hln: ∀w' K,biT P .len #[T.g] T.d [false] [v] w' K=K (.int .i64 l.length) w':=fun w' K=>(hs w X S).jp (by kernel_rfl) [false]
 simp only[im,hln]
 by_cases hne:l=[]
 ·subst hne
  simp
  exact h0 rfl w 3 (by decide) S
 ·have hp:=List.length_pos_iff.2 hne
  have hz: ¬(l.length:Int)=0:=by omega
  simp[hz,hne]
  unfold M.ak.j0
  obtain⟨ab,ao,cap,hv,_,_,hc⟩:=(hs w X S).at hp
  have hia: ∀w' K,iaT P T.g v (.int .i64 0) w' K=K (.pointer (some ⟨ab,ao,none⟩)) w':=fun w' K=>by rw[hv];simp[hp]
  have h00:l[0]=l.headD 0:=by cases l with
   | nil=>exact absurd rfl hne
   | cons x l=>rfl
  have hcell:il w ab ao=some (.int .u8 (l.headD 0)):=by
   have:=hc 0 _ rfl
   rw[h00] at this
   simpa [ww] using this
  have hx:=hb (l.headD 0) (by rw[<-h00];exact List.getElem_mem hp)
  obtain⟨m,hm⟩:=Int.eq_ofNat_of_zero_le hx.1
  rw[hm] at hcell
  have hcv: ∀w' K',cvT P T.ac T.d (.int .u8 (m:Int)) w' K'=K' (.int .i64 (m:Nat)) w':=fun w' K'=>by
   rw[od (ks:= .u8) (kd:= .i64) (by kernel_rfl) (by kernel_rfl),iy]
  simp[hia,hcell,hcv]
  by_cases hin:1<=m/\m<=32
  ·have b1: ¬(m:Int) < 1:=by omega
   have b2: ¬32 < (m:Int):=by omega
   have b1': ¬m < 1:=by omega
   have b2': ¬32 < m:=by omega
   have b1'': ¬m=0:=by omega
   simp[b1,b2,b1',b2',b1'']
   unfold M.ak.j1
   simp only[im,hln]
   have hsub:IntKind.i64.wrap ((l.length:Int) - 1)=(l.length:Int) - 1:=iy
   by_cases hlt:l.length - 1 < m
   ·have hlt':(l.length:Int) - 1 < (m:Int):=by omega
    simp[hsub,hlt']
    refine h0 ?_ w 3 (by decide) S
    simp only[tx1,Option.bind_some,if_neg hne]
    rw[if_neg (fun hh=>by
     have:=hh.2.2
     rw[hm] at this
     simp at this
     omega)]
   ·have hlt': ¬(l.length:Int) - 1 < (m:Int):=by omega
    simp[hsub,hlt']
    unfold M.ak.j2
    have S1:=S.ju ((Fr.refl _ w).dr 1)
    have hw1:IntKind.i64.wrap ((m:Int)+1)=((m+1:Nat):Int):=by rw[iy];rfl
    obtain⟨v1,e1,r1⟩:=yz (L0:=X) S hs (lo:=some (.int .i64 ((1:Nat):Int))) (hi:=some (.int .i64 ((m+1:Nat):Int))) (i:=1) (j:=m+1) (.inr ⟨_,rfl⟩) (.inr ⟨_,rfl⟩) (by omega) (by omega)
    obtain⟨v2,e2,r2⟩:=yz (L0:=X) S hs (lo:=some (.int .i64 ((m+1:Nat):Int))) (hi:=none) (i:=m+1) (j:=l.length) (.inr ⟨_,rfl⟩) (.inl ⟨rfl,rfl⟩) (by omega) (Nat.le_refl _)
    have e1': ∀w1 K,slT P T.g v (some (.int .i64 1)) (some (.int .i64 ((m:Int)+1))) none w1 K=K v1 w1:=e1
    have e2': ∀w1 K,slT P T.g v (some (.int .i64 ((m:Int)+1))) none none w1 K=K v2 w1:=e2
    have hst: ∀(w':World) K',St w0 w' (X ++ R)->cvT P T.g T.m v1 w' K'=K' (.string (afw ((l.drop 1).take (m+1 - 1)))) w':=fun w' K' S'=>avk (by kernel_rfl) (by kernel_rfl) (r1 w' X S') K'
    have hw1':IntKind.i64.wrap ((m:Int)+1)=(m:Int)+1:=iy
    simp[hw1',e1',e2',hst _ _ S1]
    have ht:tx1 (some l)=some (l.drop (m+1)):=by
     simp only[tx1,Option.bind_some,if_neg hne]
     rw[if_pos (by rw[hm];simp;omega),hm,Int.toNat_natCast,List.drop_drop,Nat.add_comm]
    have:=h1 _ ht (dr w 1) v2 (by
     rw[List.take_of_length_le (by simp)] at r2
     exact r2) S1
    unfold txV at this
    rw[hm,Int.toNat_natCast] at this
    simpa using this
  ·have hn:tx1 (some l)=none:=by
    simp only[tx1,Option.bind_some,if_neg hne]
    rw[if_neg (fun hh=>by
     have a1:=hh.1
     have a2:=hh.2.1
     rw[hm] at a1 a2
     omega)]
   by_cases b1:m=0
   ·subst b1
    simp
    exact h0 hn w 6 (by decide) S
   ·have b2:32 < m:=by omega
    have b3: ¬m < 1:=by omega
    have b4: ¬(m:Int) < 1:=by omega
    have b5:32 < (m:Int):=by omega
    simp[b1,b2,b3,b4,b5]
    exact h0 hn w 6 (by decide) S
end
section
variable {w0 w : World} {R : List Asn}
def vx(l:List Int):Spn:=⟨qm l,qm (l.drop 8),qm (l.drop 16),qm (l.drop 24),qm (l.drop 32),⟨#[]⟩,⟨#[]⟩,decide ((l.drop 40).headD 0=1)⟩
theorem yn{l:List Int}(h:BtR l)(n:Nat):BtR (l.drop n):=fun x hx=>h x (List.mem_of_mem_drop hx)
theorem aks(tb:Nat)(s:Spn)(w':World)(K:KV):stT P T.f (.pointer (some ⟨tb,0,none⟩)) (ki s) w' K=stN P tb 0 (jj s) w' K:=by
 unfold ki
 simp[jj]
theorem azn(tb:Nat)(w':World)(K:KV):mi P T.f (.pointer (some ⟨tb,0,none⟩)) w' K=ldN P 8 tb 0 w' K:=kr
theorem bdg{v:Value}{l:List Int}{t2:Nat}{x0:List Value}(S:St w0 w (spB t2 ns :: R))(hs:Rdv w0 R v l)(hb:BtR l)(hl:41<=l.length){K:KV}
  (h: ∀w' tb L,gv L 19= .pointer (some ⟨tb,0,none⟩)->St w0 w' (spB tb (vx l) :: spB t2 ns :: R)->M.ac.j1 v (.pointer (some ⟨t2,0,none⟩)) x0 L w' K):M.ac.j0 v (.pointer (some ⟨t2,0,none⟩)) x0 w K:=by
 unfold M.ac.j0
 have S1:=S.ju ((Fr.refl _ w).dr 1)
 rw[pu]
 generalize dr w 1=w1 at *
 refine abh fun K1 hK=>?_
 have sub: ∀(i:Nat),i<=l.length->∃v',(∀w1 K,slT P T.g v (some (.int .i64 ((i:Nat):Int))) none none w1 K=K v' w1)/\Rdv w0 R v' (l.drop i):=fun i hi=>by
  obtain⟨v2,e2,r2⟩:=yz (L0:=[_]) S1 hs (lo:=some (.int .i64 ((i:Nat):Int))) (hi:=none) (i:=i) (j:=l.length) (.inr ⟨_,rfl⟩) (.inl ⟨rfl,rfl⟩) hi (Nat.le_refl _)
  refine⟨v2,e2,?_⟩
  rw[List.take_of_length_le (by simp)] at r2
  exact r2
 obtain⟨v8,e8,r8⟩:=sub 8 (by omega)
 obtain⟨v16,e16,r16⟩:=sub 16 (by omega)
 obtain⟨v24,e24,r24⟩:=sub 24 (by omega)
 obtain⟨v32,e32,r32⟩:=sub 32 (by omega)
 have e8': ∀w1 K,slT P T.g v (some (.int .i64 8)) none none w1 K=K v8 w1:=e8
 have e16': ∀w1 K,slT P T.g v (some (.int .i64 16)) none none w1 K=K v16 w1:=e16
 have e24': ∀w1 K,slT P T.g v (some (.int .i64 24)) none none w1 K=K v24 w1:=e24
 have e32': ∀w1 K,slT P T.g v (some (.int .i64 32)) none none w1 K=K v32 w1:=e32
 obtain⟨ab,ao,cap,hv,_,_,hc⟩:=(hs w1 [_] S1).at (i:=40) (by omega)
 have hiaN: ∀(i:Nat),i < l.length->∀w' K,iaT P T.g v (.int .i64 (i:Nat)) w' K=K (.pointer (some ⟨ab,ao+i,none⟩)) w':=fun i hi w' K=>by
  rw[hv]
  simp[hi]
 have hia: ∀w' K,iaT P T.g v (.int .i64 40) w' K=K (.pointer (some ⟨ab,ao+40,none⟩)) w':=hiaN 40 (by omega)
 have h40:l[40]=(l.drop 40).headD 0:=by
  rw[List.drop_eq_getElem_cons (by omega)]
  rfl
 have hcell: ∀{w':World}{L:List Asn},St w0 w' (L ++ R)->il w' ab (ao+40)=some (.int .u8 ((l.drop 40).headD 0)):=fun{w' L} S'=>by
  obtain⟨ab',ao',cap',hv',_,_,hc'⟩:=(hs w' L S').at (i:=40) (by omega)
  have hx:=hv.symm.trans hv'
  cases hx
  have:=hc' 0 _ rfl
  rw[h40] at this
  simpa [ww] using this
 generalize hf:(l.drop 40).headD 0=f at *
 have d1: ∀{w':World}{L:List Asn},St w0 w' (L ++ R)->∀K',ld1 P ab (ao+40) w' K'=K' (.int .u8 f) w':=fun S' K'=>ahl (hcell S') K'
 have nb: ∀{w':World}{L:List Asn}{vv:Value}{d:List Int}{K':KV},St w0 w' (L ++ R)->Rdv w0 R vv d->8<=d.length->BtR d->K' (.int .u64 (qm d)) w'->ig P F.a [vv] w' K':=fun{w' L vv d K'} S' hr hd hbd hk=>bhe (hr w' L S') hd hbd hk
 have bld: ∀w' K',jg P T.f #[(0,.int .u64 (qm l)),(1,.int .u64 (qm (l.drop 8))),(2,.int .u64 (qm (l.drop 16))),(3,.int .u64 (qm (l.drop 24))),(4,.int .u64 (qm (l.drop 32))),(7,.bool (decide (f=1)))] w' K'=K' (ki (vx l)) w':=fun w' K'=>by
  simp[ki,vx,<-hf]
 have fin: ∀{w':World}{tb:Nat} L,gv L 19= .pointer (some ⟨tb,0,none⟩)->St w0 w' (spB tb ns :: spB t2 ns :: R)->stT P T.f (.pointer (some ⟨tb,0,none⟩)) (ki (vx l)) w' fun _ w=>K1 L w:=fun{w' tb} L hg S'=>by
  rw[aks]
  refine St.put (vs:=jj (vx l)) (cs':=(jj (vx l)).toArray) S' (ni _) (by simp[jj]) (by simp[jj]) fun w4 S4=>?_
  exact hK L w4 (h w4 tb L hg S4)
 have mk: ∀{w':World},St w0 w' (spB t2 ns :: R)->St w0 (w'.alloc (.cells #[.int .u64 0,.int .u64 0,.int .u64 0,.int .u64 0,.int .u64 0,.string ⟨#[]⟩,.string ⟨#[]⟩,.bool false] T.f)) (spB w'.heap.size ns :: spB t2 ns :: R):=fun S'=>S'.mkB (jj ns).toArray T.f
 have l8:8<=(l.drop 8).length:=by simp;omega
 have l16:8<=(l.drop 16).length:=by simp;omega
 have l24:8<=(l.drop 24).length:=by simp;omega
 have l32:8<=(l.drop 32).length:=by simp;omega
 have D1:=fun K'=>d1 (L:=[_]) S1 K'
 have T1:=mk S1
 have D2:=fun K'=>d1 (L:=[_,_]) T1 K'
 have n0: ∀{w':World}{L:List Asn}{K':KV},St w0 w' (L ++ R)->K' (.int .u64 (qm l)) w'->ig P F.a [v] w' K':=fun S' hk=>nb S' hs (by omega) hb hk
 have n8: ∀{w':World}{L:List Asn}{K':KV},St w0 w' (L ++ R)->K' (.int .u64 (qm (l.drop 8))) w'->ig P F.a [v8] w' K':=fun S' hk=>nb S' r8 l8 (yn hb 8) hk
 have n16: ∀{w':World}{L:List Asn}{K':KV},St w0 w' (L ++ R)->K' (.int .u64 (qm (l.drop 16))) w'->ig P F.a [v16] w' K':=fun S' hk=>nb S' r16 l16 (yn hb 16) hk
 have n24: ∀{w':World}{L:List Asn}{K':KV},St w0 w' (L ++ R)->K' (.int .u64 (qm (l.drop 24))) w'->ig P F.a [v24] w' K':=fun S' hk=>nb S' r24 l24 (yn hb 24) hk
 have n32: ∀{w':World}{L:List Asn}{K':KV},St w0 w' (L ++ R)->K' (.int .u64 (qm (l.drop 32))) w'->ig P F.a [v32] w' K':=fun S' hk=>nb S' r32 l32 (yn hb 32) hk
 have A:=S1
 simp[e8',e16',e24',e32',hia,D1,D2]
 refine⟨n0 (L:=[_]) S1 ?_,?_⟩
 ·simp[D1]
  refine⟨n8 (L:=[_]) S1 ?_,?_⟩
  ·simp[D1]
   refine⟨n16 (L:=[_]) S1 ?_,?_⟩
   ·simp[D1]
    refine⟨n24 (L:=[_]) S1 ?_,?_⟩
    ·simp[D1,D2]
     refine⟨n32 (L:=[_]) S1 ?_,?_⟩
     ·simp[D1,D2,bld]
      exact fin _ rfl T1
     ·refine n32 (L:=[_,_]) T1 ?_
      simp[D2,bld]
      exact fin _ rfl T1
    ·simp[D2]
     refine n24 (L:=[_,_]) T1 ?_
     simp[D2]
     refine n32 (L:=[_,_]) T1 ?_
     simp[D2,bld]
     exact fin _ rfl T1
   ·simp[D2]
    refine n16 (L:=[_,_]) T1 ?_
    simp[D2]
    refine n24 (L:=[_,_]) T1 ?_
    simp[D2]
    refine n32 (L:=[_,_]) T1 ?_
    simp[D2,bld]
    exact fin _ rfl T1
  ·simp[D2]
   refine n8 (L:=[_,_]) T1 ?_
   simp[D2]
   refine n16 (L:=[_,_]) T1 ?_
   simp[D2]
   refine n24 (L:=[_,_]) T1 ?_
   simp[D2]
   refine n32 (L:=[_,_]) T1 ?_
   simp[D2,bld]
   exact fin _ rfl T1
 ·refine n0 (L:=[_,_]) T1 ?_
  simp[D2]
  refine n8 (L:=[_,_]) T1 ?_
  simp[D2]
  refine n16 (L:=[_,_]) T1 ?_
  simp[D2]
  refine n24 (L:=[_,_]) T1 ?_
  simp[D2]
  refine n32 (L:=[_,_]) T1 ?_
  simp[D2,bld]
  exact fin _ rfl T1
end
section
variable {w0 w : World} {R : List Asn}
theorem bht{v:Value}{l:List Int}(S:St w0 w R)(hs:Rdv w0 R v l)(hb:BtR l)(hl:l.length<=1000000){K:KV}
  (h1: ∀s r,pp l=some (s,r)->∀w' v',Rdv w0 R v' r->St w0 w' R->K (.tuple #[ki s,v',.int .i64 0]) w')
  (h0:pp l=none->∀w' k,k≠0->St w0 w' R->K (.tuple #[ki ns,.slice none 0 0,.int .i64 k]) w'):ig P F.fb [v] w K:=by
 rw[M.ac.fcall]
 apply M.ac.calls
 unfold M.ac
 have S1:St w0 (w.alloc (.cells #[.int .u64 0,.int .u64 0,.int .u64 0,.int .u64 0,.int .u64 0,.string ⟨#[]⟩,.string ⟨#[]⟩,.bool false] T.f)) (spB w.heap.size ns :: R):=S.mkB (jj ns).toArray T.f
 have hln: ∀w' K,biT P .len #[T.g] T.d [false] [v] w' K=K (.int .i64 l.length) w':=fun w' K=>(hs w [] S).jp (by kernel_rfl) [false]
 simp[hln]
 generalize w.heap.size=t2 at *
 generalize w.alloc _=w1 at *
 have sl: ∀{w':World}{L:List Asn}{b:Nat}{s:Spn},St w0 w' L->spB b s∈L->∀K,ldN P 8 b 0 w' K=K (ki s) w':=fun{_ _ b s} S' hm K=>by
  obtain⟨x,y,rfl⟩:=List.append_of_mem hm
  exact (S'.perm List.perm_middle).ldA (n:=8) (i:=0) (jj s) rfl rfl K
 -- it goes wrong:the named result is laid anew,and handed bjq
 have bad: ∀(w':World)(k:Int)(X:List Asn),k≠0->pp l=none->St w0 w' (spB t2 ns :: (X ++ R))->stN P t2 0 (jj ns) w' fun _ w=>mi P T.f (.pointer (some ⟨t2,0,none⟩)) w fun r0 w''=>w''=w/\K (.tuple #[r0,.slice none 0 0,.int .i64 k]) w:=fun w' k X hk hn S'=>by
  refine St.put (vs:=jj ns) (cs':=(jj ns).toArray) S' (ni _) (by simp[jj]) (by simp[jj]) fun w4 S4=>?_
  have S4':St w0 w4 (spB t2 ns :: (X ++ R)):=S4
  rw[azn,sl S4' (.head _)]
  exact⟨rfl,h0 hn w4 k hk (St.axl (X:=spB t2 ns :: X) S4')⟩
 by_cases h41:l.length < 41
 ·have h41':(l.length:Int) < 41:=by omega
  have hn:pp l=none:=by
   cases hr:acm l with
   | none=>unfold pp;rw[hr];rfl
   | some r=>
    obtain⟨_,_,_,_,q5,q6⟩:=apu hr
    have:0 < (l.drop 40).length:=List.length_pos_iff.2 q6
    simp at this
    omega
  simp[h41',h41]
  exact bad w1 3 [] (by decide) hn S1
 ·have h41': ¬(l.length:Int) < 41:=by omega
  simp[h41',h41]
  refine bdg S1 hs hb (by omega) fun w2 tb L hg S2=>?_
  unfold M.ac.j1
  simp only[im]
  obtain⟨ab,ao,cap,hv,_,_,hc⟩:=(hs w2 [_,_] S2).at (i:=40) (by omega)
  have hiaN: ∀(i:Nat),i < l.length->∀w' K,iaT P T.g v (.int .i64 (i:Nat)) w' K=K (.pointer (some ⟨ab,ao+i,none⟩)) w':=fun i hi w' K=>by
   rw[hv]
   simp[hi]
  have hia: ∀w' K,iaT P T.g v (.int .i64 40) w' K=K (.pointer (some ⟨ab,ao+40,none⟩)) w':=hiaN 40 (by omega)
  have h40:l[40]=(l.drop 40).headD 0:=by
   rw[List.drop_eq_getElem_cons (by omega)]
   rfl
  have hcell:il w2 ab (ao+40)=some (.int .u8 ((l.drop 40).headD 0)):=by
   have:=hc 0 _ rfl
   rw[h40] at this
   simpa [ww] using this
  have hfr:0<=(l.drop 40).headD 0/\(l.drop 40).headD 0 < 256:=by
   rw[<-h40]
   exact hb _ (List.getElem_mem _)
  have hne:l.drop 40≠[]:=fun e=>by
   have:=congrArg List.length e
   simp at this
   omega
  have o1:qr (some l)=some (l.drop 8):=by simp only[qr,Option.bind_some];rw[if_pos (by omega)]
  have o2:qr (some (l.drop 8))=some (l.drop 16):=by simp only[qr,Option.bind_some,List.drop_drop];rw[if_pos (by simp;omega)]
  have o3:qr (some (l.drop 16))=some (l.drop 24):=by simp only[qr,Option.bind_some,List.drop_drop];rw[if_pos (by simp;omega)]
  have o4:qr (some (l.drop 24))=some (l.drop 32):=by simp only[qr,Option.bind_some,List.drop_drop];rw[if_pos (by simp;omega)]
  have o5:qr (some (l.drop 32))=some (l.drop 40):=by simp only[qr,Option.bind_some,List.drop_drop];rw[if_pos (by simp;omega)]
  have hcr:acm l=tx1 (tx1 (sm1 0 1 (some (l.drop 40)))):=by
   unfold acm
   rw[o1,o2,o3,o4,o5]
  generalize hf:(l.drop 40).headD 0=f at *
  by_cases hf1:1 < f
  ·have hn:pp l=none:=by
    unfold pp
    rw[hcr]
    have:sm1 0 1 (some (l.drop 40))=none:=by
     simp only[sm1,Option.bind_some,if_neg hne]
     rw[if_neg (fun hh=>by rw[hf] at hh;omega)]
    rw[this]
    rfl
   simp[hia,hcell,hf1]
   exact bad w2 6 [_] (by decide) hn S2.swap
  ·have hs1:sm1 0 1 (some (l.drop 40))=some (l.drop 41):=by
    simp only[sm1,Option.bind_some,if_neg hne]
    rw[if_pos (by rw[hf];omega),List.drop_drop]
   simp[hia,hcell,hf1]
   unfold M.ac.j2
   obtain⟨v41,e41,r41⟩:=yz (L0:=[_,_]) S2 hs (lo:=some (.int .i64 ((41:Nat):Int))) (hi:=none) (i:=41) (j:=l.length) (.inr ⟨_,rfl⟩) (.inl ⟨rfl,rfl⟩) (by omega) (Nat.le_refl _)
   rw[List.take_of_length_le (by simp)] at r41
   have e41': ∀w1 K,slT P T.g v (some (.int .i64 41)) none none w1 K=K v41 w1:=e41
   simp only[e41']
   refine apj (X:=[_,_]) S2 r41 (yn hb 41) (by simp;omega) (fun r1 ht1 w3 v3 g3 S3=>?_) fun hn1 w3 k hk S3=>?_
   ·simp
    unfold M.ac.j3
    obtain⟨a1,e1,n1,g11,g12,g13,t1⟩:=aae ht1
    cases e1
    have hb1:BtR r1:=by rw[t1,List.drop_drop];exact yn (yn hb 41) _
    refine apj (X:=[_,_]) S3 g3 hb1 (by rw[t1];simp;omega) (fun r2 ht2 w4 v4 g4 S4=>?_) fun hn2 w4 k hk S4=>?_
    ·simp
     unfold M.ac.j4
     have ta1:r1=(l.drop 42).drop ((l.drop 41).headD 0).toNat:=by
      rw[t1,List.drop_drop (j:=41)]
      try rfl
     have hcr2:acm l=some r2:=by rw[hcr,hs1,ht1,ht2]
     have hsv:(⟨(vx l).je,(vx l).id,(vx l).me,(vx l).jy,(vx l).len,txV (l.drop 41),txV r1,(vx l).ny⟩:Spn)=va l:=by
      unfold va
      rw[ta1]
      rfl
     simp only[hg,im]
     simp
     refine St.nh S4 rfl (by simp[jj]) fun w5 S5=>?_
     refine St.nh S5 rfl (by simp[jj]) fun w6 S6=>?_
     have S6':St w0 w6 (spB tb ⟨(vx l).je,(vx l).id,(vx l).me,(vx l).jy,(vx l).len,txV (l.drop 41),txV r1,(vx l).ny⟩ :: spB t2 ns :: R):=S6
     rw[hsv] at S6'
     simp[sl S6' (.head _)]
     rw[M.ck.fcall]
     refine aiu _ fun w7 f7=>?_
     have S7:=S6'.ju f7
     by_cases hk:kv (va l)=0
     ·have hco:pp l=some (va l,r2):=by
       unfold pp
       rw[hcr2,Option.bind_some,if_pos hk]
      rw[hk]
      simp[sl S7 (.head _)]
      rw[aks]
      refine St.put (vs:=jj (va l)) (cs':=(jj (va l)).toArray) S7.swap (ni _) (by simp[jj]) (by simp[jj]) fun w8 S8=>?_
      have S8':St w0 w8 (spB t2 (va l) :: spB tb (va l) :: R):=S8
      simp[azn,sl S8' (.head _)]
      exact h1 _ r2 hco w8 v4 g4 S8'.drop.drop
     ·have hco:pp l=none:=by
       unfold pp
       rw[hcr2,Option.bind_some,if_neg hk]
      simp[hk]
      exact bad w7 _ [_] hk hco S7.swap
    ·simp[hk]
     have hn:pp l=none:=by
      unfold pp
      rw[hcr,hs1,ht1,hn2]
      rfl
     exact bad w4 k [_] hk hn (St.swap S4)
   ·simp[hk]
    have hn:pp l=none:=by
     unfold pp
     rw[hcr,hs1,hn1]
     rfl
    exact bad w3 k [_] hk hn (St.swap S3)
end
theorem atq(rx ry:Operand)(x y:Spn)(w:World)(K:KV):iq P .eql T.f rx ry (ki x) (ki y) w K=K (.bool (xf x y)) w:=by
 have hm:P.eqGuardType P.depth T.f=false:=by kernel_rfl
 have hg:=run_eqGuard_agg (P:=P) w .eql T.f rx ry #[.int .u64 x.je,.int .u64 x.id,.int .u64 x.me,.int .u64 x.jy,.int .u64 x.len,.string x.kp,.string x.name,.bool x.ny] #[.int .u64 y.je,.int .u64 y.id,.int .u64 y.me,.int .u64 y.jy,.int .u64 y.len,.string y.kp,.string y.name,.bool y.ny] hm
 have he:=alb x y w
 unfold iq jm
 unfold ki at he⊢
 rw[Sem.run_bind,hg]
 simp only[Result.andThen]
 rw[run_eql_struct,he]
 rfl
def bmz(W:World)(l1 l2:List Int):KL:=fun x w1=> ∃(u:Value)(i:Nat),x=[u,.int .i64 (i:Nat)]/\i<=l1.length/\(∀j (h1:j < l1.length) (h2:j < l2.length),j < i->l1[j]=l2[j])/\Fz W w1
theorem awc{w:World}{v1 v2:Value}{l1 l2:List Int}(s1:SlU w v1 l1)(s2:SlU w v2 l2)(hlen:l1.length<=1000000){K:KV}(h: ∀w',Fz w w'->K (.bool (decide (l1=l2))) w'):ig P F.co [v1,v2] w K:=by
 rw[M.bs.fcall]
 apply M.bs.calls
 unfold M.bs
 have k1: ∀w' K,biT P .len #[T.i] T.d [false] [v1] w' K=K (.int .i64 l1.length) w':=fun w' K=>s1.jp (by kernel_rfl) [false]
 have k2: ∀w' K,biT P .len #[T.i] T.d [false] [v2] w' K=K (.int .i64 l2.length) w':=fun w' K=>s2.jp (by kernel_rfl) [false]
 by_cases hne:l1.length=l2.length
 case neg=>
  have hne': ¬(l1.length:Int)=(l2.length:Int):=by omega
  simp[k1,k2,hne']
  have:=h w (Fr.refl _ _)
  rwa [decide_eq_false fun he=>hne (congrArg List.length he)] at this
 have hne':(l1.length:Int)=(l2.length:Int):=by omega
 simp[k1,k2,hne']
 unfold M.bs.j0
 simp only[im]
 refine⟨bmz w l1 l2,fun x _=>l1.length - ms x 1,⟨_,0,rfl,Nat.zero_le _,fun j _ _ h=>by omega,Fr.refl _ _⟩,?_⟩
 rintro x w1 ⟨u,i,rfl,hi,hpre,f1⟩
 by_cases hil:i < l1.length
 ·have hil2:i < l2.length:=by omega
  have hwi:IntKind.i64.wrap ((i:Int)+1)=((i+1:Nat):Int):=by rw[iy];rfl
  obtain⟨b1,o1,c1,e1,_,_,g1⟩:=(s1.fr f1 fun _ _ _ h=>h:SlU w1 v1 l1).at hil
  obtain⟨b2,o2,c2,e2,_,_,g2⟩:=(s2.fr f1 fun _ _ _ h=>h:SlU w1 v2 l2).at hil2
  have i1: ∀w' K,iaT P T.i v1 (.int .i64 (i:Nat)) w' K=K (.pointer (some ⟨b1,o1+i,none⟩)) w':=fun w' K=>by rw[e1];simp[hil]
  have i2: ∀w' K,iaT P T.i v2 (.int .i64 (i:Nat)) w' K=K (.pointer (some ⟨b2,o2+i,none⟩)) w':=fun w' K=>by rw[e2];simp[hil2]
  have d1:il w1 b1 (o1+i)=some (.int .u64 l1[i]):=by simpa using g1 0 _ rfl
  have d2:il w1 b2 (o2+i)=some (.int .u64 l2[i]):=by simpa using g2 0 _ rfl
  simp[k1,hil]
  unfold M.bs.j3
  by_cases he:l1[i]=l2[i]
  ·simp[i1,i2,d1,d2,he,hwi]
   refine⟨⟨_,i+1,rfl,by omega,fun j a1 a2 hj=>?_,f1.dr 1⟩,by simp[ms,gv];omega⟩
   by_cases hji:j=i
   ·subst hji;exact he
   ·exact hpre j a1 a2 (by omega)
  ·simp[i1,i2,d1,d2,he]
   have:=h _ (f1.dr 1)
   rwa [decide_eq_false fun hee=>he (by simp[hee])] at this
 ·simp[k1,hil]
  have:=h _ f1
  rwa [decide_eq_true (List.ext_getElem hne fun j a1 a2=>hpre j a1 a2 (by omega))] at this
section
variable {w0 w : World} {R : List Asn} {p : Nat} {q : Cl} {n : Nd} {g : Cfg} {A : List AE} {c : CT} {a0 : Int} {m rm um : MP} {es : List Evn} {ls : List Ltr}
theorem adk(S:St w0 w (lk p q n g A c a0 m es ls rm um ++ R)){K:KV}(h: ∀w',St w0 w' (lk p {q with ev:= .slice none 0 0} n g A c a0 m [] ls rm um ++ (mu q.ev es :: R))->K q.ev w'):ig P F.bg [km p] w K:=by
 rw[M.ch.fcall]
 apply M.ch.calls
 unfold M.ch
 obtain⟨_,_,_,_,_,_,_,_,_,_,_,_,_,_,_,_,_,c25,_⟩:=lx S
 simp only[km]
 simp[c25]
 refine St.nh S rfl (by simp[clC]) fun w2 S2=>?_
 have S2':St w0 w2 (clA p {q with ev:= .slice none 0 0} :: _):=S2
 have S3:St w0 w2 (mu (.slice none 0 0) [] :: _):=Go.Eng.wg S2'
 exact h w2 (S3.pick (L:=[_,_,_,_,_,_,_,_,_,_,_,_]) [1,2,3,4,0,6,7,8,9,10,11,5] 12 rfl (by decide))
theorem amm(S:St w0 w (lk p q n g A c a0 m es ls rm um ++ R)){K:KV}(h: ∀w',St w0 w' (lk p {q with out:= .slice none 0 0} n g A c a0 m es [] rm um ++ (mm q.out ls :: R))->K q.out w'):ig P F.ap [km p] w K:=by
 refine azv (S.pick (L:=[_,_,_,_,_,_,_,_,_,_,_]) [0,5,1,2,3,4,6,7,8,9,10] 11 rfl (by decide)) fun w2 S2=>?_
 have S3:St w0 w2 (mm (.slice none 0 0) [] :: _):=Go.Eng.wg S2
 exact h w2 (S3.pick (L:=[_,_,_,_,_,_,_,_,_,_,_,_]) [1,3,4,5,6,0,7,8,9,10,11,2] 12 rfl (by decide))
theorem adt(S:St w0 w (lk p q n g A c a0 m es ls rm um ++ R)){K:KV}(h: ∀w',St w0 w' (lk p q n g A c a0 m es ls rm um ++ R)->K (.tuple #[.int .u64 q.bad,.int .u64 q.bdt]) w'):ig P F.be [km p] w K:=by
 rw[M.aw.fcall]
 apply M.aw.calls
 unfold M.aw
 simp only[km]
 simp
 unfold M.aw.j0
 have S1:=S.ju ((Fr.refl _ w).dr 1)
 obtain⟨_,_,_,_,_,_,_,_,_,_,_,_,_,_,_,_,_,_,c26,c27,_⟩:=lx S1
 simp[c26,c27]
 exact h _ S1
end
theorem avm{w:World}{n:Nat}{v:Value}(h:TV P w n T.g [v]): ∃l,SlB w v l/\BtR l:=by
 have: ∃l:List Int,afl w 1 (fun w b o x=>rdE ww w b o x/\(0<=x/\x < 256)) v l:=by
  refine ajg (sz:=1) (rd:=fun w b o x=>rdE ww w b o x/\(0<=x/\x < 256)) (e:=T.ac) (by kernel_rfl) (by kernel_rfl) (by decide) (fun n b o cs ht hl hc=>?_) h
  obtain⟨x,hx,hr⟩:=baz (k:= .u8) (by kernel_rfl) ht
  subst hx
  have:IntKind.u8.min<=x/\x<=IntKind.u8.max:=by simpa [Lit.wf] using hr
  have e1:IntKind.u8.min=0:=by decide
  have e2:IntKind.u8.max=255:=by decide
  exact⟨x,fun j u hj=>hc j u hj,by omega,by omega⟩
 obtain⟨l,hl⟩:=this
 refine⟨l,hl.mono fun b o x hx=>hx.1,fun x hx=>?_⟩
 obtain⟨i,hi,rfl⟩:=List.getElem_of_mem hx
 obtain⟨a,cap,hv,_,_,h3⟩:=hl
 obtain⟨b,o,_,_,hr⟩:=h3 i _ (List.getElem?_eq_getElem hi)
 exact hr.2
theorem auq(A:List AE)(k:Int):(afc A k).map AE.t=A.map AE.t:=by
 unfold afc
 rw[List.map_map]
 refine List.map_congr_left fun x _=>?_
 simp only[Function.comp_apply]
 split <;>rfl
theorem alz{g:Cfg}{A:List AE}{s:Spn}(h:ou g A s≠0):mq (rl g A s)=mq A:=by
 have hk:(rl g A s).map AE.t=A.map AE.t:=by
  unfold ou at h
  unfold rl
  by_cases hr:kv s≠0
  ·rw[if_pos hr]
  ·rw[if_neg hr] at h⊢
   cases hf:A.find? fun e=>decide (e.t=s.je) with
   | none=>
    rw[hf] at h
    simp only at h⊢
    split at h
    ·rename_i hg;rw[if_pos hg]
    ·exact absurd rfl h
   | some e=>
    rw[hf] at h
    simp only at h⊢
    split at h
    ·exact absurd rfl h
    ·rename_i hd
     rw[if_neg hd]
     split at h
     ·rename_i hg;rw[if_pos hg];exact auq A _
     ·exact absurd rfl h
 unfold mq
 rw[hk]
section
variable {w0 w : World} {R : List Asn}
theorem bmm{v:Value}{e:Evn}{l:List Evn}(S:Sl w 16 evC v (e :: l)): ∃b o,(∀w' K,iaT P T.ax v (.int .i64 0) w' K=K (.pointer (some ⟨b,o,none⟩)) w')/\∀{w'},Fz w w'->il w' b o=some (.int .i64 e.jh)/\∀K,ldN P 8 b (o+7) w' K=K (ki e.s) w':=by
 obtain⟨b,o,cap,hv,hb,_,hc⟩:=S.at (i:=0) (by simp)
 refine⟨b,o,fun w' K=>by rw[hv];simp,fun{w'} f=>?_⟩
 have hk: ∀i,il w' b i=il w b i:=fun i=>by unfold il;rw[f.ji b hb fun h=>h]
 refine⟨by rw[hk];simpa [evC] using hc 0 _ rfl,fun K=>sm (jj e.s) 8 rfl (fun k u hu=>?_) K⟩
 have:(evC e)[7+k]? =some u:=by
  have hk8:k < 8:=by
   have:=(List.getElem?_eq_some_iff.1 hu).1
   simpa [jj] using this
  obtain rfl|rfl|rfl|rfl|rfl|rfl|rfl|rfl:k=0\/k=1\/k=2\/k=3\/k=4\/k=5\/k=6\/k=7:=by omega
  all_goals exact hu
 have:=hc (7+k) u this
 rw[hk]
 simpa [Nat.add_assoc] using this
end
section
variable {W w : World} {R : List Asn} {p tb hb kb ru se un : Nat} {rep rul : Value}
theorem aji{q:Cl}{n:Nd}{g:Cfg}{A:List AE}{c:CT}{es:List Evn}{wv:Value}{lw:List Int}(S:St W w (lk p q n g A c 0 [] es [] [] [] ++ (yu wv lw :: R)))(hA:A.length<=1000)(he:mq A=lw){K2:World->KV}(h: ∀w',Fz W w'->K2 w' (.bool true) w'):
  ig P F.aa [km p] w fun t140 w=>ig P F.co [t140,wv] w fun t142 w=>ie (isB t142 true) (fun K'=>ig P F.aw [] w K') w fun t145 w=>iw t142 t145 (.bool false) w (K2 w):=by
 refine agb S hA fun w1 v S1=>?_
 have hl:(mq A).length<=1000000:=by unfold mq;rw[(Suint64.abc _).length_eq,List.length_map];omega
 refine awc (S1.row oe) ((S1.pick (L:=[_,_,_,_,_,_,_,_,_,_,_,_,_]) [12] 13 rfl (by decide)).row oe) hl fun w2 f2=>?_
 simp[he]
 exact akr (St.jy _) fun w3 S3=>h w3 ((S1.fr.trans f2).trans S3.fr)
theorem aju{n0 n1:Nat}{v0 v1:Value}(h0:TV P W n0 T.bp [v0])(h1:TV P W n1 T.g [v1]){K:KV}
  (h: ∀w',Fz W w'->K (.bool true) w'):jr P F.dj [v0,v1] W K:=by
 obtain⟨l,hl⟩:=bez h0
 obtain⟨d,hd,hdr⟩:=avm h1
 apply M.g.calls
 unfold M.g
 have ex: ∀{w'},Fz W w'->(ig P F.aw [] w' fun v w=>K v w):=fun f=>akr (St.jy _) fun w'' S''=>h w'' (f.trans S''.fr)
 have hdl: ∀w' K,biT P .len #[T.g] T.d [false] [v1] w' K=K (.int .i64 d.length) w':=fun w' K=>hd.jp (by kernel_rfl) [false]
 simp only[im,hl.len]
 by_cases n1:30 < (l.length:Int)
 ·simp[n1]
  exact ex (Fr.refl _ _)
 by_cases n2:2000 < (d.length:Int)
 ·simp[n1,n2,hdl]
  exact ex (Fr.refl _ _)
 simp[n1,n2,hdl]
 unfold M.g.j0
 refine aqz (St.jy W) fun w1 a c S1=>?_
 refine bax S1 fun w5 S5=>?_
 refine aof S5 (fun w' L S'=>zm S' (e:=T.a) (sz:=1) (enc:=Suint64.sf) (v:= .slice a 1 c) (l:=[101]) (by simp) oe) (by omega) (by decide) fun w6 p g rep rul tb hb kb ru se un g1 g2 g3 S6=>?_
 have hg:g=g4:=by
  obtain⟨a,b,c⟩:=g
  have h1:(4:Int)=a:=g1
  have h2:(4:Int)=b:=g2
  have h3:(10:Int)=c:=g3
  unfold g4
  rw[show a=4 by omega,show b=4 by omega,<-h3]
 subst hg
 rw[bip] at S6
 have hn:sj (Nd.new 1 1 5 20 0):=aue (by omega) (by omega) (by omega) (by omega) (by omega)
 simp
 generalize [yu (.slice a 1 c) [101]]=R1 at S6
 refine⟨SgI W R1 p 1 rep rul tb hb kb ru se un l,fun x _=>l.length - ms x 1,⟨_,0,[],[],[],_,0,rfl,Nat.zero_le _,bix,⟨by omega,by omega⟩,S6⟩,?_⟩
 rintro x w7 ⟨u,i,A,c2,es,ev,bad,rfl,hi,G,⟨bd1,bd2⟩,S7⟩
 unfold M.g.j3
 simp only[im,hl.len]
 by_cases hil:i < l.length
 ·have hili:(i:Int) < (l.length:Int):=by omega
  obtain⟨b1,o1,x1,e1,k1,r1⟩:=hl.at hil
  have hlw: ∀{w':World}{L:List Asn},St W w' L->SlP w' v0 l:=fun S'=>hl.fr S'.fr
  have c1:=k1 (hlw S7)
  have s1:=r1 (hlw S7)
  simp only[nj,show∀a b:Value,gv [a,b] 1=b from fun _ _=>rfl,hili,decide_true,ij]
  unfold M.g.j4
  have hxv:SV.v x1= .slice x1.a x1.n x1.c:=rfl
  rw[hxv] at c1
  simp[e1,c1]
  have hxn:x1.n=l[i].2.length:=by
   obtain⟨_,_,e,_⟩:=s1
   injection e
  have hwi:IntKind.i64.wrap ((i:Int)+1)=((i+1:Nat):Int):=by rw[iy];rfl
  by_cases hbig:(2000:Int) < (x1.n:Int)
  ·simp only[hbig,decide_true,ij]
   exact ex S7.fr
  ·simp only[hbig,decide_false,ij]
   rw[hwi]
   refine bhm (k:=i) (l:=l[i].2) (inc:=1) S7 hn ⟨rfl,rfl⟩ G (by omega) (fun w' L S'=>r1 (hlw S')) (by omega) ⟨bd1,bd2⟩ rfl (by decide) (fun s hco hR hr G' w8 v8 S8=>?_) fun hno G' w8 kk hkk S8=>?_
   ·exact⟨⟨_,i+1,_,_,_,v8,bad,rfl,by omega,G',⟨by omega,by omega⟩,S8⟩,by simp[ms,gv];omega⟩
   ·exact⟨⟨_,i+1,A,c2,es,ev,bad+1,rfl,by omega,G',⟨by omega,by omega⟩,S8⟩,by simp[ms,gv];omega⟩
 ·have hie:i=l.length:=by omega
  subst hie
  simp only[nj,show∀a b:Value,gv [a,b] 1=b from fun _ _=>rfl,show decide ((l.length:Int) < (l.length:Int))=false from by simp,ij]
  unfold M.g.j2
  refine adk S7 fun w8 S8=>?_
  replace S8:St W w8 (lk p (clG 1 rep rul tb hb kb ru se un 0 0 (.slice none 0 0) bad) (Nd.new 1 1 5 20 0) g4 A c2 0 [] [] [] [] [] ++ (mu ev es :: R1)):=S8
  refine amm S8 fun w9 S9=>?_
  replace S9:St W w9 (lk p (clG 1 rep rul tb hb kb ru se un 0 0 (.slice none 0 0) bad) (Nd.new 1 1 5 20 0) g4 A c2 0 [] [] [] [] [] ++ (mm (.slice none 0 0) [] :: mu ev es :: R1)):=S9
  refine agb S9 (by have:=G.few;omega) fun w10 wv S10=>?_
  refine adt (S10.pick (L:=[_,_,_,_,_,_,_,_,_,_,_,_]) [1,2,3,4,5,6,7,8,9,10,11,0] 12 rfl (by decide)) fun w11 S11=>?_
  have S11':St W w11 (lk p (clG 1 rep rul tb hb kb ru se un 0 0 (.slice none 0 0) bad) (Nd.new 1 1 5 20 0) g4 A c2 0 [] [] [] [] [] ++ (yu wv (mq A) :: mm (.slice none 0 0) [] :: mu ev es :: R1)):=S11
  simp
  refine bht S11' (fun w' L S'=>hd.fr S'.fr fun _ _ _ h=>h) hdr (by omega) (fun s r hco w12 v12 hrv S12=>?_) fun hco w12 k hk S12=>?_
  ·simp
   have S13:=S12.mkB #[.int .u64 0,.int .u64 0,.int .u64 0,.int .u64 0,.int .u64 0,.string ⟨#[]⟩,.string ⟨#[]⟩,.bool false] T.f
   generalize w12.heap.size=sb at *
   generalize w12.alloc _=w13 at *
   rw[aks]
   refine St.put (vs:=jj s) (cs':=(jj s).toArray) S13 (ni s) (by simp[jj]) (by simp[jj]) fun w14 S14=>?_
   have hrl: ∀w' K,biT P .len #[T.g] T.d [false] [v12] w' K=K (.int .i64 r.length) w':=fun w' K=>(hrv w12 [] S12).jp (by kernel_rfl) [false]
   have S14':St W w14 (lk p (clG 1 rep rul tb hb kb ru se un 0 0 (.slice none 0 0) bad) (Nd.new 1 1 5 20 0) g4 A c2 0 [] [] [] [] [] ++ (spB sb s :: yu wv (mq A) :: R1)):=S14.pick (L:=[_,_,_,_,_,_,_,_,_,_,_,_,_,_,_]) [1,2,3,4,5,6,7,8,9,10,11,0,12] 15 rfl (by decide)
   refine aml (inc:=1) S14' hn ⟨rfl,rfl⟩ (by have:=G.few;omega) (fun e he=>by have:=G.len e he;omega) (by simp) (fun w' L S'=>hd.fr S'.fr fun _ _ _ h=>h) (by omega) ⟨bd1,by show bad<=1000000;omega⟩ rfl (by decide) (fun s2 hco2 hR hr w15 v15 S15=>?_) fun hno w15 kk hkk S15=>?_
   ·rw[hco] at hco2
    cases hco2
    refine adt S15 fun w16 S16=>?_
    simp
    refine adk S16 fun w17 S17=>?_
    have hA2:(rl g4 A s).length<=1000:=by have:=(atj (g:=g4) G hr 0).few;omega
    simp[hrl]
    unfold M.g.j7
    simp only[im]
    have hwr:=(S17.pick (L:=[_,_,_,_,_,_,_,_,_,_,_,_,_,_]) [13] 14 rfl (by decide)).row oe
    have hsp: ∀{w':World},Fz w17 w'->∀K,ldN P 8 sb 0 w' K=K (ki s) w':=fun f K=>((S17.ju f).pick (L:=[_,_,_,_,_,_,_,_,_,_,_,_,_]) [12] 13 rfl (by decide)).ldA (n:=8) (i:=0) (jj s) rfl rfl K
    have her:=(S17.pick (L:=[_,_,_,_,_,_,_,_,_,_,_,_]) [11] 12 rfl (by decide)).row aek
    obtain⟨eb,eo,ei0,ev0⟩:=bmm her
    have hle: ∀w' K,biT P .len #[T.ax] T.d [false] [v15] w' K=K (.int .i64 1) w':=fun w' K=>her.jp (by kernel_rfl) [false]
    have fd:=(Fr.refl (fun _=>False) w17).dr 1
    obtain⟨ec0,el7⟩:=ev0 fd
    have el0:=hsp fd
    have ek:(qn (ou g4 A s) 0 s).s=s:=by unfold qn;split <;>rfl
    rw[ek] at el7
    simp only[abd] at ec0
    have S18:=S17.ju fd
    by_cases hk:ou g4 A s=0
    ·have ek1:(qn (ou g4 A s) 0 s).jh=1:=by unfold qn;rw[if_pos hk]
     rw[ek1] at ec0
     simp[hk]
     unfold M.g.j8
     simp[hle,ei0,ec0,el7,el0,atq,afp]
     exact ex S18.fr
    ·have ek1:(qn (ou g4 A s) 0 s).jh=6:=by unfold qn;rw[if_neg hk]
     rw[ek1] at ec0
     simp[hk,hle,ei0,ec0,el7,el0,atq,afp]
     exact aji (K2:=fun w v w'=>w'=w/\K v w) (S18.pick (L:=[_,_,_,_,_,_,_,_,_,_,_,_,_,_]) [0,1,2,3,4,5,6,7,8,9,10,13] 14 rfl (by decide)) hA2 (alz hk) fun w' f=>⟨rfl,h w' f⟩
   ·have hrn:r≠[]:=fun e=>hno s (by rw[hco,e])
    have hrp:0 < r.length:=List.length_pos_iff.2 hrn
    refine adt S15 fun w16 S16=>?_
    simp
    refine adk S16 fun w17 S17=>?_
    have hw1:IntKind.u64.wrap (bad+1)=bad+1:=by rw[lq (by omega) (by omega)]
    have hq:(clG 1 rep rul tb hb kb ru se un 0 0 (.slice none 0 0) bad).bad=bad:=rfl
    have hqe:(clG 1 rep rul tb hb kb ru se un 0 0 (.slice none 0 0) bad).ev= .slice none 0 0:=rfl
    have hqo:(clG 1 rep rul tb hb kb ru se un 0 0 (.slice none 0 0) bad).out= .slice none 0 0:=rfl
    simp[hrl,hrp,hkk,hq,hqe,hw1]
    refine amm S17 fun w18 S18=>?_
    simp only[hqo]
    simp
    exact aji (K2:=fun _=>K) (S18.pick (L:=[_,_,_,_,_,_,_,_,_,_,_,_,_,_,_]) [0,1,2,3,4,5,6,7,8,9,10,14] 15 rfl (by decide)) (by have:=G.few;omega) rfl fun w' f=>h w' f
  ·simp[hk]
   have S13:=S12.mkB #[.int .u64 0,.int .u64 0,.int .u64 0,.int .u64 0,.int .u64 0,.string ⟨#[]⟩,.string ⟨#[]⟩,.bool false] T.f
   generalize w12.heap.size=sb at *
   generalize w12.alloc _=w13 at *
   rw[aks]
   refine St.put (vs:=jj ns) (cs':=(jj ns).toArray) S13 (ni _) (by simp[jj]) (by simp[jj]) fun w14 S14=>?_
   have S14':St W w14 (lk p (clG 1 rep rul tb hb kb ru se un 0 0 (.slice none 0 0) bad) (Nd.new 1 1 5 20 0) g4 A c2 0 [] [] [] [] [] ++ (spB sb ns :: yu wv (mq A) :: R1)):=S14.pick (L:=[_,_,_,_,_,_,_,_,_,_,_,_,_,_,_]) [1,2,3,4,5,6,7,8,9,10,11,0,12] 15 rfl (by decide)
   refine aml (inc:=1) S14' hn ⟨rfl,rfl⟩ (by have:=G.few;omega) (fun e he=>by have:=G.len e he;omega) (by simp) (fun w' L S'=>hd.fr S'.fr fun _ _ _ h=>h) (by omega) ⟨bd1,by show bad<=1000000;omega⟩ rfl (by decide) (fun s2 hco2=>by rw[hco] at hco2;cases hco2) fun hno w15 kk hkk S15=>?_
   refine adt S15 fun w16 S16=>?_
   simp
   refine adk S16 fun w17 S17=>?_
   have hw1:IntKind.u64.wrap (bad+1)=bad+1:=by rw[lq (by omega) (by omega)]
   have hq:(clG 1 rep rul tb hb kb ru se un 0 0 (.slice none 0 0) bad).bad=bad:=rfl
   have hqe:(clG 1 rep rul tb hb kb ru se un 0 0 (.slice none 0 0) bad).ev= .slice none 0 0:=rfl
   have hqo:(clG 1 rep rul tb hb kb ru se un 0 0 (.slice none 0 0) bad).out= .slice none 0 0:=rfl
   simp[hkk,hq,hqe,hw1]
   refine amm S17 fun w18 S18=>?_
   simp only[hqo]
   simp
   exact aji (K2:=fun _=>K) (S18.pick (L:=[_,_,_,_,_,_,_,_,_,_,_,_,_,_,_]) [0,1,2,3,4,5,6,7,8,9,10,14] 15 rfl (by decide)) (by have:=G.few;omega) rfl fun w' f=>h w' f
end
end Go.Proofs.YtgepcfcicngceaaGreatDoor
