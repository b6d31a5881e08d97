/-
  What a collector has gathered, in plain Lean. No condition.
-/
import Derived.Test.YtgepcfcicngceaaGreatDoorZCl3
import Derived.Test.YtgepcfcicngceaaGreatDoorZWl0
import Derived.Test.YtgepcfcicngceaaGreatDoorZTim0
set_option maxRecDepth 100000
namespace Go.Proofs.YtgepcfcicngceaaGreatDoor
open Go.Eng Go.Proofs.YtgepcfcicngceaaGreatDoor.Sint
structure Gat(A:List AE)(es:List Evn)(k:Nat):Prop where
 few:A.length<=k
 len: ∀e∈A,e.l.length<=k
 nz: ∀e∈A,e.t≠0
 ud: ∀e∈A,∀s∈e.l,∃v∈es,v.jh=1/\v.s=s
 ev:es.length<=k
theorem bik{s:Spn}(h:ll s=0):s.jj≠0:=fun e=>by
 unfold ll at h
 rw[if_pos (.inl e)] at h
 cases h
theorem bky{g:Cfg}{A:List AE}{es:List Evn}{k:Nat}(G:Gat A es k){s:Spn}(hr:ll s=0)(now:Int):Gat (uk g A s) (es ++ [uz (rt g A s) now s]) (k+1):=by
 have hz:=bik hr
 have hold: ∀e∈A,∀x∈e.l,∃v∈es ++ [uz (rt g A s) now s],v.jh=1/\v.s=x:=fun e he x hx=>by
  obtain⟨v,hv,h1,h2⟩:=G.ud e he x hx
  exact⟨v,List.mem_append_left _ hv,h1,h2⟩
 have hnew:rt g A s=0->∃v∈es ++ [uz (rt g A s) now s],v.jh=1/\v.s=s:=fun h=>⟨_,List.mem_append_right _ (List.mem_singleton.2 rfl),by unfold uz;rw[if_pos h],by unfold uz;rw[if_pos h]⟩
 have hel:(es ++ [uz (rt g A s) now s]).length<=k+1:=by
  rw[List.length_append]
  have:=G.ev
  simp
  omega
 have same:Gat A (es ++ [uz (rt g A s) now s]) (k+1):=⟨by have:=G.few;omega,fun e he=>by have:=G.len e he;omega,G.nz,hold,hel⟩
 have hr': ¬ll s≠0:=fun h=>h hr
 cases hf:A.find? (fun e=>decide (e.t=s.jj)) with
 | none=>
  by_cases hg:g.li<=A.length
  ·have e1:uk g A s=A:=by unfold uk;rw[if_neg hr',hf];simp only[if_pos hg]
   rw[e1]
   exact same
  ·have e1:uk g A s=A ++ [⟨s.jj,[s],false⟩]:=by unfold uk;rw[if_neg hr',hf];simp only[if_neg hg]
   have e2:rt g A s=0:=by unfold rt;rw[if_neg hr',hf];simp only[if_neg hg]
   rw[e1]
   refine⟨?_,fun e he=>?_,fun e he=>?_,fun e he x hx=>?_,hel⟩
   ·have:=G.few;simp;omega
   ·rcases List.mem_append.1 he with h|h
    ·have:=G.len e h;omega
    ·rw[List.mem_singleton.1 h];simp
   ·rcases List.mem_append.1 he with h|h
    ·exact G.nz e h
    ·rw[List.mem_singleton.1 h];exact hz
   ·rcases List.mem_append.1 he with h|h
    ·exact hold e h x hx
    ·rw[List.mem_singleton.1 h] at hx
     rw[List.mem_singleton.1 hx]
     exact hnew e2
 | some e0=>
  have he0:=List.mem_of_find?_eq_some hf
  by_cases hd:(e0.l.any fun x=>decide (x.id=s.id))=true
  ·have e1:uk g A s=A:=by unfold uk;rw[if_neg hr',hf];simp only[if_pos hd]
   rw[e1]
   exact same
  ·by_cases hg:g.kt<=e0.l.length
   ·have e1:uk g A s=anp A s.jj:=by unfold uk;rw[if_neg hr',hf];simp only[if_neg hd,if_pos hg]
    rw[e1]
    unfold anp
    refine⟨by rw[List.length_map];exact same.few,fun e he=>?_,fun e he=>?_,fun e he x hx=>?_,hel⟩ <;>obtain⟨e',he',rfl⟩:=List.mem_map.1 he
    ·split
     ·exact same.len e' he'
     ·exact same.len e' he'
    ·split
     ·exact same.nz e' he'
     ·exact same.nz e' he'
    ·split at hx
     ·exact same.ud e' he' x hx
     ·exact same.ud e' he' x hx
   ·have e1:uk g A s=auf A s.jj s:=by unfold uk;rw[if_neg hr',hf];simp only[if_neg hd,if_neg hg]
    have e2:rt g A s=0:=by unfold rt;rw[if_neg hr',hf];simp only[if_neg hd,if_neg hg]
    rw[e1]
    unfold auf
    refine⟨by rw[List.length_map];exact same.few,fun e he=>?_,fun e he=>?_,fun e he x hx=>?_,hel⟩ <;>obtain⟨e',he',rfl⟩:=List.mem_map.1 he
    ·split
     ·have:=G.len e' he';simp;omega
     ·exact same.len e' he'
    ·split
     ·exact same.nz e' he'
     ·exact same.nz e' he'
    ·split at hx
     ·rcases List.mem_append.1 hx with hx|hx
      ·exact same.ud e' he' x hx
      ·rw[List.mem_singleton.1 hx]
       exact hnew e2
     ·exact same.ud e' he' x hx
theorem biq{A:List AE}{es:List Evn}{k:Nat}(G:Gat A es k):Gat A es (k+1):=⟨by have:=G.few;omega,fun e he=>by have:=G.len e he;omega,G.nz,G.ud,by have:=G.ev;omega⟩
section
variable {w0 w : World} {R : List Asn} {p : Nat} {q : Cl} {n : Nd} {g : Cfg} {A : List AE} {c : CT} {es : List Evn}
theorem blj{rv:Value}{l:List Int}{inc:Int}(S:St w0 w (ky p q n g A c 0 [] es [] [] [] ++ R))(hn:qk n)(hsol:adg n inc)(hA:A.length<=1000)(hL: ∀e∈A,e.l.length<=1000)(he:es.length<=1000000)(hs:Rdv w0 R rv l)(hll:l.length<=1000000)(hbd:0<=q.bad/\q.bad<=1000000)(hq:q.now=0)(hw:0<=g.jx){K:KV}
  (h: ∀s,zj l=some (s,[])->ahx s->ll s=0->∀w' v',St w0 w' (ky p {q with ev:=v'} n g (uk g A s) (ada g A c s 0) 0 [] (es ++ [uz (rt g A s) 0 s]) [] [] [] ++ R)->K (.int .i64 (if rt g A s=0 then 0 else 8)) w')
  (hno:(∀s,zj l≠some (s,[]))->∀w' kk,kk≠0->St w0 w' (ky p {q with bad:=q.bad+1} n g A c 0 [] es [] [] [] ++ R)->K (.int .i64 kk) w'):ik P F.ad [kl p,rv,.int .u64 0] w K:=by
 have hmx:max q.now 0=0:=by rw[hq];rfl
 have e1: ∀v',({q with now:=0,ev:=v'}:Cl)={q with ev:=v'}:=fun v'=>by
  cases q
  simp only at hq
  subst hq
  rfl
 have e2:({q with now:=0,bad:=q.bad+1}:Cl)={q with bad:=q.bad+1}:=by
  cases q
  simp only at hq
  subst hq
  rfl
 have S2:St w0 w (aew p q n g A c 0 es ++ (nc q.out [] :: rdA 1 nk q.rep [101] :: rdA 4 mf q.rul [ko] :: jm q.ru .u64 [] :: jm q.se .u64 [] :: jm q.un .u64 [] :: R)):=S
 refine bnh S2 hn (aez hn hsol) (alt hs [_,_,_,_,_,_]) hll hbd (by omega) (by omega) (by decide) (by decide) hA hL hw he (fun s hco hR hr w' v' S'=>?_) fun hno' w' kk hkk S'=>?_
 ·rw[hmx,e1] at S'
  exact h s hco hR hr w' v' S'
 ·rw[hmx,e2] at S'
  exact hno hno' w' kk hkk S'
theorem bkv{rv:Value}{l:List Int}{inc:Int}{k:Nat}(S:St w0 w (ky p q n g A c 0 [] es [] [] [] ++ R))(hn:qk n)(hsol:adg n inc)(G:Gat A es k)(hk:k<=900)(hs:Rdv w0 R rv l)(hll:l.length<=1000000)(hbd:0<=q.bad/\q.bad<=k)(hq:q.now=0)(hw:0<=g.jx){K:KV}
  (h: ∀s,zj l=some (s,[])->ahx s->ll s=0->Gat (uk g A s) (es ++ [uz (rt g A s) 0 s]) (k+1)->∀w' v',St w0 w' (ky p {q with ev:=v'} n g (uk g A s) (ada g A c s 0) 0 [] (es ++ [uz (rt g A s) 0 s]) [] [] [] ++ R)->K (.int .i64 (if rt g A s=0 then 0 else 8)) w')
  (hno:(∀s,zj l≠some (s,[]))->Gat A es (k+1)->∀w' kk,kk≠0->St w0 w' (ky p {q with bad:=q.bad+1} n g A c 0 [] es [] [] [] ++ R)->K (.int .i64 kk) w'):ik P F.ad [kl p,rv,.int .u64 0] w K:=
 blj S hn hsol (by have:=G.few;omega) (fun e he=>by have:=G.len e he;omega) (by have:=G.ev;omega) hs hll ⟨hbd.1,by omega⟩ hq hw (fun s hco hR hr=>h s hco hR hr (bky G hr 0)) fun hno'=>hno hno' (biq G)
end
set_option maxRecDepth 100000
section
variable {w0 w : World} {R : List Asn} {p : Nat} {q : Cl} {n : Nd} {g : Cfg} {A : List AE} {c : CT} {a0 : Int} {m rm um : MP} {es : List Evn} {ls : List Ltr}
theorem ast{hb:Nat}(S:St w0 w (ns hb g A c :: R)):(ku c).Perm (A.map AE.t)/\(A.map AE.t).Nodup:=by
 obtain⟨B,I,hB,cl⟩:=S.open
 obtain⟨⟨O,r,m,es,hAe,J,hfp⟩,hlt⟩:=(I:Buf w hb g B A c)
 have e:A.map AE.t=es.map Ent.t:=by rw[hAe,List.map_map];rfl
 rw[e]
 exact⟨J.ck,J.tn⟩
end
def clG(inc:Int)(rep rul:Value)(tb hb kb ru se un:Nat)(ag now:Int)(ev:Value)(bad:Int):Cl:=⟨inc,4,4,lq,rep,rul,tb,hb,kb,ru,se,un,jf,ag,now,.slice none 0 0,ev,bad,0⟩
section
variable {W w : World} {R : List Asn} {inc : Int} {p tb hb kb ru se un : Nat} {rep rul : Value}
theorem bnf:Gat [] [] 0:=⟨Nat.le_refl _,fun _ h=>(List.not_mem_nil h).elim,fun _ h=>(List.not_mem_nil h).elim,fun _ h=>(List.not_mem_nil h).elim,Nat.le_refl _⟩
theorem bkt(inc:Int)(rep rul:Value)(tb hb kb ru se un:Nat):afh inc 4 rep rul tb hb kb ru se un=clG inc rep rul tb hb kb ru se un 0 0 (.slice none 0 0) 0:=rfl
end
section
variable {w0 w : World} {R X : List Asn}
end
section
variable {w0 w : World} {R X : List Asn}
end
section
variable {w0 w : World} {R : List Asn}
end
section
variable {w0 w : World} {R : List Asn}
end
theorem axl(rx ry:Operand)(x y:Spn)(w:World)(K:KV):iy P .eql T.j rx ry (lw x) (lw y) w K=K (.bool (sq x y)) w:=by
 have hm:P.eqGuardType P.depth T.j=false:=by kernel_rfl
 have hg:=run_eqGuard_agg (P:=P) w .eql T.j rx ry #[.int .u64 x.jj,.int .u64 x.id,.int .u64 x.nn,.int .u64 x.km,.int .u64 x.len,.string x.kz,.string x.name,.bool x.pp] #[.int .u64 y.jj,.int .u64 y.id,.int .u64 y.nn,.int .u64 y.km,.int .u64 y.len,.string y.kz,.string y.name,.bool y.pp] hm
 have he:=ams x y w
 unfold iy jt
 unfold lw at he⊢
 rw[Sem.run_bind,hg]
 simp only[Result.andThen]
 rw[run_eql_struct,he]
 rfl
section
variable {w0 w : World} {R : List Asn} {p : Nat} {q : Cl} {n : Nd} {g : Cfg} {A : List AE} {c : CT} {a0 : Int} {m rm um : MP} {es : List Evn} {ls : List Ltr}
theorem bdk(S:St w0 w (ky p q n g A c a0 m es ls rm um ++ R)){K:KV}(h: ∀w',St w0 w' (ky p {q with ev:= .slice none 0 0} n g A c a0 m [] ls rm um ++ (nh q.ev es :: R))->K q.ev w'):ik P F.ca [kl p] w K:=by
 rw[M.cj.fcall]
 apply M.cj.calls
 unfold M.cj
 obtain⟨_,_,_,_,_,_,_,_,_,_,_,_,_,_,_,_,_,c25,_⟩:=mr S
 simp only[kl]
 simp[c25]
 refine St.oh S rfl (by simp[clC]) fun w2 S2=>?_
 have S2':St w0 w2 (clA p {q with ev:= .slice none 0 0} :: _):=S2
 have S3:St w0 w2 (nh (.slice none 0 0) [] :: _):=Go.Eng.ye S2'
 exact h w2 (S3.pick (L:=[_,_,_,_,_,_,_,_,_,_,_,_]) [1,2,3,4,0,6,7,8,9,10,11,5] 12 rfl (by decide))
theorem axb(S:St w0 w (ky p q n g A c a0 m es ls rm um ++ R)){K:KV}(h: ∀w',St w0 w' (ky p {q with out:= .slice none 0 0} n g A c a0 m es [] rm um ++ (nc q.out ls :: R))->K q.out w'):ik P F.ax [kl p] w K:=by
 refine bbr (S.pick (L:=[_,_,_,_,_,_,_,_,_,_,_]) [0,5,1,2,3,4,6,7,8,9,10] 11 rfl (by decide)) fun w2 S2=>?_
 have S3:St w0 w2 (nc (.slice none 0 0) [] :: _):=Go.Eng.ye S2
 exact h w2 (S3.pick (L:=[_,_,_,_,_,_,_,_,_,_,_,_]) [1,3,4,5,6,0,7,8,9,10,11,2] 12 rfl (by decide))
end
theorem ben{w:World}{p:Pk}{ls:List Spn}{lm:List Mem}{lu:List Int}(hp:zd w p ls lm lu)(q3:p.jh=3){K:KV}(h: ∀w' v,SlM w' v lm->(∀g,v.ownBlock=some g->w.heap.size<=g)->Fz w w'->K (.iface T.s (.agg #[v])) w'):ik P F.cr [pkA p] w K:=by
 rw[M.q.fcall]
 apply M.q.calls
 unfold M.q
 rw[ano hp]
 have S1:St w (w.alloc (.cells (pkC p).toArray T.c)) (jd w.heap.size (pkC p).toArray T.c :: []):=(St.km w).add ((Fr.refl _ w).alloc _) (B:=fun x=>x=w.heap.size) ⟨by rw[ja,if_pos rfl],rfl⟩ fun x hx=>by subst hx;rw[jg];omega
 have hsz:=S1.fr.size
 generalize w.alloc (.cells (pkC p).toArray T.c)=w1 at *
 generalize w.heap.size=pb at *
 have f1:=S1.fr
 have hp1:=hp.fr f1
 obtain⟨c0,c1,c2,c4,c6,c7,c8,c9,c10,_⟩:=rp S1
 obtain⟨_,⟨a2,k2,h2⟩,_⟩:=hp.one
 simp[c0,q3]
 unfold M.q.j1
 have c9':=c9
 rw[h2] at c9'
 simp[q3,c9']
 rw[<-h2]
 refine acr hp1.m hp1.lm fun w2 v2 s2 n2 f2=>?_
 obtain⟨a,c,hv,_⟩:=id s2
 have fin:=h w2 v2 s2 (fun g hg=>Nat.le_trans hsz (n2 g hg)) (f1.trans f2)
 rw[hv] at fin⊢
 simp
 exact fin
theorem bdt{w:World}{p:Pk}{ls:List Spn}{lm:List Mem}{lu:List Int}(hp:zd w p ls lm lu)(hr:ahl p)(q3:p.jh=3)(he:wq p ls lm lu=true){K:KV}(h: ∀w' v,SlM w' v lm->(∀g,v.ownBlock=some g->w.heap.size<=g)->Fz w w'->K (.tuple #[.iface T.s (.agg #[v]),.int .i64 0]) w'):ik P F.ft [pkA p] w K:=by
 rw[M.fe.fcall]
 apply M.fe.calls
 unfold M.fe
 refine St.uf (St.km w) fun pb w1 S1=>?_
 have S1':St w w1 (jd pb (pkC p).toArray T.c :: []):=S1
 have pl:=fun K=>vw S1' K
 simp[pl]
 refine ajm (hp.fr S1.fr) hr fun w2 f2=>?_
 have S2:=S1'.ju f2
 unfold anw
 rw[if_pos he]
 simp
 have pl2:=fun K=>vw S2 K
 simp[pl2]
 refine ben (hp.fr S2.fr) q3 fun w3 v s3 n3 f3=>?_
 exact h w3 v s3 (fun g hg=>Nat.le_trans S2.fr.size (n3 g hg)) (S2.ju f3).fr
def abi(mv:Value):Pk:=⟨3,0,jf,jf,0,false,.slice none 0 0,mv,.slice none 0 0⟩
theorem anh{l:List Mem}(h:qu l=true):l.length<=16:=by
 unfold qu at h
 simp at h
 exact h.1.2.2
theorem aua:jf.rng:=⟨⟨by decide,by decide⟩,⟨by decide,by decide⟩⟩
theorem bmn(mv:Value):ahl (abi mv):=⟨⟨Int.le_refl 0,show (0:Int) < 18446744073709551616 by decide⟩,aua,aua⟩
theorem bes{mv:Value}{l:List Mem}(h:qu l=true):wq (abi mv) [] l []=true:=by
 simp[wq,ase,aab,xb,abi,td,re,qw,qx,mj,xt,h]
section
variable {w0 w : World} {R : List Asn} {p : Nat} {q : Cl} {n : Nd} {g : Cfg} {A : List AE} {c : CT} {a0 : Int} {m rm um : MP} {es : List Evn} {ls : List Ltr}
theorem azd{frm now:Int}{a:Option Addr}{k d:Nat}{l:List Mem}(S:St w0 w (ky p q n g A c a0 m es ls rm um ++ R))(hn:qk n)(hs: ∀w' L,St w0 w' (L ++ R)->SlM w' (.slice a k d) l)(hm:qu l=true)(hi:aht l)(h0:0<=q.now/\q.now<=18446744073709551615)(h1:0<=now/\now<=18446744073709551615){K:KV}
  (h: ∀w',St w0 w' (ky p {q with now:=max q.now now} (n.ahf frm l (max q.now now)).1 g A c a0 m es ls rm um ++ R)->K (.int .i64 (n.ahf frm l (max q.now now)).2) w'):ik P F.ao [kl p,.int .u64 frm,pkA (abi (.slice a k d)),.int .u64 now] w K:=by
 rw[M.i.fcall]
 apply M.i.calls
 unfold M.i pkA
 refine St.uf S fun pb w1 S1=>?_
 have S1':St w0 w1 (jd pb (pkC (abi (.slice a k d))).toArray T.c :: _):=S1
 simp only[kl]
 simp
 unfold M.i.j0
 simp[vw S1']
 have hrd:zd w1 (abi (.slice a k d)) [] l []:=⟨Sl.nil,hs w1 (_ :: ky p q n g A c a0 m es ls rm um) S1',Sl.nil,by simp,by have:=anh hm;omega,by simp⟩
 refine bdt hrd (bmn _) rfl (bes hm) fun w2 v s2 n2 f2=>?_
 obtain⟨x,hx⟩:=List.exists_mem_of_ne_nil _ (show l≠[] from fun e=>by subst e;simp[qu] at hm)
 obtain⟨bb,hv1,hv2⟩:=s2.lt hx
 have S2:St w0 w2 (rdA 3 xf v l :: _):=S1'.add f2 (a:=rdA 3 xf v l) (B:=fun y=>v.ownBlock=some y) ⟨s2,fun y hy=>hy⟩ fun y hy=>by
  have h3:=n2 y hy
  rw[hv1] at hy
  cases hy
  exact⟨h3,hv2⟩
 obtain⟨va,vc,hve,_⟩:=id s2
 obtain⟨_,_,_,_,_,_,_,_,_,_,_,_,c23,_⟩:=ni (p:=p) (q:=q) S2 (by simp)
 simp
 unfold M.i.j1
 simp[c23,qo]
 refine St.oh S2.up2 rfl (by simp[clC]) fun w3 S3=>?_
 have S4:St w0 w3 (clA p {q with now:=max q.now now} :: _):=S3
 simp[alw]
 have S5:=S4.mkB #[.slice none 0 0] T.s
 generalize w3.heap.size=ab at *
 generalize w3.alloc _=w5 at *
 have hone: ∀u∈[v],lc u=true:=fun u hu=>by rw[List.mem_singleton.1 hu,hve];rfl
 refine St.put (vs:=[v]) (cs':= #[v]) S5 hone (by simp) (by simp) fun w6 S6=>?_
 have S7:=S6.ju ((Fr.refl _ w6).dr 1)
 generalize dr w6 1=w7 at *
 obtain⟨_,_,_,_,_,e14,_,_,_,_,_,_,e23,_⟩:=ni (p:=p) (q:={q with now:=max q.now now}) S7 (by simp)
 have k0:iq w7 ab 0=some v:=by rw[S7.cell];rfl
 simp[e14,e23,k0]
 refine bls (S7.pick (L:=[_,_,_,_,_,_,_,_,_,_,_,_,_,_]) [4,1,2,3,5,6,7,8,9,10,11,12,13] 14 rfl (by decide)) hn ⟨by omega,by omega⟩ hi (fun w' L S'=>acs S' (by simp)) (by have:=anh hm;omega) fun w8 S8=>?_
 exact h w8 (S8.pick (L:=[_,_,_,_,_,_,_,_,_,_,_,_,_]) [1,0,4,5,6,7,8,9,10,11,12] 13 rfl (by decide))
end
theorem bgb{o:Int}(h1:2<=o):(Nd.new 1 1 5 20 0).ahf o [⟨o,1,0⟩] 0=({Nd.new 1 1 5 20 0 with v:=[⟨1,1,0⟩,⟨o,1,0⟩],h:=[(o,.int .u64 0)]},0):=by
 have hne: ¬o=1:=by omega
 have hne': ¬1=o:=by omega
 have r1:kj [⟨1,1,0⟩]=0:=by decide
 have r2:kj [⟨o,1,0⟩]=0:=by
  have:(0:Int) < o:=by omega
  simp[kj,qu,wh,xm,this]
 have hs:Suint64.qi [1,o]=[1,o]:=by
  unfold Suint64.qi
  exact List.mergeSort_of_pairwise (by simp;omega)
 have hm:mo [⟨1,1,0⟩] [⟨o,1,0⟩]=([⟨1,1,0⟩,⟨o,1,0⟩],0):=by
  simp[mo,r1,r2,od,qd,hne',yb,hs,kc]
 unfold Nd.ahf
 have e0:(Nd.new 1 1 5 20 0).v=[⟨1,1,0⟩]:=rfl
 rw[e0,hm]
 have ha:us 1 o 0 [] [⟨1,1,0⟩,⟨o,1,0⟩]=[(o,.int .u64 0)]:=by
  simp[us,wy,hne,hne',kh,tz]
 simp[Nd.new,aob,kc,pc,ha]
theorem bgt{o:Int}(h1:2<=o){n:Nd}(hn:n={Nd.new 1 1 5 20 0 with v:=[⟨1,1,0⟩,⟨o,1,0⟩],h:=[(o,.int .u64 0)]}):(n.ro 1 0).2=[o]/\(n.ro 1 0).1.v=[⟨1,1,0⟩,⟨o,1,0⟩]:=by
 subst hn
 have hne: ¬o=1:=by omega
 have w1:IntKind.u64.wrap 1=1:=by decide
 simp[Nd.ro,Nd.new,pc,tx,hne,ahd,hat,kh,aan,pq,zq,w1]
theorem aun{o:Int}(h1:2<=o){n:Nd}(hv:n.v=[⟨1,1,0⟩,⟨o,1,0⟩]):abk n.v=[1,o]:=by
 have:(1:Int) < o:=by omega
 rw[hv]
 simp[abk,kj,qu,wh,xm,this,adl]
theorem zz.mem{ids:List Int}(hne:ids≠[]){t o:Int}(h:zz ids t o):o∈ids:=by
 obtain⟨l,a1,a2,rfl⟩:=h
 have hl:=a2.length_eq
 rw[Ring.aer] at hl
 have hpos:0 < l.length:=by have:=List.length_pos_iff.2 hne;omega
 unfold Ring.aek
 have hlt:(l.filter fun p=>decide (p.at' < Ring.ajw t)).length % l.length < l.length:=Nat.mod_lt _ hpos
 rw[List.getD_eq_getElem?_getD,List.getElem?_eq_getElem hlt,Option.getD_some]
 have:=a2.mem_iff.1 (List.getElem_mem hlt)
 simp only[Ring.acd,Ring.abp,List.mem_flatMap,List.mem_map] at this
 obtain⟨id,hid,i,_,e⟩:=this
 rw[<-e]
 exact hid
noncomputable def sk(ids:List Int)(t:Int):Int:=open Classical in if h: ∃o,zz ids t o then h.choose else 0
theorem apf{ids:List Int}{t o:Int}(h:zz ids t o):o=sk ids t:=by
 unfold sk
 have hx: ∃o,zz ids t o:=⟨o,h⟩
 rw[dif_pos hx]
 exact zz.bsb h hx.choose_spec
def tt(own:Int->Int)(pre:List Int)(A:List AE):List AE:=A.filter fun e=>!(decide (e.t∈pre) && decide (own e.t≠1))
theorem bbj(own:Int->Int)(A:List AE):tt own [] A=A:=by simp[tt]
theorem bbs{own:Int->Int}{pre:List Int}{A:List AE}{t:Int}(h:own t=1):tt own (pre ++ [t]) A=tt own pre A:=by
 unfold tt
 refine List.filter_congr fun e _=>?_
 by_cases he:e.t=t
 ·simp[he,h]
 ·simp[he]
theorem bak{own:Int->Int}{pre:List Int}{A:List AE}{t:Int}(h:own t≠1):tt own (pre ++ [t]) A=tq (tt own pre A) t:=by
 unfold tt tq
 rw[List.filter_filter]
 refine List.filter_congr fun e _=>?_
 by_cases he:e.t=t
 ·simp[he,h]
 ·simp[he]
structure HO where
 t:Int
 a:Option Addr
 c:Nat
 l:List Spn
def HO.v(x:HO):Value:= .slice x.a x.l.length x.c
def hoP(x:HO):Pk:=⟨2,x.t,jf,jf,0,false,x.v,.slice none 0 0,.slice none 0 0⟩
theorem apv(x:HO): ∀u∈pkC (hoP x),lc u=true:=fun u hu=>by
 simp only[pkC,hoP,HO.v,List.mem_cons,List.not_mem_nil,or_false] at hu
 rcases hu with rfl|rfl|rfl|rfl|rfl|rfl|rfl|rfl|rfl|rfl|rfl <;>rfl
def hoL(o:Int)(x:HO):Ltr:=⟨1,o,hoP x,apv x⟩
abbrev aep(x:HO):Asn:=rdA 8 jz x.v x.l
structure HOk(own:Int->Int)(A:List AE)(pre:List Int)(hs:List HO):Prop where
 ts:hs.map HO.t=pre.filter fun t=>decide (own t≠1)
 of: ∀x∈hs,∃e∈A,e.t=x.t/\e.l=x.l
theorem HOk.skip{own:Int->Int}{A:List AE}{pre:List Int}{hs:List HO}(h:HOk own A pre hs){t:Int}(ht:own t=1):HOk own A (pre ++ [t]) hs:=⟨by rw[h.ts,List.filter_append];simp[ht],h.of⟩
theorem HOk.aud{own:Int->Int}{A:List AE}{pre:List Int}{hs:List HO}(h:HOk own A pre hs){x:HO}(ht:own x.t≠1)(he: ∃e∈A,e.t=x.t/\e.l=x.l):HOk own A (pre ++ [x.t]) (hs ++ [x]):=⟨by rw[List.map_append,h.ts,List.filter_append];simp[ht],fun y hy=>by
 rcases List.mem_append.1 hy with hy|hy
 ·exact h.of y hy
 ·rw[List.mem_singleton.1 hy];exact he⟩
section
variable {w0 w : World} {R : List Asn} {p : Nat} {q : Cl} {n : Nd} {g : Cfg} {A : List AE} {c : CT} {a0 : Int} {es : List Evn} {ls : List Ltr}
theorem ahc(a:Option Addr)(k d:Nat): ∀u∈pkC (abi (.slice a k d)),lc u=true:=fun u hu=>by
 simp only[pkC,abi,List.mem_cons,List.not_mem_nil,or_false] at hu
 rcases hu with rfl|rfl|rfl|rfl|rfl|rfl|rfl|rfl|rfl|rfl|rfl <;>rfl
def HdI(w0:World)(p:Nat)(q:Cl)(n:Nd)(g:Cfg)(A:List AE)(c:CT)(a0:Int)(es:List Evn)(lg:List Ltr)(o:Int)(v:Value)(ts:List Int)(R:List Asn):KL:=fun x w1=> ∃(u1 u2:Value)(i:Nat)(hs:List HO)(ov:Value)(c':CT),x=[u1,u2,.int .i64 (i:Nat)]/\i<=ts.length/\HOk (sk [1,o]) A (ts.take i) hs/\(∀y∈c',y∈c)/\St w0 w1 (ky p {q with out:=ov} n g (tt (sk [1,o]) (ts.take i) A) c' a0 [] es (lg ++ hs.map (hoL o)) [] [] ++ (vn v ts :: ahw (hs.map aep) :: R))
theorem bhr{L:List Asn}{a:Asn}(S:St w0 w (ahw L :: a :: R)):St w0 w (ahw (L ++ [a]) :: R):=St.all.2 (by simpa using St.all.1 S)
theorem bau(S:St w0 w (ky p q n g A c a0 [] es ls [] [] ++ R))(hA:A.length<=1000)(hc: ∀y∈c,q.now < y.2)(h0:0<=q.qg/\q.qg<=q.now/\q.now<=18446744073709551615){K:KV}(h: ∀w' ag,(ag=q.qg\/ag=q.now)->St w0 w' (ky p {q with qg:=ag} n g A c a0 [] es ls [] [] ++ R)->K (.tuple #[]) w'):M.b.j2 (kl p) w K:=by
 have hcd:qh c q.now=[]:=by
  unfold qh
  rw[List.map_eq_nil_iff,List.filter_eq_nil_iff]
  intro y hy
  have:=hc y ((aae c).mem_iff.1 hy)
  simp
  omega
 unfold M.b.j2
 refine zt fun K6 hK6=>?_
 have S9:=S.ju ((Fr.refl _ w).dr 1)
 rw[qr]
 generalize dr w 1=w8 at *
 have e15: ∀{w':World}{L:List Asn},St w0 w' L->clA p q∈L->iq w' p 15=some (.pointer (some ⟨q.hb,0,none⟩))/\iq w' p 23=some (.int .u64 q.now):=fun S' hm=>by
  obtain⟨_,_,_,_,_,_,e15,_,_,_,_,_,e23,_⟩:=ni S' hm
  exact⟨e15,e23⟩
 obtain⟨k15,k23⟩:=e15 S9 (by simp)
 refine zt fun K7 hK7=>?_
 have du: ∀{K':KV},(∀w' v,(∀K,biT P .len #[T.g] T.d [false] [v] w' K=K (.int .i64 0) w')->(iq w' p 15=some (.pointer (some ⟨q.hb,0,none⟩))/\iq w' p 23=some (.int .u64 q.now))->St w0 w' (ky p q n g A c a0 [] es ls [] [] ++ R)->K' v w')->ik P F.bj [.pointer (some ⟨q.hb,0,none⟩),.int .u64 q.now] w8 K':=fun h'=>by
  refine bex (S9.pick (L:=[_,_,_,_,_,_,_,_,_,_,_]) [2,0,1,3,4,5,6,7,8,9,10] 11 rfl (by decide)) hA q.now fun w' v S'=>?_
  rw[hcd] at S'
  have hl: ∀K,biT P .len #[T.g] T.d [false] [v] w' K=K (.int .i64 0) w':=fun K=>S'.rd.jv (by kernel_rfl) [false]
  refine h' w' v hl (e15 S' (by simp)) ?_
  exact S'.pick (L:=[_,_,_,_,_,_,_,_,_,_,_,_]) [2,3,1,4,5,6,7,8,9,10,11] 12 rfl (by decide)
 have fin: ∀w' x,gv x 9= .int .i64 0->gv x 10= .int .i64 0->St w0 w' (ky p q n g A c a0 [] es ls [] [] ++ R)->K7 x w':=fun w' x g9 g10 S'=>by
  refine hK7 _ _ ?_
  unfold M.b.j7
  simp only[ir,g9,g10]
  refine⟨fun x w1=>x=[undef,.int .i64 0]/\w1=w',fun _ _=>0,⟨rfl,rfl⟩,?_⟩
  rintro x w1 ⟨rfl,rfl⟩
  simp
  refine hK6 _ _ ?_
  exact auw S' h0 h
 simp only[kl]
 simp[k15,k23]
 refine⟨du fun w' v hl hk S'=>⟨?_,?_⟩,du fun w' v hl hk S'=>?_⟩
 ·rw[hl]
  simp[hk.1,hk.2]
  exact fin w' _ rfl rfl S'
 ·simp[hk.1,hk.2]
  rw[hl]
  exact fin w' _ rfl rfl S'
 ·rw[hl]
  exact fin w' _ rfl rfl S'
theorem bfj{o:Int}(S:St w0 w (ky p q n g A c a0 [] es [] [] [] ++ R))(hn:qk n)(h2:2<=o/\o<=100)(hnow:q.now=0)(hag:q.qg=0)(ht:(n.ro 1 0).2=[o])(hv:(n.ro 1 0).1.v=[⟨1,1,0⟩,⟨o,1,0⟩])(hA:A.length<=100)(hl: ∀e∈A,e.l.length<=1000)(hc: ∀y∈c,1 < y.2){K:KV}
  (h: ∀w' ov ag c' hs gl,HOk (sk [1,o]) A (jk A) hs->gl.p.jh=3->St w0 w' (ky p {q with now:=1,out:=ov,qg:=ag} (n.ro 1 0).1 g (tt (sk [1,o]) (jk A) A) c' a0 [] es (gl :: hs.map (hoL o)) [] [] ++ (ahw (hs.map aep) :: R))->K (.tuple #[]) w'):ik P F.au [kl p,.int .u64 1,.int .u64 0] w K:=by
 rw[M.b.fcall]
 apply M.b.calls
 unfold M.b
 obtain⟨_,_,_,_,_,_,_,_,_,_,_,_,c23,_⟩:=ni (p:=p) (q:=q) S (by simp)
 simp only[kl]
 simp
 unfold M.b.j0
 have hmx:max q.now 1=1:=by rw[hnow];decide
 simp[c23,qo,hmx]
 refine St.oh S rfl (by simp[clC]) fun w1 S1=>?_
 have S2:St w0 w1 (clA p {q with now:=1} :: _):=S1
 have S3:=S2.ju ((Fr.refl _ w1).dr 1)
 generalize dr w1 1=w2 at *
 obtain⟨_,_,_,_,_,d14,_,_,_,_,_,_,d23,_⟩:=ni (p:=p) (q:={q with now:=1}) S3 (by simp)
 simp[d14,d23]
 refine awx (S3.pick (L:=[_,_,_,_,_,_,_,_,_,_,_]) [1,0,2,3,4,5,6,7,8,9,10] 11 rfl (by decide)) hn ⟨by decide,by decide⟩ (by decide) fun w4 v4 S4=>?_
 have hnk:=agb (now:=1) (pick:=0) hn ⟨by decide,by decide⟩
 rw[ht] at S4
 have hln:=fun w' K=>ahp (w':=w') (K:=K) (S4.row mw)
 obtain⟨_,_,_,_,_,e14,_⟩:=ni (p:=p) (q:={q with now:=1}) S4 (by simp)
 simp[hln,e14]
 have S5:St w0 w4 (ki q.tb (n.ro 1 0).1 :: vn v4 [o] :: _):=S4.swap
 refine ald S5 hnk fun w5 v5 S6=>?_
 obtain⟨va,vc,hve,_⟩:=S6.rd
 generalize (n.ro 1 0).1.v.length=vl at hve
 subst hve
 have bld: ∀w' K,jq P T.c #[(0,.int .i64 3),(7,.slice va vl vc)] w' K=K (pkA (abi (.slice va vl vc))) w':=fun w' K=>by simp[pkA,pkC,abi,jf]
 simp[bld]
 refine ady (to:=[o]) (S6.pick (L:=[_,_,_,_,_,_,_,_,_,_,_,_,_]) [3,7,1,2,4,5,6,8,9,10,11,12] 13 rfl (by decide)) (ahc _ _ _) (fun w' L S'=>ut S' (e:=T.a) (v:=v4) (by simp) mw) (by simp) fun w6 ov S7=>?_
 have S8:St w0 w6 (ky p {q with now:=1,out:=ov} (n.ro 1 0).1 g A c a0 [] es [⟨1,o,abi (.slice va vl vc),ahc _ _ _⟩] [] [] ++ R):=S7.pick (L:=[_,_,_,_,_,_,_,_,_,_,_,_]) [0,2,4,5,6,1,7,8,9,10,11] 12 rfl (by decide)
 have hgk:(⟨1,o,abi (.slice va vl vc),ahc _ _ _⟩:Ltr).p.jh=3:=rfl
 generalize (⟨1,o,abi (.slice va vl vc),ahc _ _ _⟩:Ltr)=gl at *
 have hnd:=(ast (S8.pick (L:=[_,_,_,_,_,_,_,_,_,_,_]) [2] 11 rfl (by decide))).2
 have hlive:=aun h2.1 hv
 clear S1 S2 S3 S4 S5 S6 S7 c23 d14 d23 e14 hln bld S
 generalize (n.ro 1 0).1=n' at *
 unfold M.b.j1
 refine zt fun K2 hK2=>?_
 obtain⟨_,_,_,_,_,_,e15,_⟩:=ni (p:=p) (q:={q with now:=1,out:=ov}) S8 (by simp)
 simp[e15]
 refine aki (S8.pick (L:=[_,_,_,_,_,_,_,_,_,_,_]) [2,0,1,3,4,5,6,7,8,9,10] 11 rfl (by decide)) (by omega) fun w7 v7 S9=>?_
 have hln7:=fun w' K=>ahp (w':=w') (K:=K) (S9.row mw)
 simp only[hln7,ir]
 have htn:(jk A).Nodup:=((Suint64.ny _).nodup_iff).2 hnd
 have hlen:(jk A).length<=100:=by
  unfold jk
  rw[(Suint64.ny _).length_eq,List.length_map]
  exact hA
 have hmem: ∀t∈jk A,∃e∈A,e.t=t:=fun t ht=>List.mem_map.1 ((Suint64.ny _).mem_iff.1 ht)
 have hsub: ∀pre,∀e∈tt (sk [1,o]) pre A,e∈A:=fun pre e he=>(List.mem_filter.1 he).1
 generalize jk A=ts at *
 refine⟨HdI w0 p {q with now:=1} n' g A c a0 es [gl] o v7 ts R,fun x _=>ts.length - ms x 2,⟨_,_,0,[],ov,c,rfl,Nat.zero_le _,⟨rfl,fun _ h=>(List.not_mem_nil h).elim⟩,fun _ h=>h,?_⟩,?_⟩
 ·have S10:St w0 w7 (ahw [] :: vn v7 ts :: _):=(St.all (L:=[])).2 S9
  rw[List.take_zero,bbj]
  exact S10.pick (L:=[_,_,_,_,_,_,_,_,_,_,_,_,_]) [3,4,2,5,6,7,8,9,10,11,12,1,0] 13 rfl (by decide)
 rintro x w8 ⟨u1,u2,i,hs,ov,c',rfl,hi,HO',hc',S10⟩
 by_cases hil:i < ts.length
 ·have hili:(i:Int) < ts.length:=by omega
  have hwi:IntKind.i64.wrap ((i:Int)+1)=((i+1:Nat):Int):=by rw[jc];rfl
  have htk:ts.take (i+1)=ts.take i ++ [ts[i]]:=List.take_succ_eq_append_getElem hil
  obtain⟨ab,ao,cap,hv7,_,_,hcc⟩:=((S10.pick (L:=[_,_,_,_,_,_,_,_,_,_,_,_]) [11] 12 rfl (by decide)).row mw).at hil
  have hia: ∀w' K,iaT P T.g v7 (.int .i64 (i:Nat)) w' K=K (.pointer (some ⟨ab,ao+i,none⟩)) w':=fun w' K=>by rw[hv7];simp[hil]
  have hcell:iq w8 ab (ao+i)=some (.int .u64 ts[i]):=by simpa [Suint64.qe] using hcc 0 _ rfl
  simp[hili]
  unfold M.b.j4
  simp[hia,hcell]
  refine aat S10 hnk hlive ⟨by decide,by omega,trivial⟩ (by simp) (by simp) ts[i] fun w9 ow how S11=>?_
  have hmo:=how.mem (by simp)
  have heo:=apf how
  subst heo
  obtain⟨f0,_,_,_,_,_,f15,_,f17,_⟩:=ni (p:=p) (q:={q with now:=1,out:=ov}) S11 (by simp)
  by_cases hone:sk [1,o] ts[i]=1
  ·simp[f0,hone]
   rw[hwi]
   exact⟨⟨_,_,i+1,hs,ov,c',rfl,by omega,by rw[htk];exact HO'.skip hone,hc',by rw[htk,bbs hone];exact S11⟩,by simp[ms,gv];omega⟩
  ·have hoo:sk [1,o] ts[i]=o:=by simpa [hone] using hmo
   have lu: ∀K,luT P T.v (.map (some q.ru)) (.int .u64 ts[i]) false w9 K=K (.pointer none) w9:=fun K=>by
    rw[tp mt.v (S11.pick (L:=[_,_,_,_,_,_,_,_,_,_,_]) [8] 11 rfl (by decide)).mp]
    rfl
   have hne1: ¬o=1:=by omega
   have hne0: ¬o=0:=by omega
   simp[f0,hoo,hne1,hne0,f15,f17,lu]
   refine asq (S11.pick (L:=[_,_,_,_,_,_,_,_,_,_,_]) [2,0,1,3,4,5,6,7,8,9,10] 11 rfl (by decide)) (by have:=List.length_filter_le (fun e=>!(decide (e.t∈ts.take i) && decide (sk [1,o] e.t≠1))) A;unfold tt;omega) ts[i] (fun hno=>?_) fun e he het w10 v10 S12=>?_
   ·obtain⟨e,he,het⟩:=hmem ts[i] (List.getElem_mem hil)
    refine absurd het (hno e (List.mem_filter.2 ⟨he,?_⟩))
    rw[het]
    have:ts[i]∉ts.take i:=fun hm=>by
     have:=htn.sublist (List.take_sublist (i+1) ts)
     rw[htk,List.nodup_append] at this
     exact this.2.2 _ hm _ (by simp) rfl
    simp[this]
   obtain⟨xa,xc,hxv,_⟩:=S12.rd
   have hhl:hs.length<=100:=by
    have h1:=congrArg List.length HO'.ts
    have h2:=List.length_filter_le (fun t=>decide (sk [1,o] t≠1)) (ts.take i)
    rw[List.length_map] at h1
    rw[List.length_take] at h2
    omega
   have hgx: ∀w' K,jq P T.c #[(0,.int .i64 2),(1,.int .u64 ts[i]),(6,v10)] w' K=K (pkA (hoP ⟨ts[i],xa,xc,e.l⟩)) w':=fun w' K=>by
    rw[hxv]
    simp[pkA,pkC,hoP,HO.v,jf]
   have hrx:(⟨ts[i],xa,xc,e.l⟩:HO).v=v10:=hxv.symm
   generalize hx:(⟨ts[i],xa,xc,e.l⟩:HO)=x at *
   have hxt:x.t=ts[i]:=by rw[<-hx]
   have hxl:x.l=e.l:=by rw[<-hx]
   simp only[hgx]
   have S13:St w0 (w10.alloc (.cells #[.int .u64 o] T.a)) (vn (.slice (some ⟨w10.heap.size,0,none⟩) 1 1) [o] :: _):=St.uh (l:=[o]) S12 mw rfl (by simp[maxLen])
   generalize w10.heap.size=nb at *
   generalize w10.alloc _=w11 at *
   refine ady (q:={q with now:=1,out:=ov}) (to:=[o]) (S13.pick (L:=[_,_,_,_,_,_,_,_,_,_,_,_,_,_,_]) [3,7,0,1,2,4,5,6,8,9,10,11,12,13,14] 15 rfl (by decide)) (apv x) (fun w' L S'=>ut S' (e:=T.a) (v:= .slice (some ⟨nb,0,none⟩) 1 1) (by simp) mw) (by simp;omega) fun w12 ov2 S14=>?_
   have S15:=S14.pick (L:=[_,_,_,_,_,_,_,_,_,_,_,_,_,_,_]) [14,3,0,5,4,6,7,1,8,9,10,11,12,13] 15 rfl (by decide)
   rw[hwi]
   refine⟨⟨_,_,i+1,hs ++ [x],ov2,rj c' ts[i],rfl,by omega,?_,fun y hy=>hc' y (List.mem_filter.1 hy).1,?_⟩,by simp[ms,gv];omega⟩
   ·rw[htk,<-hxt]
    exact HO'.aud (by rw[hxt];exact hone) ⟨e,hsub _ e he,by rw[hxt,het],hxl.symm⟩
   ·have S16:St w0 w12 (ahw (hs.map aep ++ [aep x]) :: _):=bhr (a:=aep x) (by
     have:aep x=rdA 8 jz v10 e.l:=by unfold aep;rw[hrx,hxl]
     rw[this]
     exact S15)
    have ho1:pu [o] (hoP x) (apv x)=[hoL o x]:=rfl
    rw[ho1] at S16
    have S17:=S16.pick (L:=[_,_,_,_,_,_,_,_,_,_,_,_,_]) [1,2,3,4,5,6,7,8,9,10,11,12,0] 13 rfl (by decide)
    rw[htk,bak hone,List.map_append,List.map_append,<-List.append_assoc]
    exact S17
 ·have hie:i=ts.length:=by omega
  subst hie
  simp
  refine hK2 _ _ ?_
  rw[List.take_length] at S10 HO'
  refine bau (q:={q with now:=1,out:=ov}) (R:=ahw (hs.map aep) :: R) (S10.pick (L:=[_,_,_,_,_,_,_,_,_,_,_,_,_]) [0,1,2,3,4,5,6,7,8,9,10,12] 13 rfl (by decide)) (by have:=List.length_filter_le (fun e=>!(decide (e.t∈ts) && decide (sk [1,o] e.t≠1))) A;unfold tt;omega) (fun y hy=>hc y (hc' y hy)) ⟨by show 0<=q.qg;omega,by show q.qg<=1;omega,by show (1:Int)<=_;decide⟩ fun w9 ag _ S11=>?_
  exact h w9 ov ag c' hs gl HO' hgk S11
end
section
variable {w0 w : World} {R : List Asn}
end
section
variable {W w : World} {R : List Asn} {p tb hb kb ru se un : Nat} {rep rul : Value}
end
def spF(hs:List HO)(t:Int):Value:=match hs.find? fun h=>decide (h.t=t) with
 | none=> .slice none 0 0
 | some h=>h.v
def spL(hs:List HO)(t:Int):List Spn:=match hs.find? fun h=>decide (h.t=t) with
 | none=>[]
 | some h=>h.l
theorem avo{hs:List HO}{x:HO}{t:Int}(h:x.t≠t):spF (hs ++ [x]) t=spF hs t:=by
 unfold spF
 rw[List.find?_append]
 cases hs.find? fun h=>decide (h.t=t) with
 | none=>simp[h]
 | some y=>simp
theorem bmj{hs:List HO}{x:HO}{t:Int}(h:x.t=t)(hno: ∀y∈hs,y.t≠t):spF hs t= .slice none 0 0/\spF (hs ++ [x]) t=x.v:=by
 have hn:hs.find? (fun h=>decide (h.t=t))=none:=List.find?_eq_none.2 fun y hy=>by simpa using hno y hy
 unfold spF
 rw[List.find?_append,hn]
 simp[h]
section
variable {W w : World} {X : List Asn} {ov wv ev : Value} {gl : Ltr} {hs : List HO} {o : Int} {ts : List Int} {es : List Evn}
def LtI(W:World)(X:List Asn)(hs:List HO)(t:Int)(m:Nat):KL:=fun x w1=> ∃(u:Value)(j:Nat),x=[u,spF (hs.take (j - 1)) t,.int .i64 (j:Nat)]/\j<=m/\St W w1 X
theorem akv{t:TypeId}(ht:nq P t=true){sz:Nat}(hs:szE P t=sz){v:Value}{b f n cap:Nat}(hv:v= .slice (some ⟨b,f,none⟩) n cap){j:Nat}(h:j < n)(w:World)(K:KV):iaT P t v (.int .i64 (j:Nat)) w K=K (.pointer (some ⟨b,f+j * sz,none⟩)) w:=by
 subst hv hs
 rw[ash ht (by omega) (by omega)]
 simp
theorem bbk(S:St W w X)(hL: ∀{w'},St W w' X->Sl w' 13 ltC ov (gl :: hs.map (hoL o)))(hU: ∀{w'},St W w' X->Sl w' 1 Suint64.qe wv ts)(hg:gl.p.jh=3)(hnd:(hs.map HO.t).Nodup)(hlen:hs.length<=1000){i:Nat}(hi:i < ts.length){x8:List Value}(h7:gv x8 7= .int .i64 (i:Nat)){u0:Value}{K11:KL}{K:KV}(h: ∀w' a u,St W w' X->K11 [a,u,spF hs ts[i]] w'):
  jo [u0,.slice none 0 0,.int .i64 0] w fun K12 x12 w=>M.a.j12 ov x12 K11 wv x8 (.int .u64 o) K12 w K:=by
 refine⟨LtI W X hs ts[i] (hs.length+1),fun x _=>hs.length+1 - ms x 2,⟨u0,0,rfl,Nat.zero_le _,S⟩,?_⟩
 rintro x w1 ⟨u,j,rfl,hj,S1⟩
 unfold M.a.j12
 have hln: ∀w' K,biT P .len #[T.ah] T.d [false] [ov] w' K=K (.int .i64 ((hs.length+1:Nat):Int)) w':=fun w' K=>by
  have:biT P .len #[T.ah] T.d [false] [ov] w' K=K (.int .i64 (gl :: hs.map (hoL o)).length) w':=(hL S1).jv (by kernel_rfl) [false]
  rw[this,List.length_cons,List.length_map]
 have e3: ∀a b c:Value,gv [a,b,c] 2=c:=fun _ _ _=>rfl
 simp only[ir,hln,e3,na]
 by_cases hjl:j < hs.length+1
 ·have hji:(j:Int) < ((hs.length+1:Nat):Int):=by omega
  have hwi:IntKind.i64.wrap ((j:Int)+1)=((j+1:Nat):Int):=by rw[jc];rfl
  simp only[hji,decide_true,il]
  unfold M.a.j13
  obtain⟨b,f,cap,hov,hb,_,hc⟩:=(hL S1).at (i:=j) (by simpa using hjl)
  rw[List.length_cons,List.length_map] at hov
  have hia: ∀w' K,iaT P T.ah ov (.int .i64 (j:Nat)) w' K=K (.pointer (some ⟨b,f+j * 13,none⟩)) w':=akv (by kernel_rfl) (by kernel_rfl) hov hjl
  have S2:=S1.ju ((Fr.refl _ w1).dr 1)
  rcases j with _|k
  ·have ck:iq w1 b (f+2)=some (.int .i64 3):=by
    have:=hc 2 (.int .i64 gl.p.jh) rfl
    rw[hg] at this
    simpa using this
   have hia0: ∀w' K,iaT P T.ah ov (.int .i64 0) w' K=K (.pointer (some ⟨b,f,none⟩)) w':=fun w' K=>by simpa using hia w' K
   have w1':IntKind.i64.wrap 1=1:=by decide
   simp[h7,hia0,ck,w1']
   exact⟨⟨_,1,rfl,by omega,S2⟩,by simp[ms,gv]⟩
  ·have hk:k < hs.length:=by omega
   have el:(gl :: hs.map (hoL o))[k+1]'(by simp;omega)=hoL o hs[k]:=by simp
   rw[el] at hc
   have ck:iq w1 b (f+(k+1) * 13+2)=some (.int .i64 2):=hc 2 _ rfl
   have ct:iq w1 b (f+(k+1) * 13+3)=some (.int .u64 hs[k].t):=hc 3 _ rfl
   have co:iq w1 b (f+(k+1) * 13+1)=some (.int .u64 o):=hc 1 _ rfl
   have cs:iq w1 b (f+(k+1) * 13+10)=some hs[k].v:=hc 10 _ rfl
   obtain⟨ub,uo,ucap,huv,_,_,huc⟩:=(hU S1).at hi
   have hua: ∀w' K,iaT P T.g wv (.int .i64 (i:Nat)) w' K=K (.pointer (some ⟨ub,uo+i,none⟩)) w':=fun w' K=>by simpa using akv (t:=T.g) (sz:=1) (by kernel_rfl) (by kernel_rfl) huv hi w' K
   have huu:iq w1 ub (uo+i)=some (.int .u64 ts[i]):=by simpa [Suint64.qe] using huc 0 _ rfl
   have htk:hs.take (k+1)=hs.take k ++ [hs[k]]:=List.take_succ_eq_append_getElem hk
   have e1:((k:Int)+1)=((k+1:Nat):Int):=by omega
   have hwi':IntKind.i64.wrap ((k:Int)+1+1)=((k+1+1:Nat):Int):=by rw[e1];exact hwi
   have hia': ∀w' K,iaT P T.ah ov (.int .i64 ((k:Int)+1)) w' K=K (.pointer (some ⟨b,f+(k+1) * 13,none⟩)) w':=fun w' K=>by rw[e1];exact hia w' K
   by_cases heq:hs[k].t=ts[i]
   ·have hno: ∀y∈hs.take k,y.t≠ts[i]:=fun y hy he=>by
     have:=hnd.sublist ((List.take_sublist (k+1) hs).map HO.t)
     rw[htk,List.map_append,List.nodup_append] at this
     exact this.2.2 y.t (List.mem_map_of_mem hy) hs[k].t (by simp) (by rw[he,heq])
    obtain⟨sn,ss⟩:=bmj heq hno
    have ss':spF (hs.take (k+1)) ts[i]=hs[k].v:=by rw[htk];exact ss
    simp[h7,hia',ck,ct,hua,huu,heq,co,sn,cs,hwi']
    exact⟨⟨u,k+1+1,by rw[Nat.add_sub_cancel,ss'];simp,by omega,S2⟩,by simp[ms,gv];omega⟩
   ·have ss':spF (hs.take (k+1)) ts[i]=spF (hs.take k) ts[i]:=by rw[htk];exact avo heq
    simp[h7,hia',ck,ct,hua,huu,heq,hwi']
    exact⟨⟨u,k+1+1,by rw[Nat.add_sub_cancel,ss'];simp,by omega,S2⟩,by simp[ms,gv];omega⟩
 ·have hje:j=hs.length+1:=by omega
  subst hje
  have hno: ¬(((hs.length+1:Nat):Int) < ((hs.length+1:Nat):Int)):=by omega
  simp only[hno,decide_false,il]
  have:=h w1 (.int .i64 ((hs.length+1:Nat):Int)) u S1
  rw[Nat.add_sub_cancel,List.take_length]
  exact this
def uw(l:List Spn)(e:Evn):Nat:=if e.jh=1 then l.countP fun x=>sq e.s x else 0
def EvI(W:World)(X:List Asn)(l:List Spn)(es:List Evn):KL:=fun x w1=> ∃(u:Value)(k:Nat),x=[u,.int .i64 (((es.take k).map (uw l)).sum:Nat),.int .i64 (k:Nat)]/\k<=es.length/\St W w1 X
def SpI(W:World)(X:List Asn)(l:List Spn)(m:Nat)(e:Evn):KL:=fun x w1=> ∃(k:Nat),x=[.int .i64 ((m+uw (l.take k) e:Nat):Int),.int .i64 (k:Nat)]/\k<=l.length/\St W w1 X
theorem bcj(l:List Spn)(e:Evn):uw l e<=l.length:=by
 unfold uw
 split
 ·exact List.countP_le_length
 ·exact Nat.zero_le _
theorem beh(l:List Spn)(es:List Evn):(es.map (uw l)).sum<=es.length * l.length:=by
 induction es with
 | nil=>simp
 | cons e t ih=>
  simp only[List.map_cons,List.sum_cons,List.length_cons]
  have:=bcj l e
  rw[Nat.succ_mul]
  omega
theorem bfc{l:List Spn}{spv:Value}(S:St W w X)(hE: ∀{w'},St W w' X->Sl w' 16 evC ev es)(hS: ∀{w'},St W w' X->SlS w' spv l)(hle:es.length<=1000)(hll:l.length<=1000){x11:List Value}(h2:gv x11 2=spv){u0:Value}{K16:KL}{K:KV}(h: ∀w' a u,St W w' X->K16 [a,u,.int .i64 ((es.map (uw l)).sum:Nat)] w'):
  jo [u0,.int .i64 0,.int .i64 0] w fun K17 x17 w=>M.a.j17 ev x17 K16 x11 K17 w K:=by
 refine⟨EvI W X l es,fun x _=>es.length - ms x 2,⟨u0,0,rfl,Nat.zero_le _,S⟩,?_⟩
 rintro x w1 ⟨u,k,rfl,hk,S1⟩
 unfold M.a.j17
 have hln: ∀w' K,biT P .len #[T.bd] T.d [false] [ev] w' K=K (.int .i64 es.length) w':=fun w' K=>(hE S1).jv (by kernel_rfl) [false]
 have e3: ∀a b c:Value,gv [a,b,c] 2=c:=fun _ _ _=>rfl
 have e2: ∀a b:Value,gv [a,b] 1=b:=fun _ _=>rfl
 simp only[ir,hln,e3,na]
 by_cases hkl:k < es.length
 ·have hki:(k:Int) < (es.length:Int):=by omega
  have hwi:IntKind.i64.wrap ((k:Int)+1)=((k+1:Nat):Int):=by rw[jc];rfl
  simp only[hki,decide_true,il]
  unfold M.a.j18
  obtain⟨b,f,cap,hev,hb,_,_⟩:=(hE S1).at (i:=k) hkl
  have hia: ∀w' K,iaT P T.bd ev (.int .i64 (k:Nat)) w' K=K (.pointer (some ⟨b,f+k * 16,none⟩)) w':=akv (by kernel_rfl) (by kernel_rfl) hev hkl
  have hsum:((es.take k).map (uw l)).sum<=1000 * 1000:=by
   have h1:=beh l (es.take k)
   have h2:(es.take k).length<=1000:=by rw[List.length_take];omega
   exact Nat.le_trans h1 (Nat.mul_le_mul h2 hll)
  have hnext:((es.take (k+1)).map (uw l)).sum=((es.take k).map (uw l)).sum+uw l es[k]:=by
   rw[List.take_succ_eq_append_getElem hkl,List.map_append,List.sum_append]
   simp only[List.map_cons,List.map_nil,List.sum_cons,List.sum_nil,Nat.add_zero]
  generalize ((es.take k).map (uw l)).sum=m at *
  simp only[ir]
  refine⟨SpI W X l m es[k],fun x _=>l.length - ms x 1,⟨0,by simp[uw,gv],Nat.zero_le _,S1⟩,?_⟩
  rintro x w2 ⟨i,rfl,hi,S2⟩
  unfold M.a.j20
  have hls: ∀w' K,biT P .len #[T.h] T.d [false] [spv] w' K=K (.int .i64 l.length) w':=fun w' K=>(hS S2).jv (by kernel_rfl) [false]
  simp only[ir,h2,hls,e2,na]
  by_cases hil:i < l.length
  ·have hii:(i:Int) < (l.length:Int):=by omega
   have hwj:IntKind.i64.wrap ((i:Int)+1)=((i+1:Nat):Int):=by rw[jc];rfl
   simp only[hii,decide_true,il]
   unfold M.a.j21
   have S3:=S2.ju ((Fr.refl _ w2).dr 1)
   obtain⟨b',f',cap',hev',_,_,hc⟩:=(hE S3).at (i:=k) hkl
   have hx:=hev.symm.trans hev'
   injection hx with hx1 _ _
   injection hx1 with hx1
   injection hx1 with hxa hxb _
   subst hxa hxb
   have ck:iq w2 b (f+k * 16)=some (.int .i64 es[k].jh):=hc 0 _ rfl
   have ls: ∀K,ldN P 8 b (f+k * 16+7) (dr w2 1) K=K (lw es[k].s) (dr w2 1):=fun K=>by
    refine tk (jz es[k].s) 8 rfl (fun z y hy=>?_) K
    have hz:z < 8:=by
     have:=(List.getElem?_eq_some_iff.1 hy).1
     simpa [jz] using this
    have:(evC es[k])[7+z]? =some y:=by
     obtain rfl|rfl|rfl|rfl|rfl|rfl|rfl|rfl:z=0\/z=1\/z=2\/z=3\/z=4\/z=5\/z=6\/z=7:=by omega
     all_goals exact hy
    have:=hc (7+z) y this
    rw[<-Nat.add_assoc] at this
    exact this
   obtain⟨sb,so,scap,hsv,_,_,hsc⟩:=(hS S3).at hil
   have hsa: ∀w' K,iaT P T.h spv (.int .i64 (i:Nat)) w' K=K (.pointer (some ⟨sb,so+i * 8,none⟩)) w':=akv (by kernel_rfl) (by kernel_rfl) hsv hil
   have lx: ∀K,ldN P 8 sb (so+i * 8) (dr w2 1) K=K (lw l[i]) (dr w2 1):=fun K=>tk (jz l[i]) 8 rfl (fun z y hy=>hsc z y hy) K
   have htk:l.take (i+1)=l.take i ++ [l[i]]:=List.take_succ_eq_append_getElem hil
   have hbd:=bcj (l.take i) es[k]
   rw[List.length_take] at hbd
   have hone:uw (l.take (i+1)) es[k]=uw (l.take i) es[k]+if es[k].jh=1/\sq es[k].s l[i]=true then 1 else 0:=by
    unfold uw
    rw[htk,List.countP_append]
    by_cases hk1:es[k].jh=1 <;>by_cases hs1:sq es[k].s l[i]=true <;>simp[hk1,hs1]
   generalize uw (l.take i) es[k]=ci at *
   have hwn:IntKind.i64.wrap ((m:Int)+(ci:Int)+1)=((m+(ci+1):Nat):Int):=by rw[jc];omega
   by_cases hk1:es[k].jh=1
   ·by_cases hs1:sq es[k].s l[i]=true
    ·simp[h2,hia,ck,ls,hsa,lx,hk1,hs1,axl,hwj,hwn]
     exact⟨⟨i+1,by rw[hone,if_pos ⟨hk1,hs1⟩];simp,by omega,S3⟩,by simp[ms,gv];omega⟩
    ·simp[h2,hia,ck,ls,hsa,lx,hk1,hs1,axl,hwj]
     exact⟨⟨i+1,by rw[hone,if_neg fun hh=>hs1 hh.2];simp,by omega,S3⟩,by simp[ms,gv];omega⟩
   ·simp[h2,hia,ck,hk1,hwj]
    exact⟨⟨i+1,by rw[hone,if_neg fun hh=>hk1 hh.1];simp,by omega,S3⟩,by simp[ms,gv];omega⟩
  ·have hie:i=l.length:=by omega
   subst hie
   have hno: ¬((l.length:Int) < (l.length:Int)):=by omega
   simp only[hno,decide_false,il]
   rw[List.take_length]
   simp[hwi]
   exact⟨⟨.int .i64 (l.length:Nat),k+1,by rw[hnext];simp,by omega,S2⟩,by simp[ms,gv];omega⟩
 ·have hke:k=es.length:=by omega
  subst hke
  have hno: ¬((es.length:Int) < (es.length:Int)):=by omega
  simp only[hno,decide_false,il]
  have:=h w1 (.int .i64 (es.length:Nat)) u S1
  rw[List.take_length]
  exact this
end
theorem bmc(l:List Spn)(es:List Evn):l.countP (fun x=>es.any fun e=>decide (e.jh=1) && sq e.s x)<=(es.map (uw l)).sum:=by
 induction es with
 | nil=>simp
 | cons e t ih=>
  have h1:l.countP (fun x=>(e :: t).any fun e=>decide (e.jh=1) && sq e.s x)<=uw l e+l.countP (fun x=>t.any fun e=>decide (e.jh=1) && sq e.s x):=by
   unfold uw
   by_cases hk:e.jh=1
   ·simp only[hk,List.any_cons,decide_true,Bool.true_and,if_pos]
    clear ih
    induction l with
    | nil=>simp
    | cons x r ihl=>
     simp only[List.countP_cons]
     cases sq e.s x <;>cases t.any (fun e=>decide (e.jh=1) && sq e.s x) <;>simp <;>omega
   ·simp[hk]
  simp only[List.map_cons,List.sum_cons]
  omega
theorem boq{l:List Spn}{es:List Evn}(h: ∀x∈l,∃e∈es,e.jh=1/\e.s=x):l.length<=(es.map (uw l)).sum:=by
 have:=bmc l es
 rw[List.countP_eq_length.2 (fun x hx=>by
  obtain⟨e,he,hk,hs⟩:=h x hx
  exact List.any_eq_true.2 ⟨e,he,by rw[hk,hs,ans];rfl⟩)] at this
 exact this
structure Hnd(A:List AE)(c:CT):Prop where
 ne: ∀e∈A,e.l≠[]
 ct: ∀y∈c,1 < y.2
theorem blm{A:List AE}{c:CT}(H:Hnd A c)(s:Spn):Hnd (uk g4 A s) (ada g4 A c s 0):=by
 have hd:aod g4 0=10:=by decide
 refine⟨fun e he=>?_,fun y hy=>?_⟩
 ·unfold uk at he
  split at he
  ·exact H.ne e he
  ·split at he
   ·split at he
    ·exact H.ne e he
    ·rcases List.mem_append.1 he with he|he
     ·exact H.ne e he
     ·rw[List.mem_singleton.1 he];simp
   ·split at he
    ·exact H.ne e he
    ·split at he
     ·obtain⟨x,hx,rfl⟩:=List.mem_map.1 he
      split
      ·exact H.ne x hx
      ·exact H.ne x hx
     ·obtain⟨x,hx,rfl⟩:=List.mem_map.1 he
      split
      ·simp
      ·exact H.ne x hx
 ·unfold ada at hy
  split at hy
  ·exact H.ct y hy
  ·split at hy
   ·split at hy
    ·exact H.ct y hy
    ·unfold px at hy
     rcases List.mem_cons.1 hy with rfl|hy
     ·rw[hd];show (1:Int) < 10;decide
     ·exact H.ct y (List.mem_filter.1 hy).1
   ·exact H.ct y hy
theorem agr{own:Int->Int}{A:List AE}{ts:List Int}{hs:List HO}(H:HOk own A ts hs){t:Int}(h:own t=1):spF hs t= .slice none 0 0/\spL hs t=[]:=by
 have hn:hs.find? (fun h=>decide (h.t=t))=none:=List.find?_eq_none.2 fun y hy=>by
  have:y.t∈hs.map HO.t:=List.mem_map_of_mem hy
  rw[H.ts,List.mem_filter] at this
  have h2:=this.2
  simp at h2⊢
  intro e
  rw[e] at h2
  exact h2 h
 unfold spF spL
 rw[hn]
 exact⟨rfl,rfl⟩
theorem axa{own:Int->Int}{A:List AE}{ts:List Int}{hs:List HO}(H:HOk own A ts hs){t:Int}(ht:t∈ts)(h:own t≠1): ∃x∈hs,x.t=t/\spF hs t=x.v/\spL hs t=x.l:=by
 have:t∈hs.map HO.t:=by
  rw[H.ts,List.mem_filter]
  exact⟨ht,by simpa using h⟩
 obtain⟨y,hy,hyt⟩:=List.mem_map.1 this
 cases hf:hs.find? fun h=>decide (h.t=t) with
 | none=>exact absurd hyt (by simpa using List.find?_eq_none.1 hf y hy)
 | some x=>
  refine⟨x,List.mem_of_find?_eq_some hf,by simpa using List.find?_some hf,?_,?_⟩
  ·unfold spF;rw[hf]
  ·unfold spL;rw[hf]
section
variable {W w : World} {R X : List Asn} {p tb hb kb ru se un : Nat} {rep rul : Value}
def HgI(W:World)(R:List Asn)(p:Nat)(rep rul:Value)(tb hb kb ru se un:Nat)(l:List PB):KL:=fun x w1=> ∃(u:Value)(i:Nat)(A:List AE)(c:CT)(es:List Evn)(ev:Value)(bad:Int),x=[u,.int .i64 (i:Nat)]/\i<=l.length/\Gat A es i/\Hnd A c/\(0<=bad/\bad<=i)/\St W w1 (ky p (clG 1 rep rul tb hb kb ru se un 0 0 ev bad) (Nd.new 1 1 5 20 0) g4 A c 0 [] es [] [] [] ++ R)
def WsI(W:World)(X:List Asn)(m:Nat):KL:=fun x w1=> ∃(a0 a1 a2 a3 a4 a5 a6:Value)(i:Nat),x=[a0,a1,a2,a3,a4,a5,a6,.int .i64 (i:Nat)]/\i<=m/\St W w1 X
theorem bev{q:Cl}{n:Nd}{o:Int}(h2:2<=o){A A':List AE}{c:CT}{es:List Evn}{ev ov wv:Value}{gl:Ltr}{hs:List HO}{Y:List Asn}
  (S:St W w (ky p q n g4 A' c 0 [] [] [] [] [] ++ (nc ov (gl :: hs.map (hoL o)) :: nh ev es :: vn wv (jk A) :: (hs.map aep ++ Y)))) (hn:qk n) (hl:abk n.v=[1,o]) (H:HOk (sk [1,o]) A (jk A) hs) {k:Nat} (G:Gat A es k) (hk:k<=900) (hne: ∀e∈A,e.l≠[]) (hnd:(A.map AE.t).Nodup) (hg:gl.p.jh=3) {x3:Value} {K7:KL} {K:KV}
  (h: ∀w' x,St W w' (ky p q n g4 A' c 0 [] [] [] [] [] ++ (nc ov (gl :: hs.map (hoL o)) :: nh ev es :: vn wv (jk A) :: (hs.map aep ++ Y)))->K7 x w'):
  jo [undef,undef,undef,x3,undef,undef,undef,.int .i64 0] w fun K8 x8 w=>M.a.j8 wv x8 K7 (kl p) ov (.int .u64 o) ev K8 w K:=by
 have htn:(jk A).Nodup:=((Suint64.ny _).nodup_iff).2 hnd
 have hlen:(jk A).length<=900:=by
  unfold jk
  rw[(Suint64.ny _).length_eq,List.length_map]
  have:=G.few
  omega
 have hhl:hs.length<=900:=by
  have h1:=congrArg List.length H.ts
  have h2:=List.length_filter_le (fun t=>decide (sk [1,o] t≠1)) (jk A)
  rw[List.length_map] at h1
  omega
 have hhn:(hs.map HO.t).Nodup:=by rw[H.ts];exact htn.sublist List.filter_sublist
 generalize hX:(ky p q n g4 A' c 0 [] [] [] [] [] ++ (nc ov (gl :: hs.map (hoL o)) :: nh ev es :: vn wv (jk A) :: (hs.map aep ++ Y)))=X at S h
 have hL: ∀{w'},St W w' X->Sl w' 13 ltC ov (gl :: hs.map (hoL o)):=fun S'=>ut S' (e:=T.bj) (by rw[<-hX];simp) abq
 have hU: ∀{w'},St W w' X->Sl w' 1 Suint64.qe wv (jk A):=fun S'=>ut S' (e:=T.a) (by rw[<-hX];simp) mw
 have hE: ∀{w'},St W w' X->Sl w' 16 evC ev es:=fun S'=>ut S' (e:=T.ar) (by rw[<-hX];simp) agt
 have hH: ∀{w'},St W w' X->∀x∈hs,SlS w' x.v x.l:=fun S' x hx=>acs S' (by rw[<-hX];simp only[List.mem_append,List.mem_cons];right;right;right;right;left;exact List.mem_map_of_mem hx)
 have hC: ∀{w'},St W w' X->∃Z,St W w' (clA p q :: ki q.tb n :: Z)/\∀{w2},St W w2 (clA p q :: ki q.tb n :: Z)->St W w2 X:=fun S'=>by rw[<-hX] at S'⊢;exact⟨_,S',fun S2=>S2⟩
 clear hX
 refine⟨WsI W X (jk A).length,fun x _=>(jk A).length - ms x 7,⟨_,_,_,_,_,_,_,0,rfl,Nat.zero_le _,S⟩,?_⟩
 rintro x w1 ⟨a0,a1,a2,a3,a4,a5,a6,i,rfl,hi,S1⟩
 unfold M.a.j8
 have hln: ∀w' K,biT P .len #[T.g] T.d [false] [wv] w' K=K (.int .i64 (jk A).length) w':=fun w' K=>(hU S1).jv (by kernel_rfl) [false]
 have e7: ∀a b c d e f g h:Value,gv [a,b,c,d,e,f,g,h] 7=h:=fun _ _ _ _ _ _ _ _=>rfl
 simp only[ir,hln,e7,na]
 by_cases hil:i < (jk A).length
 ·have hii:(i:Int) < ((jk A).length:Int):=by omega
  have hwi:IntKind.i64.wrap ((i:Int)+1)=((i+1:Nat):Int):=by rw[jc];rfl
  simp only[hii,decide_true,il]
  unfold M.a.j9
  obtain⟨ub,uo,ucap,huv,_,_,huc⟩:=(hU S1).at hil
  have hua: ∀w' K,iaT P T.g wv (.int .i64 (i:Nat)) w' K=K (.pointer (some ⟨ub,uo+i,none⟩)) w':=fun w' K=>by simpa using akv (t:=T.g) (sz:=1) (by kernel_rfl) (by kernel_rfl) huv hil w' K
  have huu:iq w1 ub (uo+i)=some (.int .u64 (jk A)[i]):=by simpa [Suint64.qe] using huc 0 _ rfl
  have htm:(jk A)[i]∈jk A:=List.getElem_mem hil
  simp only[ir,e7,hua]
  simp[huu]
  obtain⟨Z,S2,bho⟩:=hC S1
  refine aat S2 hn hl ⟨by decide,by omega,trivial⟩ (by simp) (by simp) (jk A)[i] fun w2 ow how S3=>?_
  have hmo:=how.mem (by simp)
  have heo:=apf how
  subst heo
  have S4:=bho S3
  refine bbk S4 hL hU hg hhn (by omega) hil (e7 _ _ _ _ _ _ _ _) fun w3 a u S5=>?_
  have hsl: ∀{w'},St W w' X->SlS w' (spF hs (jk A)[i]) (spL hs (jk A)[i]):=fun S'=>by
   by_cases ho:sk [1,o] (jk A)[i]=1
   ·obtain⟨e1,e2⟩:=agr H ho
    rw[e1,e2]
    exact Sl.nil
   ·obtain⟨x,hx,_,e1,e2⟩:=axa H htm ho
    rw[e1,e2]
    exact hH S' x hx
  have hsll:(spL hs (jk A)[i]).length<=1000/\(sk [1,o] (jk A)[i]=1->spL hs (jk A)[i]=[])/\(sk [1,o] (jk A)[i]≠1->0 < (spL hs (jk A)[i]).length)/\(spL hs (jk A)[i]).length<=(es.map (uw (spL hs (jk A)[i]))).sum:=by
   by_cases ho:sk [1,o] (jk A)[i]=1
   ·obtain⟨_,e2⟩:=agr H ho
    rw[e2]
    exact⟨by simp,fun _=>rfl,fun h=>absurd ho h,by simp⟩
   ·obtain⟨x,hx,_,_,e2⟩:=axa H htm ho
    obtain⟨e,he,_,hel⟩:=H.of x hx
    rw[e2,<-hel]
    exact⟨by have:=G.len e he;omega,fun h=>absurd h ho,fun _=>List.length_pos_iff.2 (hne e he),boq (G.ud e he)⟩
  obtain⟨q1,q2,q3,q4⟩:=hsll
  have hbig:(es.map (uw (spL hs (jk A)[i]))).sum<=1000 * 1000:=Nat.le_trans (beh _ _) (Nat.mul_le_mul (by have:=G.ev;omega) q1)
  generalize spF hs (jk A)[i]=sv at *
  generalize spL hs (jk A)[i]=sl at *
  refine bfc (l:=sl) (spv:=sv) S5 hE hsl (by have:=G.ev;omega) q1 rfl fun w4 a' u' S6=>?_
  have hls: ∀w' K,biT P .len #[T.h] T.d [false] [sv] w' K=K (.int .i64 sl.length) w':=fun w' K=>(hsl S6).jv (by kernel_rfl) [false]
  generalize (es.map (uw sl)).sum=m at *
  unfold M.a.j16
  have fin: ∀b0 b1 b2 b3 b4 b5 b6:Value,WsI W X (jk A).length [b0,b1,b2,b3,b4,b5,b6,.int .i64 ((i+1:Nat):Int)] w4:=fun b0 b1 b2 b3 b4 b5 b6=>⟨b0,b1,b2,b3,b4,b5,b6,i+1,rfl,by omega,S6⟩
  have nb: ∀{x y:Bool}{rx ry:Operand}{w:World}{K:KV},iy P .neq T.bs rx ry (.bool x) (.bool y) w K=K (.bool !(x == y)) w:=bii (by kernel_rfl)
  by_cases ho:sk [1,o] (jk A)[i]=1
  ·have hz:=q2 ho
   have h1o: ¬(1:Int)=o:=by omega
   simp[ho,hls,hz,h1o,hwi,nb]
   exact⟨fin _ _ _ _ _ _ _,by simp[ms,gv];omega⟩
  ·have hoo:sk [1,o] (jk A)[i]=o:=by simpa [ho] using hmo
   have hz:=q3 ho
   have ho1: ¬o=1:=by omega
   have hm: ¬((m:Int) < (sl.length:Int)):=by omega
   have hm': ¬m < sl.length:=by omega
   simp[hoo,ho1,hls,hz,hm',hwi,nb]
   exact⟨fin _ _ _ _ _ _ _,by simp[ms,gv];omega⟩
 ·have hie:i=(jk A).length:=by omega
  subst hie
  have hno: ¬(((jk A).length:Int) < ((jk A).length:Int)):=by omega
  simp only[hno,decide_false,il]
  exact h _ _ S1
theorem bab{q:Cl}{n:Nd}{o:Int}(h2:2<=o){A:List AE}{c:CT}(S:St W w (ky p q n g4 (tt (sk [1,o]) (jk A) A) c 0 [] [] [] [] [] ++ R))(hn:qk n)(hl:abk n.v=[1,o])(hA:A.length<=900){x7:List Value}{K:KV}(h: ∀w',Fz W w'->K (.bool true) w'):
  M.a.j7 (kl p) x7 (.int .i64 0) w K:=by
 unfold M.a.j7
 have hkl:(tt (sk [1,o]) (jk A) A).length<=900:=Nat.le_trans (List.length_filter_le _ _) hA
 have hown: ∀t∈jk (tt (sk [1,o]) (jk A) A),sk [1,o] t=1:=fun t ht=>by
  have ht':=(Suint64.ny _).mem_iff.1 ht
  obtain⟨e,he,rfl⟩:=List.mem_map.1 ht'
  obtain⟨heA,hc⟩:=List.mem_filter.1 he
  have hin:e.t∈jk A:=(Suint64.ny _).mem_iff.2 (List.mem_map_of_mem heA)
  simpa [hin] using hc
 have hlen:(jk (tt (sk [1,o]) (jk A) A)).length<=900:=by
  unfold jk at hkl⊢
  rw[(Suint64.ny _).length_eq,List.length_map]
  exact hkl
 refine ahi S (by omega) fun w1 v S1=>?_
 simp only[ir]
 generalize jk (tt (sk [1,o]) (jk A) A)=ts at *
 refine⟨fun x w1=> ∃(u:Value)(i:Nat),x=[u,.int .i64 (i:Nat)]/\i<=ts.length/\St W w1 (vn v ts :: (ky p q n g4 (tt (sk [1,o]) (jk A) A) c 0 [] [] [] [] [] ++ R)),fun x _=>ts.length - ms x 1,⟨_,0,rfl,Nat.zero_le _,S1⟩,?_⟩
 rintro x w2 ⟨u,i,rfl,hi,S2⟩
 unfold M.a.j24
 have hln: ∀w' K,biT P .len #[T.g] T.d [false] [v] w' K=K (.int .i64 ts.length) w':=fun w' K=>(S2.row mw).jv (by kernel_rfl) [false]
 have e1: ∀a b:Value,gv [a,b] 1=b:=fun _ _=>rfl
 simp only[ir,hln,e1,na]
 by_cases hil:i < ts.length
 ·have hii:(i:Int) < (ts.length:Int):=by omega
  have hwi:IntKind.i64.wrap ((i:Int)+1)=((i+1:Nat):Int):=by rw[jc];rfl
  simp only[hii,decide_true,il]
  unfold M.a.j25
  obtain⟨ub,uo,ucap,huv,_,_,huc⟩:=(S2.row mw).at hil
  have hua: ∀w' K,iaT P T.g v (.int .i64 (i:Nat)) w' K=K (.pointer (some ⟨ub,uo+i,none⟩)) w':=fun w' K=>by simpa using akv (t:=T.g) (sz:=1) (by kernel_rfl) (by kernel_rfl) huv hil w' K
  have huu:iq w2 ub (uo+i)=some (.int .u64 ts[i]):=by simpa [Suint64.qe] using huc 0 _ rfl
  have how1:=hown ts[i] (List.getElem_mem hil)
  simp only[ir,e1,hua]
  simp[huu]
  refine aat (S2.pick (L:=[_,_,_]) [1,2,0] 3 rfl (by decide)) hn hl ⟨by decide,by omega,trivial⟩ (by simp) (by simp) ts[i] fun w3 ow how S3=>?_
  have heo:=apf how
  rw[how1] at heo
  subst heo
  simp[hwi]
  exact⟨⟨u,i+1,by simp,by omega,S3.pick (L:=[_,_,_]) [2,0,1] 3 rfl (by decide)⟩,by simp[ms,gv];omega⟩
 ·have hie:i=ts.length:=by omega
  subst hie
  have hno: ¬((ts.length:Int) < (ts.length:Int)):=by omega
  simp only[hno,decide_false,il]
  simp
  exact aom (St.km _) fun w3 S3=>h w3 (S2.fr.trans S3.fr)
theorem ajq{n0:Nat}{v0:Value}(h0:TV P W n0 T.br [v0]){a1:Int}(h1:(Lit.int .u64 a1).wf=true){K:KV}
  (h: ∀w',Fz W w'->K (.bool true) w'):jy P F.dc [v0,.int .u64 a1] W K:=by
 obtain⟨l,hl⟩:=bhb h0
 apply M.a.calls
 unfold M.a
 have ex: ∀{w'},Fz W w'->(ik P F.bv [] w' fun v w=>K v w):=fun f=>aom (St.km _) fun w'' S''=>h w'' (f.trans S''.fr)
 simp only[ir,hl.len]
 by_cases n1:12 < (l.length:Int)
 ·simp[n1]
  exact ex (Fr.refl _ _)
 by_cases n2:a1 < 2
 ·simp[n1,n2]
  exact ex (Fr.refl _ _)
 by_cases n3:100 < a1
 ·simp[n1,n2,n3]
  exact ex (Fr.refl _ _)
 simp[n1,n2,n3]
 unfold M.a.j0
 refine avc (St.km W) fun w1 a c S1=>?_
 refine bbx S1 fun w5 S5=>?_
 refine ark S5 (fun w' L S'=>ut S' (e:=T.a) (sz:=1) (enc:=Suint64.qe) (v:= .slice a 1 c) (l:=[101]) (by simp) mw) (by omega) (by decide) fun w6 p g rep rul tb hb kb ru se un g1 g2 g3 S6=>?_
 have hg:g=g4:=by
  obtain⟨a,b,c⟩:=g
  have h1:(4:Int)=a:=g1
  have h2:(4:Int)=b:=g2
  have h3:(10:Int)=c:=g3
  unfold g4
  rw[show a=4 by omega,show b=4 by omega,<-h3]
 subst hg
 rw[bkt] at S6
 have hn:qk (Nd.new 1 1 5 20 0):=awm (by omega) (by omega) (by omega) (by omega) (by omega)
 simp
 generalize [vn (.slice a 1 c) [101]]=R1 at S6
 refine⟨HgI W R1 p rep rul tb hb kb ru se un l,fun x _=>l.length - ms x 1,⟨_,0,[],[],[],_,0,rfl,Nat.zero_le _,bnf,⟨fun _ h=>(List.not_mem_nil h).elim,fun _ h=>(List.not_mem_nil h).elim⟩,⟨by omega,by omega⟩,S6⟩,?_⟩
 rintro x w7 ⟨u,i,A,c2,es,ev,bad,rfl,hi,G,H,⟨bd1,bd2⟩,S7⟩
 unfold M.a.j3
 simp only[ir,hl.len]
 by_cases hil:i < l.length
 ·have hili:(i:Int) < (l.length:Int):=by omega
  obtain⟨b1,o1,x1,e1,k1,r1⟩:=hl.at hil
  have hlw: ∀{w':World}{L:List Asn},St W w' L->SlP w' v0 l:=fun S'=>hl.fr S'.fr
  have c1:=k1 (hlw S7)
  have s1:=r1 (hlw S7)
  simp only[na,show∀a b:Value,gv [a,b] 1=b from fun _ _=>rfl,hili,decide_true,il]
  unfold M.a.j4
  have hxv:SV.v x1= .slice x1.a x1.n x1.c:=rfl
  rw[hxv] at c1
  simp[e1,c1]
  have hxn:x1.n=l[i].2.length:=by
   obtain⟨_,_,e,_⟩:=s1
   injection e
  have hwi:IntKind.i64.wrap ((i:Int)+1)=((i+1:Nat):Int):=by rw[jc];rfl
  by_cases hbig:(500:Int) < (x1.n:Int)
  ·simp only[hbig,decide_true,il]
   exact ex S7.fr
  ·simp only[hbig,decide_false,il]
   rw[hwi]
   refine bkv (k:=i) (l:=l[i].2) (inc:=1) S7 hn ⟨rfl,rfl⟩ G (by omega) (fun w' L S'=>r1 (hlw S')) (by omega) ⟨bd1,bd2⟩ rfl (by decide) (fun s hco hR hr G' w8 v8 S8=>?_) fun hno G' w8 kk hkk S8=>?_
   ·exact⟨⟨_,i+1,_,_,_,v8,bad,rfl,by omega,G',blm H s,⟨by omega,by omega⟩,S8⟩,by simp[ms,gv];omega⟩
   ·exact⟨⟨_,i+1,A,c2,es,ev,bad+1,rfl,by omega,G',H,⟨by omega,by omega⟩,S8⟩,by simp[ms,gv];omega⟩
 ·have hie:i=l.length:=by omega
  subst hie
  simp only[na,show∀a b:Value,gv [a,b] 1=b from fun _ _=>rfl,show decide ((l.length:Int) < (l.length:Int))=false from by simp,il]
  unfold M.a.j2
  have hnd:=(ast (S7.pick (L:=[_,_,_,_,_,_,_,_,_,_,_]) [2] 11 rfl (by decide))).2
  refine ahi S7 (by have:=G.few;omega) fun w8 wv S8=>?_
  refine axb (S8.pick (L:=[_,_,_,_,_,_,_,_,_,_,_,_]) [1,2,3,4,5,6,7,8,9,10,11,0] 12 rfl (by decide)) fun w9 S9=>?_
  refine bdk (S9.pick (L:=[_,_,_,_,_,_,_,_,_,_,_,_,_]) [0,1,2,3,4,5,6,7,8,9,10,12] 13 rfl (by decide)) fun w10 S10=>?_
  have S11:St W w10 (ky p (clG 1 rep rul tb hb kb ru se un 0 0 (.slice none 0 0) bad) (Nd.new 1 1 5 20 0) g4 A c2 0 [] [] [] [] [] ++ (nh ev es :: vn wv (jk A) :: R1)):=S10
  simp
  have S12:St W (w10.alloc (.cells #[.int .u64 a1,.int .u64 1,.int .i64 0] T.i)) (pm (.slice (some ⟨w10.heap.size,0,none⟩) 1 1) [⟨a1,1,0⟩] :: _):=St.uh (l:=[(⟨a1,1,0⟩:Mem)]) S11 (fun _=>rfl) rfl (by simp[maxLen])
  generalize w10.heap.size=mb at *
  generalize w10.alloc _=w11 at *
  have hpk:(Value.agg #[.int .i64 3,.int .u64 0,.int .u64 0,.int .u64 0,.int .u64 0,.int .u64 0,.int .i64 0,.bool false,.slice none 0 0,.slice (some ⟨mb,0,none⟩) 1 1,.slice none 0 0]:Value)=pkA (abi (.slice (some ⟨mb,0,none⟩) 1 1)):=rfl
  rw[hpk]
  have hin:aht [⟨a1,1,0⟩]:=fun m hm=>by rw[List.mem_singleton.1 hm];exact⟨show (0:Int)<=1 by decide,show (1:Int) < 18446744073709551616 by decide⟩
  have hpos:0 < a1:=by omega
  have hmr:qu [⟨a1,1,0⟩]=true:=by simp[qu,wh,xm,hpos]
  refine azd (frm:=a1) (l:=[⟨a1,1,0⟩]) (S12.pick (L:=[_,_,_,_,_,_,_,_,_,_,_,_]) [1,2,3,4,5,6,7,8,9,10,11,0] 12 rfl (by decide)) hn (fun w' L S'=>ut S' (e:=T.i) (sz:=3) (enc:=xf) (v:= .slice (some ⟨mb,0,none⟩) 1 1) (l:=[(⟨a1,1,0⟩:Mem)]) (by simp) (fun _=>rfl)) hmr hin ⟨show (0:Int)<=0 by decide,show (0:Int)<=18446744073709551615 by decide⟩ ⟨by decide,by decide⟩ fun w12 S13=>?_
  have hn2:=awh (frm:=a1) (now:=0) hn hin ⟨by decide,by decide⟩
  have hdh:=bgb (o:=a1) (by omega)
  have hmx:max (clG 1 rep rul tb hb kb ru se un 0 0 (.slice none 0 0) bad).now 0=0:=rfl
  rw[hmx,hdh] at S13
  rw[hmx,hdh]
  rw[hdh] at hn2
  dsimp only at hn2
  have hdt:=bgt (o:=a1) (by omega) rfl
  generalize hnn:({Nd.new 1 1 5 20 0 with v:=[⟨1,1,0⟩,⟨a1,1,0⟩],h:=[(a1,.int .u64 0)]}:Nd)=n2 at *
  have S14:St W w12 (ky p (clG 1 rep rul tb hb kb ru se un 0 0 (.slice none 0 0) bad) n2 g4 A c2 0 [] [] [] [] [] ++ (pm (.slice (some ⟨mb,0,none⟩) 1 1) [⟨a1,1,0⟩] :: nh ev es :: vn wv (jk A) :: R1)):=S13
  refine bfj (o:=a1) S14 hn2 ⟨by omega,by omega⟩ rfl rfl hdt.1 hdt.2 (by have:=G.few;omega) (fun e he=>by have:=G.len e he;omega) H.ct fun w13 ov ag c' hs gl HO' hgk S15=>?_
  have hn3:=agb (now:=1) (pick:=0) hn2 ⟨by decide,by decide⟩
  have hlv:=aun (o:=a1) (by omega) hdt.2
  generalize (n2.ro 1 0).1=n3 at *
  refine axb (S15.pick (L:=[_,_,_,_,_,_,_,_,_,_,_,_,_,_,_]) [0,1,2,3,4,5,6,7,8,9,10,13,14,11] 15 rfl (by decide)) fun w14 S17=>?_
  have S18:=St.all.1 (S17.pick (L:=[_,_,_,_,_,_,_,_,_,_,_,_,_,_,_]) [14,0,1,2,3,4,5,6,7,8,9,10,11,12,13] 15 rfl (by decide))
  have S19:=S18.perm (List.perm_append_comm_assoc _ (ky p {(clG 1 rep rul tb hb kb ru se un ag 1 (.slice none 0 0) bad) with out:= .slice none 0 0} n3 g4 (tt (sk [1,a1]) (jk A) A) c' 0 [] [] [] [] [] ++ [nc ov (gl :: hs.map (hoL a1)),nh ev es,vn wv (jk A)]) R1)
  refine bev (A:=A) (es:=es) (Y:=R1) (by omega) S19 hn3 hlv HO' G (by omega) H.ne hnd hgk fun w15 x S20=>?_
  exact bab (by omega) S20 hn3 hlv (by have:=G.few;omega) h
end
end Go.Proofs.YtgepcfcicngceaaGreatDoor
