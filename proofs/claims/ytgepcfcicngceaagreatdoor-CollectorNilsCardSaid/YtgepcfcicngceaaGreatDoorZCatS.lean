/-
  slices.Concat at api_Span. No condition.
-/
import Derived.Test.YtgepcfcicngceaaGreatDoorZEngSl
import Derived.Test.YtgepcfcicngceaaGreatDoorZTim4
import Derived.Test.YtgepcfcicngceaaGreatDoorM
import Derived.Test.YtgepcfcicngceaaGreatDoorFacts
import Derived.Test.YtgepcfcicngceaaGreatDoorZRn1
import Derived.Test.YtgepcfcicngceaaGreatDoorZMs9
set_option maxRecDepth 100000
namespace Go.Proofs.YtgepcfcicngceaaGreatDoor.CS
open Go.Eng
theorem bhm{w:World}{n:Nat}(hn:n<=1000000000){K:KV}(h: ∀w' v,Ow w' w.heap.size T.i 8 kp v []->Fz w w'->K v w'):
  jp P F.bo [.slice none 0 0,.int .i64 n] w K:=by
 apply M.am.calls
 unfold M.am
 have hneg: ¬(n:Int) < 0:=by omega
 simp[hneg]
 unfold M.am.j0
 have hsl:nf P T.g=true:=by kernel_rfl
 have w0:IntKind.i64.wrap 0=0:=by decide
 have wn:IntKind.i64.wrap (n:Int)=n:=iz
 rw[im,axu hsl,xh hsl]
 simp only[na,ve]
 have e1:IntKind.i64.wrap ((n:Int) - IntKind.i64.wrap (((0:Nat):Int) - ((0:Nat):Int)))=n:=by
  rw[show ((0:Nat):Int) - ((0:Nat):Int)=0 from by omega,w0,Int.sub_zero,wn]
 rw[e1]
 by_cases h0:0 < n
 ·have h0':(0:Int) < n:=by omega
  simp only[h0',decide_true,Eng.cond_true]
  rw[axu hsl,ape (i:=0) (j:=0) hsl (.inl ⟨rfl,rfl⟩) (.inr ⟨.i64,rfl⟩) (Nat.le_refl _) (Nat.le_refl _)]
  refine bix (enc:=kp) et.g (kn:= .i64) (by kernel_rfl) h0 hn (by decide) _ fun w' cap hc o f=>?_
  rw[xh hsl,ape (i:=0) (j:=0) hsl (.inl ⟨rfl,rfl⟩) (.inr ⟨.i64,rfl⟩) (Nat.le_refl _) (Nat.zero_le _)]
  rw[if_neg (by omega)]
  have:=h w' _ o f
  simpa [Addr.add,gv] using this
 ·have h0': ¬(0:Int) < n:=by omega
  simp only[h0',decide_false,Eng.cond_false]
  exact h w _ Ow.none (Fr.refl _ _)
abbrev Sls(w:World)(v:Value)(l:List Spn):Prop:=Sl w 8 kp v l
abbrev Ows(w:World)(base:Nat)(v:Value)(l:List Spn):Prop:=Ow w base T.i 8 kp v l
def tot(L:List (Value×List Spn)):Nat:=(L.map fun p=>p.2.length).sum
theorem aqv{L:List (Value×List Spn)}{i:Nat}(hi:i < L.length):tot (L.take (i+1))=tot (L.take i)+L[i].2.length:=by
 unfold tot
 rw[List.take_succ_eq_append_getElem hi,List.map_append,List.sum_append];simp
theorem ayj{L:List (Value×List Spn)}(i:Nat):tot (L.take i)<=tot L:=by
 unfold tot
 conv=>rhs;rw[<-List.take_append_drop i L,List.map_append,List.sum_append]
 omega
theorem bbe(L:List (Value×List Spn)):(L.flatMap (·.2)).length=tot L:=by
 unfold tot
 induction L with
 | nil=>rfl
 | cons p L ih=>simp[ih]
def CaI(w:World)(L:List (Value×List Spn)):KL:=fun x w1=> ∃(u:Value)(i:Nat),x=[u,.int .i64 (tot (L.take i):Nat),.int .i64 (i:Nat)]/\w1=w/\i<=L.length
def CbI(w:World)(L:List (Value×List Spn)):KL:=fun x w1=> ∃(u v:Value)(i:Nat),x=[u,v,.int .i64 (i:Nat)]/\i<=L.length/\Fz w w1/\Ows w1 w.heap.size v ((L.take i).flatMap (·.2))
theorem axo{w:World}{b cap:Nat}{L:List (Value×List Spn)}{e:TypeId}(hb:w.heap[b]? =some (.cells (L.map (·.1)).toArray e (0,0)))(hs: ∀p∈L,Sls w p.1 p.2)(ht:tot L<=100000000)(hL:L.length<=1000){K:KV}
  (h: ∀w' v,Ows w' w.heap.size v (L.flatMap (·.2))->Fz w w'->K v w'):jp P F.aj [.slice (some ⟨b,0,none⟩) L.length cap] w K:=by
 apply M.i.calls
 unfold M.i
 have hss:nf P T.bk=true:=by kernel_rfl
 have hsl:nf P T.g=true:=by kernel_rfl
 have q0: ∀a b c:Value,gv [a,b,c] 0=a:=fun _ _ _=>rfl
 have q1: ∀a b c:Value,gv [a,b,c] 1=b:=fun _ _ _=>rfl
 have q2: ∀a b c:Value,gv [a,b,c] 2=c:=fun _ _ _=>rfl
 have q4: ∀a b c d e:Value,gv [a,b,c,d,e] 4=e:=fun _ _ _ _ _=>rfl
 have cell: ∀(w':World),Fz w w'->∀(i:Nat)(hi:i < L.length),il w' b i=some L[i].1:=fun w' f i hi=>by
  rw[ir (f.heap hb fun h=>h)]
  simp[hi]
 rw[im,xh hss]
 refine⟨CaI w L,fun x _=>L.length - ms x 2,⟨_,0,rfl,rfl,Nat.zero_le _⟩,?_⟩
 rintro x w1 ⟨u,i,rfl,rfl,hi⟩
 simp only[q0,q1,q2,oc,im]
 by_cases hil:i < L.length
 ·have hil':(i:Int) < L.length:=by omega
  simp only[hil',decide_true,Eng.cond_true]
  unfold M.i.j2
  have hwi:IntKind.i64.wrap ((i:Int)+1)=((i+1:Nat):Int):=by rw[iz];rfl
  have c0:=cell w1 (Fr.refl _ _) i hil
  have hsi:=hs L[i] (List.getElem_mem hil)
  obtain⟨a',cap',hv',_⟩:=hsi
  have htt:=aqv hil
  have hle:=ayj (L:=L) (i+1)
  have hwt:IntKind.i64.wrap ((tot (L.take i):Int)+(L[i].2.length:Int))=((tot (L.take (i+1)):Nat):Int):=by rw[iz];omega
  have hng: ¬((tot (L.take (i+1)):Nat):Int) < 0:=by omega
  simp only[q0,q1,q2,im]
  simp[hil,c0,hv',hwt,hwi,-Int.natCast_add]
  refine⟨⟨_,i+1,rfl,rfl,by omega⟩,?_⟩
  simp[ms,gv];omega
 ·have hie:i=L.length:=by omega
  have hil': ¬(i:Int) < L.length:=by omega
  simp only[hil',decide_false,Eng.cond_false]
  have htk:L.take i=L:=List.take_of_length_le (by omega)
  rw[htk]
  unfold M.i.j0
  simp only[q4]
  rw[M.am.fcall]
  refine bhm (by omega) fun w2 v2 o2 f2=>?_
  rw[im,xh hss]
  refine⟨CbI w1 L,fun x _=>L.length - ms x 2,⟨_,v2,0,rfl,Nat.zero_le _,f2,o2⟩,?_⟩
  rintro x w3 ⟨u',v,j,rfl,hj,f3,o3⟩
  simp only[q0,q1,q2,oc,im]
  by_cases hjl:j < L.length
  ·have hjl':(j:Int) < L.length:=by omega
   simp only[hjl',decide_true,Eng.cond_true]
   unfold M.i.j6
   have hwj:IntKind.i64.wrap ((j:Int)+1)=((j+1:Nat):Int):=by rw[iz];rfl
   have c0:=cell w3 f3 j hjl
   have hsj:=(hs L[j] (List.getElem_mem hjl)).fr f3 fun _ _ _ h=>h
   have hl1:((L.take j).flatMap (·.2)).length=tot (L.take j):=bbe _
   have htt:=aqv hjl
   have hle:=ayj (L:=L) (j+1)
   simp only[q0,q1,q2,im]
   simp[hjl,c0,-List.length_flatMap]
   have hge:=f3.size
   refine zg et.g nt tq o3 hsj (by rw[hl1];omega) (by decide) hge _ fun v' w4 o4 f4 g4=>?_
   simp only[hwj]
   refine⟨⟨_,v',j+1,rfl,by omega,f3.jt f4 fun x hx he=>by have:=(o3.lt he).1;omega,?_⟩,?_⟩
   ·rw[List.take_succ_eq_append_getElem hjl,List.flatMap_append]
    simpa using o4
   ·simp[ms,gv];omega
  ·have hjl': ¬(j:Int) < L.length:=by omega
   simp only[hjl',decide_false,Eng.cond_false,q4]
   have htj:L.take j=L:=List.take_of_length_le (by omega)
   rw[htj] at o3
   exact h w3 v o3 f3
end Go.Proofs.YtgepcfcicngceaaGreatDoor.CS
set_option maxRecDepth 100000
namespace Go.Proofs.YtgepcfcicngceaaGreatDoor
open Go.Eng Go.Proofs.YtgepcfcicngceaaGreatDoor.Sint
section
variable {w0 w : World} {R : List Asn} {p : Nat} {q : Cl} {n : Nd} {g : Cfg} {A : List AE} {c : CT} {a0 : Int} {m rm um : MP} {es : List Evn} {ls : List Ltr}
def xf(t ver:Int)(sv:Value):Pk:=⟨9,t,⟨max ver 1,1⟩,je,0,false,sv,.slice none 0 0,.slice none 0 0⟩
theorem ave(t ver:Int)(aa:Option Addr)(c d:Nat): ∀u∈pkC (xf t ver (.slice aa c d)),kq u=true:=fun u hu=>by
 simp only[pkC,xf,List.mem_cons,List.not_mem_nil,or_false] at hu
 rcases hu with rfl|rfl|rfl|rfl|rfl|rfl|rfl|rfl|rfl|rfl|rfl <;>rfl
theorem ajp{v:Value}{l:List Spn}(S:St w0 w R)(hs:SlS w v l)(hlen:l.length<=1000000){K:KV}(h: ∀w' v',St w0 w' (rdA 8 kp v' l :: R)->K v' w'):ig P F.d [v] w K:=by
 rw[M.v.fcall]
 exact ya hs hlen fun w' v' s n f=>h w' v' (S.add (a:=rdA 8 kp v' l) f (B:=fun x=>v'.ownBlock=some x) ⟨s,fun b hb=>hb⟩ n)
theorem bgt{t:Int}{lv:Value}{l:List Spn}(S:St w0 w (clA p q :: kt q.tb n :: mu q.out ls :: R))(hn:tx n)(hs: ∀w' L,St w0 w' (L ++ R)->SlS w' lv l)(hl:l.length<=1000000)(hls:ls.length<=200){K:KV}
  (h: ∀w' ov sv hh,St w0 w' (clA p {q with out:=ov} :: mu ov (ls ++ oa [200] (xf t (pq n) sv) hh) :: kt q.tb n :: R)->K (.tuple #[]) w'):ig P F.bl [lf p,.int .u64 t,lv] w K:=by
 rw[M.bd.fcall]
 apply M.bd.calls
 unfold M.bd
 have S1:=S.jv ((Fr.refl _ w).dr 1)
 rw[qa]
 generalize dr w 1=w1 at *
 refine acb fun K0 hK0=>?_
 have e0: ∀{w':World}{L:List Asn},St w0 w' L->clA p q∈L->il w' p 0=some (.int .u64 1):=fun S' hm=>(nk S' hm).1
 have fin: ∀{w':World}{tb:Nat},St w0 w' (baB tb ⟨max (pq n) 1,1⟩ :: clA p q :: kt q.tb n :: mu q.out ls :: R)->∀x,gv x 9= .pointer (some ⟨tb,0,none⟩)->K0 x w':=fun{w' tb} S' x hx=>by
  refine hK0 _ _ ?_
  unfold M.bd.j0
  have S2:=S'.jv ((Fr.refl _ w').dr 1)
  rw[qa]
  generalize dr w' 1=w2 at *
  refine acb fun K1 hK1=>?_
  have lb: ∀{w':World}{L:List Asn},St w0 w' L->baB tb ⟨max (pq n) 1,1⟩∈L->∀K,ldN P 2 tb 0 w' K=K (kj ⟨max (pq n) 1,1⟩) w':=fun S' hm K=>by
   obtain⟨s,t,rfl⟩:=List.append_of_mem hm
   exact (S'.perm List.perm_middle).ldA (n:=2) (i:=0) (tl ⟨max (pq n) 1,1⟩) rfl rfl K
  have e3: ∀{w':World}{L:List Asn},St w0 w' L->clA p q∈L->il w' p 3=some (.int .u64 200):=fun S' hm=>by
   obtain⟨_,_,e,_⟩:=nk S' hm
   exact e
  have bld: ∀(aa:Option Addr)(c d:Nat) w' K,jj P T.c #[(0,.int .i64 9),(1,.int .u64 t),(2,kj ⟨max (pq n) 1,1⟩),(6,.slice aa c d)] w' K=K (pkA (xf t (pq n) (.slice aa c d))) w':=fun aa c d w' K=>by
   simp[kj,pkA,pkC,xf,je]
  simp only[lf]
  simp[hx,lb S2,e3 S2]
  have sd: ∀{w':World}{uv:Value}{aa:Option Addr}{c d:Nat}{K':KV},St w0 w' (adi uv [200] :: clA p q :: kt q.tb n :: mu q.out ls :: R)->(∀w2,(∃ov sv hh,St w0 w2 (clA p {q with out:=ov} :: mu ov (ls ++ oa [200] (xf t (pq n) sv) hh) :: kt q.tb n :: R))->K' (.tuple #[]) w2)->ig P F.e [lf p,pkA (xf t (pq n) (.slice aa c d)),uv] w' K':=fun S3 h3=>by
   refine ahi (to:=[200]) (S3.pick (L:=[_,_,_,_]) [1,3,0,2] 4 rfl (by decide)) (ave _ _ _ _ _) (fun w' L S'=>(S'.perm List.perm_middle).row qh) (by simp;omega) fun w4 ov S4=>h3 w4 ?_
   exact⟨ov,_,_,S4.pick (L:=[_,_,_,_]) [0,1,3] 4 rfl (by decide)⟩
  have nu: ∀{w':World}{L:List Asn},St w0 w' L->St w0 (w'.alloc (.cells #[.int .u64 200] T.a)) (adi (.slice (some ⟨w'.heap.size,0,none⟩) 1 1) [200] :: L):=fun S'=>St.uj (l:=[(200:Int)]) S' qh rfl (by simp[maxLen])
  have ed: ∀{w':World} x,(∃ov sv hh,St w0 w' (clA p {q with out:=ov} :: mu ov (ls ++ oa [200] (xf t (pq n) sv) hh) :: kt q.tb n :: R))->K1 x w':=fun x ⟨ov,sv,hh,S'⟩=>hK1 _ _ (h _ ov sv hh S')
  have hs2: ∀w' L,St w0 w' (L ++ (baB tb ⟨max (pq n) 1,1⟩ :: clA p q :: kt q.tb n :: mu q.out ls :: R))->SlS w' lv l:=fun w' L S'=>hs w' (L ++ [_,_,_,_]) (by simpa using S')
  refine⟨?_,?_⟩
  ·refine ajp S2 (hs2 w2 [] S2) hl fun w3 v3 S3=>?_
   obtain⟨aa,cc,rfl,_⟩:=S3.rd
   have S4:=nu S3
   simp[e3 S3,lb S3,bld,lb S4]
   exact sd (S4.pick (L:=[_,_,_,_,_,_]) [0,3,4,5] 6 rfl (by decide)) fun w5 h5=>ed _ h5
  ·have S3:=nu S2
   simp[lb S3]
   refine ajp S3 (hs2 _ [_] S3) hl fun w4 v4 S4=>?_
   obtain⟨aa,cc,rfl,_⟩:=S4.rd
   simp[e3 S4,lb S4,bld]
   exact sd (S4.pick (L:=[_,_,_,_,_,_]) [1,3,4,5] 6 rfl (by decide)) fun w5 h5=>ed _ h5
 have vr: ∀{w':World}{L:List Asn}{K':KV},St w0 w' (clA p q :: kt q.tb n :: L)->(∀w2,St w0 w2 (clA p q :: kt q.tb n :: L)->K' (.int .u64 (pq n)) w2)->ig P F.f [.pointer (some ⟨p,0,none⟩)] w' K':=fun S' h'=>aka S' hn h'
 have bb: ∀w' K,jj P T.e #[(0,.int .u64 (max (pq n) 1)),(1,.int .u64 1)] w' K=K (kj ⟨max (pq n) 1,1⟩) w':=fun w' K=>by simp[kj]
 simp only[lf]
 simp[e0 S1]
 refine⟨?_,?_⟩
 ·refine vr S1 fun w2 S2=>?_
  have S3:=abi S2
  simp[e0 S2,e0 S3,sn,bb]
  exact aci S3 fun w4 S4=>fin S4 _ rfl
 ·have S2:=(abi S1).pick (L:=[_,_,_,_]) [1,2,3,0] 4 rfl (by decide)
  simp[e0 S2 (by simp)]
  refine vr S2 fun w3 S3=>?_
  simp[e0 S3 (by simp),sn,bb]
  exact aci (S3.pick (L:=[_,_,_,_]) [3,0,1,2] 4 rfl (by decide)) fun w4 S4=>fin S4 _ rfl
end
set_option maxRecDepth 100000
section
variable {w0 w : World} {R : List Asn} {p : Nat} {q : Cl} {n : Nd} {g : Cfg} {A : List AE} {c : CT} {a0 : Int} {m rm um : MP} {es : List Evn} {ls : List Ltr}
theorem amu{cb:Nat}{v1 v2:Value}{l1 l2:List Spn}(S:St w0 w (ja cb #[v1,v2] T.g :: R))(h1:SlS w v1 l1)(h2:SlS w v2 l2)(hl1:l1.length<=1000000)(hl2:l2.length<=1000000){K:KV}(h: ∀w' v',St w0 w' (vl v' (l1 ++ l2) :: R)->K v' w'):ig P F.aj [.slice (some ⟨cb,0,none⟩) 2 2] w K:=by
 rw[M.i.fcall]
 refine CS.axo (b:=cb) (cap:=2) (L:=[(v1,l1),(v2,l2)]) (e:=T.g) S.blk (by
  intro p hp
  simp only[List.mem_cons,List.not_mem_nil,or_false] at hp
  rcases hp with rfl|rfl
  ·exact h1
  ·exact h2) (by simp[CS.tot];omega) (by simp) fun w' v o f=>?_
 have e:[(v1,l1),(v2,l2)].flatMap (·.2)=l1 ++ l2:=by simp
 rw[e] at o
 exact h w' v (S.drop.add (a:=vl v (l1 ++ l2)) f (B:=fun b=>v.ownBlock=some b) ⟨o.mono (Nat.zero_le _),fun b hb=>hb⟩ fun b hb=>⟨(o.lt hb).1,(o.lt hb).2⟩)
theorem azv{x1:Value}{tb:Nat}{s:Spn}{L0:List Asn}(hx:x1= .pointer (some ⟨tb,0,none⟩)):aur w0 (ja tb (kp s).toArray T.i :: L0) (.func (.func F.br) #[] #[x1]) fun x=>decide (x.id=s.id):=fun w' L x K S' hK=>by
 subst hx
 rw[M.cd.rcall]
 apply M.cd.calls
 unfold M.cd lx
 have S0:=St.kl w'
 refine St.qt S0 fun b w1 S1=>?_
 have c1:il w1 b 1=some (.int .u64 x.id):=by rw[S1.cell];rfl
 have f1:Fz w' w1:=S1.fr
 have ct:il w1 tb 1=some (.int .u64 s.id):=by
  rw[((S'.perm List.perm_middle).jv f1).cell]
  rfl
 simp[c1,ct]
 exact hK w1 f1
theorem aao{α:Type}{e:TypeId}{sz:Nat}{enc:α->List Value}{v:Value}{l:List α}{L:List Asn}(S:St w0 w L)(h:ot e sz enc v l∈L)(he: ∀x,(enc x).length=sz):Sl w sz enc v l:=by
 obtain⟨s,t,rfl⟩:=List.append_of_mem h
 exact (S.perm List.perm_middle).row he
def adt(now t:Int)(s:Spn):Evn:=⟨4,now,1,t,je,1,s,0⟩
def WoI(w0:World)(L:List Asn)(s:Spn):KL:=fun x w1=> ∃(u0 u1 u2 fv:Value)(i:Nat),x=[u0,u1,u2,fv,.int .i64 (i:Nat)]/\i<=1/\(i=0->fv= .slice none 0 0)/\St w0 w1 (vl fv ([s].take i) :: L)
def WeI(w0:World)(p:Nat)(q:Cl)(s:Spn)(t:Int)(L:List Asn)(es:List Evn):KL:=fun x w1=> ∃(i:Nat),x=[.int .i64 (i:Nat)]/\i<=1/\∃ev,St w0 w1 (clA p {q with ev:=ev} :: pg ev (es ++ [adt q.now t s].take i) :: L)
theorem ayz{t:Int}{lv:Value}{s:Spn}(S:St w0 w (nc p q n g A c a0 m es ls rm [] ++ R))(hn:tx n)(htr:0 < q.tr)(hs: ∀w' L,St w0 w' (L ++ R)->SlS w' lv [s])(hes:es.length<=1000)(hls:ls.length<=200){K:KV}
  (h: ∀w' ov ev uv sv hh,St w0 w' (nc p {q with out:=ov,ev:=ev} n g A c a0 m (es ++ [adt q.now t s]) (ls ++ oa [200] (xf t (pq n) sv) hh) rm [(t,uv)] ++ R)->K (.tuple #[]) w'):ig P F.cb [lf p,.int .u64 t,lv] w K:=by
 rw[M.e.fcall]
 apply M.e.calls
 unfold M.e
 obtain⟨_,_,_,_,_,_,_,_,_,_,c19,_⟩:=nk (p:=p) (q:=q) S (by simp)
 have hmp:=(S.pick (L:=[_,_,_,_,_,_,_,_,_,_,_]) [10] 11 rfl (by decide)).mp
 have hlu: ∀K,luT P T.u (.map (some q.un)) (.int .u64 t) true w K=K (.tuple #[.slice none 0 0,.bool false]) w:=fun K=>by
  rw[asm mt.u hmp]
  rfl
 simp only[lf]
 simp[c19,hlu]
 have S1:=S.jv ((Fr.refl _ w).dr 1)
 generalize dr w 1=w1 at *
 obtain⟨_,_,_,_,_,_,_,_,_,_,d19,_⟩:=nk (p:=p) (q:=q) S1 (by simp)
 have d9:il w1 p 9=some (.int .i64 q.tr):=by
  obtain⟨_,_,_,_,_,_,e,_⟩:=mf S1
  exact e
 have hmp1:=(S1.pick (L:=[_,_,_,_,_,_,_,_,_,_,_]) [10] 11 rfl (by decide)).mp
 have hl:=fun cs K=>acj (ty:=T.d) mt.u hmp1 cs K
 have hnt: ¬q.tr<=0:=by omega
 simp[d19,d9,hl,hnt]
 unfold M.e.j0
 have hln: ∀w' K,biT P .len #[T.g] T.d [false] [lv] w' K=K (.int .i64 1) w':=fun w' K=>(hs w1 _ S1).jr (by kernel_rfl) [false]
 have hs2: ∀w' L,St w0 w' (L ++ (nc p q n g A c a0 m es ls rm [] ++ R))->SlS w' lv [s]:=fun w' L S'=>hs w' (L ++ _) (by rw[List.append_assoc];exact S')
 generalize hG:nc p q n g A c a0 m es ls rm [] ++ R=G at *
 refine acb fun K1 hK1=>?_
 simp only[hln,im]
 refine⟨WoI w0 G s,fun x _=>1 - ms x 4,⟨_,_,_,_,0,rfl,Nat.zero_le _,fun _=>rfl,Go.Eng.yw S1⟩,?_⟩
 rintro x w2 ⟨u0,u1,u2,fv,i,rfl,hi,hfv,S2⟩
 by_cases hi0:i=0
 ·subst hi0
  obtain rfl:=hfv rfl
  simp
  unfold M.e.j3
  obtain⟨ab,ao,cap,hv,_,_,hc⟩:=(hs2 w2 [_] S2).at (i:=0) (by simp)
  have hia: ∀w' K,iaT P T.g lv (.int .i64 0) w' K=K (.pointer (some ⟨ab,ao,none⟩)) w':=fun w' K=>by rw[hv];simp
  have hld: ∀K,ldN P 8 ab ao w2 K=K (lx s) w2:=fun K=>sf (kp s) 8 rfl (fun k u hk=>by have:=hc k u hk;simpa using this) K
  simp[hia,hld]
  have S3:=S2.mkB #[.int .u64 0,.int .u64 0,.int .u64 0,.int .u64 0,.int .u64 0,.string ⟨#[]⟩,.string ⟨#[]⟩,.bool false] T.i
  generalize w2.heap.size=tb at *
  generalize w2.alloc _=w3 at *
  unfold lx
  simp
  refine St.put (vs:=kp s) (cs':=(kp s).toArray) S3 (tq s) (by simp[kp]) (by simp[kp]) fun w4 S4=>?_
  have S5:=S4.mkB #[.slice none 0 0,.slice none 0 0] T.g
  refine amu (l1:=[]) (l2:=[]) S5 Sl.nil Sl.nil (by simp) (by simp) fun w6 v6 S6=>?_
  rw[aal]
  have S6':St w0 w6 (spB tb s :: vl v6 [] :: vl (.slice none 0 0) [] :: G):=S6.swap
  refine aqo (l:=[]) S6' (fun w' L S'=>aao S' (e:=T.i) (v:=v6) (by simp) nt) (azv rfl) (by simp) fun w7 S7=>?_
  have ld8: ∀K,ldN P 8 tb 0 w7 K=K (lx s) w7:=fun K=>S7.ldA (n:=8) (i:=0) (kp s) rfl rfl K
  simp only[List.any_nil,ii,show IntKind.i64.wrap 0=0 from by decide,show IntKind.i64.wrap 1=1 from by decide,ld8,bai]
  simp
  have S8:St w0 (w7.alloc (.cells #[.int .u64 s.jh,.int .u64 s.id,.int .u64 s.mm,.int .u64 s.kl,.int .u64 s.len,.string s.jx,.string s.name,.bool s.ny] T.i)) (vl (.slice (some ⟨w7.heap.size,0,none⟩) 1 1) [s] :: _):=St.uj (l:=[s]) S7 nt (by simp[kp]) (by simp[maxLen])
  generalize w7.heap.size=nb at *
  generalize w7.alloc _=w8 at *
  have S9:St w0 w8 (vl (.slice none 0 0) [] :: vl (.slice (some ⟨nb,0,none⟩) 1 1) [s] :: G):=S8.pick (L:=[_,_,_,_]) [3,0] 4 rfl (by decide)
  refine Go.Eng.ui et.g nt tq S9 (S9.swap.row nt) (by simp) (by decide) fun w10 v10 S10=>?_
  exact⟨⟨_,_,_,v10,1,rfl,Nat.le_refl _,fun h=>absurd h (by decide),S10.swap.drop⟩,by simp[ms,gv]⟩
 ·have hi1:i=1:=by omega
  subst hi1
  simp
  refine hK1 _ _ ?_
  unfold M.e.j1
  have S3:St w0 w2 (vl fv [s] :: G):=S2
  obtain⟨fa,fc,rfl,_⟩:=S3.row nt
  have hlf: ∀{w':World}{L:List Asn},St w0 w' L->vl (.slice fa 1 fc) [s]∈L->∀K,biT P .len #[T.g] T.d [false] [.slice fa 1 fc] w' K=K (.int .i64 1) w':=fun S' hm K=>(aao S' hm nt).jr (by kernel_rfl) [false]
  simp[hlf S3]
  unfold M.e.j6
  have S4:=S3.jv ((Fr.refl _ w2).dr 1)
  rw[qa]
  generalize dr w2 1=w4 at *
  subst hG
  obtain⟨_,_,_,_,_,_,_,_,_,_,e19,_⟩:=nk (p:=p) (q:=q) S4 (by simp)
  have S5:=S4.mkB #[.slice none 0 0,.slice fa 1 fc] T.g
  obtain⟨_,_,_,_,_,_,_,_,_,_,f19,_⟩:=nk (p:=p) (q:=q) S5 (by simp)
  simp[e19,f19]
  refine amu (l1:=[]) (l2:=[s]) S5 Sl.nil (S5.swap.row nt) (by simp) (by simp) fun w6 v6 S6=>?_
  obtain⟨_,_,_,_,_,_,_,_,_,_,g19,_⟩:=nk (p:=p) (q:=q) S6 (by simp)
  simp[g19]
  have S7:St w0 w6 (jk q.un .u64 [] :: vl (.slice fa 1 fc) [s] :: clA p q :: kt q.tb n :: ng q.hb g A c :: qp q.kb a0 m :: pg q.ev es :: mu q.out ls :: rdA 1 lq q.rep [101] :: rdA 4 lc q.rul [jz] :: jk q.ru .u64 rm :: jk q.se .u64 [] :: R):=S6.pick (L:=[_,_,_,_,_,_,_,_,_,_,_,_,_]) [12,1,2,3,4,5,6,7,8,9,10,11] 13 rfl (by decide)
  refine S7.awe mt.u t v6 fun w8 S8=>?_
  rw[show ts ([]:MP) t v6=[(t,v6)] from rfl] at S8
  have S9:St w0 w8 (clA p q :: pg q.ev es :: vl (.slice fa 1 fc) [s] :: kt q.tb n :: ng q.hb g A c :: qp q.kb a0 m :: mu q.out ls :: rdA 1 lq q.rep [101] :: rdA 4 lc q.rul [jz] :: jk q.ru .u64 rm :: jk q.se .u64 [] :: jk q.un .u64 [(t,v6)] :: R):=S8.pick (L:=[_,_,_,_,_,_,_,_,_,_,_,_]) [2,6,1,3,4,5,7,8,9,10,11,0] 12 rfl (by decide)
  refine⟨WeI w0 p q s t (vl (.slice fa 1 fc) [s] :: kt q.tb n :: ng q.hb g A c :: qp q.kb a0 m :: mu q.out ls :: rdA 1 lq q.rep [101] :: rdA 4 lc q.rul [jz] :: jk q.ru .u64 rm :: jk q.se .u64 [] :: jk q.un .u64 [(t,v6)] :: R) es,fun x _=>1 - ms x 0,⟨0,rfl,Nat.zero_le _,q.ev,by simpa using S9⟩,?_⟩
  rintro x w10 ⟨j,rfl,hj,evv,S10⟩
  by_cases hj0:j=0
  ·subst hj0
   simp
   unfold M.e.j9
   have S11:=S10
   simp only[List.take_zero,List.append_nil] at S11
   obtain⟨ab,ao,cap,hv,_,_,hc⟩:=(aao S11 (e:=T.i) (v:= .slice fa 1 fc) (l:=[s]) (by simp) nt).at (i:=0) (by simp)
   have hia: ∀w' K,iaT P T.g (.slice fa 1 fc) (.int .i64 0) w' K=K (.pointer (some ⟨ab,ao,none⟩)) w':=fun w' K=>by rw[hv];simp
   have hld: ∀K,ldN P 8 ab ao w10 K=K (lx s) w10:=fun K=>sf (kp s) 8 rfl (fun k u hk=>by have:=hc k u hk;simpa using this) K
   simp[hia,hld]
   have S12:=S11.mkB #[.int .u64 0,.int .u64 0,.int .u64 0,.int .u64 0,.int .u64 0,.string ⟨#[]⟩,.string ⟨#[]⟩,.bool false] T.i
   generalize w10.heap.size=tb at *
   generalize w10.alloc _=w11 at *
   unfold lx
   simp
   refine St.put (vs:=kp s) (cs':=(kp s).toArray) S12 (tq s) (by simp[kp]) (by simp[kp]) fun w13 S13=>?_
   have ld8: ∀K,ldN P 8 tb 0 w13 K=K (lx s) w13:=fun K=>S13.ldA (n:=8) (i:=0) (kp s) rfl rfl K
   have be: ∀K,jj P T.av #[(0,.int .i64 4),(3,.int .u64 t),(5,.int .i64 1),(6,lx s)] w13 K=K (evA ⟨4,0,0,t,je,1,s,0⟩) w13:=fun K=>by simp[lx,evA,evC,je]
   simp[ld8,be]
   refine aid (S13.pick (L:=[_,_,_]) [1,2] 3 rfl (by decide)) ⟨4,0,0,t,je,1,s,0⟩ (by omega) fun w14 v14 S14=>?_
   exact⟨⟨1,rfl,Nat.le_refl _,v14,S14⟩,by simp[ms,gv,show IntKind.i64.wrap 1=1 from by decide]⟩
  ·have hj1:j=1:=by omega
   subst hj1
   simp
   have S11:St w0 w10 (clA p {q with ev:=evv} :: kt q.tb n :: mu q.out ls :: vl (.slice fa 1 fc) [s] :: pg evv (es ++ [adt q.now t s]) :: ng q.hb g A c :: qp q.kb a0 m :: rdA 1 lq q.rep [101] :: rdA 4 lc q.rul [jz] :: jk q.ru .u64 rm :: jk q.se .u64 [] :: jk q.un .u64 [(t,v6)] :: R):=S10.pick (L:=[_,_,_,_,_,_,_,_,_,_,_,_]) [0,3,6,2,1,4,5,7,8,9,10,11] 12 rfl (by decide)
   refine bgt (q:={q with ev:=evv}) (l:=[s]) S11 hn (fun w' L S'=>aao S' (e:=T.i) (by simp) nt) (by simp) hls fun w12 ov sv hh S12=>?_
   exact h w12 ov evv v6 sv hh (S12.pick (L:=[_,_,_,_,_,_,_,_,_,_,_,_]) [0,2,5,6,4,1,7,8,9,10,11] 12 rfl (by decide))
end
section
variable {w0 w : World} {R : List Asn} {p : Nat} {q : Cl} {n : Nd} {g : Cfg} {A : List AE} {c : CT} {a0 : Int} {m rm um : MP} {es : List Evn} {ls : List Ltr}
theorem aye{inc:Int}(S:St w0 w (clA p q :: kt q.tb n :: R))(hn:tx n)(hs:acz n inc){K:KV}(h: ∀w' v,St w0 w' (rdA 1 lq v [] :: clA p q :: kt q.tb n :: R)->K v w'):ig P F.bv [lf p] w K:=by
 rw[M.ch.fcall]
 apply M.ch.calls
 unfold M.ch
 rw[tm]
 have hc1:(lf p).cells= #[lf p]:=rfl
 rw[hc1]
 have S1:=S.mkB #[lf p] T.ag
 generalize w.heap.size=tb at *
 generalize w.alloc _=w1 at *
 have ct: ∀{w':World}{L:List Asn},St w0 w' L->ja tb #[lf p] T.ag∈L->il w' tb 0=some (lf p):=fun S' hm=>by
  obtain⟨s,t,rfl⟩:=List.append_of_mem hm
  rw[(S'.perm List.perm_middle).cell]
  rfl
 obtain⟨_,_,_,_,_,c14,_⟩:=nk (p:=p) (q:=q) S1 (by simp)
 simp[ct S1,c14]
 refine alk (S1.pick (L:=[_,_,_]) [2,0,1] 3 rfl (by decide)) hn fun w2 v2 S2=>?_
 refine asw (l:=n.v) S2 (fun w' L S'=>ady S' (by simp)) (by have:=hn.za.few;omega) fun w3 v3 S3=>?_
 rw[agv hn hs] at S3
 obtain⟨g,cap,cur,rfl,_,n1,_⟩:=S3.ahg (k:=0) (by simp)
 have e1:([1]:List Int).length=1:=rfl
 rw[e1] at S3 n1⊢
 rw[aal,M.n.fcall]
 apply M.n.calls
 unfold M.n
 rw[M.ak.fcall]
 apply M.ak.calls
 unfold M.ak
 simp only[im,xh (show nf P T.h=true from by kernel_rfl)]
 refine⟨fun x w'=>x=[undef,.int .i64 0,.int .i64 0]/\w'=w3,fun _ _=>0,⟨rfl,rfl⟩,?_⟩
 rintro x w' ⟨rfl,rfl⟩
 obtain⟨_,ao,_,hv,_,_,hc⟩:=(S3.row (fun _=>rfl)).at (i:=0) (by simp)
 have hcell:il w' g 0=some (.int .u64 1):=by
  injection hv with h1 _ _
  injection h1 with h1
  injection h1 with h1 h2 _
  subst h1 h2
  simpa [Suint64.rk] using hc 0 _ rfl
 simp
 unfold M.ak.j2
 simp[hcell]
 have hcl:=M.bz.rcall [] [.pointer (some ⟨tb,0,none⟩)] [.int .u64 1] w'
 simp only[List.nil_append,List.cons_append] at hcl
 rw[show (#[Value.pointer (some ⟨tb,0,none⟩)]:Array Value)=[Value.pointer (some ⟨tb,0,none⟩)].toArray from rfl,show (#[]:Array Value)=([]:List Value).toArray from rfl,hcl]
 apply M.bz.calls
 unfold M.bz
 obtain⟨c0,_⟩:=nk (p:=p) (q:=q) S3 (by simp)
 simp[ct S3 (by simp),c0]
 unfold M.n.j0
 simp only[im]
 simp
 refine⟨fun x w1=>x=[undef,.int .i64 0,.int .i64 1]/\w1=w',fun _ _=>0,⟨by rw[show IntKind.i64.wrap 1=1 from by decide],rfl⟩,?_⟩
 rintro x w1 ⟨rfl,rfl⟩
 unfold M.n.j2
 simp only[im]
 have e2: ∀w' K,slT P T.h (.slice (some ⟨g,0,none⟩) 1 cap) (some (.int .i64 0)) none none w' K=K (.slice (some ⟨g,0 * 1,none⟩) (1 - 0) cap) w':=fun w' K=>by
  rw[blb (by kernel_rfl) (by omega) (by omega),show szE P T.h=1 from by kernel_rfl]
  simp
 have e3: ∀w' K,slT P T.h (.slice (some ⟨g,0,none⟩) 1 cap) none (some (.int .i64 0)) none w' K=K (.slice (some ⟨g,0,none⟩) 0 cap) w':=fun w' K=>by
  rw[awf (by kernel_rfl) (by omega) (by omega)]
  simp
 simp only[xh (show nf P T.h=true from by kernel_rfl)]
 simp only[oc,gv,List.getD_cons_succ,List.getD_cons_zero,ii]
 simp
 rw[e2]
 refine beb (by':=8) et.h (by kernel_rfl) (fun _=>rfl) S3 (by decide) fun w4 S4=>?_
 exact h w4 _ (S4.pick (L:=[_,_,_,_,_]) [0,4,2] 5 rfl (by decide))
theorem aui{t:Int}{s:Spn}{rb:Nat}(S:St w0 w (nc p q n g A c 0 [] es ls [(t,.pointer (some ⟨rb,0,none⟩))] [] ++ R))(hn:tx n)(htr:0 < q.tr)(hA:A.length<=1000)(hu: ∀x∈A,x.t=t->x.l=[s])(he: ∃x∈A,x.t=t)(ht:t≠0)(hes:es.length<=1000)(hls:ls.length<=200){K:KV}
  (h: ∀w' ov ev uv sv hh,St w0 w' (nc p {q with out:=ov,ev:=ev} n g (th A t) (qj c t) t [(t,.int .i64 1)] (es ++ [adt q.now t s]) (ls ++ oa [200] (xf t (pq n) sv) hh) [] [(t,uv)] ++ R)->K (.tuple #[]) w'):ig P F.bg [lf p,.int .u64 t,.int .i64 1] w K:=by
 rw[M.cg.fcall]
 apply M.cg.calls
 unfold M.cg
 obtain⟨_,_,_,_,_,_,_,c16,_⟩:=nk (p:=p) (q:=q) S (by simp)
 simp only[lf]
 simp[c16]
 refine bgj (S.pick (L:=[_,_,_,_,_,_,_,_,_,_,_]) [3,0,1,2,4,5,6,7,8,9,10] 11 rfl (by decide)) ht (by omega) fun w1 S1=>?_
 obtain⟨_,_,_,_,_,_,_,_,c17,_⟩:=nk (p:=p) (q:=q) S1 (by simp)
 simp[c17]
 have S2:St w0 w1 (jk q.ru .u64 [(t,.pointer (some ⟨rb,0,none⟩))] :: jk q.se .u64 [] :: clA p q :: kt q.tb n :: ng q.hb g A c :: qp q.kb t [(t,.int .i64 1)] :: pg q.ev es :: mu q.out ls :: rdA 1 lq q.rep [101] :: rdA 4 lc q.rul [jz] :: jk q.un .u64 [] :: R):=S1.pick (L:=[_,_,_,_,_,_,_,_,_,_,_]) [8,9,1,2,3,0,4,5,6,7,10] 11 rfl (by decide)
 refine S2.bew mt.w t fun w3 S3=>?_
 rw[show uq ([(t,.pointer (some ⟨rb,0,none⟩))]:MP) t=[] from by simp[uq]] at S3
 obtain⟨_,_,_,_,_,_,_,_,_,d18,_⟩:=nk (p:=p) (q:=q) S3 (by simp)
 simp[d18]
 refine S3.swap.bew mt.t t fun w4 S4=>?_
 rw[show uq ([]:MP) t=[] from rfl] at S4
 obtain⟨_,_,_,_,_,_,e15,_⟩:=nk (p:=p) (q:=q) S4 (by simp)
 simp[e15]
 have S5:St w0 w4 (ng q.hb g A c :: clA p q :: kt q.tb n :: qp q.kb t [(t,.int .i64 1)] :: pg q.ev es :: mu q.out ls :: rdA 1 lq q.rep [101] :: rdA 4 lc q.rul [jz] :: jk q.ru .u64 [] :: jk q.se .u64 [] :: jk q.un .u64 [] :: R):=S4.pick (L:=[_,_,_,_,_,_,_,_,_,_,_]) [4,2,3,5,6,7,8,9,1,0,10] 11 rfl (by decide)
 refine bds S5 hA t (fun hno=>by
  obtain⟨x,hx,hxt⟩:=he
  exact absurd hxt (hno x hx)) fun x hx hxt w5 v5 S6=>?_
 rw[hu x hx hxt] at S6
 have hln: ∀w' K,biT P .len #[T.g] T.d [false] [v5] w' K=K (.int .i64 1) w':=fun w' K=>S6.rd.jr (by kernel_rfl) [false]
 simp[hln]
 refine ayz (a0:=t) (rm:=[]) (s:=s) (S6.pick (L:=[_,_,_,_,_,_,_,_,_,_,_,_]) [2,3,1,4,5,6,7,8,9,10,11,0] 12 rfl (by decide)) hn htr (fun w' L S'=>ady S' (by simp)) hes hls fun w7 ov ev uv sv hh S7=>?_
 exact h w7 ov ev uv sv hh (S7.pick (L:=[_,_,_,_,_,_,_,_,_,_,_,_]) [0,1,2,3,4,5,6,7,8,9,10] 12 rfl (by decide))
end
section
variable {w0 w : World} {R : List Asn} {p : Nat} {q : Cl} {n : Nd} {g : Cfg} {A : List AE} {c : CT} {a0 : Int} {m rm um : MP} {es : List Evn} {ls : List Ltr}
theorem akj{t v half:Int}{b:Bal}{rb:Nat}(S:St w0 w (nc p q n g A c 0 [] es ls [(t,.pointer (some ⟨rb,0,none⟩))] [] ++ oz rb t b v half :: R))(hh:half=0\/half=1)(ht:0 < t/\t < 18446744073709551616)(hb:b.rng)(hb0:0 < b.n){K:KV}
  (h: ∀w' pb,St w0 w' (ja pb (pkC (px t b half)).toArray T.c :: oz rb t b v (half+1) :: (nc p q n g A c 0 [] es ls [(t,.pointer (some ⟨rb,0,none⟩))] [] ++ R))->M.m.j1 (.pointer (some ⟨rb,0,none⟩)) (.pointer (some ⟨pb,0,none⟩)) (lf p) (.int .i64 (if half=1 then 6 else 4)) w' K):ig P F.am [lf p,.int .u64 101,pkA (px t b half)] w K:=by
 rw[M.m.fcall]
 apply M.m.calls
 unfold M.m pkA
 refine St.qt S fun pb w1 S1=>?_
 have S2:St w0 (dr w1 1) (ja pb (pkC (px t b half)).toArray T.c :: _):=S1.jv ((Fr.refl _ w1).dr 1)
 obtain⟨_,_,_,_,_,_,_,_,c17,_⟩:=nk (p:=p) (q:=q) S2 (by simp)
 have k1:il (dr w1 1) pb 1=some (.int .u64 t):=by rw[S2.cell];rfl
 have hmp:=(S2.pick (L:=[_,_,_,_,_,_,_,_,_,_,_,_]) [9] 12 rfl (by decide)).mp
 have lu: ∀K,luT P T.w (.map (some q.ru)) (.int .u64 t) false (dr w1 1) K=K (.pointer (some ⟨rb,0,none⟩)) (dr w1 1):=fun K=>by
  rw[ss mt.w hmp]
  simp[kg]
 simp only[lf]
 simp[c17,k1,lu]
 unfold M.m.j0
 have S3:St w0 (dr w1 1) (oz rb t b v half :: ja pb (pkC (px t b half)).toArray T.c :: (nc p q n g A c 0 [] es ls [(t,.pointer (some ⟨rb,0,none⟩))] [] ++ R)):=S2.pick (L:=[_,_,_,_,_,_,_,_,_,_,_,_,_]) [12,0,1,2,3,4,5,6,7,8,9,10,11] 13 rfl (by decide)
 generalize dr w1 1=w2 at *
 refine akp S3 hh fun w4 S4=>?_
 have fd: ∀w' K,fdT P T.c (pkA (rl t b v half)) 0 w' K=K (.int .i64 (if half=1 then 6 else 4)) w':=fun w' K=>by
  refine Eq.trans ?_ rfl
  kernel_rfl
 simp[fd,ud S4.swap]
 refine bcz S4 hh ht hb hb0 fun w5 S5=>?_
 simp
 exact h w5 pb S5.swap
theorem avh{t v:Int}{b:Bal}{rb:Nat}(S:St w0 w (nc p q n g A c 0 [] es ls [(t,.pointer (some ⟨rb,0,none⟩))] [] ++ oz rb t b v 0 :: R))(ht:0 < t/\t < 18446744073709551616)(hb:b.rng)(hb0:0 < b.n)(hls:ls.length<=200){K:KV}
  (h: ∀w' ov,St w0 w' (nc p {q with out:=ov} n g A c 0 [] es (ls ++ oa [101] (rl t b v 1) pe) [(t,.pointer (some ⟨rb,0,none⟩))] [] ++ oz rb t b v 1 :: R)->K (.tuple #[]) w'):ig P F.am [lf p,.int .u64 101,pkA (px t b 0)] w K:=by
 refine akj S (.inl rfl) ht hb hb0 fun w1 pb S1=>?_
 unfold M.m.j1
 simp only[im]
 refine anc S1.swap (fun h=>absurd h (by decide)) fun _=>?_
 simp
 unfold M.m.j2
 refine akp S1.swap (.inr rfl) fun w2 S2=>?_
 have S3:=avf S2
 simp
 generalize w2.heap.size=qb at *
 generalize w2.alloc _=w3 at *
 rw[bhs]
 refine atp (q:=rl t b v 1) S3 rfl pe fun w4 S4=>?_
 have k0:il w4 qb 0=some (.int .i64 6):=by rw[S4.cell];rfl
 have S5:=S4.jv ((Fr.refl _ w4).dr 1)
 simp[k0,ud S5]
 refine aom S5.swap (.inr rfl) fun w6 ov S6=>?_
 have S7:St w0 w6 (ja qb (pkC (rl t b v 1)).toArray T.c :: qy ov [101] :: oz rb t b v 1 :: ja pb (pkC (px t b 0)).toArray T.c :: (nc p q n g A c 0 [] es ls [(t,.pointer (some ⟨rb,0,none⟩))] [] ++ R)):=S6.pick (L:=[_,_,_,_]) [2,0,1,3] 4 rfl (by decide)
 simp[ud S7]
 refine ahi (to:=[101]) (S7.pick (L:=[_,_,_,_,_,_,_,_,_,_,_,_,_,_,_]) [4,9,1,2,5,6,7,8,10,11,12,13,14] 15 rfl (by decide)) pe (fun w' L S'=>aao S' (e:=T.a) (v:=ov) (by simp) qh) (by simp;omega) fun w8 lv S8=>?_
 exact h w8 lv (S8.pick (L:=[_,_,_,_,_,_,_,_,_,_,_,_,_]) [0,4,5,6,7,1,8,9,10,11,12,3] 13 rfl (by decide))
theorem baa{t:Int}{b:Bal}{rb:Nat}{s:Spn}{inc:Int}(S:St w0 w (nc p q n g A c 0 [] es ls [(t,.pointer (some ⟨rb,0,none⟩))] [] ++ oz rb t b 1 1 :: R))(hn:tx n)(hs:acz n inc)(htr:0 < q.tr)(hA:A.length<=1000)(hu: ∀x∈A,x.t=t->x.l=[s])(he: ∃x∈A,x.t=t)(hes:es.length<=1000)(ht:0 < t/\t < 18446744073709551616)(hb:b.rng)(hb0:0 < b.n)(hls:ls.length<=200){K:KV}
  (h: ∀w' ov ev uv ls',St w0 w' (nc p {q with out:=ov,ev:=ev} n g (th A t) (qj c t) t [(t,.int .i64 1)] (es ++ [adt q.now t s]) ls' [] [(t,uv)] ++ R)->K (.tuple #[]) w'):ig P F.am [lf p,.int .u64 101,pkA (px t b 1)] w K:=by
 refine akj S (.inr rfl) ht hb hb0 fun w1 pb S1=>?_
 unfold M.m.j1
 simp only[im]
 refine anc S1.swap (fun _=>?_) fun h=>absurd rfl h
 have k1:il w1 pb 1=some (.int .u64 t):=by rw[S1.cell];rfl
 simp[k1]
 refine aui (rb:=rb) (s:=s) (S1.pick (L:=[_,_,_,_,_,_,_,_,_,_,_,_,_]) [2,3,4,5,6,7,8,9,10,11,12,0] 13 rfl (by decide)) hn htr hA hu he (by omega) hes hls fun w2 ov ev uv sv hh S2=>?_
 have S3:=S2.jv ((Fr.refl _ w2).dr 1)
 generalize dr w2 1=w3 at *
 have k1': ∀{w':World}{L:List Asn},St w0 w' L->ja pb (pkC (px t b 1)).toArray T.c∈L->il w' pb 1=some (.int .u64 t):=fun S' hm=>by
  obtain⟨s,t,rfl⟩:=List.append_of_mem hm
  rw[(S'.perm List.perm_middle).cell]
  rfl
 have bld: ∀w' K,jj P T.c #[(0,.int .i64 8),(1,.int .u64 t),(4,.int .i64 1)] w' K=K (pkA ⟨8,t,je,je,1,false,.slice none 0 0,.slice none 0 0,.slice none 0 0⟩) w':=fun w' K=>by simp[pkA,pkC,je]
 simp[k1' S3 (by simp),bld]
 refine aye (q:={q with out:=ov,ev:=ev}) S3 hn hs fun w4 v4 S4=>?_
 simp[k1' S4 (by simp)]
 refine ahi (q:={q with out:=ov,ev:=ev}) (to:=[]) (pk:=⟨8,t,je,je,1,false,.slice none 0 0,.slice none 0 0,.slice none 0 0⟩) (S4.pick (L:=[_,_,_,_,_,_,_,_,_,_,_,_]) [1,6,0,2,3,4,5,7,8,9,10,11] 12 rfl (by decide)) (atj _ _ _ _ _ _) (fun w' L S'=>ady (sz:=1) (enc:=lq) (v:=v4) (l:=[]) S' (by simp)) (by simp[oa];omega) fun w5 ov2 S5=>?_
 exact h w5 ov2 ev uv _ (S5.pick (L:=[_,_,_,_,_,_,_,_,_,_,_,_,_]) [0,3,4,5,6,1,7,8,9,10,11] 13 rfl (by decide))
theorem bgw{t half:Int}{b:Bal}(ht:0 < t/\t < 18446744073709551616)(hb:b.rng):aex (px t b half):=⟨⟨by show 0<=t;omega,ht.2⟩,hb,show je.rng from⟨⟨by decide,by decide⟩,⟨by decide,by decide⟩⟩⟩
theorem akg{t half now:Int}{b:Bal}(S:St w0 w (nc p q n g A c a0 m es ls rm um ++ R))(hh:half=0\/half=1)(ht:0 < t/\t < 18446744073709551616)(hb:b.rng)(hb0:0 < b.n){K:KV}
  (h: ∀w',St w0 w' (nc p {q with now:=max q.now now} n g A c a0 m es ls rm um ++ R)->ig P F.am [lf p,.int .u64 101,pkA (px t b half)] w' fun _ w=>K (.int .i64 0) w):ig P F.ak [lf p,.int .u64 101,pkA (px t b half),.int .u64 now] w K:=by
 rw[M.k.fcall]
 apply M.k.calls
 unfold M.k pkA
 refine St.qt S fun pb w1 S1=>?_
 have S1':St w0 w1 (ja pb (pkC (px t b half)).toArray T.c :: _):=S1
 simp only[lf]
 simp
 unfold M.k.j0
 simp[ud S1']
 refine aon (p:=px t b half) (ls:=[]) (lm:=[]) (lu:=[]) (azp _ _ _ _ _ _ _) (bgw ht hb) (fun hr w2 t2 hth _ f2=>?_) fun hr=>absurd (amy ht.1 hb0) (by rw[hr];simp)
 have S2:=S1'.jv f2
 rw[amn hth]
 obtain⟨_,_,_,_,_,_,_,_,_,_,_,_,c23,_⟩:=nk (p:=p) (q:=q) S2 (by simp)
 simp
 unfold M.k.j1
 simp[c23,sn]
 refine St.qk S2.swap rfl (by simp[clC]) fun w3 S3=>?_
 have S4:St w0 w3 (clA p {q with now:=max q.now now} :: ja pb (pkC (px t b half)).toArray T.c :: _):=S3
 simp[zj,yf]
 have S5:=S4.mkB #[.int .u64 0,.int .u64 0,.int .u64 0,.bool false,.int .u64 0,.int .u64 0,.int .i64 0,.bool false] T.k
 unfold vj
 simp
 generalize w3.heap.size=ab at *
 generalize w3.alloc _=w5 at *
 refine St.put (vs:=vj t b half) (cs':=(vj t b half).toArray) S5 (by simp[vj,kq]) (by simp[vj]) (by simp[vj]) fun w6 S6=>?_
 have S7:=S6.pick (L:=[_,_,_]) [2,1] 3 rfl (by decide)
 simp[ud S7]
 exact h w6 S7.drop
end
def cfC(inc tr:Int)(rv:Value):List Value:=[.int .u64 1,.int .u64 inc,rv,.int .u64 200,.int .i64 3,.int .u64 5,.int .u64 20,.int .u64 10,.int .u64 4,.int .i64 tr,.int .i64 4,.int .i64 4,.string kv]
def cfA(inc tr:Int)(rv:Value):Value:= .agg (cfC inc tr rv).toArray
def cfZ:Array Value:= #[.int .u64 0,.int .u64 0,.slice none 0 0,.int .u64 0,.int .i64 0,.int .u64 0,.int .u64 0,.int .u64 0,.int .u64 0,.int .i64 0,.int .i64 0,.int .i64 0,.string ⟨#[]⟩]
section
variable {w0 w : World} {R : List Asn}
theorem ayh{ty a b c:TypeId}{k:IntKind}{x y z:Int}{w:World}{K:KV}(cs:List Bool):biT P .min #[a,b,c] ty cs [.int k x,.int k y,.int k z] w K=K (.int k (min (min x y) z)) w:=by
 simp[biT,kw,builtin,Builtin.min_,Builtin.min2,Sem.run_bind,Result.andThen,Sem.run_pure]
 rw[show (if z < if y < x then y else x then z else if y < x then y else x)=min x (min y z) from by (repeat' split) <;>omega]
theorem bcb(w:World)(K:KV):biT P .min #[T.a,T.a,T.a,T.a] T.a [false,false,false,false] [.int .u64 5,.int .u64 20,.int .u64 10,.int .u64 4] w K=K (.int .u64 4) w:=by
 refine Eq.trans ?_ rfl
 kernel_rfl
theorem bbu(w:World)(K:KV):biT P .max #[T.a,T.a,T.a,T.a] T.a [false,false,false,false] [.int .u64 5,.int .u64 20,.int .u64 10,.int .u64 4] w K=K (.int .u64 20) w:=by
 refine Eq.trans ?_ rfl
 kernel_rfl
theorem bjk(inc tr:Int)(a:Option Addr)(n c:Nat): ∀u∈cfC inc tr (.slice a n c),kq u=true:=fun u hu=>by
 simp only[cfC,List.mem_cons,List.not_mem_nil,or_false] at hu
 rcases hu with rfl|rfl|rfl|rfl|rfl|rfl|rfl|rfl|rfl|rfl|rfl|rfl|rfl <;>rfl
theorem bes{t:TypeId}(ht: ∀b w K,ni P t (.pointer (some ⟨b,0,none⟩)) w K=ldN P 13 b 0 w K){b:Nat}{inc tr:Int}{a:Option Addr}{n c:Nat}{cs:Array Value}{e:TypeId}(hs:cs.size=13)(S:St w0 w (ja b cs e :: R)){K:KV}(h: ∀w',St w0 w' (ja b (cfC inc tr (.slice a n c)).toArray e :: R)->K (cfA inc tr (.slice a n c)) w'):
  stN P b 0 (cfC inc tr (.slice a n c)) w fun _ w=>ni P t (.pointer (some ⟨b,0,none⟩)) w fun r w'=>w'=w/\K r w:=by
 refine St.put (cs':=(cfC inc tr (.slice a n c)).toArray) S (bjk inc tr a n c) (by simp[cfC,hs]) (by
  have hl:cs.toList.length=13:=by simpa using hs
  simp[cfC,hl]) fun w' S'=>?_
 rw[ht,S'.ldA (n:=13) (i:=0) (cfC inc tr (.slice a n c)) rfl rfl]
 exact⟨rfl,h w' S'⟩
theorem bmn(b:Nat)(w:World)(K:KV):ni P T.p (.pointer (some ⟨b,0,none⟩)) w K=ldN P 13 b 0 w K:=kr
theorem bmq(b:Nat)(w:World)(K:KV):ni P T.f (.pointer (some ⟨b,0,none⟩)) w K=ldN P 13 b 0 w K:=kr
theorem bbx(S:St w0 w R){K:KV}(h: ∀w' a c,St w0 w' (adi (.slice a 1 c) [101] :: R)->K (cfA 1 4 (.slice a 1 c)) w'):ig P F.eb [] w K:=by
 rw[M.dy.fcall]
 apply M.dy.calls
 unfold M.dy
 have S1:=S.mkB cfZ T.p
 have S2:St w0 ((w.alloc (.cells cfZ T.p)).alloc (.cells #[.int .u64 101] T.a)) (adi (.slice (some ⟨(w.alloc (.cells cfZ T.p)).heap.size,0,none⟩) 1 1) [101] :: _):=St.uj (l:=[(101:Int)]) S1 qh rfl (by simp[maxLen])
 simp only[jc] at S2
 unfold cfZ at S2
 simp
 generalize World.alloc (w.alloc _) _=w2 at *
 generalize w.heap.size+1=rb at *
 generalize w.heap.size=cb at *
 exact bes (inc:=1) (tr:=4) (t:=T.p) bmn rfl S2.swap fun w3 S3=>h w3 _ _ S3.drop
theorem bju{inc tr:Int}{a:Option Addr}{n c:Nat}(S:St w0 w R){K:KV}(h: ∀w',St w0 w' R->K (cfA inc tr (.slice a n c)) w'):ig P F.ez [cfA inc tr (.slice a n c)] w K:=by
 rw[M.es.fcall]
 apply M.es.calls
 unfold M.es cfA
 refine St.qt S fun tb w1 S1=>?_
 have S2:=S1.mkB cfZ T.f
 have cc: ∀{w':World}{L:List Asn},St w0 w' (ja tb (cfC inc tr (.slice a n c)).toArray T.p :: L)->∀i v,(cfC inc tr (.slice a n c))[i]? =some v->il w' tb i=some v:=fun S' i v hv=>by
  rw[S'.cell]
  simpa using hv
 have c':=cc S2.swap
 have c0:=c' 0 _ rfl
 have c1:=c' 1 _ rfl
 have c2:=c' 2 _ rfl
 have c3:=c' 3 _ rfl
 have c4:=c' 4 _ rfl
 have c5:=c' 5 _ rfl
 have c6:=c' 6 _ rfl
 have c7:=c' 7 _ rfl
 have c8:=c' 8 _ rfl
 have c9:=c' 9 _ rfl
 have c10:=c' 10 _ rfl
 have c11:=c' 11 _ rfl
 have c12:=c' 12 _ rfl
 unfold cfZ at S2 c0 c1 c2 c3 c4 c5 c6 c7 c8 c9 c10 c11 c12
 simp
 generalize w1.heap.size=cb at *
 generalize w1.alloc _=w2 at *
 simp[c0,c1,c2,c3,c4,c5,c6,c7,c8,c9,c10,c11,c12]
 exact bes (inc:=inc) (tr:=tr) (t:=T.f) bmq rfl S2 fun w3 S3=>h w3 S3.drop.drop
def bmo(w0:World)(L:List Asn):KL:=fun x w1=> ∃(u0 u1:Value)(i:Nat),x=[u0,u1,.int .u64 (if i=0 then 0 else 101),.int .i64 (i:Nat)]/\i<=1/\St w0 w1 L
theorem axk{inc tr:Int}{a:Option Addr}{c:Nat}(S:St w0 w R)(hs: ∀w' L,St w0 w' (L ++ R)->SlU w' (.slice a 1 c) [101])(hi:1<=inc)(htr:1<=tr/\tr<=64){K:KV}(h: ∀w',St w0 w' R->K (.int .i64 0) w'):ig P F.fb [cfA inc tr (.slice a 1 c)] w K:=by
 rw[M.bi.fcall]
 apply M.bi.calls
 unfold M.bi cfA
 refine St.qt S fun tb w1 S1=>?_
 have cc: ∀{w':World}{L:List Asn},St w0 w' L->ja tb (cfC inc tr (.slice a 1 c)).toArray T.f∈L->∀i v,(cfC inc tr (.slice a 1 c))[i]? =some v->il w' tb i=some v:=fun S' hm i v hv=>by
  obtain⟨s,t,rfl⟩:=List.append_of_mem hm
  rw[(S'.perm List.perm_middle).cell]
  simpa using hv
 have c2:=cc S1 (by simp) 2 _ rfl
 have hln: ∀w' K,biT P .len #[T.h] T.d [false] [.slice a 1 c] w' K=K (.int .i64 1) w':=fun w' K=>(hs w [] S).jr (by kernel_rfl) [false]
 have hs1: ∀w' L,St w0 w' (L ++ (ja tb (cfC inc tr (.slice a 1 c)).toArray T.f :: R))->SlU w' (.slice a 1 c) [101]:=fun w' L S'=>hs w' (L ++ [_]) (by simpa using S')
 simp[c2,hln]
 refine⟨bmo w0 (ja tb (cfC inc tr (.slice a 1 c)).toArray T.f :: R),fun x _=>1 - ms x 3,⟨_,_,0,rfl,Nat.zero_le _,S1⟩,?_⟩
 rintro x w2 ⟨u0,u1,i,rfl,hi1,S2⟩
 have d0:=cc S2 (by simp) 0 _ rfl
 have d1:=cc S2 (by simp) 1 _ rfl
 have d2:=cc S2 (by simp) 2 _ rfl
 have d3:=cc S2 (by simp) 3 _ rfl
 by_cases hi0:i=0
 ·subst hi0
  obtain⟨ab,ao,cap,hv,_,_,hc⟩:=(hs1 w2 [] S2).at (i:=0) (by simp)
  have hia: ∀w' K,iaT P T.h (.slice a 1 c) (.int .i64 0) w' K=K (.pointer (some ⟨ab,ao,none⟩)) w':=fun w' K=>by rw[hv];simp
  have hcell:il w2 ab ao=some (.int .u64 101):=by simpa [lq] using hc 0 _ rfl
  simp
  unfold M.bi.j2
  simp[hia,hcell,d0,d3]
  exact⟨⟨_,_,1,rfl,Nat.le_refl _,S2⟩,by simp[ms,gv,show IntKind.i64.wrap 1=1 from by decide]⟩
 ·have hi2:i=1:=by omega
  subst hi2
  have d4:=cc S2 (by simp) 4 _ rfl
  have d7:=cc S2 (by simp) 7 _ rfl
  have d9:=cc S2 (by simp) 9 _ rfl
  have d10:=cc S2 (by simp) 10 _ rfl
  simp
  unfold M.bi.j0
  simp[d7,d9,d10]
  refine azy S2 tr 4 10 (fun hb=>by omega) fun g w3 hb e1 e2 e3 _ _ _ _ _ S3=>?_
  have f11:=cc S3 (by simp) 11 _ rfl
  simp[f11]
  refine atf S3 fun w4 kb S4=>?_
  have g0:=cc S4 (by simp) 0 _ rfl
  have g1:=cc S4 (by simp) 1 _ rfl
  have g2:=cc S4 (by simp) 2 _ rfl
  have g3:=cc S4 (by simp) 3 _ rfl
  have g4:=cc S4 (by simp) 4 _ rfl
  have g5:=cc S4 (by simp) 5 _ rfl
  have g6:=cc S4 (by simp) 6 _ rfl
  have g7:=cc S4 (by simp) 7 _ rfl
  have g8:=cc S4 (by simp) 8 _ rfl
  have g12:=cc S4 (by simp) 12 _ rfl
  have hm:min (min 1 inc) 200=1:=by omega
  simp[g0,g1,g2,g3,g4,hln,ayh,hm]
  unfold M.bi.j6
  simp[g5,g6,g7,g8,bcb,bbu,g12]
  refine amk S4 fun w5 v5 S5=>?_
  simp
  exact h w5 S5.drop.drop.drop.drop
end
section
variable {w0 w : World} {R : List Asn}
def adb(inc tr:Int)(rv:Value)(ru se un:Nat):Array Value:= #[.int .u64 1,.int .u64 inc,rv,.int .u64 200,.int .i64 3,.int .u64 5,.int .u64 20,.int .u64 10,.int .u64 4,.int .i64 tr,.int .i64 4,.int .i64 4,.string kv,.slice none 0 0,.pointer none,.pointer none,.pointer none,.map (some ru),.map (some se),.map (some un),.int .u64 0,.int .u64 0,.int .u64 0,.int .u64 0,.slice none 0 0,.slice none 0 0,.int .u64 0,.int .u64 0]
def aez(inc tr:Int)(rep rul:Value)(tb hb kb ru se un:Nat):Cl:=⟨inc,tr,4,kv,rep,rul,tb,hb,kb,ru,se,un,je,0,0,.slice none 0 0,.slice none 0 0,0,0⟩
theorem bgr{α:Type}{e:TypeId}{sz:Nat}{enc:α->List Value}{v:Value}{l:List α}(he: ∀x,(enc x).length=sz)(S:St w0 w (ot e sz enc v l :: R)):St w0 w (rdA sz enc v l :: R):=by
 obtain⟨B,⟨k1,k2⟩,hB,cl⟩:=S.open
 exact cl w [rdA sz enc v l] (Fr.refl _ _) (Rs.one (B:=B) ⟨k1.sl he,k2⟩ fun x hx=> .inl hx)
theorem bdq{v:Value}(S:St w0 w R)(hs:SlU w v [101]): ∀{K:KV},(∀w' v',St w0 w' (rdA 1 lq v' [101] :: R)->K v' w')->ig P F.v [v] w K:=fun{K} h=>by
 refine aaf hs (by simp) fun w4 rv s4 n4 f4=>h w4 rv (S.add f4 (a:=rdA 1 lq rv [101]) (B:=fun x=>rv.ownBlock=some x) ⟨s4,fun b hb=>hb⟩ fun x hx=>⟨n4 x hx,by
  obtain⟨g,hg,hlt⟩:=s4.lt (x:=101) (by simp)
  rw[hx] at hg;cases hg;exact hlt⟩)
theorem axa{inc tr:Int}{a:Option Addr}{c:Nat}(S:St w0 w R)(hs: ∀w' L,St w0 w' (L ++ R)->SlU w' (.slice a 1 c) [101])(hi:1<=inc)(htr:1<=tr/\tr<=64){K:KV}
  (h: ∀w' p (g:Cfg) rep rul tb hb kb ru se un,tr=g.ko->(4:Int)=g.ki->10=g.jo->St w0 w' (nc p (aez inc tr rep rul tb hb kb ru se un) (Nd.new 1 inc 5 20 0) g [] [] 0 [] [] [] [] [] ++ R)->K (.tuple #[lf p,.int .i64 0]) w'):ig P F.ft [cfA inc tr (.slice a 1 c),.int .u64 0] w K:=by
 rw[M.dp.fcall]
 apply M.dp.calls
 unfold M.dp cfA
 refine St.qt S fun tb w1 S1=>?_
 have cc: ∀{w':World}{L:List Asn},St w0 w' L->ja tb (cfC inc tr (.slice a 1 c)).toArray T.f∈L->∀i v,(cfC inc tr (.slice a 1 c))[i]? =some v->il w' tb i=some v:=fun S' hm i v hv=>by
  obtain⟨s,t,rfl⟩:=List.append_of_mem hm
  rw[(S'.perm List.perm_middle).cell]
  simpa using hv
 have ld: ∀{w':World}{L:List Asn},St w0 w' L->ja tb (cfC inc tr (.slice a 1 c)).toArray T.f∈L->∀K,ldN P 13 tb 0 w' K=K (cfA inc tr (.slice a 1 c)) w':=fun S' hm K=>by
  obtain⟨s,t,rfl⟩:=List.append_of_mem hm
  exact (S'.perm List.perm_middle).ldA (n:=13) (i:=0) (cfC inc tr (.slice a 1 c)) rfl rfl K
 have hs1: ∀w' L,St w0 w' (L ++ (ja tb (cfC inc tr (.slice a 1 c)).toArray T.f :: R))->SlU w' (.slice a 1 c) [101]:=fun w' L S'=>hs w' (L ++ [_]) (by simpa using S')
 simp only[im]
 simp[ld S1]
 refine axk S1 hs1 hi htr fun w2 S2=>?_
 simp
 unfold M.dp.j0
 have S3:=((S2.ahr .u64).ahr .u64).ahr .u64
 simp[ld S2,yt]
 have S4:=S3.mkB (adb inc tr (.slice a 1 c) w2.heap.size (w2.heap.size+1) (w2.heap.size+1+1)) T.b
 simp only[jc] at S4 S3
 have bld: ∀(x1 x2 x3:Nat) w K,jj P T.b #[(0,cfA inc tr (.slice a 1 c)),(10,.int .u64 0),(9,.int .u64 0),(5,.map (some x1)),(6,.map (some x2)),(7,.map (some x3))] w K=K (.agg (adb inc tr (.slice a 1 c) x1 x2 x3)) w:=fun x1 x2 x3 w K=>by simp[cfA,cfC,adb]
 rw[bld]
 have hcl: ∀x1 x2 x3,(Value.agg (adb inc tr (.slice a 1 c) x1 x2 x3)).cells=adb inc tr (.slice a 1 c) x1 x2 x3:=fun _ _ _=>rfl
 simp only[hcl,jc]
 generalize w2.heap.size+1+1+1=p at *
 generalize w2.heap.size+1+1=un at *
 generalize w2.heap.size+1=se at *
 generalize w2.heap.size=ru at *
 generalize World.alloc (World.alloc (World.alloc (w2.alloc _) _) _) _=w4 at *
 have d2:=cc S4 (by simp) 2 _ rfl
 simp[d2]
 refine bdq S4 (hs1 _ [_,_,_,_] S4) fun w5 rep S5=>?_
 obtain⟨ra,rc,hrep,_⟩:=S5.rd
 subst hrep
 simp
 refine St.qk S5.swap rfl (by simp[adb]) fun w6 S6=>?_
 have d12:=cc S6 (.tail _ (.tail _ (.tail _ (.tail _ (.tail _ (.head _)))))) 12 _ rfl
 simp[d12]
 refine amk S6 fun w7 rul S7=>?_
 obtain⟨ua,uc,hrul,_⟩:=S7.row vz
 subst hrul
 simp
 refine St.qk S7.swap rfl (by simp[adb]) fun w8 S8=>?_
 have e0:=cc S8 (.tail _ (.tail _ (.tail _ (.tail _ (.tail _ (.tail _ (.head _))))))) 0 _ rfl
 have e1:=cc S8 (.tail _ (.tail _ (.tail _ (.tail _ (.tail _ (.tail _ (.head _))))))) 1 _ rfl
 have e5:=cc S8 (.tail _ (.tail _ (.tail _ (.tail _ (.tail _ (.tail _ (.head _))))))) 5 _ rfl
 have e6:=cc S8 (.tail _ (.tail _ (.tail _ (.tail _ (.tail _ (.tail _ (.head _))))))) 6 _ rfl
 simp[e0,e1,e5,e6]
 refine bhe S8 (by decide) (show 0<=inc by omega) (by decide) (by decide) (fun hb=>by omega) fun _ _ _ _ w9 nb S9=>?_
 simp[adh]
 refine St.qk S9.swap rfl (by simp[adb]) fun w10 S10=>?_
 have f9:=cc S10 (.tail _ (.tail _ (.tail _ (.tail _ (.tail _ (.tail _ (.tail _ (.head _)))))))) 9 _ rfl
 have f10:=cc S10 (.tail _ (.tail _ (.tail _ (.tail _ (.tail _ (.tail _ (.tail _ (.head _)))))))) 10 _ rfl
 have f7:=cc S10 (.tail _ (.tail _ (.tail _ (.tail _ (.tail _ (.tail _ (.tail _ (.head _)))))))) 7 _ rfl
 simp[f9,f10,f7]
 refine azy S10 tr 4 10 (fun hb=>by omega) fun g w11 hb g1 g2 g3 _ _ _ _ _ S11=>?_
 simp
 refine St.qk S11.swap rfl (by simp[adb]) fun w12 S12=>?_
 have f11:=cc S12 (.tail _ (.tail _ (.tail _ (.tail _ (.tail _ (.tail _ (.tail _ (.tail _ (.head _))))))))) 11 _ rfl
 simp[f11]
 refine atf S12 fun w13 kb S13=>?_
 simp
 refine St.qk S13.swap rfl (by simp[adb]) fun w14 S14=>?_
 refine h w14 p g (.slice ra 1 rc) (.slice ua 1 uc) nb hb kb ru se un g1 g2 g3 ?_
 have S15:St w0 w14 (clA p (aez inc tr (.slice ra 1 rc) (.slice ua 1 uc) nb hb kb ru se un) :: _):=S14
 have S16:=bgr vz (S15.pick (L:=[_,_,_,_,_,_,_,_,_,_]) [4,0,1,2,3,5,6,7,8] 10 rfl (by decide))
 have S17:St w0 w14 (pg (.slice none 0 0) [] :: mu (.slice none 0 0) [] :: _):=Go.Eng.yw (Go.Eng.yw S16)
 exact S17.pick (L:=[_,_,_,_,_,_,_,_,_,_,_]) [3,6,5,4,0,1,7,2,10,9,8] 11 rfl (by decide)
end
def s7:Spn:=⟨7,1,0,0,0,⟨#[97]⟩,⟨#[98]⟩,true⟩
def g4:Cfg:=⟨4,4,10⟩
theorem aiz:ly s7=0:=by decide+kernel
theorem bij:aky g4 [] s7=[⟨7,[s7],false⟩]/\afb g4 [] s7=0/\akv g4 [] [] s7 0=[(7,10)]:=by
 unfold aky afb akv
 rw[aiz]
 refine⟨rfl,rfl,rfl⟩
theorem bjb:pm [(7,10)] 10=[7]:=by decide+kernel
theorem bis:pq ((Nd.new 1 1 5 20 0).vy 10 0).1=1:=by decide+kernel
theorem ati:su ⟨7,[s7],false⟩=1:=by decide+kernel
theorem biv{x:Int}(h0:0<=x)(h1:x < 18446744073709551616):IntKind.u8.wrap (IntKind.u64.wrap ((BitVec.ofInt IntKind.u64.bits x &&& BitVec.ofInt IntKind.u64.bits 255).toNat:Nat))=b8 x:=by
 obtain⟨n,rfl⟩:=Int.eq_ofNat_of_zero_le h0
 have hn:n < 18446744073709551616:=by omega
 have h2:(BitVec.ofInt IntKind.u64.bits ((n:Nat):Int) &&& BitVec.ofInt IntKind.u64.bits 255).toNat=n % 256:=by
  rw[BitVec.toNat_and]
  have e1:(BitVec.ofInt IntKind.u64.bits ((n:Nat):Int)).toNat=n:=aah hn
  have e2:(BitVec.ofInt IntKind.u64.bits 255).toNat=2 ^ 8 - 1:=by decide
  rw[e1,e2,Nat.and_two_pow_sub_one_eq_mod]
 rw[h2,ww (by omega)]
 unfold b8 IntKind.wrap
 simp[IntKind.bits,IntKind.signed]
section
variable {w0 w : World} {R : List Asn}
def E8I(w0:World)(n:Int)(R:List Asn):KL:=fun x w1=> ∃(v:Value)(k:Nat),x=[v,.int .i64 (7 - (k:Int))]/\k<=8/\St w0 w1 (aax v ((mo n).take k) :: R)
theorem bbb(S:St w0 w R){n:Int}(hn:wg n){K:KV}(h: ∀w' v',St w0 w' (aax v' (mo n) :: R)->K v' w'):ig P F.ee [.int .u64 n] w K:=by
 obtain⟨n0,n1⟩:=hn
 rw[M.cq.fcall]
 apply M.cq.calls
 unfold M.cq
 simp only[im]
 refine⟨E8I w0 n R,fun x _=>bil x,⟨_,0,rfl,by omega,by simpa using Go.Eng.yw S⟩,?_⟩
 rintro x w1 ⟨v,k,rfl,hk,S⟩
 have q0:gv [v,.int .i64 (7 - (k:Int))] 0=v:=rfl
 have q1:gv [v,.int .i64 (7 - (k:Int))] 1= .int .i64 (7 - (k:Int)):=rfl
 simp only[q1]
 by_cases hil:k < 8
 ·have hil':(0:Int)<=7 - (k:Int):=by omega
  have hw8:IntKind.i64.wrap (8 * (7 - (k:Int)))=56 - 8 * (k:Int):=by rw[iz];omega
  have hwu:IntKind.u64.wrap (56 - 8 * (k:Int))=56 - 8 * (k:Int):=me (by omega) (by omega)
  have hwi:IntKind.i64.wrap (7 - (k:Int) - 1)=7 - ((k+1:Nat):Int):=by rw[iz];omega
  have htn:(56 - 8 * (k:Int)).toNat=56 - 8 * k:=by omega
  simp only[qn]
  rw[decide_eq_true hil']
  simp only[ii]
  unfold M.cq.j2
  have hp:(0:Int) < 2 ^ min (56 - 8 * k) IntKind.u64.bits:=Int.pow_pos (by decide)
  have g0:0<=n.fdiv (2 ^ min (56 - 8 * k) IntKind.u64.bits):=Int.fdiv_nonneg n0 (by omega)
  have g1:n.fdiv (2 ^ min (56 - 8 * k) IntKind.u64.bits) < 18446744073709551616:=by
   rw[Int.fdiv_eq_ediv_of_nonneg _ (by omega)]
   exact Int.lt_of_le_of_lt (Int.ediv_le_self _ n0) n1
  have hsh: ∀(rx ry:Operand)(w:World)(K:KV),iq P .shr T.a rx ry (.int .u64 n) (.int .u64 (56 - 8 * (k:Int))) w K=K (.int .u64 (n.fdiv (2 ^ min (56 - 8 * k) IntKind.u64.bits))) w:=fun rx ry w K=>by rw[abo (by omega),htn]
  have hcu: ∀w K,cvT P T.d T.br (.int .i64 (56 - 8 * (k:Int))) w K=K (.int .u64 (56 - 8 * (k:Int))) w:=fun w K=>by rw[oh (ks:= .i64) (kd:= .u64) (by kernel_rfl) (by kernel_rfl),hwu]
  have hcb: ∀w K,cvT P T.a T.bc (.int .u64 (IntKind.u64.wrap ((BitVec.ofInt IntKind.u64.bits (n.fdiv (2 ^ min (56 - 8 * k) IntKind.u64.bits)) &&& BitVec.ofInt IntKind.u64.bits 255).toNat:Nat))) w K=K (.int .u8 (b8 (n.fdiv (2 ^ min (56 - 8 * k) IntKind.u64.bits)))) w:=fun w K=>by rw[oh (ks:= .u64) (kd:= .u8) (by kernel_rfl) (by kernel_rfl),biv g0 g1]
  simp only[q0,q1,im,vh,hw8,hcu,hsh,akx,hcb]
  simp
  have S1:=bdw S (b8 (n.fdiv (2 ^ min (56 - 8 * k) IntKind.u64.bits)))
  refine Go.Eng.ui et.y pc zl S1.swap (l2:=[b8 (n.fdiv (2 ^ min (56 - 8 * k) IntKind.u64.bits))]) (S1.row pc) (by simp[rt];omega) (by decide) fun w2 v2 S2=>?_
  rw[hwi]
  refine⟨⟨v2,k+1,rfl,by omega,?_⟩,by simp[bil,gv];omega⟩
  rw[avv n hil]
  exact S2.swap.drop
 ·have hk8:k=8:=by omega
  subst hk8
  have hil': ¬(0:Int)<=7 - ((8:Nat):Int):=by omega
  simp only[qn]
  rw[decide_eq_false hil']
  simp only[ii]
  rw[List.take_of_length_le (by rw[rt];omega)] at S
  exact h w1 v S
theorem anf{v:Value}{l:List Int}(S:St w0 w (aax v l :: R))(s:ByteArray)(hs:s.size<=32)(hl:l.length<=1000000){K:KV}(h: ∀w' v',St w0 w' (aax v' (l ++ acd s) :: R)->K v' w'):ig P F.di [v,.string s] w K:=by
 rw[M.eh.fcall]
 apply M.eh.calls
 unfold M.eh
 have hw8:IntKind.u8.wrap (s.size:Int)=(s.size:Int):=by
  unfold IntKind.wrap
  simp[IntKind.bits,IntKind.signed]
  omega
 have hcv: ∀w' K',cvT P T.d T.bc (.int .i64 (s.size:Int)) w' K'=K' (.int .u8 (s.size:Int)) w':=fun w' K'=>by
  rw[oh (ks:= .i64) (kd:= .u8) (by kernel_rfl) (by kernel_rfl),hw8]
 simp[hcv]
 have S8:=bdw S (s.size:Int)
 refine Go.Eng.ui et.y pc zl S8.swap (l2:=[(s.size:Int)]) (S8.row pc) (by simp;omega) (by decide) fun w9 v9 S9=>?_
 refine bga et.y (by kernel_rfl) (by kernel_rfl) (fun _=>rfl) S9 s (by simp;omega) fun w10 v10 S10=>?_
 refine h w10 v10 ?_
 have:=S10.swap.drop
 rw[List.append_assoc] at this
 exact this
def RpI(w0:World)(s:Spn)(R:List Asn):KL:=fun x w1=> ∃(v:Value)(i:Nat),x=[v,.int .i64 (i:Nat)]/\i<=5/\St w0 w1 (aax v (((rg s).take i).flatMap mo) :: R)
theorem axe(S:St w0 w R){s:Spn}(hr:ly s=0)(hR:aha s){K:KV}(h: ∀w' v',St w0 w' (aax v' (aer s) :: R)->K (.tuple #[v',.int .i64 0]) w'):ig P F.fa [.slice none 0 0,lx s] w K:=by
 obtain⟨n1,n2⟩:=ank hr
 rw[M.ba.fcall]
 apply M.ba.calls
 unfold M.ba
 refine St.qt S fun b w1 S1=>?_
 have S1':St w0 w1 (ja b (kp s).toArray T.i :: R):=S1
 have cl: ∀{w':World}{L:List Asn},St w0 w' (ja b (kp s).toArray T.i :: L)->il w' b 0=some (.int .u64 s.jh)/\il w' b 1=some (.int .u64 s.id)/\il w' b 2=some (.int .u64 s.mm)/\il w' b 3=some (.int .u64 s.kl)/\il w' b 4=some (.int .u64 s.len)/\il w' b 5=some (.string s.jx)/\il w' b 6=some (.string s.name)/\il w' b 7=some (.bool s.ny):=fun S'=>by
  refine⟨?_,?_,?_,?_,?_,?_,?_,?_⟩ <;>rw[S'.cell] <;>rfl
 have sl: ∀K,ldN P 8 b 0 w1 K=K (lx s) w1:=fun K=>S1'.ldA (n:=8) (i:=0) (kp s) rfl rfl K
 simp[sl]
 rw[M.cp.fcall]
 refine art s fun w2 f2=>?_
 rw[hr]
 have S2:=S1'.jv f2
 simp
 unfold M.ba.j0
 have hb0: ∀w' K,bsT P T.y 0 #[] w' K=K (.slice (some ⟨w'.heap.size,0,none⟩) 0 0) (w'.alloc (.cells #[] T.bc)):=fun w' K=>kr
 have S3:St w0 (w2.alloc (.cells #[] T.bc)) (aax (.slice (some ⟨w2.heap.size,0,none⟩) 0 0) [] :: _):=St.uj (l:=[]) S2 pc rfl (by simp)
 simp only[hb0]
 generalize w2.heap.size=eb at *
 generalize w2.alloc _=w3 at *
 refine Go.Eng.ui et.y pc zl S3 (l2:=[]) Sl.nil (by simp) (by decide) fun w4 v4 S4=>?_
 simp only[List.append_nil] at S4
 obtain⟨c0,c1,c2,c3,c4,_⟩:=cl S4.swap
 simp[c0,c1,c2,c3,c4]
 have S5:St w0 (w4.alloc (.cells #[.int .u64 s.jh,.int .u64 s.id,.int .u64 s.mm,.int .u64 s.kl,.int .u64 s.len] T.a)) (qy (.slice (some ⟨w4.heap.size,0,none⟩) 5 5) (rg s) :: _):=St.uj (l:=rg s) S4 (fun _=>rfl) rfl (by simp[maxLen,rg])
 generalize w4.heap.size=fb at *
 generalize w4.alloc _=w5 at *
 have hl5: ∀i,(((rg s).take i).flatMap mo).length<=40:=fun i=>by
  rw[akc,List.length_take]
  have:(rg s).length=5:=rfl
  omega
 refine⟨RpI w0 s (qy (.slice (some ⟨fb,0,none⟩) 5 5) (rg s) :: ja b (kp s).toArray T.i :: R),fun x _=>5 - ms x 1,⟨_,0,rfl,Nat.zero_le _,by simpa using S5.swap⟩,?_⟩
 rintro x w6 ⟨v6,i,rfl,hi,S6⟩
 by_cases hil:i < 5
 ·have hili:(i:Int) < 5:=by omega
  have hwi:IntKind.i64.wrap ((i:Int)+1)=((i+1:Nat):Int):=by rw[iz];rfl
  have hil5:i < (rg s).length:=hil
  obtain⟨gb,go,gc,ge,_,_,hc⟩:=(S6.swap.row (fun _=>rfl):Sl w6 1 Suint64.rk (.slice (some ⟨fb,0,none⟩) 5 5) (rg s)).at hil5
  injection ge with ge _ _
  injection ge with ge
  injection ge with ge1 ge2 _
  subst ge1 ge2
  have hcell:il w6 fb i=some (.int .u64 ((rg s)[i]'hil5)):=by simpa [Suint64.rk] using hc 0 _ rfl
  simp[hili]
  unfold M.ba.j3
  simp[hcell,hili]
  have hu:wg ((rg s)[i]'hil5):=by
   match i,hil5 with
   | 0,_=>exact hR.tr
   | 1,_=>exact hR.id
   | 2,_=>exact hR.par
   | 3,_=>exact hR.st
   | 4,_=>exact hR.ln
   | k+5,h=>exact absurd h (by simp[rg])
  refine bbb S6 hu fun w7 v7 S7=>?_
  refine Go.Eng.ui et.y pc zl S7.swap (S7.row pc) (by have:=hl5 i;rw[rt];omega) (by decide) fun w8 v8 S8=>?_
  simp[hwi]
  refine⟨⟨_,i+1,rfl,by omega,?_⟩,by simp[ms,gv];omega⟩
  have e:(((rg s).take (i+1)).flatMap mo)=(((rg s).take i).flatMap mo) ++ mo ((rg s)[i]'hil5):=by
   rw[List.take_add_one,List.getElem?_eq_getElem hil5,List.flatMap_append]
   simp
  rw[e]
  exact S8.swap.drop
 have hi5:i=5:=by omega
 subst hi5
 have e5:(rg s).take 5=rg s:=rfl
 rw[e5] at S6
 have hl6:=hl5 5
 rw[e5] at hl6
 obtain⟨_,_,_,_,_,d5,d6,d7⟩:=cl S6.up2
 have ns: ∀(fb':Int)(y z:List Value),fb'=acu s.ny->gv y 0= .int .u8 fb'->gv z 1=v6->M.ba.j5 (.pointer (some ⟨b,0,none⟩)) y z w6 K:=fun fb' y z hfb y0 z1=>by
  unfold M.ba.j5
  rw[y0,z1]
  have S7:=S6.jv ((Fr.refl _ w6).dr 1)
  obtain⟨_,_,_,_,_,g5,g6,_⟩:=cl S7.up2
  simp[g5,g6]
  have S8:=bdw S7 fb'
  have hsz:(dr w6 1).heap.size=w6.heap.size:=rfl
  rw[hsz] at S8
  generalize w6.heap.size=ob at *
  generalize World.alloc _ _=w8 at *
  obtain⟨_,_,_,_,_,g5,g6,_⟩:=cl S8.up3
  simp[g5,g6]
  refine Go.Eng.ui et.y pc zl S8.swap (S8.row pc) (by simp only[List.length_cons,List.length_nil];omega) (by decide) fun w9 v9 S9=>?_
  obtain⟨_,_,_,_,_,g5,g6,_⟩:=cl S9.up3
  simp[g5,g6]
  refine anf S9 s.jx n1 (by simp only[List.length_append,List.length_cons,List.length_nil];omega) fun w10 v10 S10=>?_
  obtain⟨_,_,_,_,_,_,g6,_⟩:=cl S10.up3
  simp[g6]
  refine anf S10 s.name n2 (by simp only[acd,List.length_append,List.length_cons,List.length_nil,abp];omega) fun w11 v11 S11=>?_
  refine h w11 v11 ?_
  have e2:(rg s).flatMap mo ++ [fb'] ++ acd s.jx ++ acd s.name=aer s:=by rw[hfb];rfl
  rw[e2] at S11
  exact S11.swap.drop.swap.drop.swap.drop
 cases hf:s.ny with
 | true=>
  rw[hf] at d7
  simp[d7]
  exact ns 1 _ _ (by rw[hf];rfl) rfl rfl
 | false=>
  rw[hf] at d7
  simp[d7]
  exact ns 0 _ _ (by rw[hf];rfl) rfl rfl
end
section
variable {w0 w : World} {R : List Asn} {p : Nat} {q : Cl} {n : Nd} {g : Cfg} {A : List AE} {c : CT} {a0 : Int} {m rm um : MP} {es : List Evn} {ls : List Ltr}
theorem awl(S:St w0 w (nc p q n g A c a0 m es ls rm um ++ R))(hA:A.length<=1000){K:KV}(h: ∀w' v,St w0 w' (adi v (qe A) :: (nc p q n g A c a0 m es ls rm um ++ R))->K v w'):ig P F.aq [lf p] w K:=by
 rw[M.aq.fcall]
 apply M.aq.calls
 unfold M.aq
 obtain⟨_,_,_,_,_,_,c15,_⟩:=nk (p:=p) (q:=q) S (by simp)
 simp only[lf]
 simp[c15]
 refine ama (S.pick (L:=[_,_,_,_,_,_,_,_,_,_,_]) [2,0,1,3,4,5,6,7,8,9,10] 11 rfl (by decide)) hA fun w2 v2 S2=>?_
 exact h w2 v2 (S2.pick (L:=[_,_,_,_,_,_,_,_,_,_,_,_]) [0,2,3,1,4,5,6,7,8,9,10,11] 12 rfl (by decide))
theorem axn:aha s7:=by
 constructor <;>(unfold s7;first|decide|exact⟨by decide,by decide⟩)
def rj:Bal:=⟨1,4294967297⟩
theorem atn{tb hb kb ru se un:Nat}{rep rul:Value}(S:St w0 w (nc p (aez 1 4 rep rul tb hb kb ru se un) (Nd.new 1 1 5 20 0) g4 [] [] 0 [] [] [] [] [] ++ R)){x0:List Value}{K:KV}(h: ∀w',St w0 w' R->K (.bool true) w'):M.bj.j0 (lf p) x0 w K:=by
 unfold M.bj.j0
 have hs7: ∀w K,jj P T.i #[(0,.int .u64 7),(1,.int .u64 1),(5,.string ⟨#[97]⟩),(6,.string ⟨#[98]⟩),(7,.bool true)] w K=K (lx s7) w:=fun w K=>by simp[lx,s7]
 rw[hs7]
 refine axe S aiz axn fun w1 rv S1=>?_
 simp
 have hnok:tx (Nd.new 1 1 5 20 0):=bfp (by omega) (by omega) (by omega) (by omega) (by omega)
 have hsol:acz (Nd.new 1 1 5 20 0) 1:=⟨rfl,rfl⟩
 have S2:St w0 w1 (apx p (aez 1 4 rep rul tb hb kb ru se un) (Nd.new 1 1 5 20 0) g4 [] [] 0 [] ++ (aax rv (aer s7) :: mu (.slice none 0 0) [] :: rdA 1 lq rep [101] :: rdA 4 lc rul [jz] :: jk ru .u64 [] :: jk se .u64 [] :: jk un .u64 [] :: R)):=S1.pick (L:=[_,_,_,_,_,_,_,_,_,_,_,_]) [1,2,3,4,5,0,6,7,8,9,10,11] 12 rfl (by decide)
 refine baj S2 hnok (agv hnok hsol) (fun w' L S'=>aao S' (e:=T.bc) (v:=rv) (by simp) pc) aiz axn (show (0:Int)<=0 by decide) (show (0:Int)<=18446744073709551615 by decide) (by decide) (by decide) (by simp) (by simp) (by decide) (by simp) fun w2 ev S3=>?_
 obtain⟨p1,p2,p3⟩:=bij
 simp only[show max (aez 1 4 rep rul tb hb kb ru se un).now 0=0 from rfl,p1,p2,p3] at S3⊢
 simp
 have S4:St w0 w2 (nc p {aez 1 4 rep rul tb hb kb ru se un with ev:=ev} (Nd.new 1 1 5 20 0) g4 [⟨7,[s7],false⟩] [(7,10)] 0 [] [aeg 0 0 s7] [] [] [] ++ R):=S3.pick (L:=[_,_,_,_,_,_,_,_,_,_,_,_]) [0,1,2,3,4,6,7,8,9,10,11] 12 rfl (by decide)
 have hy: ∀n',n'=((Nd.new 1 1 5 20 0).vy 10 0).1->nxB {aez 1 4 rep rul tb hb kb ru se un with ev:=ev} n'=(rj,0):=fun n' e=>by
  subst e
  unfold nxB
  rw[bis]
  rfl
 refine bgk (e:=⟨7,[s7],false⟩) (inc:=1) S4 hnok hsol (by simp) ⟨show (0:Int)<=0 by decide,show (0:Int)<=18446744073709551615 by decide⟩ (by decide) ⟨show (0:Int)<=0 by decide,show (0:Int)<=0 by decide⟩ (by decide) (show (1:Int)<=1 by decide) (show je.rng from⟨⟨by decide,by decide⟩,⟨by decide,by decide⟩⟩) (fun e he=>by simp at he;subst he;simp) (by simp) (by simp) (by simp) (by decide) bjb (fun n' e=>by rw[hy n' e,ati];exact⟨rfl,by decide,by decide⟩) fun w3 ov rb ag n' hag hn' S5=>?_
 rw[hy n' hn',ati] at S5
 have hn7:tx n':=by rw[hn'];exact akn hnok ⟨show (0:Int)<=10 by decide,show (10:Int) < 18446744073709551616 by decide⟩
 have hs7':acz n' 1:=by rw[hn'];exact (amx hsol).1
 clear hn' hy hag
 have S6:St w0 w3 (clA p ⟨1,4,4,kv,rep,rul,tb,hb,kb,ru,se,un,rj,ag,10,ov,ev,0,0⟩ :: mu ov (oa [101] (rl 7 rj 1 0) pe) :: kt tb n' :: ng hb g4 [⟨7,[s7],false⟩] (od [(7,10)] 7 (aap 10)) :: qp kb 0 [] :: pg ev [aeg 0 0 s7] :: rdA 1 lq rep [101] :: rdA 4 lc rul [jz] :: jk ru .u64 [(7,.pointer (some ⟨rb,0,none⟩))] :: jk se .u64 [] :: jk un .u64 [] :: oz rb 7 rj 1 0 :: R):=S5.pick (L:=[_,_,_,_,_,_,_,_,_,_,_]) [0,5,1,2,3,4,6,7,8,9,10] 11 rfl (by decide)
 refine bkj S6 fun w4 S7=>?_
 have S8:St w0 w4 (nc p ⟨1,4,4,kv,rep,rul,tb,hb,kb,ru,se,un,rj,ag,10,.slice none 0 0,ev,0,0⟩ n' g4 [⟨7,[s7],false⟩] (od [(7,10)] 7 (aap 10)) 0 [] [aeg 0 0 s7] [] [(7,.pointer (some ⟨rb,0,none⟩))] [] ++ (oz rb 7 rj 1 0 :: mu ov (oa [101] (rl 7 rj 1 0) pe) :: R)):=(Go.Eng.yw S7:St w0 w4 (mu (.slice none 0 0) [] :: _)).pick (L:=[_,_,_,_,_,_,_,_,_,_,_,_,_]) [1,3,4,5,6,0,7,8,9,10,11,12,2] 13 rfl (by decide)
 have hlt:Sl w4 13 ltC ov (oa [101] (rl 7 rj 1 0) pe):=aao S8 (e:=T.bm) (by simp) abm
 obtain⟨ab,ao,cap,hv,_,_,hc⟩:=hlt.at (i:=0) (by simp[oa])
 have hia: ∀w' K,iaT P T.ap ov (.int .i64 0) w' K=K (.pointer (some ⟨ab,ao,none⟩)) w':=fun w' K=>by rw[hv];simp[oa]
 have hln: ∀w' K,biT P .len #[T.ap] T.d [false] [ov] w' K=K (.int .i64 1) w':=fun w' K=>hlt.jr (by kernel_rfl) [false]
 have k1:il w4 ab (ao+1)=some (.int .u64 101):=by simpa [ltC,oa] using hc 1 _ rfl
 have k2:il w4 ab (ao+2)=some (.int .i64 4):=by simpa [ltC,oa,pkC,rl] using hc 2 _ rfl
 have k4:il w4 ab (ao+4)=some (.int .u64 1):=by simpa [ltC,oa,pkC,rl,rj] using hc 4 _ rfl
 have k5:il w4 ab (ao+5)=some (.int .u64 4294967297):=by simpa [ltC,oa,pkC,rl,rj] using hc 5 _ rfl
 have kb2: ∀K,ldN P 2 ab (ao+4) w4 K=K (kj rj) w4:=fun K=>sf (tl rj) 2 rfl (fun k u hk=>by
  match k,hk with
  | 0,hk=>injection hk with hk;subst hk;exact k4
  | 1,hk=>injection hk with hk;subst hk;exact k5
  | k+2,hk=>simp[tl] at hk) K
 simp[hln,hia,k1,k2]
 unfold M.bj.j1
 simp[hia,kb2]
 have S9:=(abi S8).pick (L:=[_,_,_,_,_,_,_,_,_,_,_,_,_,_]) [1,2,3,4,5,6,7,8,9,10,11,12,0,13] 14 rfl (by decide)
 generalize w4.heap.size=tb2 at *
 generalize w4.alloc _=w5 at *
 have lb: ∀{w':World}{L:List Asn},St w0 w' L->baB tb2 rj∈L->∀K,ldN P 2 tb2 0 w' K=K (kj rj) w':=fun S' hm K=>by
  obtain⟨s,t,rfl⟩:=List.append_of_mem hm
  exact (S'.perm List.perm_middle).ldA (n:=2) (i:=0) (tl rj) rfl rfl K
 have hb7:rj.rng:=⟨⟨by decide,by decide⟩,⟨by decide,by decide⟩⟩
 have bld: ∀(half:Int)(k:Int),k=(if half=1 then 7 else 5)->∀w' K,jj P T.c #[(0,.int .i64 k),(1,.int .u64 7),(2,kj rj),(5,.bool true)] w' K=K (pkA (px 7 rj half)) w':=fun half k hk w' K=>by
  subst hk
  simp[kj,pkA,pkC,px,pk0,je]
 refine aci (b:=tb2) (x:=je) (y:=rj) (S9.pick (L:=[_,_,_,_,_,_,_,_,_,_,_,_,_,_]) [12,0,1,2,3,4,5,6,7,8,9,10,11] 14 rfl (by decide)) fun w6 S10=>?_
 have S11:St w0 w6 (nc p ⟨1,4,4,kv,rep,rul,tb,hb,kb,ru,se,un,rj,ag,10,.slice none 0 0,ev,0,0⟩ n' g4 [⟨7,[s7],false⟩] (od [(7,10)] 7 (aap 10)) 0 [] [aeg 0 0 s7] [] [(7,.pointer (some ⟨rb,0,none⟩))] [] ++ (oz rb 7 rj 1 0 :: baB tb2 rj :: R)):=S10.pick (L:=[_,_,_,_,_,_,_,_,_,_,_,_,_]) [1,2,3,4,5,6,7,8,9,10,11,12,0] 13 rfl (by decide)
 simp[lb S10 (.head _),bld 0 5 rfl]
 refine akg S11 (.inl rfl) (by decide) hb7 (by decide) fun w7 S12=>?_
 refine avh S12 (by decide) hb7 (by decide) (by simp) fun w8 ov2 S13=>?_
 simp[lb S13 (by simp),bld 1 7 rfl]
 refine akg S13 (.inr rfl) (by decide) hb7 (by decide) fun w9 S14=>?_
 refine baa (s:=s7) S14 hn7 hs7' (show (0:Int) < 4 by decide) (by simp) (by simp) (by simp) (by simp) (by decide) hb7 (by decide) (by simp[oa]) fun w10 ov3 ev3 uv ls' S15=>?_
 refine aum (S15.pick (L:=[_,_,_,_,_,_,_,_,_,_,_]) [0,3] 11 rfl (by decide)) 7 ?_
 simp[kg]
 refine afv (S15.pick (L:=[_,_,_,_,_,_,_,_,_,_,_]) [0,10,1,2,3,4,5,6,7,8,9] 11 rfl (by decide)) (by simp) fun w11 v11 S16=>?_
 have hl1:(Suint64.uk (jn [((7:Int),uv)])).length=1:=by rw[(Suint64.acl _).length_eq];rfl
 have hln1:=fun w' K=>ajr (w':=w') (K:=K) (S16.row qh)
 rw[hl1] at hln1
 simp[hln1]
 have S17:St w0 w11 (nc p ⟨1,4,4,kv,rep,rul,tb,hb,kb,ru,se,un,rj,ag,12,ov3,ev3,0,0⟩ n' g4 (th [⟨7,[s7],false⟩] 7) (qj (od [(7,10)] 7 (aap 10)) 7) 7 [(7,.int .i64 1)] ([aeg 0 0 s7] ++ [adt 12 7 s7]) ls' [] [(7,uv)] ++ (baB tb2 rj :: R)):=S16.pick (L:=[_,_,_,_,_,_,_,_,_,_,_,_]) [1,3,4,5,6,7,8,9,10,11,2] 12 rfl (by decide)
 refine awl S17 (by simp[th]) fun w12 v12 S18=>?_
 have hl0:(qe (th [⟨7,[s7],false⟩] 7)).length=0:=by
  unfold qe
  rw[(Suint64.acl _).length_eq]
  simp[th]
 have hln0:=fun w' K=>ajr (w':=w') (K:=K) (S18.row qh)
 rw[hl0] at hln0
 simp[hln0]
 exact h w12 ((S18.pick (L:=[_,_,_,_,_,_,_,_,_,_,_,_,_]) [] 13 rfl (by decide)))
theorem ake(S:St w0 w R){K:KV}(h: ∀w',St w0 w' R->K (.bool true) w'):ig P F.cm [] w K:=by
 rw[M.bj.fcall]
 apply M.bj.calls
 unfold M.bj
 refine bbx S fun w1 a c S1=>?_
 refine bju S1 fun w2 S2=>?_
 refine axa S2 (fun w' L S'=>aao S' (e:=T.a) (sz:=1) (enc:=Suint64.rk) (v:= .slice a 1 c) (l:=[101]) (by simp) qh) (by decide) (by decide) fun w3 p g rep rul tb hb kb ru se un g1 g2 g3 S3=>?_
 have hg:g=g4:=by
  obtain⟨a,b,c⟩:=g
  have h1:(4:Int)=a:=g1
  have h2:(4:Int)=b:=g2
  have h3:(10:Int)=c:=g3
  unfold g4
  rw[show a=4 by omega,show b=4 by omega,<-h3]
 subst hg
 simp only[im]
 simp
 exact atn S3 fun w4 S4=>h w4 S4.drop
end
structure SV where
 a:Option Addr
 n:Nat
 c:Nat
abbrev PB:=SV×List Int
section
variable {w0 w w' : World} {R : List Asn} {v : Value} {l : List PB} {ls : List (List Int)}
theorem aws{n:Nat}(h:TV P w n T.y [v]): ∃l,SlB w v l:=by
 refine afe (sz:=1) (rd:=rdE aim) (e:=T.bc) (by kernel_rfl) (by kernel_rfl) (by decide) (fun n b o cs ht hl hc=>?_) h
 obtain⟨x,hx,_⟩:=si (k:= .u8) (by kernel_rfl) ht
 subst hx
 exact⟨x,fun j u hj=>hc j u hj⟩
theorem bkk{n:Nat}{c:Array Value}(h:TV P w n T.c c.toList): ∃p ls lm lu,Value.agg c=pkA p/\ala w p ls lm lu/\aex p/\LsR ls lm lu:=by
 obtain⟨p,ls,lm,lu,e,h1,h2,h3⟩:=bkz h
 refine⟨p,ls,lm,lu,?_,h1,h2,h3⟩
 unfold pkA
 congr 1
 exact Array.toList_inj.1 (by rw[e])
end
theorem awr{w:World}{a b:Value}{K:KV}(h:K (.tuple #[]) w):ig P F.ao [.pointer none,a,b] w K:=by
 rw[M.a.fcall]
 apply M.a.calls
 unfold M.a
 simp
 exact h
theorem auf{w:World}{K:KV}(h:K (.tuple #[]) w):ig P F.ca [.pointer none] w K:=by
 rw[M.ci.fcall]
 apply M.ci.calls
 unfold M.ci
 simp
 exact h
theorem ard{w:World}{K:KV}(h:K (.tuple #[.int .u64 0,.int .u64 0]) w):ig P F.bt [.pointer none] w K:=by
 rw[M.bg.fcall]
 apply M.bg.calls
 unfold M.bg
 simp
 exact h
theorem ars{w:World}{a b:Value}{K:KV}(h:K (.int .i64 13) w):ig P F.ax [.pointer none,a,b] w K:=by
 rw[M.f.fcall]
 apply M.f.calls
 unfold M.f
 simp
 exact h
theorem arc{w0 w:World}{R:List Asn}(S:St w0 w R){a b:Value}(p:Pk){K:KV}(h: ∀w',St w0 w' R->K (.int .i64 13) w'):ig P F.ak [.pointer none,a,pkA p,b] w K:=by
 rw[M.k.fcall]
 apply M.k.calls
 unfold M.k pkA
 refine St.qt S fun pb w1 S1=>?_
 simp
 exact h w1 S1.drop
theorem bdu{w:World}{K:KV}(h:K (.slice none 0 0) w):ig P F.be [.pointer none] w K:=by
 rw[M.bh.fcall]
 apply M.bh.calls
 unfold M.bh
 simp
 exact h
theorem arb{w:World}{K:KV}(h:K (.slice none 0 0) w):ig P F.bu [.pointer none] w K:=by
 rw[M.cf.fcall]
 apply M.cf.calls
 unfold M.cf
 simp
 exact h
theorem axy{w:World}{K:KV}(h:K (.slice none 0 0) w):ig P F.cf [.pointer none] w K:=by
 rw[M.co.fcall]
 apply M.co.calls
 unfold M.co
 simp
 exact h
theorem apk{w:World}{K:KV}(h:K (.slice none 0 0) w):ig P F.aq [.pointer none] w K:=by
 rw[M.aq.fcall]
 apply M.aq.calls
 unfold M.aq
 simp
 exact h
theorem bba{w:World}{K:KV}(h:K (.slice none 0 0) w):ig P F.ac [.pointer none] w K:=by
 rw[M.u.fcall]
 apply M.u.calls
 unfold M.u
 simp
 exact h
theorem avo{w:World}{a:Value}{K:KV}(h:K (.int .u64 0) w):ig P F.al [.pointer none,a] w K:=by
 rw[M.af.fcall]
 apply M.af.calls
 unfold M.af
 simp
 exact h
theorem aoe{w:World}{a:Value}{K:KV}(h:K (.int .i64 0) w):ig P F.ar [.pointer none,a] w K:=by
 rw[M.ar.fcall]
 apply M.ar.calls
 unfold M.ar
 simp
 exact h
theorem aht{W:World}{n0:Nat}{v0:Value}(h0:TV P W n0 T.y [v0]){n1:Nat}{c1:Array Value}(h1:TV P W n1 T.c c1.toList){a2:Int}(_h2:(Lit.int .u64 a2).wf=true){K:KV}
  (h: ∀w',Fz W w'->K (.bool true) w'):jp P F.df [v0,.agg c1,.int .u64 a2] W K:=by
 obtain⟨l,hl⟩:=aws h0
 obtain⟨p,ls,lm,lu,ep,hp0,hpr,hpl⟩:=bkk h1
 rw[ep]
 apply M.ca.calls
 unfold M.ca
 refine St.qt (St.kl W) fun pb w1 S1=>?_
 have S1':St W w1 (ja pb (pkC p).toArray T.c :: []):=S1
 have pl:=fun K=>ud S1' K
 have hln: ∀w' K,biT P .len #[T.y] T.d [false] [v0] w' K=K (.int .i64 l.length) w':=fun w' K=>hl.jr (by kernel_rfl) [false]
 have ex: ∀{w'},Fz W w'->(ig P F.cm [] w' fun v w=>K v w):=fun f=>ake (St.kl _) fun w'' S''=>h w'' (f.trans S''.fr)
 by_cases n1:2000 < (l.length:Int)
 ·simp[hln,n1]
  exact ex S1'.fr
 simp[hln,n1,pl]
 refine axf (hp0.fr S1'.fr) fun b1 w3 hb1 f3=>?_
 have S3:=S1'.jv f3
 cases b1 with
 | false=>
  simp
  exact ex S3.fr
 | true=>
 simp
 unfold M.ca.j0
 refine awr ?_
 refine auf ?_
 refine ard ?_
 simp
 refine ars ?_
 have pl3:=fun K=>ud S3 K
 simp[pl3]
 refine arc S3 p fun w4 S4=>?_
 simp
 refine bdu ?_
 simp
 refine arb ?_
 simp
 refine axy ?_
 simp
 refine apk ?_
 simp
 refine bba ?_
 have wz:IntKind.i64.wrap 0=0:=by decide
 have wu:IntKind.u64.wrap 0=0:=by decide
 simp[wz]
 refine avo ?_
 simp
 refine aoe ?_
 simp[wu]
 exact ake S4 fun w5 S5=>h w5 S5.fr
end Go.Proofs.YtgepcfcicngceaaGreatDoor
