/-
  A ring: Make of a few points, Owner. No condition.
-/
import Derived.Test.YtgepcfcicngceaaGreatDoorZMs9
import Derived.Test.YtgepcfcicngceaaGreatDoorZEngSl
import Derived.Lib.Bytealg
import Derived.Test.YtgepcfcicngceaaGreatDoorZSgE
import Derived.Laws.Externs
import Derived.Test.YtgepcfcicngceaaGreatDoorZTim4
set_option maxRecDepth 100000
namespace Go.Proofs.YtgepcfcicngceaaGreatDoor.Ring
open Go.Eng Go.Proofs.YtgepcfcicngceaaGreatDoor
def aor:Int->List Int->Prop
 | _,[]=>True
 | a,x :: l=>a < x/\aor x l
def bmq(w0:World)(ids:List Int)(R:List Asn):KL:=fun x w1=> ∃(u:Value)(ke:Int)(i:Nat),x=[u,.slice none 0 0,.int .i64 0,.int .u64 ke,.int .i64 (i:Nat)]/\i<=ids.length/\aor ke (ids.drop i)/\St w0 w1 R
def MkO(w0:World)(ids:List Int)(n:Nat)(R:List Asn):KL:=fun x w1=> ∃(u0 u1 u2 u3 v:Value)(i:Nat),x=[u0,u1,u2,u3,v,.int .i64 (i:Nat)]/\i<=ids.length/\St w0 w1 (tt v (abg (ids.take i) n) :: R)
def MkN(w0:World)(pre:List Pnt)(id:Int)(n:Nat)(R:List Asn):KL:=fun x w1=> ∃(u v:Value)(j:Nat),x=[u,v,.int .i64 (j:Nat)]/\j<=n/\St w0 w1 (tt v (pre ++ (aaz id n).take j) :: R)
section
variable {w0 w : World} {R : List Asn}
theorem bcj{v:Value}{l:List Pnt}(S:St w0 w (tt v l :: R))(hn:l.length<=12)(hl:l≠[]){K:KV}(h: ∀w' l',ach l'->l'.Perm l->St w0 w' (tt v l' :: R)->K (.tuple #[]) w'):ie P F.ai [v,CF] w K:=by
 obtain⟨b,cap,cur,hv,_⟩:=S.aij (k:=0) (List.length_pos_iff.2 hl)
 subst hv
 exact beh S hn h
theorem bgk{v:Value}{ids:List Int}{n:Nat}(S:St w0 w R)(hs: ∀w' L,St w0 w' (L ++ R)->Sl w' 1 Suint64.rk v ids)(hr:aor 0 ids)(hn:1<=n/\n<=12)(hlen:ids.length * n<=12)(hl:ids≠[])(hl12:ids.length<=12){K:KV}(h: ∀w' v' l,ach l->l.Perm (abg ids n)->St w0 w' (tt v' l :: R)->K (.tuple #[v',.int .i64 0]) w'):ie P F.go [v,.int .i64 (n:Nat)] w K:=by
 rw[M.bm.fcall]
 apply M.bm.calls
 unfold M.bm
 have hln: ∀w' K,biT P .len #[T.g] T.d [false] [v] w' K=K (.int .i64 ids.length) w':=fun w' K=>(hs w [] S).jq (by kernel_rfl) [false]
 simp only[il,hln]
 refine⟨bmq w0 ids R,fun x _=>ids.length - ms x 4,⟨_,0,0,rfl,Nat.zero_le _,by simpa using hr,S⟩,?_⟩
 rintro x w1 ⟨u,ke,i,rfl,hi,hri,S1⟩
 have q4:gv [u,.slice none 0 0,.int .i64 0,.int .u64 ke,.int .i64 (i:Nat)] 4= .int .i64 (i:Nat):=rfl
 simp only[q4]
 by_cases hil:i < ids.length
 ·have hili:(i:Int) < ids.length:=by omega
  have hwi:IntKind.i64.wrap ((i:Int)+1)=((i+1:Nat):Int):=by rw[iy];rfl
  obtain⟨ab,ao,cap,hv,_,_,hc⟩:=(hs w1 [] S1).at hil
  have hia: ∀w' K,iaT P T.g v (.int .i64 (i:Nat)) w' K=K (.pointer (some ⟨ab,ao+i,none⟩)) w':=fun w' K=>by rw[hv];simp[hil]
  have hcell:ik w1 ab (ao+i)=some (.int .u64 ids[i]):=by simpa [Suint64.rk] using hc 0 _ rfl
  have hd:ids.drop i=ids[i] :: ids.drop (i+1):=List.drop_eq_getElem_cons hil
  rw[hd] at hri
  have hlt: ¬ids[i]<=ke:=by have:=hri.1;omega
  simp[hili]
  unfold M.bm.j2
  simp[hia,hcell,hlt,hwi]
  exact⟨⟨_,_,i+1,rfl,by omega,hri.2,S1⟩,by simp[ms,gv];omega⟩
 have hie:i=ids.length:=by omega
 subst hie
 simp
 unfold M.bm.j0
 have n1: ¬(n:Int) < 1:=by omega
 have n2: ¬(64:Int) < (n:Int):=by omega
 have n3: ¬(16:Int) < (ids.length:Int):=by omega
 simp[n1,n2]
 unfold M.bm.j6
 simp[hln,n3]
 unfold M.bm.j5
 simp only[il,hln]
 refine⟨MkO w0 ids n R,fun x _=>ids.length - ms x 5,⟨_,_,_,_,_,0,rfl,Nat.zero_le _,Go.Eng.yq S1⟩,?_⟩
 rintro x w2 ⟨u0,u1,u2,u3,rv,i,rfl,hi,S2⟩
 by_cases hil:i < ids.length
 ·have hili:(i:Int) < ids.length:=by omega
  have hwi:IntKind.i64.wrap ((i:Int)+1)=((i+1:Nat):Int):=by rw[iy];rfl
  obtain⟨ab,ao,cap,hv,_,_,hc⟩:=(hs w2 [_] S2).at hil
  have hia: ∀w' K,iaT P T.g v (.int .i64 (i:Nat)) w' K=K (.pointer (some ⟨ab,ao+i,none⟩)) w':=fun w' K=>by rw[hv];simp[hil]
  have hcell:ik w2 ab (ao+i)=some (.int .u64 ids[i]):=by simpa [Suint64.rk] using hc 0 _ rfl
  have htk:=axc (n:=n) hil
  have hpl:(abg (ids.take i) n).length+n<=1000:=by
   rw[aff,List.length_take,Nat.min_eq_left (by omega)]
   have:=Nat.mul_le_mul hi (Nat.le_refl n)
   omega
  generalize ids[i]=id at *
  simp[hili]
  unfold M.bm.j9
  simp[hia,hcell]
  refine⟨MkN w0 (abg (ids.take i) n) id n R,fun x _=>n - ms x 2,⟨_,_,0,rfl,Nat.zero_le _,by simpa using S2⟩,?_⟩
  rintro x w3 ⟨u,rv3,j,rfl,hj,S3⟩
  by_cases hjn:j < n
  ·have hjni:(j:Int) < n:=by omega
   have hwj:IntKind.i64.wrap ((j:Int)+1)=((j+1:Nat):Int):=by rw[iy];rfl
   simp[hjni]
   unfold M.bm.j12
   simp
   refine auv id (i:=j) (by omega) ?_
   simp[bjg ⟨atI id j,id⟩]
   have S4:St w0 (w3.alloc (.cells #[.int .u64 (atI id j),.int .u64 id] T.aq)) (tt (.slice (some ⟨w3.heap.size,0,none⟩) 1 1) [⟨atI id j,id⟩] :: _):=St.tz (l:=[(⟨atI id j,id⟩:Pnt)]) S3 wd rfl (by simp[maxLen])
   have htl:((aaz id n).take j).length<=n:=by rw[List.length_take,afq];omega
   refine Go.Eng.ul et.al wd anr S4.swap (S4.row wd) (by simp;omega) (by decide) fun w5 v5 S5=>?_
   simp[hwj]
   refine⟨⟨_,_,j+1,rfl,by omega,?_⟩,by simp[ms,gv];omega⟩
   rw[ays id hjn,<-List.append_assoc]
   exact S5.swap.drop
  ·have hje:j=n:=by omega
   subst hje
   simp[hwi]
   refine⟨⟨_,_,_,_,_,i+1,rfl,by omega,?_⟩,by simp[ms,gv];omega⟩
   rw[htk]
   have e:(aaz id j).take j=aaz id j:=List.take_of_length_le (by rw[afq];exact Nat.le_refl _)
   rw[e] at S3
   exact S3
 ·have hie:i=ids.length:=by omega
  subst hie
  rw[List.take_length] at S2
  simp
  have hpl:=aff ids n
  have hne:abg ids n≠[]:=fun e=>by
   rw[e] at hpl
   have h1:=List.length_pos_iff.2 hl
   have:=Nat.mul_pos h1 (show 0 < n by omega)
   simp at hpl
   omega
  refine bcj S2 (by rw[hpl];exact hlen) hne fun w3 l' a1 a2 S3=>?_
  exact h w3 rv l' a1 a2 S3
def BsI(w0:World)(l:List Pnt)(n:Int)(R:List Asn):KL:=fun x w1=> ∃(u:Value)(i j:Nat),x=[u,.int .i64 (i:Nat),.int .i64 (j:Nat)]/\i<=j/\j<=l.length/\(∀k (hk:k < l.length),k < i->l[k].at' < n)/\(∀k (hk:k < l.length),j<=k->n<=l[k].at')/\St w0 w1 R
theorem azi{x:Pnt}{n:Int}(S:St w0 w R){K:KV}(h: ∀w',St w0 w' R->K (.int .i64 (ws x.at' n)) w'):ku P (.func (.func F.gg) #[] #[]) [wy x,.int .u64 n] w K:=by
 rw[M.fv.rcall]
 apply M.fv.calls
 unfold M.fv wy
 refine St.sm S fun b w1 S1=>?_
 have c0:ik w1 b 0=some (.int .u64 x.at'):=by rw[S1.cell];rfl
 simp[c0]
 exact aiw _ _ (h w1 S1.drop)
theorem axi{l:List Pnt}(h:ach l){i j:Nat}(hij:i<=j)(hj:j < l.length):(l[i]'(by omega)).at'<=l[j].at':=by
 by_cases he:i=j
 ·subst he;exact Int.le_refl _
 ·have:=List.pairwise_iff_getElem.1 h i j (by omega) hj (by omega)
  unfold leS at this
  omega
theorem blu{v:Value}{l:List Pnt}(S:St w0 w R)(hs: ∀w' L,St w0 w' (L ++ R)->awa w' v l)(hl:l.length<=100000)(ha:ach l)(n:Int){K:KV}
  (h: ∀w' (i:Nat) bb,i<=l.length->(∀k (hk:k < l.length),k < i->l[k].at' < n)->(∀k (hk:k < l.length),i<=k->n<=l[k].at')->St w0 w' R->K (.tuple #[.int .i64 (i:Nat),.bool bb]) w'):ie P F.w [v,.int .u64 n,.func (.func F.gg) #[] #[]] w K:=by
 rw[M.d.fcall]
 apply M.d.calls
 unfold M.d
 have hln: ∀w' K,biT P .len #[T.al] T.d [false] [v] w' K=K (.int .i64 l.length) w':=fun w' K=>(hs w [] S).jq (by kernel_rfl) [false]
 simp only[il,hln]
 refine⟨BsI w0 l n R,fun x _=>ms x 2 - ms x 1,⟨_,0,l.length,rfl,Nat.zero_le _,Nat.le_refl _,fun _ _ h=>by omega,fun _ _ h=>by omega,S⟩,?_⟩
 rintro x w1 ⟨u,i,j,rfl,hij,hj,hlo,hhi,S1⟩
 have ia: ∀(k:Nat),k < l.length->∃ab ao,(∀w' K,iaT P T.al v (.int .i64 (k:Nat)) w' K=K (.pointer (some ⟨ab,ao+k * 2,none⟩)) w')/\∀(hk:k < l.length) K,ldN P 2 ab (ao+k * 2) w1 K=K (wy l[k]) w1:=fun k hk=>by
  obtain⟨ab,ao,cap,hv,_,_,hc⟩:=(hs w1 [] S1).at hk
  exact⟨ab,ao,fun w' K=>by rw[hv];simp[hk],fun _ K=>su (xr l[k]) 2 rfl hc K⟩
 by_cases hlt:i < j
 ·have hlti:(i:Int) < j:=by omega
  simp[hlti]
  unfold M.d.j2
  have hm:(i+j) / 2 < l.length:=by omega
  have w1':IntKind.i64.wrap ((i:Int)+(j:Int))=((i+j:Nat):Int):=by rw[iy];rfl
  have w2':IntKind.u64.wrap ((i+j:Nat):Int)=((i+j:Nat):Int):=lr (by omega) (by omega)
  have c1: ∀w K,cvT P T.d T.bs (.int .i64 ((i+j:Nat):Int)) w K=K (.int .u64 ((i+j:Nat):Int)) w:=fun w K=>by rw[ou (ks:= .i64) (kd:= .u64) (by kernel_rfl) (by kernel_rfl),w2']
  have hsh: ∀(rx ry:Operand)(w:World)(K:KV),ip P .shr T.bs rx ry (.int .u64 ((i+j:Nat):Int)) (.int .u64 1) w K=K (.int .u64 (((i+j) / 2:Nat):Int)) w:=fun rx ry w K=>by
   rw[abu (by omega)]
   have e:((i+j:Nat):Int).fdiv (2 ^ min (1:Int).toNat IntKind.u64.bits)=(((i+j) / 2:Nat):Int):=by
    show ((i+j:Nat):Int).fdiv 2=_
    rw[Int.fdiv_eq_ediv_of_nonneg _ (by omega)]
    omega
   rw[e]
  have c2: ∀w K,cvT P T.bs T.d (.int .u64 (((i+j) / 2:Nat):Int)) w K=K (.int .i64 (((i+j) / 2:Nat):Int)) w:=fun w K=>by rw[ou (ks:= .u64) (kd:= .i64) (by kernel_rfl) (by kernel_rfl),iy]
  obtain⟨ab,ao,e1,e2⟩:=ia _ hm
  have e2:=e2 hm
  have g1:gv [u,Value.int .i64 (i:Nat),.int .i64 (j:Nat)] 1= .int .i64 (i:Nat):=rfl
  have g2:gv [u,Value.int .i64 (i:Nat),.int .i64 (j:Nat)] 2= .int .i64 (j:Nat):=rfl
  simp only[g1,g2,lx,w1',c1,hsh,c2,e1]
  generalize hmm:(i+j) / 2=m at *
  simp[e2]
  refine azi S1 fun w2 S2=>?_
  have hwm:IntKind.i64.wrap ((m:Int)+1)=((m+1:Nat):Int):=by rw[iy];rfl
  by_cases hc:l[m].at' < n
  ·have hc':ws l[m].at' n < 0:=by unfold ws;rw[if_pos hc];decide
   simp[hc',hwm]
   refine⟨⟨_,m+1,j,rfl,by omega,hj,fun k hk hkm=>?_,hhi,S2⟩,by simp[ms,gv];omega⟩
   have:=axi ha (i:=k) (j:=m) (by omega) hm
   omega
  ·have hc': ¬ws l[m].at' n < 0:=by
    unfold ws
    rw[if_neg hc]
    split <;>decide
   simp[hc']
   refine⟨⟨_,i,m,rfl,by omega,by omega,hlo,fun k hk hkm=>?_,S2⟩,by simp[ms,gv];omega⟩
   have:=axi ha (i:=m) (j:=k) hkm hk
   omega
 ·have hie:i=j:=by omega
  subst hie
  simp
  unfold M.d.j0
  by_cases hil:i < l.length
  ·have hili:(i:Int) < l.length:=by omega
   obtain⟨ab,ao,e1,e2⟩:=ia _ hil
   have e2:=e2 hil
   simp[hili,e1,e2]
   refine azi S1 fun w2 S2=>?_
   simp
   exact h w2 i _ hj hlo hhi S2
  ·have hili: ¬(i:Int) < l.length:=by omega
   simp[hili]
   exact h w1 i _ hj hlo hhi S1
def aem(l:List Pnt)(n:Int):Int:=((l.getD ((l.filter fun p=>decide (p.at' < n)).length % l.length) ⟨0,0⟩)).id
theorem bcd{l:List Pnt}{n:Int}{i:Nat}(hi:i<=l.length)(h1: ∀k (hk:k < l.length),k < i->l[k].at' < n)(h2: ∀k (hk:k < l.length),i<=k->n<=l[k].at'):(l.filter fun p=>decide (p.at' < n)).length=i:=by
 have e:l=l.take i ++ l.drop i:=(List.take_append_drop i l).symm
 rw[e,List.filter_append,List.length_append]
 have a1:(l.take i).filter (fun p=>decide (p.at' < n))=l.take i:=by
  rw[List.filter_eq_self]
  intro p hp
  obtain⟨k,hk,rfl⟩:=List.mem_iff_getElem.1 hp
  rw[List.length_take] at hk
  rw[List.getElem_take]
  exact decide_eq_true (h1 k (by omega) (by omega))
 have a2:(l.drop i).filter (fun p=>decide (p.at' < n))=[]:=by
  rw[List.filter_eq_nil_iff]
  intro p hp
  obtain⟨k,hk,rfl⟩:=List.mem_iff_getElem.1 hp
  rw[List.length_drop] at hk
  rw[List.getElem_drop]
  have:=h2 (i+k) (by omega) (by omega)
  simp
  try omega
 rw[a1,a2,List.length_take]
 simp
 try omega
theorem bcu{v:Value}{l:List Pnt}(S:St w0 w R)(hs: ∀w' L,St w0 w' (L ++ R)->awa w' v l)(hl:l.length<=100000)(hne:l≠[])(ha:ach l)(t:Int){K:KV}(h: ∀w',St w0 w' R->K (.int .u64 (aem l (ajb t))) w'):ie P F.gj [v,.int .u64 t] w K:=by
 have hpos:=List.length_pos_iff.2 hne
 rw[M.fk.fcall]
 apply M.fk.calls
 unfold M.fk
 refine aqi t ?_
 rw[M.fo.fcall]
 apply M.fo.calls
 unfold M.fo
 have hln: ∀w' K,biT P .len #[T.al] T.d [false] [v] w' K=K (.int .i64 l.length) w':=fun w' K=>(hs w [] S).jq (by kernel_rfl) [false]
 have h0: ¬(l.length:Int)=0:=by omega
 simp[hln,h0,hne]
 unfold M.fo.j0
 refine blu S hs hl ha (ajb t) fun w1 i bb hi h1 h2 S1=>?_
 have hf:=bcd hi h1 h2
 have hrem:(i:Int).tmod (l.length:Int)=((i % l.length:Nat):Int):=by
  rw[<-Int.ofNat_tmod]
 have hm:i % l.length < l.length:=Nat.mod_lt _ hpos
 have hown:aem l (ajb t)=l[i % l.length].id:=by
  unfold aem
  rw[hf,List.getD_eq_getElem?_getD,List.getElem?_eq_getElem hm]
  rfl
 rw[hown] at h
 generalize i % l.length=m at *
 obtain⟨ab,ao,cap,hv,_,_,hc⟩:=(hs w1 [] S1).at hm
 have hia: ∀w' K,iaT P T.al v (.int .i64 (m:Nat)) w' K=K (.pointer (some ⟨ab,ao+m * 2,none⟩)) w':=fun w' K=>by rw[hv];simp[hm]
 have hcell:ik w1 ab (ao+m * 2+1)=some (.int .u64 l[m].id):=by simpa [xr] using hc 1 _ rfl
 simp only[aap,aau,hln,asv h0,hrem,hia]
 simp[hcell]
 exact h w1 S1
theorem axw{l:List Pnt}{id:Int}(h: ∀p∈l,p.id=id)(hne:l≠[])(n:Int):aem l n=id:=by
 unfold aem
 have hm:(l.filter fun p=>decide (p.at' < n)).length % l.length < l.length:=Nat.mod_lt _ (List.length_pos_iff.2 hne)
 rw[List.getD_eq_getElem?_getD,List.getElem?_eq_getElem hm]
 exact h _ (List.getElem_mem hm)
end
end Go.Proofs.YtgepcfcicngceaaGreatDoor.Ring
set_option maxRecDepth 100000
namespace Go.Proofs.YtgepcfcicngceaaGreatDoor
open Go.Eng Go.Proofs.YtgepcfcicngceaaGreatDoor.Sint
def avh(w0:World)(R:List Asn)(fv:Value)(pf:Spn->Bool):Prop:= ∀w' L x (K:KV),St w0 w' (L ++ R)->(∀w'',Fz w' w''->K (.bool (pf x)) w'')->ku P fv [li x] w' K
section
variable {w0 w : World} {R : List Asn} {v fv : Value} {l : List Spn} {pf : Spn → Bool}
def bnd(w0:World)(l:List Spn)(pf:Spn->Bool)(R:List Asn):KL:=fun x w1=> ∃(i:Nat),gv x 2= .int .i64 (i:Nat)/\i<=l.length/\(∀j (h:j < l.length),j < i->pf l[j]=false)/\St w0 w1 R
theorem ayj(S:St w0 w R)(hs: ∀w' L,St w0 w' (L ++ R)->SlS w' v l)(hf:avh w0 R fv pf)(hl:l.length<=1000000){K:KV}
  (hno:(∀x∈l,pf x=false)->∀w',St w0 w' R->K (.int .i64 (-1)) w')
  (hyes: ∀i (hi:i < l.length),pf l[i]=true->(∀j (h:j < l.length),j < i->pf l[j]=false)->∀w',St w0 w' R->K (.int .i64 (i:Nat)) w'):ie P F.az [v,fv] w K:=by
 rw[M.l.fcall]
 apply M.l.calls
 unfold M.l
 have hlen: ∀w' K,biT P .len #[T.h] T.d [false] [v] w' K=K (.int .i64 l.length) w':=fun w' K=>(hs w [] S).jq (by kernel_rfl) [false]
 simp[hlen]
 refine⟨bnd w0 l pf R,fun x _=>l.length - ms x 2,⟨0,rfl,Nat.zero_le _,fun j _ h=>by omega,S⟩,?_⟩
 rintro x w1 ⟨i,e2,hi,hpre,S1⟩
 rw[e2]
 by_cases hil:i < l.length
 ·have hwi:IntKind.i64.wrap ((i:Int)+1)=((i+1:Nat):Int):=by rw[iy];rfl
  simp[hil]
  unfold M.l.j2
  rw[e2]
  obtain⟨ab,ao,cap,hv,_,_,hc⟩:=(hs w1 [] S1).at hil
  have hia: ∀w' K,iaT P T.h v (.int .i64 (i:Nat)) w' K=K (.pointer (some ⟨ab,ao+i * 8,none⟩)) w':=fun w' K=>by rw[hv];simp[hil]
  have hld: ∀K,ldN P 8 ab (ao+i * 8) w1 K=K (li l[i]) w1:=fun K=>su (jr l[i]) 8 rfl hc K
  simp[hia,hld]
  refine hf w1 [] l[i] _ S1 fun w2 f2=>?_
  have S2:=S1.ju f2
  cases hp:pf l[i] with
  | true=>
   simp
   exact hyes i hil hp hpre w2 S2
  | false=>
   simp
   rw[hwi]
   refine⟨⟨i+1,rfl,by omega,fun j h hj=>?_,S2⟩,?_⟩
   ·by_cases hji:j=i
    ·subst hji;exact hp
    ·exact hpre j h (by omega)
   ·have:ms x 2=i:=by unfold ms;rw[e2];simp
    rw[this]
    simp[ms,gv];omega
 ·have hie:i=l.length:=by omega
  subst hie
  simp
  refine hno (fun y hy=>?_) w1 S1
  obtain⟨j,hj,rfl⟩:=List.getElem_of_mem hy
  exact hpre j hj hj
end
set_option maxRecDepth 100000
structure Rul where
 jf:Bool
 lc:ByteArray
 num:Int
 bip:ByteArray
def kz(r:Rul):List Value:=[.bool r.jf,.string r.lc,.int .u64 r.num,.string r.bip]
theorem wj(r:Rul):(kz r).length=4:=rfl
theorem ada(r:Rul): ∀u∈kz r,kt u=true:=fun u hu=>by
 simp[kz] at hu
 rcases hu with rfl|rfl|rfl|rfl <;>rfl
def ts(r:Rul):Value:= .agg #[.bool r.jf,.string r.lc,.int .u64 r.num,.string r.bip]
abbrev ajw(v:Value)(l:List Rul):Asn:=pc T.p 4 kz v l
abbrev sx:ByteArray:=⟨#[102,97,105,108]⟩
abbrev bcg:ByteArray:=⟨#[97,108,119,97,121,115]⟩
def jx:Rul:=⟨true,sx,0,⟨#[]⟩⟩
theorem arx:(sx.toList == bcg.toList)=false:=by decide+kernel
theorem amv:(sx.toList == sx.toList)=true:=by decide+kernel
theorem bhy:((⟨#[]⟩:ByteArray).toList == (⟨#[]⟩:ByteArray).toList)=true:=by decide+kernel
theorem ant{w:World}{K:KV}(h:K (.tuple #[.int .i64 1,.int .u64 0,.int .u64 0]) w):ie P F.fn [.string sx] w K:=by
 rw[M.em.fcall]
 apply M.em.calls
 unfold M.em
 simp only[il,sn,arx,amv,ig]
 unfold M.em.j1
 simp only[ig]
 exact h
section
variable {w0 w : World} {R : List Asn} {v fv : Value} {l : List Spn} {pf : Spn → Bool}
theorem ain(S:St w0 w R){K:KV}(h: ∀w',St w0 w' R->K (.bool true) w'):ie P F.dc [ts jx] w K:=by
 rw[M.cq.fcall]
 apply M.cq.calls
 unfold M.cq ts jx
 refine St.sm S fun b w1 S1=>?_
 have c1:ik w1 b 1=some (.string sx):=by rw[S1.cell];rfl
 have c2:ik w1 b 2=some (.int .u64 0):=by rw[S1.cell];rfl
 have c3:ik w1 b 3=some (.string ⟨#[]⟩):=by rw[S1.cell];rfl
 simp[c1]
 refine ant ?_
 simp
 unfold M.cq.j0
 simp[c2,c3,sn,bhy]
 exact h w1 S1.drop
theorem aow(S:St w0 w R)(hs: ∀w' L,St w0 w' (L ++ R)->SlS w' v l)(hf:avh w0 R fv pf)(hl:l.length<=1000000){K:KV}(h: ∀w',St w0 w' R->K (.bool (l.any pf)) w'):ie P F.o [v,fv] w K:=by
 rw[M.aa.fcall]
 apply M.aa.calls
 unfold M.aa
 refine ayj S hs hf hl (fun hno w' S'=>?_) fun i hi hyes hpre w' S'=>?_
 ·have e:l.any pf=false:=by
   rw[List.any_eq_false]
   intro x hx
   rw[hno x hx];simp
  rw[e] at h
  simp
  exact h w' S'
 ·have e:l.any pf=true:=by
   rw[List.any_eq_true]
   exact⟨l[i],List.getElem_mem hi,hyes⟩
  rw[e] at h
  have hi0:(0:Int)<=(i:Int):=by omega
  simp[hi0]
  exact h w' S'
theorem ayq:avh w0 R (.func (.func F.eh) #[] #[]) Spn.ol:=fun w' L x K S' hK=>by
 rw[M.ew.rcall]
 apply M.ew.calls
 unfold M.ew li
 have S0:=St.kl w'
 refine St.sm S0 fun b w1 S1=>?_
 have c7:ik w1 b 7=some (.bool x.ol):=by rw[S1.cell];rfl
 simp[c7]
 exact hK w1 S1.fr
def aoq(l:List Spn):Int:=if l=[] then 0 else if l.any Spn.ol then 1 else 2
theorem aus(S:St w0 w R)(hs: ∀w' L,St w0 w' (L ++ R)->SlS w' v l)(hl:l.length<=1000000)(hne:l≠[]){K:KV}(h: ∀w',St w0 w' R->K (.bool (l.any Spn.ol)) w'):ie P F.fz [ts jx,v] w K:=by
 rw[M.dt.fcall]
 apply M.dt.calls
 unfold M.dt
 have hlen: ∀w' K,biT P .len #[T.h] T.d [false] [v] w' K=K (.int .i64 l.length) w':=fun w' K=>(hs w [] S).jq (by kernel_rfl) [false]
 obtain⟨a,cap,hv,_⟩:=hs w [] S
 rw[show ts jx= .agg (kz jx).toArray from rfl]
 refine St.sm S fun b w1 S1=>?_
 rw[tw]
 have hvc:v.cells= #[v]:=by rw[hv];rfl
 have S2:St w0 (w1.alloc (.cells #[v] T.h)) (iz w1.heap.size #[v] T.h :: iz b (kz jx).toArray T.p :: R):=S1.mkB #[v] T.h
 rw[hvc]
 generalize w1.heap.size=vb at *
 generalize w1.alloc _=w2 at *
 have ld4: ∀{w':World}{L:List Asn},St w0 w' (iz b (kz jx).toArray T.p :: L)->∀K,ldN P 4 b 0 w' K=K (ts jx) w':=fun S' K=>S'.ldA (n:=4) (i:=0) (kz jx) rfl rfl K
 simp[ld4 S2.swap]
 refine ain S2 fun w3 S3=>?_
 have c0:ik w3 vb 0=some v:=by rw[S3.cell];rfl
 have h0: ¬(l.length:Int)=0:=by have:=List.length_pos_iff.2 hne;omega
 simp[c0,hlen,h0,hne]
 unfold M.dt.j0
 have c1:ik w3 b 1=some (.string sx):=by rw[S3.swap.cell];rfl
 simp only[il,aaj]
 simp[c1,sn,amv]
 have hc:=ajd (P:=P) FN.cq.at (by kernel_rfl) (by kernel_rfl) [] [.pointer (some ⟨vb,0,none⟩)] [.func (.func F.eh) #[] #[]] w3
 simp only[List.nil_append,List.cons_append] at hc
 rw[show (#[.pointer (some ⟨vb,0,none⟩)]:Array Value)=[Value.pointer (some ⟨vb,0,none⟩)].toArray from rfl,show (#[]:Array Value)=([]:List Value).toArray from rfl] at *
 rw[hc]
 apply M.fr.calls
 unfold M.fr
 simp[c0]
 exact aow S3 (fun w' L S'=>hs w' (L ++ [_,_]) (by simpa using S')) ayq hl fun w' S'=>h w' S'.drop.drop
end
section
variable {w0 w : World} {R : List Asn} {v rv : Value} {l : List Spn}
theorem bcb(S:St w0 w R)(hr: ∀w' L,St w0 w' (L ++ R)->Sl w' 4 kz rv [jx])(hs: ∀w' L,St w0 w' (L ++ R)->SlS w' v l)(hl:l.length<=1000000){K:KV}(h: ∀w',St w0 w' R->K (.int .i64 (aoq l)) w'):ie P F.gd [rv,v] w K:=by
 rw[M.ek.fcall]
 apply M.ek.calls
 unfold M.ek
 have hlen: ∀w' K,biT P .len #[T.h] T.d [false] [v] w' K=K (.int .i64 l.length) w':=fun w' K=>(hs w [] S).jq (by kernel_rfl) [false]
 obtain⟨a,cap,hv,_⟩:=hs w [] S
 have hvc:v.cells= #[v]:=by rw[hv];rfl
 rw[tw,hvc]
 have S2:St w0 (w.alloc (.cells #[v] T.h)) (iz w.heap.size #[v] T.h :: R):=S.mkB #[v] T.h
 generalize w.heap.size=vb at *
 generalize w.alloc _=w2 at *
 have c0: ∀{w':World}{L:List Asn},St w0 w' (iz vb #[v] T.h :: L)->ik w' vb 0=some v:=fun S'=>by rw[S'.cell];rfl
 by_cases hne:l=[]
 ·subst hne
  simp[c0 S2,hlen]
  exact h w2 S2.drop
 ·have h0: ¬(l.length:Int)=0:=by have:=List.length_pos_iff.2 hne;omega
  simp[c0 S2,hlen,h0,hne]
  unfold M.ek.j0
  rw[aaj,M.t.fcall]
  apply M.t.calls
  unfold M.t
  have hlr: ∀w' K,biT P .len #[T.ab] T.d [false] [rv] w' K=K (.int .i64 1) w':=fun w' K=>(hr w2 [_] S2).jq (by kernel_rfl) [false]
  simp only[il,hlr]
  refine⟨fun x w1=> ∃(i:Nat),gv x 2= .int .i64 (i:Nat)/\i<=1/\(i=1->l.any Spn.ol=false)/\St w0 w1 (iz vb #[v] T.h :: R),fun x _=>1 - ms x 2,⟨0,rfl,Nat.zero_le _,fun h=>by omega,S2⟩,?_⟩
  rintro x w3 ⟨i,x2,hi,hany,S3⟩
  rw[x2]
  by_cases hi0:i=0
  ·subst hi0
   simp
   unfold M.t.j2
   rw[x2]
   obtain⟨ab,ao,cap,hrv,_,_,hc⟩:=(hr w3 [_] S3).at (i:=0) (by simp)
   have hia: ∀w' K,iaT P T.ab rv (.int .i64 ((0:Nat):Int)) w' K=K (.pointer (some ⟨ab,ao,none⟩)) w':=fun w' K=>by rw[hrv];simp
   have hld: ∀K,ldN P 4 ab ao w3 K=K (ts jx) w3:=fun K=>su (kz jx) 4 rfl (fun k u hk=>by have:=hc k u hk;simpa using this) K
   simp only[il,hia]
   simp[hld]
   have hcl:=fun K=>ajd (P:=P) FN.cz.at (by kernel_rfl) (by kernel_rfl) [] [.pointer (some ⟨vb,0,none⟩)] [ts jx] w3 K
   simp only[List.nil_append,List.cons_append] at hcl
   rw[hcl]
   apply M.fs.calls
   unfold M.fs
   rw[show ts jx= .agg (kz jx).toArray from rfl]
   refine St.sm S3 fun b w4 S4=>?_
   have ld4: ∀K,ldN P 4 b 0 w4 K=K (ts jx) w4:=fun K=>S4.ldA (n:=4) (i:=0) (kz jx) rfl rfl K
   simp[ld4,c0 S4.swap]
   refine aus S4 (fun w' L S'=>hs w' (L ++ [_,_]) (by simpa using S')) hl hne fun w5 S5=>?_
   have S6:=S5.drop
   cases ha:l.any Spn.ol with
   | true=>
    have hw:=h w5 S6.drop
    unfold aoq at hw
    rw[if_neg hne,ha] at hw
    have ck:ik w5 ab ao=some (.bool true):=by
     obtain⟨ab',ao',cap',hrv',_,_,hc'⟩:=(hr w5 [_] S6).at (i:=0) (by simp)
     rw[hrv] at hrv'
     injection hrv' with e1 _ _
     injection e1 with e1
     injection e1 with e1 e2 _
     subst e1 e2
     have:=hc' 0 _ rfl
     simpa [jx] using this
    have hia0: ∀w' K,iaT P T.ab rv (.int .i64 0) w' K=K (.pointer (some ⟨ab,ao,none⟩)) w':=hia
    simp[hia0,ck]
    exact hw
   | false=>
    simp
    exact⟨⟨1,rfl,Nat.le_refl _,fun _=>by simpa using ha,S6⟩,by simp[ms,gv,x2,show IntKind.i64.wrap 1=1 from by decide]⟩
  ·have hi1:i=1:=by omega
   subst hi1
   simp
   have hw:=h w3 S3.drop
   unfold aoq at hw
   rw[if_neg hne,hany rfl] at hw
   exact hw
end
abbrev aay:ByteArray:=⟨#[107,101,101,112]⟩
abbrev kw:ByteArray:=⟨#[107,101,101,112,32,102,97,105,108]⟩
section
variable {w0 w : World} {R : List Asn}
theorem azq(c:UInt8)(w:World)(K:KV):ixT P T.l (.string ⟨#[c]⟩) (.int .i64 0) w K=K (.int .u8 (c.toNat:Nat)) w:=arq (⟨#[c]⟩:ByteArray) (i:=0) (Nat.lt_succ_self 0) w K
theorem bji(s:ByteArray)(c:UInt8){K:KV}(h:K (.int .i64 (Lib.countByte s.data.toList c:Nat)) w):ie P F.ah [.string s,.int .u8 (c.toNat:Nat)] w K:=by
 unfold ie ky
 rw[run_callFunc_extern (e:=Extern.BytealgCount.count) FN.ah.at (by kernel_rfl) (by kernel_rfl) (by kernel_rfl) (by kernel_rfl)]
 have hr:=Lib.run_countString (P:=P) s (c.toNat:Int) w
 rw[show ((c.toNat:Int).toNat.toUInt8)=c from by simp] at hr
 rw[show [Value.string s,.int .u8 ((c.toNat:Nat):Int)].toArray= #[.string s,.int .u8 (c.toNat:Int)] from rfl,hr]
 exact h
theorem biu(s:ByteArray)(c:UInt8){K:KV}(h:K (.int .i64 (Lib.indexByte s.data.toList c)) w):ie P F.x [.string s,.int .u8 (c.toNat:Nat)] w K:=by
 unfold ie ky
 rw[run_callFunc_extern (e:=Extern.BytealgIndexByte.indexByte) FN.x.at (by kernel_rfl) (by kernel_rfl) (by kernel_rfl) (by kernel_rfl)]
 have hr:=Lib.run_indexByteString (P:=P) s (c.toNat:Int) w
 rw[show ((c.toNat:Int).toNat.toUInt8)=c from by simp] at hr
 rw[show [Value.string s,.int .u8 ((c.toNat:Nat):Int)].toArray= #[.string s,.int .u8 (c.toNat:Int)] from rfl,hr]
 exact h
theorem aes(c:UInt8):(⟨#[c]⟩:ByteArray).size=1:=rfl
theorem anf(s:ByteArray)(c:UInt8){K:KV}(h:K (.int .i64 (Lib.countByte s.data.toList c:Nat)) w):ie P F.ep [.string s,.string ⟨#[c]⟩] w K:=by
 rw[M.ch.fcall]
 apply M.ch.calls
 unfold M.ch
 simp[aes]
 unfold M.ch.j0
 simp[aes,azq]
 exact bji s c h
theorem amw(s:ByteArray)(c:UInt8)(hne:((⟨#[c]⟩:ByteArray).toList == s.toList)=false){K:KV}(h:K (.int .i64 (Lib.indexByte s.data.toList c)) w):ie P F.dm [.string s,.string ⟨#[c]⟩] w K:=by
 rw[M.ex.fcall]
 apply M.ex.calls
 unfold M.ex
 rw[M.q.fcall]
 apply M.q.calls
 unfold M.q
 simp[aes,azq]
 simp only[sn,hne,ig]
 rw[M.br.fcall]
 apply M.br.calls
 unfold M.br
 exact biu s c h
theorem bna(w:World)(K:KV):aqy P T.bf (.int .i64 2) (.int .i64 2) w K=K (.slice (some ⟨w.heap.size,0,none⟩) 2 2) (w.alloc (.cells #[.string ⟨#[]⟩,.string ⟨#[]⟩] T.l)):=kr
theorem ayv(S:St w0 w R){K:KV}(h: ∀w' g,St w0 w' (iz g #[.string aay,.string sx] T.l :: R)->K (.slice (some ⟨g,0,none⟩) 2 2) w'):ie P F.fp [.string kw,.string ⟨#[32]⟩] w K:=by
 rw[M.ey.fcall]
 apply M.ey.calls
 unfold M.ey
 rw[M.aj.fcall]
 apply M.aj.calls
 unfold M.aj
 have e1:((⟨#[32]⟩:ByteArray).toList == (⟨#[]⟩:ByteArray).toList)=false:=by decide+kernel
 simp only[sn,e1]
 simp
 unfold M.aj.j1
 simp
 refine anf kw 32 ?_
 have ec:Lib.countByte kw.data.toList 32=1:=by decide
 rw[ec]
 have w2:IntKind.i64.wrap 2=2:=by decide
 simp[w2]
 unfold M.aj.j2
 have w10:IntKind.i64.wrap ((kw.size:Int)+1)=10:=by decide
 have w21:IntKind.i64.wrap (2 - 1)=1:=by decide
 have m2: ∀w' K',biT P .min #[T.d,T.d] T.d [false,false] [.int .i64 2,.int .i64 10] w' K'=K' (.int .i64 2) w':=fun w' K'=>by rw[aiu];rfl
 simp[w10,m2,bna,w21]
 have S1:=S.mkB #[.string ⟨#[]⟩,.string ⟨#[]⟩] T.l
 generalize w.heap.size=g at *
 generalize w.alloc _=w1 at *
 refine⟨fun x w'=>(x=[undef,.string kw,.int .i64 0]/\St w0 w' (iz g #[.string ⟨#[]⟩,.string ⟨#[]⟩] T.l :: R))\/(∃u,x=[u,.string sx,.int .i64 1]/\St w0 w' (iz g #[.string aay,.string ⟨#[]⟩] T.l :: R)),fun x _=>1 - ms x 2,.inl ⟨rfl,S1⟩,?_⟩
 rintro x w2' (⟨rfl,S2⟩|⟨u,rfl,S2⟩)
 ·simp
  unfold M.aj.j5
  refine amw kw 32 (by decide+kernel) ?_
  have ei:Lib.indexByte kw.data.toList 32=4:=by decide
  rw[ei]
  simp
  unfold M.aj.j6
  have w4:IntKind.i64.wrap 4=4:=by decide
  have w5:IntKind.i64.wrap 5=5:=by decide
  have s1: ∀w' K',slT P T.l (.string kw) none (some (.int .i64 4)) none w' K'=K' (.string aay) w':=fun w' K'=>by
   show slT P T.l (.string kw) none (some (.int .i64 ((4:Nat):Int))) none w' K'=_
   rw[ahh (i:=0) (j:=4) (by kernel_rfl) (.inl ⟨rfl,rfl⟩) (.inr ⟨_,rfl⟩) (by decide) (by decide)]
   rw[show kw.extract 0 4=aay from by decide+kernel]
  have s2: ∀w' K',slT P T.l (.string kw) (some (.int .i64 5)) none none w' K'=K' (.string sx) w':=fun w' K'=>by
   show slT P T.l (.string kw) (some (.int .i64 ((5:Nat):Int))) none none w' K'=_
   rw[ahh (i:=5) (j:=9) (by kernel_rfl) (.inr ⟨_,rfl⟩) (.inl ⟨rfl,rfl⟩) (by decide) (by decide)]
   rw[show kw.extract 5 9=sx from by decide+kernel]
  simp[w4,w5,s1,s2,aes]
  refine St.nj S2 rfl (by simp) fun w3 S3=>?_
  have w1:IntKind.i64.wrap 1=1:=by decide
  exact⟨⟨w1,S3⟩,by simp[ms,gv,w1]⟩
 ·simp
  refine St.nj S2 rfl (by simp) fun w3 S3=>?_
  have S4:St w0 w3 (iz g #[.string aay,.string sx] T.l :: R):=S3
  have s3: ∀w' K',slT P T.bf (.slice (some ⟨g,0,none⟩) 2 2) none (some (.int .i64 2)) none w' K'=K' (.slice (some ⟨g,0,none⟩) 2 2) w':=fun w' K'=>by
   rw[avs (by kernel_rfl) (by decide) (by decide)]
   rfl
  simp[w2,s3]
  exact h w3 g S4
end
section
variable {w0 w : World} {R : List Asn}
theorem ane:(aay.toList == aay.toList)=true:=by decide+kernel
abbrev ruB(b:Nat)(r:Rul):Asn:=iz b (kz r).toArray T.p
theorem bed{b:Nat}{r:Rul}(S:St w0 w (ruB b r :: R)){K:KV}(h: ∀w',St w0 w' (ruB b r :: R)->K (ts r) w'):
  stN P b 0 (kz r) w fun _ w=>ng P T.p (.pointer (some ⟨b,0,none⟩)) w fun r0 w'=>w'=w/\K r0 w:=by
 refine St.put (vs:=kz r) (cs':=(kz r).toArray) S (ada r) (by simp[kz]) (by simp[kz]) fun w' S'=>?_
 have hres: ∀w' K,ng P T.p (.pointer (some ⟨b,0,none⟩)) w' K=ldN P 4 b 0 w' K:=fun w' K=>kr
 have ld4: ∀K,ldN P 4 b 0 w' K=K (ts r) w':=fun K=>S'.ldA (n:=4) (i:=0) (kz r) rfl rfl K
 rw[hres,ld4]
 exact⟨rfl,h w' S'⟩
theorem bdm(S:St w0 w R){K:KV}(h: ∀w',St w0 w' R->K (.tuple #[ts jx,.bool true]) w'):ie P F.gb [.string kw] w K:=by
 rw[M.dh.fcall]
 apply M.dh.calls
 unfold M.dh
 have S1:St w0 (w.alloc (.cells #[.bool false,.string ⟨#[]⟩,.int .u64 0,.string ⟨#[]⟩] T.p)) (ruB w.heap.size ⟨false,⟨#[]⟩,0,⟨#[]⟩⟩ :: R):=S.mkB _ _
 simp
 generalize w.heap.size=rb at *
 generalize w.alloc _=w1 at *
 refine ayv S1 fun w2 g S2=>?_
 have c0:ik w2 g 0=some (.string aay):=by rw[S2.cell];rfl
 have c1:ik w2 g 1=some (.string sx):=by rw[S2.cell];rfl
 simp[c0]
 simp only[bbv,ane]
 simp
 unfold M.dh.j0
 simp[c0,c1]
 simp only[sn,ane]
 simp
 have S3:=S2.swap.ju ((Fr.refl _ w2).dr 1)
 refine St.put (vs:=kz jx) (cs':=(kz jx).toArray) S3 (ada jx) (by simp[kz]) (by simp[kz]) fun w4 S4=>?_
 have c1:ik w4 rb 1=some (.string sx):=by rw[S4.cell];rfl
 simp[c1]
 refine ant ?_
 simp
 unfold M.dh.j1
 have S5:=S4.ju ((Fr.refl _ w4).dr 1)
 have ld4: ∀{w':World}{L:List Asn},St w0 w' (ruB rb jx :: L)->∀K,ldN P 4 rb 0 w' K=K (ts jx) w':=fun S' K=>S'.ldA (n:=4) (i:=0) (kz jx) rfl rfl K
 simp[ld4 S5]
 refine ain S5 fun w6 S6=>?_
 simp[ld4 S6]
 unfold ts jx
 simp
 exact bed (r:=jx) (K:=fun r w=>K (.tuple #[r,.bool true]) w) S6 fun w' S'=>h w' S'.drop.drop
end
def xe(b:Nat)(o:Obj):Asn where
 ok w B:=w.heap[b]? =some o/\B b
 jf h hf hn:=⟨hf.heap h.1 (hn _ h.2),h.2⟩
def cL:Code->Code
 | .seq x _=>x
 | .block _ c=>c
 | .rangeFunc _ _ x _=>x
 | c=>c
def cR:Code->Code
 | .seq _ y=>y
 | .rangeFunc _ _ _ y=>y
 | c=>c
noncomputable abbrev pcB:Code:=FN.ad.body.getD .skip
noncomputable abbrev pc0:Code:=cL pcB
noncomputable abbrev pc1:Code:=cL (cR pcB)
noncomputable abbrev pc3:Code:=cL (cR (cR pcB))
noncomputable abbrev pc5:Code:=cL (cL (cR (cR (cR pcB))))
noncomputable abbrev pcF:Code:=cL (cR (cL (cR (cR (cR pcB)))))
noncomputable abbrev pcA:Code:=cL pcF
noncomputable abbrev pcD:Code:=cR pcF
noncomputable abbrev pcE:Code:=cR (cR (cR (cR pcB)))
theorem blw:FN.ad.body=some (.seq pc0 (.seq pc1 (.seq pc3 (.seq (.seq pc5 (.block 0 (.rangeFunc (.tmp 18) #[19] pcA pcD))) pcE)))):=by kernel_rfl
theorem bmm:ok0 32 pc0=true:=by kernel_rfl
theorem pk1:ok0 32 pc1=true:=by kernel_rfl
theorem pk3:ok0 32 pc3=true:=by kernel_rfl
theorem pk5:ok0 32 pc5=true:=by kernel_rfl
theorem bmn:ok0 32 pcA=true:=by kernel_rfl
theorem pkD:ok0 32 pcD=true:=by kernel_rfl
theorem pkE:ok0 32 pcE=true:=by kernel_rfl
section
variable {w0 w : World} {R : List Asn}
theorem pd0(e:Env)(w:World)(Q:Exit->KE):zi P pc0 e w Q=(alT P T.ab w fun t2 w=>alT P T.ac w fun t3 w=>Q .normal (upd (upd e 2 t2) 3 t3) w):=by kernel_rfl
theorem pd1(e:Env)(w:World)(Q:Exit->KE):zi P pc1 e w Q=(biT P .len #[T.l] T.d [false] [e 0] w fun t8 w=>ip P .gtr T.d (.tmp 8) (.const (.int .i64 2048)) t8 (.int .i64 2048) w fun t9 w=>
  ic (isB t9 false) (fun K'=>K' (e 0) w) w fun t11 w=>ic (isB t9 false) (fun K'=>ie P F.ep [t11,.string ⟨#[10]⟩] w K') w fun t12 w=>
  ic (isB t9 false) (fun K'=>ip P .geq T.d (.tmp 12) (.const (.int .i64 16)) t12 (.int .i64 16) w K') w fun t13 w=>iu t9 (.bool true) t13 w fun t14 w=>
  ig t14 (stT P T.ab (e 2) (.slice none 0 0) w fun _ w=>stT P T.ac (e 3) (.int .i64 4) w fun _ w=>Q .ret (upd (upd (upd (upd (upd (upd (upd (upd e 7 (e 0)) 8 t8) 9 t9) 10 t9) 11 t11) 12 t12) 13 t13) 14 t14) w)
   (Q .normal (upd (upd (upd (upd (upd (upd (upd (upd e 7 (e 0)) 8 t8) 9 t9) 10 t9) 11 t11) 12 t12) 13 t13) 14 t14) w)):=by kernel_rfl
theorem pd3(e:Env)(w:World)(Q:Exit->KE):zi P pc3 e w Q=(ip P .eql T.l (.tmp 15) (.const (.string ⟨#[]⟩)) (e 0) (.string ⟨#[]⟩) w fun t16 w=>
  ig t16 (stT P T.ab (e 2) (.slice none 0 0) w fun _ w=>stT P T.ac (e 3) (.int .i64 0) w fun _ w=>Q .ret (upd (upd e 15 (e 0)) 16 t16) w) (Q .normal (upd (upd e 15 (e 0)) 16 t16) w)):=by kernel_rfl
theorem pd5(e:Env)(w:World)(Q:Exit->KE):zi P pc5 e w Q=(ie P F.fq [e 0,.string ⟨#[10]⟩] w fun t18 w=>Q .normal (upd (upd e 17 (e 0)) 18 t18) w):=by kernel_rfl
theorem pdA(e:Env)(w:World)(Q:Exit->KE):zi P pcA e w Q=Q .normal (upd e 4 (e 19)) w:=by kernel_rfl
theorem pdD(e:Env)(w:World)(Q:Exit->KE):zi P pcD e w Q=(ie P F.gb [e 4] w fun t22 w=>exT P t22 0 w fun t23 w=>exT P t22 1 w fun t24 w=>alT P T.p w fun t5 w=>stT P T.p t5 t23 w fun _ w=>unT P .not t24 w fun t26 w=>
  ig t26 (stT P T.ab (e 2) (.slice none 0 0) w fun _ w=>stT P T.ac (e 3) (.int .i64 7) w fun _ w=>zy 1 Q .ret (upd (upd (upd (upd (upd (upd (upd (upd (upd e 21 (e 4)) 22 t22) 20 t22) 23 t23) 24 t24) 5 t5) 6 t24) 25 t24) 26 t26) w)
   (ldT P T.ab (e 2) w fun t27 w=>ldT P T.p t5 w fun t28 w=>bsT P T.ab 1 #[(0,t28)] w fun t29 w=>biT P .append #[T.ab,T.ab] T.ab [false,false] [t27,t29] w fun t30 w=>stT P T.ab (e 2) t30 w fun _ w=>
    zy 1 Q .normal (upd (upd (upd (upd (upd (upd (upd (upd (upd (upd (upd (upd (upd e 21 (e 4)) 22 t22) 20 t22) 23 t23) 24 t24) 5 t5) 6 t24) 25 t24) 26 t26) 27 t27) 28 t28) 29 t29) 30 t30) w)):=by kernel_rfl
theorem pdE(e:Env)(w:World)(Q:Exit->KE):zi P pcE e w Q=(ldT P T.ab (e 2) w fun t31 w=>stT P T.ab (e 2) t31 w fun _ w=>stT P T.ac (e 3) (.int .i64 0) w fun _ w=>Q .ret (upd e 31 t31) w):=by kernel_rfl
end
section
variable {w0 w : World} {R : List Asn} {b l D b2 : Nat} {o o' : Obj}
theorem bat(S:St w0 w R)(o:Obj):St w0 (w.alloc o) (xe w.heap.size o :: R):=S.add ((Fr.refl _ w).alloc _) (B:=fun x=>x=w.heap.size) ⟨by rw[iw,if_pos rfl],rfl⟩ fun x hx=>by subst hx;rw[jc];omega
theorem aic(S:St w0 w (xe b o :: R)):w.heap[b]? =some o:=by
 obtain⟨B,h1,_⟩:=S.open
 exact h1.1
theorem akh(S:St w0 w (xe b o :: R))(o':Obj):St w0 (World.setObj w b o') (xe b o' :: R):=by
 obtain⟨B,⟨k1,k2⟩,hB,cl⟩:=S.open
 exact cl (World.setObj w b o') [xe b o'] ((Fr.refl B w).setObj (.inl k2) o') (Rs.one (B:=B) ⟨by rw[pd _ _ _ _ (lj k1),if_pos rfl],k2⟩ fun b hb=> .inl hb)
noncomputable def yw(fn:FuncId)(tmps:Array Value)(D:Nat)(st:LoopState):Loop:={state:=st,pending:=none,fn,tmps,params:= #[19],assign:=pcA,body:=pcD,defers:=D}
abbrev slB(b:Nat)(v:Value):Asn:=iz b #[v] T.ab
theorem bgx{fn:FuncId}{tmps:Array Value}(hsz:tmps.size=32)(h2:tmps.getD 2 undef= .pointer (some ⟨b2,0,none⟩))(S:St w0 w (xe l (.loop (yw fn tmps D .ready)) :: slB b2 (.slice none 0 0) :: R)){K:KV}
  (h: ∀w' v',St w0 w' (xe l (.loop (yw fn tmps D .ready)) :: slB b2 v' :: ajw v' [jx] :: R)->K (.bool true) w'):ku P (.func (.yield l) #[] #[]) [.string kw] w K:=by
 rw[apr (aic S) rfl]
 refine roundIn_of_wpIn (F:=Fence.wide) (n:=0) trivial ?_
 show pcA.wpIn (tc (some l)) 0 P _ _ w
 have hT:((#[19]:Array Nat).zip #[Value.string kw]).foldl (fun tmps (t,a)=>tmps.setIfInBounds t a) tmps=tmps.setIfInBounds 19 (.string kw):=by simp
 show pcA.wpIn (tc (some l)) 0 P _ {tmps:=((#[19]:Array Nat).zip #[Value.string kw]).foldl (fun tmps (t,a)=>tmps.setIfInBounds t a) tmps,defers:=[]} w
 rw[hT]
 have t19:(tmps.setIfInBounds 19 (.string kw)).getD 19 undef= .string kw:=by simp[hsz]
 have t2:(tmps.setIfInBounds 19 (.string kw)).getD 2 undef= .pointer (some ⟨b2,0,none⟩):=by
  rw[<-h2]
  simp[hsz]
 refine wpIn_mono (ut (r:=some l) (m:=0) (ds:=[]) pcA _ w (fun x e w1=>x= .normal/\e 4= .string kw/\e 2= .pointer (some ⟨b2,0,none⟩)/\w1=w) _ bmn (asw (by simpa using hsz) rfl) ?_) ?_
 ·rw[pdA]
  exact⟨rfl,t19,t2,rfl⟩
 ·rintro x a1 w1 ⟨e1,hR1,rfl,h4,h2',rfl⟩
  refine⟨_,run_beginRound (aic S) rfl,?_⟩
  rw[ur]
  have S2:St w0 _ (xe l (.loop (yw fn tmps D .busy)) :: _):=akh S (.loop {yw fn tmps D .ready with state:= .busy})
  generalize World.setObj w1 l _=w2 at *
  refine wpIn_mono (ut (r:=some l) (m:=0) (ds:=[]) pcD e1 w2 (fun x e w3=>x= .normal/\∃v',St w0 w3 (xe l (.loop (yw fn tmps D .busy)) :: slB b2 v' :: ajw v' [jx] :: R)) a1 pkD hR1 ?_) ?_
  ·rw[pdD,h4,h2']
   refine bdm S2 fun w3 S3=>?_
   simp only[aap,aau]
   have S4:St w0 (w3.alloc (.cells #[.bool false,.string ⟨#[]⟩,.int .u64 0,.string ⟨#[]⟩] T.p)) (ruB w3.heap.size ⟨false,⟨#[]⟩,0,⟨#[]⟩⟩ :: _):=S3.mkB _ _
   unfold ts jx
   simp
   generalize w3.heap.size=rb at *
   generalize w3.alloc _=w4 at *
   refine St.put (vs:=kz jx) (cs':=(kz jx).toArray) S4 (ada jx) (by simp[kz]) (by simp[kz]) fun w5 S5=>?_
   have c2:ik w5 b2 0=some (.slice none 0 0):=by rw[S5.up2.cell];rfl
   have ld4: ∀K,ldN P 4 rb 0 w5 K=K (ts jx) w5:=fun K=>S5.ldA (n:=4) (i:=0) (kz jx) rfl rfl K
   simp[c2,ld4,ts,jx]
   have S6:St w0 (w5.alloc (.cells #[.bool true,.string sx,.int .u64 0,.string ⟨#[]⟩] T.p)) (ajw (.slice (some ⟨w5.heap.size,0,none⟩) 1 1) [jx] :: _):=St.tz (l:=[jx]) S5 wj rfl (by simp[maxLen])
   have S7:=Go.Eng.yq (α:=Rul) (enc:=kz) (sz:=4) (e:=T.p) S6
   refine Go.Eng.ul et.ab wj ada S7 (S7.swap.row wj) (by simp) (by decide) fun w8 v8 S8=>?_
   obtain⟨a8,c8,hv8,_⟩:=(S8.row wj:Sl w8 4 kz v8 ([] ++ [jx]))
   subst hv8
   have S9:=S8.up4
   simp
   refine St.nj S9 rfl (by simp) fun w9 S10=>?_
   exact⟨rfl,_,S10.up4.up4.drop.up3.drop⟩
  ·rintro x a3 w3 ⟨e3,_,rfl,v',S3⟩
   have hend:=run_endRound (P:=P) none (aic S3)
   refine⟨_,_,hend,.bool true,rfl,?_⟩
   rw[ur]
   exact h _ v' (akh S3 _)
theorem amt(S:St w0 w R){K:KV}(h: ∀w' v,St w0 w' (ajw v [jx] :: R)->K (.tuple #[v,.int .i64 0]) w'):ie P F.ad [.string kw] w K:=by
 rw[show ie P F.ad [.string kw] w K=jo P F.ad [.string kw] w K from agv FN.ad.at (by kernel_rfl) (by kernel_rfl) _ _ _]
 refine (callsIn_wide (n:=0)).1 (callsIn_of_wp_marks (F:=Fence.wide) FN.ad.at blw trivial ?_)
 have hnt:FN.ad.ntmps=32:=by kernel_rfl
 rw[hnt]
 have e0:Go.Eng.RdI 32 (List.range 32) [] {tmps:=[Value.string kw].toArray ++ Array.replicate (32 - 1) undef,defers:=[]} fun t=>([Value.string kw].toArray ++ Array.replicate (32 - 1) undef).getD t undef:=asw rfl rfl
 refine wpIn_seq (wpIn_mono (ut (r:=none) (m:=0) (ds:=[]) pc0 _ w (fun x e w1=>x= .normal/\∃b2 b3,e 0= .string kw/\e 2= .pointer (some ⟨b2,0,none⟩)/\e 3= .pointer (some ⟨b3,0,none⟩)/\St w0 w1 (slB b2 (.slice none 0 0) :: iz b3 #[.int .i64 0] T.ac :: R)) _ bmm e0 ?_) ?_)
 ·rw[pd0]
  have S1:St w0 (w.alloc (.cells #[.slice none 0 0] T.ab)) (slB w.heap.size (.slice none 0 0) :: R):=S.mkB _ _
  have S2:=S1.mkB #[.int .i64 0] T.ac
  simp only[jc] at S2
  have a2: ∀w K,alT P T.ab w K=K (.pointer (some ⟨w.heap.size,0,none⟩)) (w.alloc (.cells #[.slice none 0 0] T.ab)):=fun w K=>by simp
  have a3: ∀w K,alT P T.ac w K=K (.pointer (some ⟨w.heap.size,0,none⟩)) (w.alloc (.cells #[.int .i64 0] T.ac)):=fun w K=>by simp
  simp only[a2,a3,jc]
  exact⟨trivial,w.heap.size,w.heap.size+1,rfl,rfl,rfl,S2.swap⟩
 rintro x a1 w1 ⟨e1,hR1,rfl,b2,b3,h0,h2,h3,S1⟩
 refine wpIn_seq (wpIn_mono (ut (r:=none) (m:=0) (ds:=[]) pc1 e1 w1 (fun x e w2=>x= .normal/\e 0= .string kw/\e 2= .pointer (some ⟨b2,0,none⟩)/\e 3= .pointer (some ⟨b3,0,none⟩)/\w2=w1) a1 pk1 hR1 ?_) ?_)
 ·rw[pd1,h0]
  have hs: ¬(2048:Int) < (kw.size:Int):=by decide
  simp[hs]
  refine anf kw 10 ?_
  have ec:Lib.countByte kw.data.toList 10=0:=by decide
  rw[ec]
  simp
  exact⟨h0,h2,h3⟩
 rintro x a2 w2 ⟨e2,hR2,rfl,h0,h2,h3,rfl⟩
 refine wpIn_seq (wpIn_mono (ut (r:=none) (m:=0) (ds:=[]) pc3 e2 w2 (fun x e w3=>x= .normal/\e 0= .string kw/\e 2= .pointer (some ⟨b2,0,none⟩)/\e 3= .pointer (some ⟨b3,0,none⟩)/\w3=w2) a2 pk3 hR2 ?_) ?_)
 ·rw[pd3,h0]
  have e1:(kw.toList == (⟨#[]⟩:ByteArray).toList)=false:=by decide+kernel
  simp only[sn,e1,ig]
  exact⟨trivial,h0,h2,h3,trivial⟩
 rintro x a3 w3 ⟨e3,hR3,rfl,h0,h2,h3,rfl⟩
 refine wpIn_seq (wpIn_seq (wpIn_mono (ut (r:=none) (m:=0) (ds:=[]) pc5 e3 w3 (fun x e w4=>x= .normal/\∃g1 g2 g3,e 18= .func (.func F.l) #[] #[.pointer (some ⟨g1,0,none⟩),.pointer (some ⟨g2,0,none⟩),.pointer (some ⟨g3,0,none⟩)]/\e 2= .pointer (some ⟨b2,0,none⟩)/\e 3= .pointer (some ⟨b3,0,none⟩)/\
  St w0 w4 (iz g3 #[.int .i64 0] T.d :: iz g1 #[.string ⟨#[10]⟩] T.l :: iz g2 #[.string kw] T.l :: slB b2 (.slice none 0 0) :: iz b3 #[.int .i64 0] T.ac :: R)) a3 pk5 hR3 ?_) ?_))
 ·rw[pd5,h0]
  rw[M.ee.fcall]
  apply M.ee.calls
  unfold M.ee
  rw[M.ef.fcall]
  apply M.ef.calls
  unfold M.ef
  have S2:=S1.mkB #[.string kw] T.l
  have S3:=S2.mkB #[.string ⟨#[10]⟩] T.l
  have S4:=S3.mkB #[.int .i64 0] T.d
  simp only[jc] at S2 S3 S4
  simp only[tw,aaj,jc]
  exact⟨trivial,w3.heap.size+1,w3.heap.size,w3.heap.size+1+1,rfl,h2,h3,S4⟩
 rintro x a4 w4 ⟨e4,hR4,rfl,g1,g2,g3,h18,h2,h3,S4⟩
 have ev18:a4.eval (.tmp 18)= .func (.func F.l) #[] #[.pointer (some ⟨g1,0,none⟩),.pointer (some ⟨g2,0,none⟩),.pointer (some ⟨g3,0,none⟩)]:=by
  rw[hR4.ev (.tmp 18) fun t ht=>by cases ht;rfl];exact h18
 have t2:a4.tmps.getD 2 undef= .pointer (some ⟨b2,0,none⟩):=by rw[hR4.2.2 2 rfl];exact h2
 have d4:a4.defers=[]:=hR4.2.1
 refine wpIn_block (wpIn_rangeFunc fun fn' hfn=>?_)
 have S5:=bat S4 (.deferred (some []))
 have S6:=bat S5 (.loop (yw fn' a4.tmps w4.heap.size .ready))
 simp only[jc] at S6
 generalize hw6:(w4.alloc (.deferred (some []))).alloc (.loop (yw fn' a4.tmps w4.heap.size .ready))=w6 at *
 have hcf: ∀args w,(callFunc F.l args).run P w= .ok (.enter F.l args) w:=fun args w=>by
  unfold callFunc
  simp only[Sem.run_bind,program]
  rw[show Sem.run P (Sem.program Sem.pure) w=Result.ok P w from rfl]
  have q1:(FN.l.name == "runtime.NumGoroutine")=false:=by kernel_rfl
  have q2:FN.l.body.isNone=false:=by kernel_rfl
  simp only[Result.andThen,FN.l.at,q1,q2,Bool.false_eq_true,if_false,Sem.run_pure]
 refine⟨w4.heap.size+1,[{target:= .collected w4.heap.size,args:= #[]}],w6,{target:= .fn (.func F.l) #[.pointer (some ⟨g1,0,none⟩),.pointer (some ⟨g2,0,none⟩),.pointer (some ⟨g3,0,none⟩)],args:= #[.func (.yield (w4.heap.size+1)) #[] #[]]},w6,F.l,
  #[.func (.yield (w4.heap.size+1)) #[] #[]] ++ #[.pointer (some ⟨g1,0,none⟩),.pointer (some ⟨g2,0,none⟩),.pointer (some ⟨g3,0,none⟩)],w6,?_,?_,fun _ _=>trivial,?_,fun h=>by simp[Fence.wide] at h,?_⟩
 ·rw[<-hw6];exact run_enterLoop_outer _ _ _ _ _
 ·have evc: ∀v,a4.eval (.const v)=v:=fun _=>rfl
  simp[resolve,rangeCall,ev18,evc,Deferred.ofValue]
 ·simp[invoke,hcf]
 have S6':St w0 w6 (xe (w4.heap.size+1) (.loop (yw fn' a4.tmps w4.heap.size .ready)) :: slB b2 (.slice none 0 0) :: xe w4.heap.size (.deferred (some [])) :: iz g3 #[.int .i64 0] T.d :: iz g1 #[.string ⟨#[10]⟩] T.l :: iz g2 #[.string kw] T.l :: iz b3 #[.int .i64 0] T.ac :: R):=S6.perm (by
  refine List.Perm.cons _ ?_
  exact List.perm_middle (l₁:=[_,_,_,_]))
 have hcall:jo P F.l [.func (.yield (w4.heap.size+1)) #[] #[],.pointer (some ⟨g1,0,none⟩),.pointer (some ⟨g2,0,none⟩),.pointer (some ⟨g3,0,none⟩)] w6 fun v w'=>rangePost Fence.wide 0 P (w4.heap.size+1) (Exit.inBlock 0 (Exit.then (pcE.wpIn Fence.wide 0 P (bodyPostM Fence.wide 0 P FN.ad fun e w'=> ∃v,e=Ending.returned v/\K v w')) (bodyPostM Fence.wide 0 P FN.ad fun e w'=> ∃v,e=Ending.returned v/\K v w'))) {tmps:=a4.tmps,defers:=[{target:= .collected w4.heap.size,args:= #[]}] ++ a4.defers} (.returned v) w':=by
  apply M.ap.calls
  unfold M.ap
  have cs: ∀{w':World}{X Y:Asn}{v:Value},St w0 w' (X :: slB b2 v :: Y :: xe w4.heap.size (.deferred (some [])) :: iz g3 #[.int .i64 0] T.d :: iz g1 #[.string ⟨#[10]⟩] T.l :: iz g2 #[.string kw] T.l :: iz b3 #[.int .i64 0] T.ac :: R)->ik w' g1 0=some (.string ⟨#[10]⟩)/\ik w' g2 0=some (.string kw):=fun S'=>⟨by rw[(S'.perm (List.perm_middle (l₁:=[_,_,_,_,_]))).cell];rfl,by rw[(S'.perm (List.perm_middle (l₁:=[_,_,_,_,_,_]))).cell];rfl⟩
  have k1:ik w6 g1 0=some (.string ⟨#[10]⟩):=by rw[(S6'.perm (List.perm_middle (l₁:=[_,_,_,_]))).cell];rfl
  have k2:ik w6 g2 0=some (.string kw):=by rw[(S6'.perm (List.perm_middle (l₁:=[_,_,_,_,_]))).cell];rfl
  simp[k1,aes]
  refine⟨fun x w'=>w'=w6,fun _ _=>0,rfl,?_⟩
  rintro x w7 rfl
  unfold M.ap.j6
  simp[k1,k2]
  refine amw kw 10 (by decide+kernel) ?_
  have ei:Lib.indexByte kw.data.toList 10= -1:=by decide
  rw[ei]
  simp[k2]
  refine bgx hR4.1 t2 S6' fun w8 v8 S8=>?_
  have hend:=run_endLoop (P:=P) (aic S8) (by simp[yw])
  refine⟨_,_,hend,?_⟩
  rw[ur]
  have S9:=akh S8 (.loop {yw fn' a4.tmps w4.heap.size .ready with state:= .exhausted})
  generalize World.setObj w8 _ _=w9 at *
  simp only[Exit.inBlock,Exit.then,yw]
  rw[d4]
  obtain⟨a8,c8,hv8,_⟩:=(S9.up2.row wj:Sl w9 4 kz v8 [jx])
  subst hv8
  refine wpIn_mono (ut (r:=none) (m:=0) (ds:=[{target:= .collected w4.heap.size,args:= #[]}]) pcE e4 w9 (fun x e w=>x= .ret/\e 2= .pointer (some ⟨b2,0,none⟩)/\e 3= .pointer (some ⟨b3,0,none⟩)/\St w0 w (xe w4.heap.size (.deferred (some [])) :: slB b2 (.slice a8 1 c8) :: iz b3 #[.int .i64 0] T.ac :: ajw (.slice a8 1 c8) [jx] :: R)) _ pkE ⟨hR4.1,rfl,hR4.2.2⟩ ?_) ?_
  ·rw[pdE,h2,h3]
   have q2:ik w9 b2 0=some (.slice a8 1 c8):=by rw[S9.swap.cell];rfl
   simp[q2]
   refine St.nj S9.swap rfl (by simp) fun w10 S10=>?_
   have S11:=S10.perm (List.perm_middle (l₁:=[_,_,_,_,_,_,_]))
   refine St.nj S11 rfl (by simp) fun w11 S12=>?_
   have S13:=S12.up2.drop.up2.up3
   refine⟨h2,h3,?_⟩
   exact S13.swap.up3.up4.drop.up4.drop.up4.drop.up2.tail (List.Perm.cons _ (List.Perm.swap _ _ _))
  ·rintro x a9 w10 ⟨e9,hR9,rfl,k2,k3,S10⟩
   show LeavesInM Fence.wide 0 P FN.ad a9.tmps _ a9.defers .returning w10
   rw[hR9.2.1]
   refine⟨by simp,.inl ⟨_,_,rfl,run_takeDeferred (aic S10),?_⟩⟩
   rw[ur]
   have S11:=akh S10 (.deferred none)
   generalize World.setObj w10 _ _=w11 at *
   obtain⟨vs,hk,hr⟩:=awh (P:=P) (fn:=FN.ad) (w:=w11) (k:=fun vs=>vs=[.slice a8 1 c8,.int .i64 0]) (⟨hR9.1,rfl,hR9.2.2⟩:Rd 32 (List.range 32) {a9 with defers:=[]} e9) (by kernel_rfl) (by
    rw[show FN.ad.results.toList=[.cell 2 T.ab,.cell 3 T.ac] from by kernel_rfl]
    show ib (fun K'=>ng P T.ab (e9 2) w11 K') w11 fun v=>ib (fun K'=>ng P T.ac (e9 3) w11 K') w11 fun v2=>[v,v2]=[Value.slice a8 1 c8,.int .i64 0]
    rw[k2,k3]
    have r2: ∀w K,ng P T.ab (.pointer (some ⟨b2,0,none⟩)) w K=ld1 P b2 0 w K:=fun w K=>kr
    have r3: ∀w K,ng P T.ac (.pointer (some ⟨b3,0,none⟩)) w K=ld1 P b3 0 w K:=fun w K=>kr
    have q2:ik w11 b2 0=some (.slice a8 1 c8):=by rw[S11.swap.cell];rfl
    have q3:ik w11 b3 0=some (.int .i64 0):=by rw[S11.up2.cell];rfl
    simp[r2,r3,q2,q3])
   subst hk
   exact⟨_,hr,_,rfl,h w11 _ (S11.drop.drop.drop)⟩
 have hc2:=abd (r:=none) (n:=0 - 1) hcall
 refine CallsIn.mono (F:=Fence.wide) hc2 fun e w' ⟨v,he,hk⟩=>?_
 subst he
 exact hk
end
section
variable {w0 w : World} {R : List Asn} {p : Nat} {q : Cl}
theorem ly{L:List Asn}(S:St w0 w (clA p q :: L)):ik w p 0=some (.int .u64 1)/\ik w p 1=some (.int .u64 q.inc)/\ik w p 2=some q.rep/\ik w p 3=some (.int .u64 200)/\ik w p 4=some (.int .i64 3)/\ik w p 8=some (.int .u64 4)/\ik w p 9=some (.int .i64 q.tr)/\ik w p 13=some q.rul/\ik w p 14=some (.pointer (some ⟨q.tb,0,none⟩))/\ik w p 15=some (.pointer (some ⟨q.hb,0,none⟩))/\ik w p 16=some (.pointer (some ⟨q.kb,0,none⟩))/\ik w p 17=some (.map (some q.ru))/\ik w p 18=some (.map (some q.se))/\ik w p 19=some (.map (some q.un))/\ik w p 22=some (.int .u64 q.qd)/\ik w p 23=some (.int .u64 q.now)/\ik w p 24=some q.out/\ik w p 25=some q.ev/\ik w p 26=some (.int .u64 q.bad)/\ik w p 27=some (.int .u64 q.bkh)/\∀K,ldN P 2 p 20 w K=K (kj q.ke) w:=by
 refine⟨?_,?_,?_,?_,?_,?_,?_,?_,?_,?_,?_,?_,?_,?_,?_,?_,?_,?_,?_,?_,fun K=>S.ldA (n:=2) (i:=20) (tx q.ke) rfl rfl K⟩ <;>rw[S.cell] <;>rfl
def evA(e:Evn):Value:= .agg (evC e).toArray
theorem aco{es:List Evn}(S:St w0 w (clA p q :: nh q.ev es :: R))(e:Evn)(hl:es.length<=1000000){K:KV}(h: ∀w' v',St w0 w' (clA p {q with ev:=v'} :: nh v' (es ++ [{e with at':=q.now,ji:=1}]) :: R)->K (.tuple #[]) w'):ie P F.u [km p,evA e] w K:=by
 rw[M.cf.fcall]
 apply M.cf.calls
 unfold M.cf evA
 refine St.sm S fun eb w1 S1=>?_
 have S2:=S1.ju ((Fr.refl _ w1).dr 1)
 obtain⟨c0,_,_,_,_,_,_,_,_,_,_,_,_,_,_,c23,_⟩:=ly S2.swap
 simp only[km]
 simp[c0,c23]
 refine St.nj S2 rfl (by simp[evC]) fun w3 S3=>?_
 obtain⟨d0,_⟩:=ly S3.swap
 simp[d0]
 refine St.nj S3 rfl (by simp[evC]) fun w4 S4=>?_
 have S5:St w0 (dr w4 1) (iz eb (evC {e with at':=q.now,ji:=1}).toArray T.av :: clA p q :: nh q.ev es :: R):=S4.ju ((Fr.refl _ w4).dr 1)
 obtain⟨_,_,_,_,_,_,_,_,_,_,_,_,_,_,_,_,_,c25,_⟩:=ly S5.swap
 have lde: ∀K,ldN P 16 eb 0 (dr w4 1) K=K (evA {e with at':=q.now,ji:=1}) (dr w4 1):=fun K=>S5.ldA (n:=16) (i:=0) (evC {e with at':=q.now,ji:=1}) rfl rfl K
 simp[c25,lde]
 rw[show evA {e with at':=q.now,ji:=1}= .agg #[.int .i64 e.jg,.int .u64 q.now,.int .u64 1,.int .u64 e.tr,.int .u64 e.b.n,.int .u64 e.b.ji,.int .i64 e.v,.int .u64 e.s.je,.int .u64 e.s.id,.int .u64 e.s.mr,.int .u64 e.s.kl,.int .u64 e.s.len,.string e.s.kq,.string e.s.name,.bool e.s.ol,.int .i64 e.k] from rfl]
 simp
 have S6:St w0 ((dr w4 1).alloc (.cells #[.int .i64 e.jg,.int .u64 q.now,.int .u64 1,.int .u64 e.tr,.int .u64 e.b.n,.int .u64 e.b.ji,.int .i64 e.v,.int .u64 e.s.je,.int .u64 e.s.id,.int .u64 e.s.mr,.int .u64 e.s.kl,.int .u64 e.s.len,.string e.s.kq,.string e.s.name,.bool e.s.ol,.int .i64 e.k] T.av)) (nh (.slice (some ⟨(dr w4 1).heap.size,0,none⟩) 1 1) [{e with at':=q.now,ji:=1}] :: _):=St.tz (l:=[{e with at':=q.now,ji:=1}]) S5 aid rfl (by simp[maxLen])
 rw[show (dr w4 1).heap.size=w4.heap.size from rfl] at S6
 generalize w4.heap.size=nb at *
 generalize World.alloc _ _=w6 at *
 obtain⟨_,_,_,_,_,_,_,_,_,_,_,_,_,_,_,_,_,d25,_⟩:=ly S6.up2
 simp[d25]
 refine Go.Eng.ul et.bh aid amj S6.up3 (S6.row aid) (by simp;omega) (by decide) fun w7 v7 S7=>?_
 obtain⟨a7,c7,hv7,_⟩:=(S7.row aid:Sl w7 16 evC v7 _)
 subst hv7
 generalize (es ++ [({e with at':=q.now,ji:=1}:Evn)]).length=n7 at *
 simp
 refine St.nj S7.up3 rfl (by simp[clC]) fun w8 S8=>?_
 have S9:St w0 w8 (clA p {q with ev:= .slice a7 n7 c7} :: _):=S8
 exact h w8 _ S9.up2.drop.up2.drop
def oh(to:List Int)(pk:Pk)(h: ∀u∈pkC pk,kt u=true):List Ltr:=to.map fun t=>⟨1,t,pk,h⟩
def SnI(w0:World)(p:Nat)(q:Cl)(ls:List Ltr)(pk:Pk)(h1: ∀u∈pkC pk,kt u=true)(tb:Nat)(to:List Int)(R:List Asn):KL:=fun x w1=> ∃(u:Value)(ov:Value)(i:Nat),x=[u,.int .i64 (i:Nat)]/\i<=to.length/\St w0 w1 (clA p {q with out:=ov} :: mo ov (ls ++ oh (to.take i) pk h1) :: iz tb (pkC pk).toArray T.c :: R)
theorem aib{ls:List Ltr}{pk:Pk}{tv:Value}{to:List Int}(S:St w0 w (clA p q :: mo q.out ls :: R))(h1: ∀u∈pkC pk,kt u=true)(hs: ∀w' L,St w0 w' (L ++ R)->Sl w' 1 Suint64.rk tv to)(hl:ls.length+to.length<=256){K:KV}
  (h: ∀w' ov,St w0 w' (clA p {q with out:=ov} :: mo ov (ls ++ oh to pk h1) :: R)->K (.tuple #[]) w'):ie P F.e [km p,pkA pk,tv] w K:=by
 rw[M.ag.fcall]
 apply M.ag.calls
 unfold M.ag pkA
 refine St.sm S fun tb w1 S1=>?_
 have hln: ∀w' K,biT P .len #[T.g] T.d [false] [tv] w' K=K (.int .i64 to.length) w':=fun w' K=>(hs w [_,_] S).jq (by kernel_rfl) [false]
 simp only[il,hln,km]
 have S1':St w0 w1 (clA p {q with out:=q.out} :: mo q.out (ls ++ oh (to.take 0) pk h1) :: iz tb (pkC pk).toArray T.c :: R):=by
  have:=S1.dn2
  simpa [oh] using this
 refine⟨SnI w0 p q ls pk h1 tb to R,fun x _=>to.length - ms x 1,⟨_,_,0,rfl,Nat.zero_le _,S1'⟩,?_⟩
 rintro x w2 ⟨u,ov,i,rfl,hi,S2⟩
 by_cases hil:i < to.length
 ·have hili:(i:Int) < to.length:=by omega
  have hwi:IntKind.i64.wrap ((i:Int)+1)=((i+1:Nat):Int):=by rw[iy];rfl
  obtain⟨ab,ao,cap,hv,_,_,hc⟩:=(hs w2 [_,_,_] S2).at hil
  have hia: ∀w' K,iaT P T.g tv (.int .i64 (i:Nat)) w' K=K (.pointer (some ⟨ab,ao+i,none⟩)) w':=fun w' K=>by rw[hv];simp[hil]
  have hcell:ik w2 ab (ao+i)=some (.int .u64 to[i]):=by simpa [Suint64.rk] using hc 0 _ rfl
  have htk:oh (to.take (i+1)) pk h1=oh (to.take i) pk h1 ++ [⟨1,to[i],pk,h1⟩]:=by
   unfold oh
   rw[List.take_succ_eq_append_getElem hil,List.map_append]
   rfl
  have htk':ls ++ oh (to.take (i+1)) pk h1=(ls ++ oh (to.take i) pk h1) ++ [⟨1,to[i],pk,h1⟩]:=by rw[htk,List.append_assoc]
  clear htk
  generalize to[i]=t at *
  have hol:(ls ++ oh (to.take i) pk h1).length < 256:=by
   unfold oh
   rw[List.length_append,List.length_map,List.length_take]
   omega
  have hnl: ¬(256:Int)<=((ls ++ oh (to.take i) pk h1).length:Int):=by omega
  generalize ls ++ oh (to.take i) pk h1=lo at *
  obtain⟨_,_,_,_,_,_,_,_,_,_,_,_,_,_,_,_,c24,_⟩:=ly S2
  have hlo: ∀w' K,biT P .len #[T.ap] T.d [false] [ov] w' K=K (.int .i64 lo.length) w':=fun w' K=>(S2.swap.row abv:Sl w2 13 ltC ov lo).jq (by kernel_rfl) [false]
  simp[hili]
  unfold M.ag.j1
  simp[hia,hcell,c24,hlo,hnl]
  unfold M.ag.j3
  have S3:=S2.ju ((Fr.refl _ w2).dr 1)
  obtain⟨d0,_,_,_,_,_,_,_,_,_,_,_,_,_,_,_,d24,_⟩:=ly S3
  have lp:=vq S3.up2
  simp[d0,d24,lp]
  unfold pkA pkC
  simp
  have S4:St w0 ((dr w2 1).alloc (.cells (ltC ⟨1,t,pk,h1⟩).toArray T.bm)) (mo (.slice (some ⟨(dr w2 1).heap.size,0,none⟩) 1 1) [⟨1,t,pk,h1⟩] :: _):=St.tz (l:=[(⟨1,t,pk,h1⟩:Ltr)]) S3 abv (by simp) (by simp[maxLen])
  rw[show (dr w2 1).heap.size=w2.heap.size from rfl] at S4
  unfold ltC pkC at S4
  simp only[List.cons_append,List.nil_append] at S4
  generalize w2.heap.size=nb at *
  generalize World.alloc _ _=w6 at *
  obtain⟨_,_,_,_,_,_,_,_,_,_,_,_,_,_,_,_,e24,_⟩:=ly S4.swap
  simp[e24]
  refine Go.Eng.ul et.ap abv bhr S4.up2 (S4.row abv) (by simp;omega) (by decide) fun w7 v7 S7=>?_
  obtain⟨a7,c7,hv7,_⟩:=(S7.row abv:Sl w7 13 ltC v7 _)
  subst hv7
  generalize (lo ++ [(⟨1,t,pk,h1⟩:Ltr)])=l7 at *
  generalize l7.length=n7 at *
  simp
  refine St.nj S7.up2 rfl (by simp[clC]) fun w8 S8=>?_
  have S9:St w0 w8 (clA p {q with out:= .slice a7 n7 c7} :: _):=S8
  rw[hwi]
  refine⟨⟨_,.slice a7 n7 c7,i+1,rfl,by omega,?_⟩,by simp[ms,gv];omega⟩
  rw[htk']
  exact S9.up2.drop
 ·have hie:i=to.length:=by omega
  subst hie
  simp
  rw[List.take_length] at S2
  exact h w2 ov S2.up2.drop
end
open Go.Eng
def adb(l:List Mem):List Int:=(l.filter fun m=>decide (m.st≠2)).map Mem.id
def afe(l:List Mem):List Int:=if vf l=0 then adb l else []
section
variable {w0 w : World} {R : List Asn}
theorem avl{l:List Mem}{i:Nat}(hi:i < l.length):adb (l.take (i+1))=adb (l.take i) ++ if l[i].st≠2 then [l[i].id] else []:=by
 unfold adb
 rw[List.take_succ_eq_append_getElem hi,List.filter_append,List.map_append]
 congr 1
 by_cases h:l[i].st=2 <;>simp[h]
theorem ayf(l:List Mem):(adb l).length<=l.length:=by
 unfold adb
 rw[List.length_map];exact List.length_filter_le ..
def LvI(w0:World)(l:List Mem)(R:List Asn):KL:=fun x w1=> ∃(v:Value)(i:Nat),x=[v,.int .i64 (i:Nat)]/\i<=l.length/\St w0 w1 (qx v (adb (l.take i)) :: R)
theorem asx{v:Value}{l:List Mem}(S:St w0 w R)(hs: ∀w' L,St w0 w' (L ++ R)->SlM w' v l)(hlen:l.length<=1000000){K:KV}(h: ∀w' v',St w0 w' (qx v' (afe l) :: R)->K v' w'):ie P F.ge [v] w K:=by
 rw[M.dz.fcall]
 apply M.dz.calls
 unfold M.dz
 rw[il]
 refine aob (hs w [] S) hlen fun w1 f1=>?_
 have S1:=S.ju f1
 unfold afe at h
 by_cases hv:vf l=0
 ·rw[if_pos hv] at h
  simp[hv]
  unfold M.dz.j0
  simp only[il]
  rw[(hs w1 [] S1).jq (by kernel_rfl)]
  refine⟨LvI w0 l R,fun x _=>l.length - ms x 1,⟨_,0,rfl,Nat.zero_le _,aet S1⟩,?_⟩
  rintro x w2 ⟨v2,i,rfl,hi,S2⟩
  have q0:gv [v2,.int .i64 (i:Nat)] 0=v2:=rfl
  have q1:gv [v2,.int .i64 (i:Nat)] 1= .int .i64 (i:Nat):=rfl
  simp only[q1]
  by_cases hil:i < l.length
  ·have hil':(i:Int) < l.length:=by omega
   simp[hil']
   unfold M.dz.j3
   obtain⟨b,o,cap,hv2,hb,_,hc⟩:=(hs w2 [qx v2 (adb (l.take i))] S2).at hil
   have hld: ∀K,ldN P 3 b (o+i * 3) w2 K=K (qa l[i]) w2:=fun K=>ldM hc K
   have hwi:IntKind.i64.wrap ((i:Int)+1)=((i+1:Nat):Int):=by rw[iy];rfl
   have htk:=avl hil
   have hll:=ayf (l.take i)
   rw[List.length_take] at hll
   generalize l[i]=m at *
   simp only[il,q1,lx,hwi]
   rw[hv2]
   simp[hil,hld]
   rw[show qa m= .agg #[.int .u64 m.id,.int .u64 m.inc,.int .i64 m.st] from rfl]
   simp
   have hba:(w2.alloc (.cells #[.int .u64 0,.int .u64 0,.int .i64 0] T.n)).heap[w2.heap.size]? =some (.cells #[.int .u64 0,.int .u64 0,.int .i64 0] T.n (0,0)):=by rw[iw,if_pos rfl]
   refine jw (vs:=[.int .u64 m.id,.int .u64 m.inc,.int .i64 m.st]) hba rfl (by simp) fun w3 b3 f3=>?_
   have S3:=S2.ju (((Fr.refl _ w2).alloc _).jt f3 fun y hy he=>by subst he;omega)
   have c0:ik w3 w2.heap.size 0=some (.int .u64 m.id):=by rw[iq b3];rfl
   have c2:ik w3 w2.heap.size 2=some (.int .i64 m.st):=by rw[iq b3];rfl
   by_cases hst:m.st=2
   ·simp[c2,hst,q0]
    refine⟨⟨v2,i+1,rfl,by omega,?_⟩,by simp[ms,gv];omega⟩
    rw[htk];simp[hst];exact S3
   ·simp[c0,c2,hst,q0]
    have S4:=S3.ju ((Fr.refl _ w3).alloc (.cells #[.int .u64 m.id] T.a))
    refine aby S4 (l2:=[m.id]) (Sl.one rfl rfl) (by simp;omega) fun w5 v5 S5=>?_
    refine⟨⟨v5,i+1,rfl,by omega,?_⟩,by simp[ms,gv];omega⟩
    rw[htk];simp[hst];exact S5
  ·have hil': ¬(i:Int) < l.length:=by omega
   simp[hil']
   rw[List.take_of_length_le (by omega)] at S2
   exact h w2 v2 S2
 ·rw[if_neg hv] at h
  simp[hv]
  exact h w1 _ (aet S1)
end
section
variable {t : TypeId} {rx ry : Operand} {w : World} {K : KV}
theorem bcl{x:Nat}(hx:x < 18446744073709551616):ip P .and t rx ry (.int .u64 (x:Int)) (.int .u64 4294967295) w K=K (.int .u64 ((x % 4294967296:Nat):Int)) w:=by
 rw[amh]
 have h1:(BitVec.ofInt IntKind.u64.bits (x:Int) &&& BitVec.ofInt IntKind.u64.bits 4294967295).toNat=x % 4294967296:=by
  rw[BitVec.toNat_and]
  have e1:(BitVec.ofInt IntKind.u64.bits (x:Int)).toNat=x:=aah hx
  have e2:(BitVec.ofInt IntKind.u64.bits 4294967295).toNat=2 ^ 32 - 1:=by decide
  rw[e1,e2,Nat.and_two_pow_sub_one_eq_mod]
 rw[h1,ww (by omega)]
theorem arh(x:Nat):ip P .shr t rx ry (.int .u64 (x:Int)) (.int .u64 32) w K=K (.int .u64 ((x / 4294967296:Nat):Int)) w:=by
 rw[abu (by decide)]
 have:((x:Nat):Int).fdiv (2 ^ min (32:Int).toNat IntKind.u64.bits)=((x / 4294967296:Nat):Int):=ame x 32
 rw[this]
theorem aut{x y:Nat}(h:x * y < 18446744073709551616):ip P .mul t rx ry (.int .u64 (x:Int)) (.int .u64 (y:Int)) w K=K (.int .u64 ((x * y:Nat):Int)) w:=by
 rw[vm]
 have:IntKind.u64.wrap ((x:Int) * (y:Int))=((x * y:Nat):Int):=by rw[<-Int.natCast_mul];exact ww h
 rw[this]
theorem avx{x y:Nat}(h:x+y < 18446744073709551616):ip P .add t rx ry (.int .u64 (x:Int)) (.int .u64 (y:Int)) w K=K (.int .u64 ((x+y:Nat):Int)) w:=by
 rw[lx]
 have:IntKind.u64.wrap ((x:Int)+(y:Int))=((x+y:Nat):Int):=by rw[<-Int.natCast_add];exact ww h
 rw[this]
end
theorem bdl{w:World}{x:Nat}(hx:x < 18446744073709551616){K:KV}(h:K (.tuple #[.int .u64 ((3 * x / 18446744073709551616:Nat):Int),.int .u64 ((3 * x % 18446744073709551616:Nat):Int)]) w):ie P F.fc [.int .u64 (x:Int),.int .u64 3] w K:=by
 rw[M.eo.fcall]
 apply M.eo.calls
 unfold M.eo
 rw[bcl hx,arh]
 have e3:(3:Int)=((3:Nat):Int):=rfl
 rw[e3,bcl (by decide),arh]
 have c1:3 % 4294967296=3:=by decide
 have c2:3 / 4294967296=0:=by decide
 rw[c1,c2]
 rw[aut (by omega),aut (by omega),arh,avx (by omega),bcl (by omega),arh,aut (by omega),avx (by omega),aut (by omega),avx (by omega),arh,avx (by omega),vm]
 have hw:IntKind.u64.wrap ((x:Int) * ((3:Nat):Int))=((3 * x % 18446744073709551616:Nat):Int):=by
  show ((x:Int) * 3) % 18446744073709551616=_
  omega
 rw[hw]
 have hh:x / 4294967296 * 0+(x / 4294967296 * 3+x % 4294967296 * 3 / 4294967296) / 4294967296+((x / 4294967296 * 3+x % 4294967296 * 3 / 4294967296) % 4294967296+x % 4294967296 * 0) / 4294967296=3 * x / 18446744073709551616:=by omega
 rw[hh]
 exact h
theorem apx{w:World}{x y:Int}(hx:0<=x)(hy:0<=y){K:KV}(h:K (.tuple #[.int .u64 ((x+y) % 18446744073709551616),.int .u64 ((x+y) / 18446744073709551616)]) w):ie P F.bw [.int .u64 x,.int .u64 y,.int .u64 0] w K:=by
 unfold ie ky
 rw[run_callFunc_extern (e:=add64Entry) FN.bw.at (by kernel_rfl) (by kernel_rfl) (by kernel_rfl) (by kernel_rfl)]
 have:=run_add64 (P:=P) x y 0 hx hy (by decide) (by decide) w
 rw[Int.add_zero] at this
 rw[this]
 exact h
def ahz(m:Mem):Int:=3 * (m.inc - 1)+m.st+1
def zo(l:List Mem):Int:=(l.map ahz).sum
def ajf(l:List Mem):Int×Int:=if vf l≠0 then (0,6) else if 18446744073709551616<=zo l then (0,12) else (zo l,0)
theorem ayo{l:List Mem}{i:Nat}(hi:i < l.length):zo (l.take (i+1))=zo (l.take i)+ahz l[i]:=by
 unfold zo
 rw[List.take_succ_eq_append_getElem hi,List.map_append,List.sum_append];simp
theorem awp{m:Mem}(h1:xw m=false)(h2:0<=m.inc/\m.inc < 18446744073709551616):1<=m.inc/\0<=m.st/\m.st<=2:=by
 unfold xw at h1
 simp at h1
 omega
theorem asc{l:List Mem}(h: ∀m∈l,0<=ahz m):0<=zo l:=by
 unfold zo
 induction l with
 | nil=>simp
 | cons x l ih=>
  have h1:=h x (by simp)
  have h2:=ih fun m hm=>h m (by simp[hm])
  simp;omega
def VsI(W:World)(l:List Mem):KL:=fun x w1=> ∃(u0 u1 u2 u3 u4 u5:Value)(s hg:Int)(i:Nat),x=[u0,u1,u2,u3,u4,u5,.int .u64 s,.int .u64 hg,.int .i64 (i:Nat)]/\i<=l.length/\0<=s/\s < 18446744073709551616/\0<=hg/\hg<=10 * i/\s+hg * 18446744073709551616=zo (l.take i)/\Fz W w1
theorem avu{w:World}{v:Value}{l:List Mem}(hs:SlM w v l)(hlen:l.length<=1000000)(hinc:bfs l){K:KV}(h: ∀w',Fz w w'->K (.tuple #[.int .u64 (ajf l).1,.int .i64 (ajf l).2]) w'):ie P F.fx [v] w K:=by
 rw[M.bl.fcall]
 apply M.bl.calls
 unfold M.bl
 rw[il]
 refine aob hs hlen fun w1 f1=>?_
 unfold ajf at h
 by_cases hv:vf l=0
 ·have g:=(afc l).1 hv
  rw[if_neg (by simp[hv])] at h
  simp[hv]
  unfold M.bl.j0
  simp only[il]
  have hs1:=hs.fr f1 fun _ _ _ h=>h
  rw[hs1.jq (by kernel_rfl)]
  refine⟨VsI w l,fun x _=>l.length - ms x 8,⟨_,_,_,_,_,_,0,0,0,rfl,Nat.zero_le _,by omega,by omega,by omega,by omega,by simp[zo],f1⟩,?_⟩
  rintro x w2 ⟨u0,u1,u2,u3,u4,u5,s,hg,i,rfl,hi,hs0,hs1',hg0,hg1,htot,f2⟩
  have q6:gv [u0,u1,u2,u3,u4,u5,.int .u64 s,.int .u64 hg,.int .i64 (i:Nat)] 6= .int .u64 s:=rfl
  have q7:gv [u0,u1,u2,u3,u4,u5,.int .u64 s,.int .u64 hg,.int .i64 (i:Nat)] 7= .int .u64 hg:=rfl
  have q8:gv [u0,u1,u2,u3,u4,u5,.int .u64 s,.int .u64 hg,.int .i64 (i:Nat)] 8= .int .i64 (i:Nat):=rfl
  have hs2:=hs.fr f2 fun _ _ _ h=>h
  unfold M.bl.j2
  simp only[il,q8]
  have hfew:=g.few
  by_cases hil:i < l.length
  ·have hil':(i:Int) < l.length:=by omega
   simp[hil']
   unfold M.bl.j3
   obtain⟨b,o,cap,hv2,hb,_,hc⟩:=hs2.at hil
   have hld: ∀K,ldN P 3 b (o+i * 3) w2 K=K (qa l[i]) w2:=fun K=>ldM hc K
   have hwi:IntKind.i64.wrap ((i:Int)+1)=((i+1:Nat):Int):=by rw[iy];rfl
   have htk:=ayo hil
   have hrange:=awp (g.odd _ (List.getElem_mem hil)) (hinc _ (List.getElem_mem hil))
   have hinc':=hinc _ (List.getElem_mem hil)
   generalize l[i]=m at *
   simp only[il,q6,q7,q8]
   rw[hv2]
   simp[hil,hld]
   rw[show qa m= .agg #[.int .u64 m.id,.int .u64 m.inc,.int .i64 m.st] from rfl]
   simp
   have hba:(w2.alloc (.cells #[.int .u64 0,.int .u64 0,.int .i64 0] T.n)).heap[w2.heap.size]? =some (.cells #[.int .u64 0,.int .u64 0,.int .i64 0] T.n (0,0)):=by rw[iw,if_pos rfl]
   refine jw (vs:=[.int .u64 m.id,.int .u64 m.inc,.int .i64 m.st]) hba rfl (by simp) fun w3 b3 f3=>?_
   have f3':Fz w2 w3:=((Fr.refl _ w2).alloc _).jt f3 fun y hy he=>by subst he;omega
   have c1:ik w3 w2.heap.size 1=some (.int .u64 m.inc):=by rw[iq b3];rfl
   have c2:ik w3 w2.heap.size 2=some (.int .i64 m.st):=by rw[iq b3];rfl
   have hsub:IntKind.u64.wrap (m.inc - 1)=(((m.inc - 1).toNat:Nat):Int):=by rw[lr (by omega) (by omega)];omega
   have hcv: ∀w K,cvT P T.d T.a (.int .i64 m.st) w K=K (.int .u64 m.st) w:=fun w K=>by
    rw[ou (ks:= .i64) (kd:= .u64) (by kernel_rfl) (by kernel_rfl),lr (by omega) (by omega)]
   have hst1:IntKind.u64.wrap (m.st+1)=m.st+1:=lr (by omega) (by omega)
   simp[c1]
   rw[hsub]
   generalize hx:(m.inc - 1).toNat=x at *
   have hx':m.inc=(x:Int)+1:=by omega
   refine bdl (by omega) ?_
   simp[c2,hcv,hst1]
   refine apx (by omega) (by omega) ?_
   simp
   refine apx hs0 (by omega) ?_
   simp
   have hi16:(i:Int)<=16:=by omega
   have wa:IntKind.u64.wrap (hg+3 * (x:Int) / 18446744073709551616)=hg+3 * (x:Int) / 18446744073709551616:=lr (by omega) (by omega)
   have wb:IntKind.u64.wrap (hg+3 * (x:Int) / 18446744073709551616+(3 * (x:Int) % 18446744073709551616+(m.st+1)) / 18446744073709551616)=hg+3 * (x:Int) / 18446744073709551616+(3 * (x:Int) % 18446744073709551616+(m.st+1)) / 18446744073709551616:=lr (by omega) (by omega)
   have wc:IntKind.u64.wrap (hg+3 * (x:Int) / 18446744073709551616+(3 * (x:Int) % 18446744073709551616+(m.st+1)) / 18446744073709551616+(s+(3 * (x:Int)+(m.st+1)) % 18446744073709551616) / 18446744073709551616)=hg+3 * (x:Int) / 18446744073709551616+(3 * (x:Int) % 18446744073709551616+(m.st+1)) / 18446744073709551616+(s+(3 * (x:Int)+(m.st+1)) % 18446744073709551616) / 18446744073709551616:=lr (by omega) (by omega)
   rw[wa,wb,wc,hwi]
   have ht:ahz m=3 * (x:Int)+m.st+1:=by unfold ahz;rw[hx'];omega
   rw[ht] at htk
   exact⟨⟨_,_,_,_,_,_,_,_,i+1,rfl,by omega,by omega,by omega,by omega,by omega,by rw[htk];omega,f2.trans f3'⟩,by simp[ms,gv];omega⟩
  ·have hil': ¬(i:Int) < l.length:=by omega
   simp[hil']
   unfold M.bl.j1
   rw[List.take_of_length_le (by omega)] at htot
   have g10: ∀a b c d e f g h i hh k:Value,gv [a,b,c,d,e,f,g,h,i,hh,k] 10=k:=fun _ _ _ _ _ _ _ _ _ _ _=>rfl
   have g9: ∀a b c d e f g h i hh k:Value,gv [a,b,c,d,e,f,g,h,i,hh,k] 9=hh:=fun _ _ _ _ _ _ _ _ _ _ _=>rfl
   simp only[il,g10,g9]
   by_cases hh0:0 < hg
   ·have hT:18446744073709551616<=zo l:=by omega
    rw[if_pos hT] at h
    simp[hh0]
    exact h w2 f2
   ·have hT: ¬18446744073709551616<=zo l:=by omega
    have hs':s=zo l:=by omega
    rw[if_neg hT] at h
    simp[hh0]
    rw[hs']
    exact h w2 f2
 ·have hv6:vf l=6:=(apy l).resolve_left hv
  rw[if_pos hv] at h
  simp[hv6]
  exact h w1 f1
section
variable {w0 w : World} {R : List Asn}
end
section
variable {w0 w : World} {R : List Asn} {p : Nat} {q : Cl} {n : Nd}
def qf(n:Nd):Int:=if (ajf n.v).2≠0 then 18446744073709551615 else (ajf n.v).1
theorem akp(S:St w0 w (clA p q :: jy q.tb n :: R))(hn:qn n){K:KV}(h: ∀w',St w0 w' (clA p q :: jy q.tb n :: R)->K (.int .u64 (qf n)) w'):ie P F.f [km p] w K:=by
 rw[M.bz.fcall]
 apply M.bz.calls
 unfold M.bz
 obtain⟨_,_,_,_,_,_,_,_,c14,_⟩:=ly S
 simp only[km]
 simp[c14]
 refine ami S.swap hn fun w1 v1 S1=>?_
 have hinc:bfs n.v:=fun m hm=>hn.inc m hm
 refine avu S1.rd (by have:=hn.zm.few;omega) hinc fun w2 f2=>?_
 have S2:=(S1.ju f2).drop.swap
 have:=h w2 S2
 unfold qf at this
 by_cases hk:(ajf n.v).2=0
 ·simp[hk] at this⊢
  exact this
 ·simp[hk] at this⊢
  exact this
theorem orN{x y:Nat}(hx:x < 4294967296)(hy:y < 4294967296)(w:World)(t:TypeId)(rx ry:Operand)(K:KV):ip P .or t rx ry (.int .u64 ((x * 4294967296:Nat):Int)) (.int .u64 (y:Int)) w K=K (.int .u64 ((x * 4294967296+y:Nat):Int)) w:=by
 rw[aye]
 have h1:(BitVec.ofInt IntKind.u64.bits ((x * 4294967296:Nat):Int) ||| BitVec.ofInt IntKind.u64.bits (y:Int)).toNat=x * 4294967296+y:=by
  rw[BitVec.toNat_or]
  have e1:(BitVec.ofInt IntKind.u64.bits ((x * 4294967296:Nat):Int)).toNat=x * 4294967296:=aah (by omega)
  have e2:(BitVec.ofInt IntKind.u64.bits (y:Int)).toNat=y:=aah (by omega)
  rw[e1,e2,show x * 4294967296=2 ^ 32 * x from by rw[Nat.mul_comm],Nat.two_pow_add_eq_or_of_lt (by omega) x]
 rw[h1,ww (by omega)]
def afn(inc:Int):Int:=if 4294967295 < inc then 0 else inc * 4294967296+1
theorem bhb(S:St w0 w (clA p q :: R))(hi:1<=q.inc){K:KV}(h: ∀w',St w0 w' (clA p q :: R)->K (.int .u64 (afn q.inc)) w'):ie P F.z [km p] w K:=by
 rw[M.be.fcall]
 apply M.be.calls
 unfold M.be
 have S1:=S.ju ((Fr.refl _ w).dr 1)
 obtain⟨c0,c1,_⟩:=ly S1
 have hm:max (1:Int) q.inc=q.inc:=by omega
 simp only[km]
 simp[c0,c1,ro,hm]
 by_cases hb:4294967295 < q.inc
 ·have:=h _ S1
  unfold afn at this
  rw[if_pos hb] at this
  simp[hb]
  exact this
 ·have S2:=S1.ju ((Fr.refl _ _).dr 1)
  have:=h _ S2
  unfold afn at this
  rw[if_neg hb] at this
  simp[hb]
  unfold M.be.j0
  obtain⟨d0,d1,_⟩:=ly S2
  obtain⟨x,hx⟩:=Int.eq_ofNat_of_zero_le (show 0<=q.inc by omega)
  rw[hx] at this d1 hb
  have hxl:x < 4294967296:=by omega
  have hsh: ∀(rx ry:Operand)(w:World)(K:KV),ip P .shl T.a rx ry (.int .u64 (x:Int)) (.int .u64 32) w K=K (.int .u64 ((x * 4294967296:Nat):Int)) w:=fun rx ry w K=>by
   rw[ael (by decide)]
   have e:IntKind.u64.wrap ((x:Int) * 2 ^ min (32:Int).toNat IntKind.u64.bits)=((x * 4294967296:Nat):Int):=by
    show IntKind.u64.wrap ((x:Int) * 4294967296)=_
    rw[lr (by omega) (by omega)]
    omega
   rw[e]
  have ho: ∀(rx ry:Operand)(w:World)(K:KV),ip P .or T.a rx ry (.int .u64 ((x:Int) * 4294967296)) (.int .u64 1) w K=K (.int .u64 ((x:Int) * 4294967296+1)) w:=fun rx ry w K=>by
   have:=orN (x:=x) (y:=1) hxl (by decide) w T.a rx ry K
   simpa using this
  simp[d0,d1,hsh,ho]
  exact this
def avy(ids:List Int)(t o:Int):Prop:= ∃l,Ring.ach l/\l.Perm (Ring.abg ids 3)/\o=Ring.aem l (Ring.ajb t)
theorem avy.one{id t o:Int}(h:avy [id] t o):o=id:=by
 obtain⟨l,a1,a2,rfl⟩:=h
 have hl:=a2.length_eq
 rw[Ring.aff] at hl
 refine Ring.axw (fun p hp=>?_) (fun e=>by rw[e] at hl;simp at hl) _
 have:=a2.mem_iff.1 hp
 simp only[Ring.abg,Ring.aaz,List.flatMap_cons,List.flatMap_nil,List.append_nil,List.mem_map] at this
 obtain⟨i,_,rfl⟩:=this
 rfl
theorem agi(S:St w0 w (clA p q :: jy q.tb n :: R))(hn:qn n){ids:List Int}(hi:afe n.v=ids)(hr:Ring.aor 0 ids)(hne:ids≠[])(hlen:ids.length<=4)(t:Int){K:KV}(h: ∀w' o,avy ids t o->St w0 w' (clA p q :: jy q.tb n :: R)->K (.int .u64 o) w'):ie P F.bf [km p,.int .u64 t] w K:=by
 rw[M.av.fcall]
 apply M.av.calls
 unfold M.av
 simp only[km]
 simp
 unfold M.av.j0
 have S1:=S.ju ((Fr.refl _ w).dr 1)
 obtain⟨_,_,_,_,c4,_,_,_,c14,_⟩:=ly S1
 simp[c4,c14]
 refine ami S1.swap hn fun w2 v2 S2=>?_
 obtain⟨_,_,_,_,d4,_⟩:=ly S2.up2
 simp[d4]
 refine asx (l:=n.v) S2 (fun w' L S'=>(S'.perm List.perm_middle).rd) (by have:=hn.zm.few;omega) fun w3 v3 S3=>?_
 rw[hi] at S3
 obtain⟨_,_,_,_,e4,_⟩:=ly S3.up3
 simp[e4]
 refine Ring.bgk (n:=3) S3 (fun w' L S'=>(S'.perm List.perm_middle).row (fun _=>rfl)) hr (by omega) (by omega) hne (by omega) fun w4 v4 l a1 a2 S4=>?_
 have hl:=a2.length_eq
 rw[Ring.aff] at hl
 have hl0:=List.length_pos_iff.2 hne
 simp
 refine Ring.bcu S4 (fun w' L S'=>(S'.perm List.perm_middle).row Ring.wd) (by omega) (fun e=>by rw[e] at hl;simp at hl;omega) a1 t fun w5 S5=>?_
 exact h w5 _ ⟨l,a1,a2,rfl⟩ S5.drop.drop.drop.swap
theorem bax{ls:List Ltr}(S:St w0 w (clA p q :: mo q.out ls :: R)){K:KV}(h: ∀w',St w0 w' (clA p {q with out:= .slice none 0 0} :: mo q.out ls :: R)->K q.out w'):ie P F.bm [km p] w K:=by
 rw[M.cs.fcall]
 apply M.cs.calls
 unfold M.cs
 obtain⟨_,_,_,_,_,_,_,_,_,_,_,_,_,_,_,_,c24,_⟩:=ly S
 simp only[km]
 simp[c24]
 refine St.nj S rfl (by simp[clC]) fun w2 S2=>?_
 exact h w2 S2
theorem awm{a0:Int}{m:MP}(S:St w0 w (clA p q :: om q.kb a0 m :: R))(t:Int){K:KV}(h:K ((ki m t).getD (.int .i64 0)) w):ie P F.bo [km p,.int .u64 t] w K:=by
 rw[M.bx.fcall]
 apply M.bx.calls
 unfold M.bx
 obtain⟨_,_,_,_,_,_,_,_,_,_,c16,_⟩:=ly S
 simp only[km]
 simp[c16]
 exact amg S.swap t h
end
end Go.Proofs.YtgepcfcicngceaaGreatDoor
set_option maxRecDepth 100000
namespace Go.Proofs.YtgepcfcicngceaaGreatDoor.KeyB
open Go.Eng Go.Sort Go.Proofs.YtgepcfcicngceaaGreatDoor.Suint64
def KI(w W:World)(U:Nat->Prop)(r:Nat)(m:MP)(J:List Int->Asn):KL:=fun x w1=> ∃(done:List Int)(U1:Nat->Prop),x.length=1/\yc w1 W.heap.size r .u64 m done/\(J done.reverse).ok w1 U1/\(∀b,U1 b->w.heap.size<=b/\b < w1.heap.size/\b≠W.heap.size)/\Fr (fun b=>w.heap.size<=b) W w1
theorem acp{w:World}{it r:Nat}{k:IntKind}{m:MP}{done:List Int}(h:yc w it r k m done):done.Nodup/\∀x∈done,x∈jm m:=by
 obtain⟨es,clk,since,c0,jp,_,_,_,_,_,_,_,_,_,h1,h2⟩:=h
 exact⟨h1,h2⟩
theorem ajc{w:World}{r Bm:Nat}{m:MP}{e:TypeId}(hm:kx w r .u64 m)(hn:(jm m).Nodup)(hB:w.heap[Bm]? =some (.cells #[.map (some r)] e (0,0)))(hl:m.length < 60000):
  apg P F.a [.pointer (some ⟨Bm,0,none⟩)] alu (fun xs=>xs.Perm (jm m)) 60000 w:=by
 intro l J W U K hf hJ hU hround hend
 apply M.r.calls
 unfold M.r
 have hBm:W.heap[Bm]? =some (.cells #[.map (some r)] e (0,0)):=hf.heap hB fun h=>h
 have c0:=iq hBm 0
 simp only[List.size_toArray,List.getElem?_toArray,List.getElem?_cons_zero] at c0
 have hm':kx W r .u64 m:=hm.of_heap (hf.jf r hm.lt fun h=>h)
 have hrw:=hm.lt
 simp[c0]
 refine apk mt.j hm' fun w1 hi f1=>?_
 have hWs:=hf.size
 have hWlt:=(hi.lt).1
 refine⟨KI w W U r m J,fun _ w1=>sq w1 W.heap.size m.length,⟨[],U,rfl,hi,(J []).jf hJ f1 fun _ _ h=>h,fun b hb=>?_,f1.mono fun _ _ h=>h.elim⟩,?_⟩
 ·have:=hU b hb
  have:=f1.size
  exact⟨by omega,by omega,by omega⟩
 rintro x w2 ⟨done,U1,hx1,hi2,hJ2,hU2,f2⟩
 unfold M.r.j0
 refine ari hi2 hn T.ca (fun hall=>?_) fun y v w3 hy hyd hc3 f3 hlt=>?_
 ·have e0: ∀w K,exT P (.tuple #[.bool false]) 0 w K=K (.bool false) w:=fun _ _=>rfl
  simp[e0]
  obtain⟨h1,h2⟩:=acp hi2
  refine hend _ w2 done.reverse U1 ?_ hJ2 f2
  refine (List.reverse_perm done).trans ?_
  refine (List.perm_ext_iff_of_nodup h1 hn).2 fun z=>⟨h2 z,fun hz=>?_⟩
  obtain⟨p,hp,rfl⟩:=List.mem_map.1 hz
  exact hall p hp
 ·simp
  rw[aqs hc3]
  simp
  have hnit: ∀b,U1 b->¬b=W.heap.size:=fun b hb=>(hU2 b hb).2.2
  have hJ3:=(J done.reverse).jf hJ2 f3 hnit
  have hlen:done.length < m.length:=by
   obtain⟨h1,h2⟩:=acp hi2
   have:=xt (l:=y :: done) (l':=jm m) (List.nodup_cons.2 ⟨hyd,h1⟩) fun z hz=>by
    rcases List.mem_cons.1 hz with rfl|hz
    ·exact List.mem_map_of_mem hy
    ·exact h2 z hz
   simp only[jm,List.length_map,List.length_cons] at this
   omega
  have hs3:=f3.size
  refine hround done.reverse y w3 U1 _ hJ3 (fun b hb=>⟨(hU2 b hb).1,by have:=(hU2 b hb).2.1;omega⟩) (by simp;omega) fun w4 U4 hJ4 hU4 f4=>?_
  simp
  have hit: ¬U1 W.heap.size:=fun h=>hnit _ h rfl
  have hr1: ¬U1 r:=fun h=>by have:=(hU2 r h).1;omega
  have hi3:yc w3 W.heap.size r .u64 m (y :: done):=hc3.1
  have hi4:=hi3.jf (f4.jf _ hi3.lt.1 hit) (f4.jf _ hi3.lt.2 hr1)
  refine⟨⟨y :: done,U4,rfl,hi4,by simpa using hJ4,fun b hb=>?_,?_⟩,?_⟩
  ·rcases hU4 b hb with h|h
   ·have:=hU2 b h
    have:=f4.size
    exact⟨by omega,by omega,by omega⟩
   ·have:=hi3.lt.1
    have:=f2.size
    exact⟨by omega,by omega,by omega⟩
  ·refine (f2.jt f3 fun b hb he=>by omega).jt f4 fun b hb he=>(hU2 b he).1
  ·have:sq w4 W.heap.size m.length=sq w3 W.heap.size m.length:=by
    unfold sq
    rw[f4.jf _ hi3.lt.1 hit]
   rw[this];exact hlt
theorem amk{w:World}{r:Nat}{m:MP}(hm:kx w r .u64 m)(hn:(jm m).Nodup)(hl:m.length < 60000){K:KV}
  (h: ∀w' v,OwN w' w.heap.size v (tk (jm m))->Fz w w'->K v w'):
  ie P F.r [.map (some r)] w fun t w=>ie P F.ao [t] w K:=by
 rw[M.z.fcall]
 apply M.z.calls
 unfold M.z
 rw[tw,aaj]
 show ie P F.ao _ _ K
 rw[M.cw.fcall]
 have f1:Fz w (w.alloc (.cells #[.map (some r)] T.j)):=(Fr.refl _ w).alloc _
 have hB:(w.alloc (.cells #[.map (some r)] T.j)).heap[w.heap.size]? =some (.cells #[.map (some r)] T.j (0,0)):=by rw[iw,if_pos rfl]
 have hsz:w.heap.size<=(w.alloc (.cells #[.map (some r)] T.j)).heap.size:=by simp
 refine ank (ks:=jm m) FN.a.at (by kernel_rfl) (by kernel_rfl) (by simpa [jm] using hl) (ajc (hm.of_heap (f1.jf r hm.lt fun h=>h)) hn hB hl) fun w2 v o2 f2=>?_
 exact h w2 v (o2.mono hsz) (f1.trans f2)
end Go.Proofs.YtgepcfcicngceaaGreatDoor.KeyB
set_option maxRecDepth 100000
namespace Go.Proofs.YtgepcfcicngceaaGreatDoor
open Go.Eng
abbrev adu(v:Value)(l:List Int):Asn:=pc T.a 1 Suint64.rk v l
theorem nt(x:Int):(Suint64.rk x).length=1:=rfl
section
variable {w0 w : World} {hb : Nat} {g : Cfg} {A : List AE} {c : CT} {R : List Asn}
def og(A:List AE):List Int:=Suint64.tk (A.map AE.t)
theorem anl(S:St w0 w (mf hb g A c :: R))(hA:A.length<=1000){K:KV}(h: ∀w' v,St w0 w' (adu v (og A) :: mf hb g A c :: R)->K v w'):ie P F.cb [.pointer (some ⟨hb,0,none⟩)] w K:=by
 obtain⟨B,I,hB,cl⟩:=S.open
 have I':Buf w hb g B A c:=I
 obtain⟨O,r,m,es,hAe,J,hfp⟩:=I'.ex
 have hkp:(jm m).Perm (A.map AE.t):=by
  have e:A.map AE.t=es.map Ent.t:=by rw[hAe,List.map_map];rfl
  rw[e]
  refine (List.perm_ext_iff_of_nodup J.mn J.tn).2 fun k=>?_
  constructor
  ·intro hk
   by_cases hx: ∃e∈es,e.t=k
   ·obtain⟨e,he,rfl⟩:=hx;exact List.mem_map_of_mem he
   ·have:=J.mz k fun e he hek=>hx ⟨e,he,hek⟩
    exact absurd hk ((pe _ _).1 this)
  ·intro hk
   obtain⟨e,he,rfl⟩:=List.mem_map.1 hk
   by_cases hx:e.t∈jm m
   ·exact hx
   ·have:=(pe _ _).2 hx
    rw[J.mg e he] at this;cases this
 rw[M.bp.fcall]
 apply M.bp.calls
 unfold M.bp
 simp
 unfold M.bp.j0
 obtain⟨_,_,_,q5⟩:=J.cells
 simp[q5]
 have hml:m.length < 60000:=by
  have h1:A.length=es.length:=by rw[hAe,List.length_map]
  rw[J.ml];omega
 refine KeyB.amk J.mp J.mn hml fun w' v o f=>?_
 have hd:Suint64.tk (jm m)=og A:=Suint64.agy hkp
 rw[hd] at o
 exact h w' v (S.add (a:=adu v (og A)) f (B:=fun b=>v.ownBlock=some b) ⟨o.mono (Nat.zero_le _),fun b hb=>hb⟩ fun b hb=>⟨(o.lt hb).1,(o.lt hb).2⟩)
end
set_option maxRecDepth 100000
open Go.Eng Go.Proofs.YtgepcfcicngceaaGreatDoor.Sint
section
variable {w0 w : World} {R : List Asn} {p : Nat} {q : Cl} {n : Nd} {g : Cfg} {A : List AE} {c : CT} {a0 : Int} {es : List Evn}
theorem aji{v:Value}{l:List Int}(h:Rdv w0 R v l)(X:List Asn):Rdv w0 (X ++ R) v l:=fun w' L S=>h w' (L ++ X) (by rw[List.append_assoc];exact S)
def sr(k now:Int)(s:Spn):Evn:=if k=0 then ⟨1,now,1,s.je,ja,0,s,0⟩ else ⟨6,now,1,s.je,ja,0,s,8⟩
abbrev acq(p:Nat)(q:Cl)(n:Nd)(g:Cfg)(A:List AE)(c:CT)(a0:Int)(es:List Evn):List Asn:=[clA p q,jy q.tb n,mf q.hb g A c,om q.kb a0 [],nh q.ev es]
theorem bau{rv:Value}{s:Spn}{now:Int}(S:St w0 w (acq p q n g A c a0 es ++ R))(hn:qn n)(hv:afe n.v=[1])(hs:Rdv w0 R rv (afa s))(hr:kv s=0)(hR:afs s)(h0:0<=q.now)(h1:q.now<=18446744073709551615)(h2:0<=now)(h3:now<=18446744073709551615)
  (hA:A.length<=1000) (hl: ∀e∈A,e.l.length<=1000) (hw:0<=g.jn) (he:es.length<=1000000) {K:KV}
  (h: ∀w' v',St w0 w' (acq p {q with now:=max q.now now,ev:=v'} n g (tj g A s) (aea g A c s (max q.now now)) a0 (es ++ [sr (qj g A s) (max q.now now) s]) ++ R)->K (.int .i64 (if qj g A s=0 then 0 else 8)) w'):ie P F.aa [km p,rv,.int .u64 now] w K:=by
 have S0:St w0 w (clA p q :: jy q.tb n :: mf q.hb g A c :: om q.kb a0 [] :: nh q.ev es :: R):=S
 rw[M.e.fcall]
 apply M.e.calls
 unfold M.e
 obtain⟨_,_,_,_,_,_,_,_,_,_,_,_,_,_,_,c23,_⟩:=ly S0
 simp only[km]
 simp
 unfold M.e.j0
 simp[c23,ro]
 refine St.nj S0 rfl (by simp[clC]) fun w1 S1=>?_
 have S1':St w0 w1 (clA p {q with now:=max q.now now} :: jy q.tb n :: mf q.hb g A c :: om q.kb a0 [] :: nh q.ev es :: R):=S1
 have hn0:0<=max q.now now:=by omega
 have hn1:max q.now now<=18446744073709551615:=by omega
 generalize max q.now now=nw at *
 refine auz (s:=s) (r:=[]) S1' (by rw[List.append_nil];exact aji hs [_,_,_,_,_]) hr hR (by simp) fun w2 v2 S2=>?_
 have S3:=S2.mkB #[.int .u64 0,.int .u64 0,.int .u64 0,.int .u64 0,.int .u64 0,.string ⟨#[]⟩,.string ⟨#[]⟩,.bool false] T.i
 have hln: ∀w' K,biT P .len #[T.q] T.d [false] [v2] w' K=K (.int .i64 0) w':=fun w' K=>(S2.row ny).jq (by kernel_rfl) [false]
 unfold li
 simp
 generalize w2.heap.size=tb at *
 generalize w2.alloc _=w3 at *
 refine St.put (vs:=jr s) (cs':=(jr s).toArray) S3 (ph s) (by simp[jr]) (by simp[jr]) fun w4 S4=>?_
 simp[hln]
 unfold M.e.j1
 simp
 unfold M.e.j2
 have S5:St w0 w4 (spB tb s :: clA p {q with now:=nw} :: jy q.tb n :: mf q.hb g A c :: om q.kb a0 [] :: nh q.ev es :: R):=S4.swap.drop
 have sp0: ∀{w':World}{L:List Asn},St w0 w' (spB tb s :: L)->ik w' tb 0=some (.int .u64 s.je):=fun S'=>by rw[S'.cell];rfl
 have sp8: ∀{w':World}{L:List Asn},St w0 w' (spB tb s :: L)->∀K,ldN P 8 tb 0 w' K=K (li s) w':=fun S' K=>S'.ldA (n:=8) (i:=0) (jr s) rfl rfl K
 have S6:=S5.mkB (evC ⟨0,0,0,0,ja,0,⟨0,0,0,0,0,⟨#[]⟩,⟨#[]⟩,false⟩,0⟩).toArray T.av
 unfold evC ja at S6
 dsimp only at S6
 simp[sp0 S5,sp8 S5,li]
 generalize w4.heap.size=eb at *
 generalize w4.alloc _=w5 at *
 refine St.put (vs:=evC ⟨1,0,0,s.je,ja,0,s,0⟩) (cs':=(evC ⟨1,0,0,s.je,ja,0,s,0⟩).toArray) S6 (amj _) (by simp[evC]) (by simp[evC]) fun w6 S7=>?_
 simp[sp0 S7.swap]
 have S8:=S7.perm (List.Perm.append_right R (List.perm_append_comm (l₁:=[_,_]) (l₂:=[_,_,_,_,_])))
 refine agi S8 hn hv ⟨by decide,trivial⟩ (by simp) (by simp) s.je fun w7 o ho S9=>?_
 obtain rfl:=ho.one
 have S10:=S9.ju ((Fr.refl _ w7).dr 1)
 obtain⟨d0,_,_,_,_,_,_,_,_,_,d16,_⟩:=ly S10
 have x0:=sp0 (S10.perm (List.perm_middle (l₁:=[_,_,_,_,_,_])))
 simp[d16,x0]
 refine amg S10.up3 s.je ?_
 simp[ki,d0]
 have S11:=S10.ju ((Fr.refl _ (dr w7 1)).dr 1)
 obtain⟨e0,_,_,_,_,_,_,_,_,e15,_,_,_,_,_,e23,_⟩:=ly S11
 have x8:=sp8 (S11.perm (List.perm_middle (l₁:=[_,_,_,_,_,_])))
 simp[e15,e23,x8]
 refine bae S11.up2 hA hl s ⟨hn0,hn1⟩ hw fun w8 S12=>?_
 have hev: ∀{w':World}{L:List Asn},St w0 w' (iz eb (evC ⟨1,0,0,s.je,ja,0,s,0⟩).toArray T.av :: L)->∀K,ldN P 16 eb 0 w' K=K (evA ⟨1,0,0,s.je,ja,0,s,0⟩) w':=fun S' K=>S'.ldA (n:=16) (i:=0) (evC ⟨1,0,0,s.je,ja,0,s,0⟩) rfl rfl K
 have hfin: ∀w9 v',St w0 w9 (clA p {{q with now:=nw} with ev:=v'} :: nh v' (es ++ [sr (qj g A s) nw s]) :: mf q.hb g (tj g A s) (aea g A c s nw) :: jy q.tb n :: om q.kb a0 [] :: iz eb (evC ⟨1,0,0,s.je,ja,0,s,0⟩).toArray T.av :: spB tb s :: R)->K (.int .i64 (if qj g A s=0 then 0 else 8)) w9:=fun w9 v' S'=>by
  refine h w9 v' ?_
  exact S'.pick (L:=[_,_,_,_,_,_,_]) [0,3,2,4,1] 7 rfl (by decide)
 by_cases hk:qj g A s=0
 ·have S13:=S12.pick (L:=[_,_,_,_,_,_,_]) [5,0,1,2,3,4,6] 7 rfl (by decide)
  simp[hk,hev S13]
  have S14:=S13.pick (L:=[_,_,_,_,_,_,_]) [2,5,1,3,4,0,6] 7 rfl (by decide)
  refine aco (q:={q with now:=nw}) S14 ⟨1,0,0,s.je,ja,0,s,0⟩ he fun w9 v9 S15=>?_
  have:=hfin w9 v9 (by
   unfold sr
   rw[if_pos hk]
   exact S15)
  rw[if_pos hk] at this
  exact this
 ·have S13:=S12.pick (L:=[_,_,_,_,_,_,_]) [6,0,1,2,3,4,5] 7 rfl (by decide)
  simp[hk,sp0 S13,sp8 S13,li]
  have S14:=S13.pick (L:=[_,_,_,_,_,_,_]) [2,5,1,3,4,6,0] 7 rfl (by decide)
  refine aco (q:={q with now:=nw}) S14 ⟨6,0,0,s.je,ja,0,s,8⟩ he fun w9 v9 S15=>?_
  have:=hfin w9 v9 (by
   unfold sr
   rw[if_neg hk]
   exact S15)
  rw[if_neg hk] at this
  exact this
end
def vo(o:Option (List Int)):Option (List Int):=o.bind fun l=>if 8<=l.length then some (l.drop 8) else none
def sm1(lo hi:Int)(o:Option (List Int)):Option (List Int):=o.bind fun l=>if l=[] then none else if lo<=l.headD 0/\l.headD 0<=hi then some (l.drop 1) else none
def tx1(o:Option (List Int)):Option (List Int):=o.bind fun l=>if l=[] then none else if 1<=l.headD 0/\l.headD 0<=32/\(l.headD 0).toNat<=(l.drop 1).length then some ((l.drop 1).drop (l.headD 0).toNat) else none
def txV(l:List Int):ByteArray:=agj ((l.drop 1).take (l.headD 0).toNat)
def ajp(l:List Int):Option (List Int):=tx1 (tx1 (sm1 0 1 (vo (vo (vo (vo (vo (some l))))))))
def acg(l:List Int):Spn:=
 ⟨abf l,abf (l.drop 8),abf (l.drop 16),abf (l.drop 24),abf (l.drop 32),txV (l.drop 41),txV ((l.drop 42).drop ((l.drop 41).headD 0).toNat),decide ((l.drop 40).headD 0=1)⟩
def xc(l:List Int):Option (Spn×List Int):=(ajp l).bind fun r=>if kv (acg l)=0 then some (acg l,r) else none
theorem aaw{o:Option (List Int)}{r:List Int}(h:vo o=some r): ∃l,o=some l/\8<=l.length/\r=l.drop 8:=by
 cases o with
 | none=>cases h
 | some l=>
  simp only[vo,Option.bind_some] at h
  split at h
  ·exact⟨l,rfl,by assumption,(Option.some.inj h).symm⟩
  ·cases h
theorem ait{lo hi:Int}{o:Option (List Int)}{r:List Int}(h:sm1 lo hi o=some r): ∃l,o=some l/\l≠[]/\lo<=l.headD 0/\l.headD 0<=hi/\r=l.drop 1:=by
 cases o with
 | none=>cases h
 | some l=>
  simp only[sm1,Option.bind_some] at h
  split at h
  ·cases h
  ·rename_i h1
   split at h
   ·rename_i h2
    exact⟨l,rfl,h1,h2.1,h2.2,(Option.some.inj h).symm⟩
   ·cases h
theorem acf{o:Option (List Int)}{r:List Int}(h:tx1 o=some r): ∃l,o=some l/\l≠[]/\1<=l.headD 0/\l.headD 0<=32/\(l.headD 0).toNat<=(l.drop 1).length/\r=(l.drop 1).drop (l.headD 0).toNat:=by
 cases o with
 | none=>cases h
 | some l=>
  simp only[tx1,Option.bind_some] at h
  split at h
  ·cases h
  ·rename_i h1
   split at h
   ·rename_i h2
    exact⟨l,rfl,h1,h2.1,h2.2.1,h2.2.2,(Option.some.inj h).symm⟩
   ·cases h
section
variable {w0 w : World} {R X : List Asn}
theorem bcn{n i:Nat}(h:i < n):(madeCells #[Value.int .u8 0] n)[i]? =some (.int .u8 0):=by
 unfold madeCells
 simp[h,Nat.mod_one]
theorem azb(n:Nat):(List.replicate n (0:Int)).flatMap ack=List.replicate n (.int .u8 0):=by
 induction n with
 | zero=>rfl
 | succ n ih=>rw[List.replicate_succ,List.flatMap_cons,ih,List.replicate_succ];rfl
theorem atx(S:St w0 w R){n:Nat}(hn:n<=1000){K:KV}(h: ∀w' v,St w0 w' (rdA 1 ack v (List.replicate n 0) :: R)->K v w'):aqy P T.q (.int .i64 (n:Nat)) (.int .i64 (n:Nat)) w K:=by
 obtain⟨i,z,hi,hz,hs,hb,hzs⟩:=(et.q).inf
 have hz0:z.cells= #[.int .u8 0]:=by
  have:((P.info? T.ba).bind fun i=>i.zero)=some (.int .u8 0):=by kernel_rfl
  rw[hi] at this
  simp only[Option.bind_some,hz] at this
  cases this
  rfl
 have hr:=run_makeSlice (P:=P) w T.q T.ba i z (et.q).ty hi hz .i64 .i64 (n:Nat) (n:Nat) (by omega) (by omega) (by rw[hs];simp;omega) (by rw[hb];omega) (by omega)
 unfold aqy jk
 rw[hr]
 simp only[Int.toNat_natCast,hs,Nat.mul_one,hz0]
 have hm:(madeCells #[Value.int .u8 0] n).toList=(List.replicate n (0:Int)).flatMap ack:=by
  rw[azb]
  apply List.ext_getElem?
  intro i
  by_cases hi:i < n
  ·rw[Array.getElem?_toList,bcn hi]
   simp[hi]
  ·rw[Array.getElem?_toList,Array.getElem?_eq_none (by rw[size_madeCells];omega),List.getElem?_eq_none (by simp;omega)]
 have S2:St w0 (w.alloc (.cells (madeCells #[Value.int .u8 0] n) T.ba)) (yp (.slice (some ⟨w.heap.size,0,none⟩) n n) (List.replicate n 0) :: R):=by
  have:=St.tz (e:=T.ba) (l:=List.replicate n (0:Int)) S ny hm (by simp[maxLen];omega)
  simpa using this
 obtain⟨B,⟨k1,k2⟩,hB,cl⟩:=S2.open
 exact h _ _ (cl _ [rdA 1 ack _ (List.replicate n 0)] (Fr.refl _ _) (Rs.one (B:=B) ⟨k1.sl ny,k2⟩ fun x hx=> .inl hx))
theorem bho(a b:Int):yd (orL a b):=by
 unfold orL
 have h:(BitVec.ofInt IntKind.u64.bits a ||| BitVec.ofInt IntKind.u64.bits b).toNat < 18446744073709551616:=(BitVec.ofInt 64 a ||| BitVec.ofInt 64 b).isLt
 rw[lr (by omega) (by omega)]
 exact⟨by omega,by omega⟩
theorem bem(l:List Int):yd (abf l):=bho _ _
end
section
variable {w0 w : World} {R X : List Asn}
def afk(w0:World)(R:List Asn)(v:Value)(k:Int):Option (List Int)->Prop
 | some l=>k=0/\Rdv w0 R v l
 | none=>k≠0/\∃a n c,v= .slice a n c
abbrev va(b:Nat)(v:Value)(k:Int):Asn:=iz b #[v,.int .i64 k] T.ar
def rdt(n:Nat)(o:Option (List Int)):Option (List Int):=o.bind fun l=>if n<=l.length then some (l.drop n) else none
theorem ajo{b n:Nat}{v:Value}{k:Int}{o:Option (List Int)}(S:St w0 w (va b v k :: (X ++ R)))(ho:afk w0 R v k o)(hn:n<=1000){K:KV}
  (h: ∀w' v1 d v2 k2,SlB w' v1 d->d.length=n->(∀l,o=some l->n<=l.length->d=l.take n)->afk w0 R v2 k2 (rdt n o)->St w0 w' (va b v2 k2 :: (X ++ R))->K v1 w'):ie P F.bu [.pointer (some ⟨b,0,none⟩),.int .i64 (n:Nat)] w K:=by
 rw[M.af.fcall]
 apply M.af.calls
 unfold M.af
 have c0:ik w b 0=some v:=by rw[S.cell];rfl
 have c1:ik w b 1=some (.int .i64 k):=by rw[S.cell];rfl
 cases o with
 | none=>
  obtain⟨hk,a,m,c,hv⟩:=ho
  simp[c1,hk]
  unfold M.af.j0
  simp[c1,hk]
  refine atx S hn fun w2 v2 S2=>?_
  exact h w2 v2 _ v k S2.rd (by simp) (fun l h=>by cases h) ⟨hk,a,m,c,hv⟩ S2.drop
 | some l=>
  obtain⟨hk,hs⟩:=ho
  subst hk
  have hlen: ∀w' K,biT P .len #[T.q] T.d [false] [v] w' K=K (.int .i64 l.length) w':=fun w' K=>(hs w (_ :: X) S).jq (by kernel_rfl) [false]
  by_cases hl:n<=l.length
  ·have hlt: ¬(l.length:Int) < (n:Int):=by omega
   simp[c0,c1,hlen,hlt]
   unfold M.af.j0
   simp[c1]
   unfold M.af.j1
   obtain⟨v1,e1,r1⟩:=aii (L0:=rdr b v :: X) S hs (lo:=none) (hi:=some (.int .i64 (n:Nat))) (i:=0) (j:=n) (.inl ⟨rfl,rfl⟩) (.inr ⟨_,rfl⟩) (Nat.zero_le _) hl
   obtain⟨v2,e2,r2⟩:=aii (L0:=rdr b v :: X) S hs (lo:=some (.int .i64 (n:Nat))) (hi:=none) (i:=n) (j:=l.length) (.inr ⟨_,rfl⟩) (.inl ⟨rfl,rfl⟩) hl (Nat.le_refl _)
   rw[List.drop_zero,Nat.sub_zero] at r1
   rw[List.take_of_length_le (by simp)] at r2
   have hv2:kt v2=true:=by
    obtain⟨_,_,e,_⟩:=r2 w (_ :: X) S
    rw[e];rfl
   have hst: ∀w' K,stT P T.q (.pointer (some ⟨b,0,none⟩)) v2 w' K=st1 P b 0 v2 w' K:=fun w' K=>by
    obtain⟨a,c,e,_⟩:=r2 w (_ :: X) S
    rw[e]
    simp
   simp[c0,e1,e2,hst]
   refine St.nj S hv2 (by simp) fun w3 S3=>?_
   have S3':St w0 w3 (va b v2 0 :: (X ++ R)):=S3
   refine h w3 v1 _ v2 0 (r1 w3 (_ :: X) S3') (by simp;omega) (fun l' h _=>by cases h;rfl) ?_ S3'
   simp only[rdt,Option.bind_some,if_pos hl]
   exact⟨rfl,r2⟩
  ·have hlt:(l.length:Int) < (n:Int):=by omega
   simp[c0,c1,hlen,hlt]
   refine St.nj S rfl (by simp) fun w2 S2=>?_
   have S2':St w0 w2 (va b v 3 :: (X ++ R)):=S2
   unfold M.af.j0
   have d1:ik w2 b 1=some (.int .i64 3):=by rw[S2'.cell];rfl
   simp[d1]
   refine atx S2' hn fun w3 v3 S3=>?_
   obtain⟨a,c,hv,_⟩:=hs w (_ :: X) S
   refine h w3 v3 _ v 3 S3.rd (by simp) (fun l' h hl'=>by cases h;exact absurd hl' hl) ?_ S3.drop
   simp only[rdt,Option.bind_some,if_neg hl]
   exact⟨by decide,a,_,c,hv⟩
end
theorem amz(l:List Int): ∀i,i<=8->ye (l.take 8) i=ye l i
 | 0,_=>rfl
 | i+1,h=>by
  unfold ye
  rw[amz l i (by omega)]
  have e:(l.take 8).getD i 0=l.getD i 0:=by
   rw[List.getD_eq_getElem?_getD,List.getD_eq_getElem?_getD,List.getElem?_take_of_lt (by omega)]
  rw[e]
theorem axj(l:List Int):abf (l.take 8)=abf l:=amz l 8 (Nat.le_refl _)
section
variable {w0 w : World} {R X : List Asn} {b : Nat} {v : Value} {k : Int} {o : Option (List Int)}
theorem zf(S:St w0 w (va b v k :: (X ++ R)))(ho:afk w0 R v k o){K:KV}
  (h: ∀w' x v2 k2,yd x->(∀l,o=some l->8<=l.length->x=abf l)->afk w0 R v2 k2 (vo o)->St w0 w' (va b v2 k2 :: (X ++ R))->K (.int .u64 x) w'):ie P F.ar [.pointer (some ⟨b,0,none⟩)] w K:=by
 rw[M.cc.fcall]
 apply M.cc.calls
 unfold M.cc
 refine ajo (n:=8) S ho (by decide) fun w1 v1 d v2 k2 r1 hd hdl h2 S1=>?_
 refine bal r1 (by omega) ?_
 exact h w1 _ v2 k2 (bem d) (fun l hl h8=>by rw[hdl l hl h8,axj]) h2 S1
theorem amp(S:St w0 w (va b v k :: (X ++ R)))(ho:afk w0 R v k o){lo hi:Int}{K:KV}
  (h: ∀w' x v2 k2,(∀l,o=some l->l≠[]->x=l.headD 0)->afk w0 R v2 k2 (sm1 lo hi o)->St w0 w' (va b v2 k2 :: (X ++ R))->K (.int .u8 x) w'):ie P F.ce [.pointer (some ⟨b,0,none⟩),.int .u8 lo,.int .u8 hi] w K:=by
 rw[M.ci.fcall]
 apply M.ci.calls
 unfold M.ci
 refine ajo (n:=1) S ho (by decide) fun w1 v1 d v2 k2 r1 hd hdl h2 S1=>?_
 have c1:ik w1 b 1=some (.int .i64 k2):=by rw[S1.cell];rfl
 match d,hd with
 | [x],_=>
  obtain⟨ab,ao,ac,e1,_,_,hc⟩:=r1.at (i:=0) (by simp)
  have hcell:ik w1 ab ao=some (.int .u8 x):=by simpa using hc 0 _ rfl
  have hia: ∀w' K,iaT P T.q v1 (.int .i64 0) w' K=K (.pointer (some ⟨ab,ao,none⟩)) w':=fun w' K=>by rw[e1];simp
  have hx: ∀l,o=some l->l≠[]->x=l.headD 0:=fun l hl hne=>by
   have:=hdl l hl (by have:=List.length_pos_iff.2 hne;omega)
   cases l with
   | nil=>exact absurd rfl hne
   | cons y l=>simpa using this
  by_cases hk2:k2=0
  ·subst hk2
   -- it went well:there is a byte
   have hol: ∃l,o=some l/\1<=l.length/\rdt 1 o=some (l.drop 1):=by
    cases o with
    | none=>exact absurd rfl h2.1
    | some l=>
     by_cases hl:1<=l.length
     ·exact⟨l,rfl,hl,by simp only[rdt,Option.bind_some,if_pos hl]⟩
     ·simp only[rdt,Option.bind_some,if_neg hl] at h2
      exact absurd rfl h2.1
   obtain⟨l,hol,hl1,hrd⟩:=hol
   have hne:l≠[]:=fun e=>by subst e;simp at hl1
   have hxl:=hx l hol hne
   rw[hrd] at h2
   by_cases hin:lo<=x/\x<=hi
   ·have n0: ¬x < lo:=by omega
    have n1: ¬hi < x:=by omega
    simp[hia,hcell,c1,n0,n1]
    refine h w1 x v2 0 hx ?_ S1
    have e:sm1 lo hi o=some (l.drop 1):=by
     rw[hol]
     simp only[sm1,Option.bind_some,if_neg hne]
     rw[if_pos (by rw[<-hxl];exact hin)]
    rw[e]
    exact h2
   ·have hnn:sm1 lo hi o=none:=by
     rw[hol]
     simp only[sm1,Option.bind_some,if_neg hne]
     rw[if_neg (by rw[<-hxl];exact hin)]
    have fin: ∀w3,St w0 w3 (va b v2 6 :: (X ++ R))->K (.int .u8 x) w3:=fun w3 S3=>by
     refine h w3 x v2 6 hx ?_ S3
     rw[hnn]
     obtain⟨a,c,hv,_⟩:=h2.2 w1 (_ :: X) S1
     exact⟨by decide,a,_,c,hv⟩
    by_cases n0:x < lo
    ·simp[hia,hcell,c1,n0]
     exact St.nj S1 rfl (by simp) fun w3 S3=>fin w3 S3
    ·have n1:hi < x:=by omega
     simp[hia,hcell,c1,n0,n1]
     exact St.nj S1 rfl (by simp) fun w3 S3=>fin w3 S3
  ·simp[hia,hcell,c1,hk2]
   refine h w1 x v2 k2 hx ?_ S1
   have hnn:sm1 lo hi o=none:=by
    cases o with
    | none=>rfl
    | some l=>
     by_cases hl:l=[]
     ·subst hl;rfl
     ·have hl1:1<=l.length:=List.length_pos_iff.2 hl
      simp only[rdt,Option.bind_some,if_pos hl1] at h2
      exact absurd h2.1 hk2
   rw[hnn]
   cases hrd:rdt 1 o with
   | none=>
    rw[hrd] at h2
    exact h2
   | some l=>
    rw[hrd] at h2
    exact absurd h2.1 hk2
theorem arn(S:St w0 w (va b v k :: (X ++ R)))(ho:afk w0 R v k o){K:KV}
  (h: ∀w' x v2 k2,(∀l,o=some l->(tx1 o).isSome->x=txV l)->afk w0 R v2 k2 (tx1 o)->St w0 w' (va b v2 k2 :: (X ++ R))->K (.string x) w'):ie P F.cl [.pointer (some ⟨b,0,none⟩)] w K:=by
 rw[M.co.fcall]
 apply M.co.calls
 unfold M.co
 refine amp (lo:=1) (hi:=32) S ho fun w1 x v1 k1 hx h1 S1=>?_
 have c1:ik w1 b 1=some (.int .i64 k1):=by rw[S1.cell];rfl
 cases hs:sm1 1 32 o with
 | none=>
  rw[hs] at h1
  have hk1:k1≠0:=h1.1
  have htx:tx1 o=none:=by
   cases ht:tx1 o with
   | none=>rfl
   | some r=>
    obtain⟨l,hl,hne,g1,g2,_,_⟩:=acf ht
    rw[hl] at hs
    simp only[sm1,Option.bind_some,if_neg hne,if_pos (And.intro g1 g2)] at hs
    cases hs
  simp[c1,hk1]
  refine h w1 _ v1 k1 (fun l hl hsome=>by rw[htx] at hsome;cases hsome) ?_ S1
  rw[htx]
  exact h1
 | some r1=>
  obtain⟨l,hol,hne,g1,g2,hr1⟩:=ait hs
  rw[hs] at h1
  have hk1:k1=0:=h1.1
  subst hk1
  have hxl:=hx l hol hne
  obtain⟨m,hm⟩:=Int.eq_ofNat_of_zero_le (show 0<=l.headD 0 by omega)
  rw[hm] at hxl
  subst hxl
  simp[c1]
  have hcv: ∀w' K',cvT P T.ba T.d (.int .u8 (m:Int)) w' K'=K' (.int .i64 (m:Nat)) w':=fun w' K'=>by
   rw[ou (ks:= .u8) (kd:= .i64) (by kernel_rfl) (by kernel_rfl),iy]
  simp[hcv]
  refine ajo (n:=m) S1 h1 (by omega) fun w2 v2 d v3 k3 r2 hd hdl h2 S2=>?_
  rw[bes (by kernel_rfl) (by kernel_rfl) r2]
  have htx:tx1 o=rdt m (some r1):=by
   rw[hol]
   simp only[tx1,Option.bind_some,if_neg hne,rdt,hr1,hm,Int.toNat_natCast]
   by_cases hml:m<=(l.drop 1).length
   ·rw[if_pos hml,if_pos (by rw[hm] at g1 g2;exact⟨g1,g2,hml⟩)]
   ·rw[if_neg hml,if_neg (fun hh=>hml hh.2.2)]
  refine h w2 _ v3 k3 (fun l' hl' hsome=>?_) (by rw[htx];exact h2) S2
  rw[hol] at hl'
  cases hl'
  have hml:m<=r1.length:=by
   rw[htx] at hsome
   by_cases hml:m<=r1.length
   ·exact hml
   ·simp only[rdt,Option.bind_some,if_neg hml] at hsome
    cases hsome
  rw[hdl r1 rfl hml]
  clear h2 hdl
  unfold txV
  rw[hr1,hm,Int.toNat_natCast]
end
def aag:Spn:=⟨0,0,0,0,0,⟨#[]⟩,⟨#[]⟩,false⟩
section
variable {w0 w : World} {R X : List Asn}
theorem bbn{l r:List Int}(h:ajp l=some r):8<=l.length/\8<=(l.drop 8).length/\8<=(l.drop 16).length/\8<=(l.drop 24).length/\8<=(l.drop 32).length/\l.drop 40≠[]:=by
 unfold ajp at h
 obtain⟨a1,e1,_,_,_,_,_⟩:=acf h
 obtain⟨a2,e2,_,_,_,_,_⟩:=acf e1
 obtain⟨a3,e3,n3,_,_,_⟩:=ait e2
 obtain⟨b5,f5,g5,q5⟩:=aaw e3
 obtain⟨b4,f4,g4,q4⟩:=aaw f5
 obtain⟨b3,f3,g3,q3⟩:=aaw f4
 obtain⟨b2,f2,g2,q2⟩:=aaw f3
 obtain⟨b1,f1,g1,q1⟩:=aaw f2
 cases f1
 subst q1 q2 q3 q4 q5
 simp only[List.drop_drop] at *
 exact⟨g1,g2,g3,g4,g5,n3⟩
theorem bic{v:Value}{l:List Int}(S:St w0 w R)(hs:Rdv w0 R v l)(hl:l.length<=1000000){K:KV}
  (h1: ∀s r,xc l=some (s,r)->afs s->kv s=0->∀w' v',St w0 w' (yp v' r :: R)->K (.tuple #[li s,v',.int .i64 0]) w')
  (h0:xc l=none->∀w' k,k≠0->St w0 w' R->K (.tuple #[li aag,.slice none 0 0,.int .i64 k]) w'):ie P F.gm [v] w K:=by
 rw[M.cv.fcall]
 apply M.cv.calls
 unfold M.cv
 have hb: ∀w' K,jj P T.ar #[(0,v)] w' K=K (.agg #[v,.int .i64 0]) w':=fun w' K=>by
  obtain⟨_,_,e,_⟩:=hs w [] S
  rw[e]
  simp
 simp[hb]
 have S1:St w0 (w.alloc (.cells #[.int .u64 0,.int .u64 0,.int .u64 0,.int .u64 0,.int .u64 0,.string ⟨#[]⟩,.string ⟨#[]⟩,.bool false] T.i)) (spB w.heap.size aag :: R):=S.mkB (jr aag).toArray T.i
 have S2:=S1.mkB #[v,.int .i64 0] T.ar
 rw[jc] at S2
 generalize w.heap.size=tb at *
 generalize hrb:tb+1=rb at *
 generalize (World.alloc _ (.cells #[v,.int .i64 0] T.ar))=w2 at *
 refine zf (X:=[_]) (o:=some l) S2 ⟨rfl,hs⟩ fun w3 x1 v3 k3 g1 y1 r3 S3=>?_
 refine zf (X:=[_]) S3 r3 fun w4 x2 v4 k4 g2 y2 r4 S4=>?_
 refine zf (X:=[_]) S4 r4 fun w5 x3 v5 k5 g3 y3 r5 S5=>?_
 refine zf (X:=[_]) S5 r5 fun w6 x4 v6 k6 g4 y4 r6 S6=>?_
 refine zf (X:=[_]) S6 r6 fun w7 x5 v7 k7 g5 y5 r7 S7=>?_
 simp
 have S7':St w0 w7 (spB tb aag :: va rb v7 k7 :: R):=S7.swap
 refine St.put (vs:=jr ⟨x1,x2,x3,x4,x5,⟨#[]⟩,⟨#[]⟩,false⟩) (cs':=(jr ⟨x1,x2,x3,x4,x5,⟨#[]⟩,⟨#[]⟩,false⟩).toArray) S7' (ph _) (by simp[jr]) rfl fun w8 S8=>?_
 refine amp (X:=[_]) (lo:=0) (hi:=1) S8.swap r7 fun w9 x6 v9 k9 y6 r9 S9=>?_
 simp
 refine St.nj S9.swap rfl (by simp[jr]) fun w10 S10=>?_
 have S10':St w0 w10 (spB tb ⟨x1,x2,x3,x4,x5,⟨#[]⟩,⟨#[]⟩,decide (x6=1)⟩ :: va rb v9 k9 :: R):=S10
 refine arn (X:=[_]) S10'.swap r9 fun w11 x7 v11 k11 y7 r11 S11=>?_
 simp
 refine St.nj S11.swap rfl (by simp[jr]) fun w12 S12=>?_
 have S12':St w0 w12 (spB tb ⟨x1,x2,x3,x4,x5,x7,⟨#[]⟩,decide (x6=1)⟩ :: va rb v11 k11 :: R):=S12
 refine arn (X:=[_]) S12'.swap r11 fun w13 x8 v13 k13 y8 r13 S13=>?_
 simp
 refine St.nj S13.swap rfl (by simp[jr]) fun w14 S14=>?_
 have S14':St w0 w14 (spB tb ⟨x1,x2,x3,x4,x5,x7,x8,decide (x6=1)⟩ :: va rb v13 k13 :: R):=S14
 have c1:ik w14 rb 1=some (.int .i64 k13):=by rw[S14'.swap.cell];rfl
 have sl: ∀{w':World}{L:List Asn}{s:Spn},St w0 w' (spB tb s :: L)->∀K,ldN P 8 tb 0 w' K=K (li s) w':=fun{_ _ s} S' K=>S'.ldA (n:=8) (i:=0) (jr s) rfl rfl K
 have hres: ∀w' K,ng P T.i (.pointer (some ⟨tb,0,none⟩)) w' K=ldN P 8 tb 0 w' K:=fun w' K=>kr
 have hst: ∀(s:Spn) w' K,stT P T.i (.pointer (some ⟨tb,0,none⟩)) (li s) w' K=stN P tb 0 (jr s) w' K:=fun s w' K=>by
  unfold li
  simp[jr]
 change afk w0 R v13 k13 (ajp l) at r13
 have bad: ∀(s:Spn) w' k,k≠0->xc l=none->St w0 w' (va rb v13 k :: spB tb s :: R)->M.cv.j0 (.pointer (some ⟨rb,0,none⟩)) (.pointer (some ⟨tb,0,none⟩)) w' K:=fun s w' k hk hn S'=>by
  unfold M.cv.j0
  have d1: ∀{w':World}{L:List Asn},St w0 w' (va rb v13 k :: L)->ik w' rb 1=some (.int .i64 k):=fun S'=>by rw[S'.cell];rfl
  have S3:=S'.ju ((Fr.refl _ w').dr 1)
  simp[d1 S',d1 S3,hk]
  refine St.put (vs:=jr aag) (cs':=(jr aag).toArray) S3.swap (ph _) (by simp[jr]) (by simp[jr]) fun w4 S4=>?_
  have S4':St w0 w4 (spB tb aag :: va rb v13 k :: R):=S4
  simp[d1 S4'.swap,hres,sl S4']
  exact h0 hn w4 k hk S4'.drop.drop
 by_cases hk:k13=0
 ·subst hk
  cases hr:ajp l with
  | none=>
   rw[hr] at r13
   exact absurd rfl r13.1
  | some r=>
  rw[hr] at r13
  obtain⟨q1,q2,q3,q4,q5,q6⟩:=bbn hr
  have o1:vo (some l)=some (l.drop 8):=by simp only[vo,Option.bind_some,if_pos q1]
  have o2:vo (some (l.drop 8))=some (l.drop 16):=by simp only[vo,Option.bind_some,if_pos q2,List.drop_drop]
  have o3:vo (some (l.drop 16))=some (l.drop 24):=by simp only[vo,Option.bind_some,if_pos q3,List.drop_drop]
  have o4:vo (some (l.drop 24))=some (l.drop 32):=by simp only[vo,Option.bind_some,if_pos q4,List.drop_drop]
  have o5:vo (some (l.drop 32))=some (l.drop 40):=by simp only[vo,Option.bind_some,if_pos q5,List.drop_drop]
  have hr':=hr
  unfold ajp at hr'
  rw[o1] at y2 y3 y4 y5 y6 y7 y8 hr'
  rw[o2] at y3 y4 y5 y6 y7 y8 hr'
  rw[o3] at y4 y5 y6 y7 y8 hr'
  rw[o4] at y5 y6 y7 y8 hr'
  rw[o5] at y6 y7 y8 hr'
  obtain⟨a1,e1,n1,g11,g12,g13,t1⟩:=acf hr'
  obtain⟨a2,e2,n2,g21,g22,g23,t2⟩:=acf e1
  obtain⟨a3,e3,n3,g31,g32,t3⟩:=ait e2
  cases e3
  have o6:sm1 0 1 (some (l.drop 40))=some (l.drop 41):=by
   rw[e2,t3,List.drop_drop]
   try rfl
  rw[o6] at y7 y8 e1 e2 hr'
  cases e2
  rw[e1] at hr'
  have ta1:a1=(l.drop 42).drop ((l.drop 41).headD 0).toNat:=by
   rw[t2,List.drop_drop (j:=41)]
   try rfl
  have z1:=y1 l rfl q1
  have z2:=y2 _ rfl q2
  have z3:=y3 _ rfl q3
  have z4:=y4 _ rfl q4
  have z5:=y5 _ rfl q5
  have z6:=y6 _ rfl q6
  have z7:=y7 _ rfl (by rw[e1];rfl)
  have z8:=y8 a1 e1 (by rw[e1,hr'];rfl)
  rw[ta1] at z8
  have hsv:(⟨x1,x2,x3,x4,x5,x7,x8,decide (x6=1)⟩:Spn)=acg l:=by
   unfold acg
   rw[z1,z2,z3,z4,z5,z6,z7,z8]
  have hR:afs (acg l):=by
   rw[<-hsv]
   exact⟨g1,g2,g3,g4,g5⟩
  rw[hsv] at S14'
  clear z1 z2 z3 z4 z5 z6 z7 z8 y1 y2 y3 y4 y5 y6 y7 y8
  simp[c1,sl S14']
  rw[M.dn.fcall]
  refine afm _ fun w15 f15=>?_
  have S15:=S14'.ju f15
  simp
  refine St.nj S15.swap rfl (by simp) fun w16 S16=>?_
  have S16':St w0 w16 (va rb v13 (kv (acg l)) :: spB tb (acg l) :: R):=S16
  by_cases hk:kv (acg l)=0
  ·have hco:xc l=some (acg l,r):=by
    unfold xc
    rw[hr,Option.bind_some,if_pos hk]
   rw[hk] at S16'
   have d1:ik w16 rb 1=some (.int .i64 0):=by rw[S16'.cell];rfl
   unfold M.cv.j0
   simp[d1]
   unfold M.cv.j1
   have S17:=S16'.ju ((Fr.refl _ w16).dr 1)
   have d0:ik (dr w16 1) rb 0=some v13:=by rw[S17.cell];rfl
   simp[sl S17.swap,d0]
   have hrl:r.length<=100000000:=by
    rw[t1]
    simp only[List.length_drop]
    rw[ta1]
    simp only[List.length_drop]
    omega
   refine anp S17 (r13.2 _ [_,_] S17) hrl fun w18 v18 S18=>?_
   simp[sl S18.up2]
   rw[hst]
   refine St.put (vs:=jr (acg l)) (cs':=(jr (acg l)).toArray) S18.up2 (ph _) (by simp[jr]) (by simp[jr]) fun w19 S19=>?_
   simp[hres,sl S19]
   exact h1 _ r hco hR hk w19 v18 (S19.drop.swap.drop)
  ·have hco:xc l=none:=by
    unfold xc
    rw[hr,Option.bind_some,if_neg hk]
   exact bad _ w16 _ hk hco S16'
 ·have hn:xc l=none:=by
   cases hr:ajp l with
   | none=>unfold xc;rw[hr];rfl
   | some r=>
    rw[hr] at r13
    exact absurd r13.1 hk
  simp[c1,hk]
  exact bad _ w14 k13 hk hn S14'.swap
end
section
variable {w0 w : World} {R : List Asn} {p : Nat} {q : Cl} {n : Nd} {g : Cfg} {A : List AE} {c : CT} {a0 : Int} {es : List Evn}
theorem bfz{rv:Value}{l:List Int}{now:Int}(S:St w0 w (acq p q n g A c a0 es ++ R))(hn:qn n)(hv:afe n.v=[1])(hs:Rdv w0 R rv l)(hll:l.length<=1000000)(hbd:0<=q.bad/\q.bad<=1000000)(h0:0<=q.now)(h1:q.now<=18446744073709551615)(h2:0<=now)(h3:now<=18446744073709551615)
  (hA:A.length<=1000) (hl: ∀e∈A,e.l.length<=1000) (hw:0<=g.jn) (he:es.length<=1000000) {K:KV}
  (h: ∀s,xc l=some (s,[])->afs s->kv s=0->∀w' v',St w0 w' (acq p {q with now:=max q.now now,ev:=v'} n g (tj g A s) (aea g A c s (max q.now now)) a0 (es ++ [sr (qj g A s) (max q.now now) s]) ++ R)->K (.int .i64 (if qj g A s=0 then 0 else 8)) w')
  (hno:(∀s,xc l≠some (s,[]))->∀w' k,k≠0->St w0 w' (acq p {q with now:=max q.now now,bad:=q.bad+1} n g A c a0 es ++ R)->K (.int .i64 k) w'):ie P F.aa [km p,rv,.int .u64 now] w K:=by
 have S0:St w0 w (clA p q :: jy q.tb n :: mf q.hb g A c :: om q.kb a0 [] :: nh q.ev es :: R):=S
 rw[M.e.fcall]
 apply M.e.calls
 unfold M.e
 obtain⟨_,_,_,_,_,_,_,_,_,_,_,_,_,_,_,c23,_⟩:=ly S0
 simp only[km]
 simp
 unfold M.e.j0
 simp[c23,ro]
 refine St.nj S0 rfl (by simp[clC]) fun w1 S1=>?_
 have S1':St w0 w1 (clA p {q with now:=max q.now now} :: jy q.tb n :: mf q.hb g A c :: om q.kb a0 [] :: nh q.ev es :: R):=S1
 have hn0:0<=max q.now now:=by omega
 have hn1:max q.now now<=18446744073709551615:=by omega
 generalize max q.now now=nw at *
 have hs':Rdv w0 (clA p {q with now:=nw} :: jy q.tb n :: mf q.hb g A c :: om q.kb a0 [] :: nh q.ev es :: R) rv l:=aji hs [_,_,_,_,_]
 have fin0: ∀(w9:World)(k:Int)(x0:List Value)(t7:Value),k≠0->(∀s,xc l≠some (s,[]))->St w0 w9 (clA p {q with now:=nw} :: jy q.tb n :: mf q.hb g A c :: om q.kb a0 [] :: nh q.ev es :: R)->M.e.j1 [.int .i64 k] (.pointer (some ⟨p,0,none⟩)) x0 t7 w9 K:=fun w9 k x0 t7 hk hn S'=>by
  have c26:ik w9 p 26=some (.int .u64 q.bad):=by rw[S'.cell];rfl
  have hw:IntKind.u64.wrap (q.bad+1)=q.bad+1:=by rw[lr (by omega) (by omega)]
  unfold M.e.j1
  simp[hk,c26,hw]
  refine St.nj S' rfl (by simp[clC]) fun w10 S10=>?_
  exact hno hn w10 k hk S10
 refine bic S1' hs' hll (fun s r hco hR hr w2 v2 S2=>?_) fun hco w2 k hk S2=>?_
 ·have sp0:True:=trivial
  have S3:=S2.mkB #[.int .u64 0,.int .u64 0,.int .u64 0,.int .u64 0,.int .u64 0,.string ⟨#[]⟩,.string ⟨#[]⟩,.bool false] T.i
  have hln: ∀w' K,biT P .len #[T.q] T.d [false] [v2] w' K=K (.int .i64 r.length) w':=fun w' K=>(S2.row ny).jq (by kernel_rfl) [false]
  unfold li
  simp
  generalize w2.heap.size=tb at *
  generalize w2.alloc _=w3 at *
  refine St.put (vs:=jr s) (cs':=(jr s).toArray) S3 (ph s) (by simp[jr]) (by simp[jr]) fun w4 S4=>?_
  by_cases hr0:r=[]
  ·subst hr0
   have hr0:True:=trivial
   simp[hln,hr0]
   unfold M.e.j1
   simp
   unfold M.e.j2
   have S5:St w0 w4 (spB tb s :: clA p {q with now:=nw} :: jy q.tb n :: mf q.hb g A c :: om q.kb a0 [] :: nh q.ev es :: R):=S4.swap.drop
   have sp0: ∀{w':World}{L:List Asn},St w0 w' (spB tb s :: L)->ik w' tb 0=some (.int .u64 s.je):=fun S'=>by rw[S'.cell];rfl
   have sp8: ∀{w':World}{L:List Asn},St w0 w' (spB tb s :: L)->∀K,ldN P 8 tb 0 w' K=K (li s) w':=fun S' K=>S'.ldA (n:=8) (i:=0) (jr s) rfl rfl K
   have S6:=S5.mkB (evC ⟨0,0,0,0,ja,0,⟨0,0,0,0,0,⟨#[]⟩,⟨#[]⟩,false⟩,0⟩).toArray T.av
   unfold evC ja at S6
   dsimp only at S6
   simp[sp0 S5,sp8 S5,li]
   generalize w4.heap.size=eb at *
   generalize w4.alloc _=w5 at *
   refine St.put (vs:=evC ⟨1,0,0,s.je,ja,0,s,0⟩) (cs':=(evC ⟨1,0,0,s.je,ja,0,s,0⟩).toArray) S6 (amj _) (by simp[evC]) (by simp[evC]) fun w6 S7=>?_
   simp[sp0 S7.swap]
   have S8:=S7.perm (List.Perm.append_right R (List.perm_append_comm (l₁:=[_,_]) (l₂:=[_,_,_,_,_])))
   refine agi S8 hn hv ⟨by decide,trivial⟩ (by simp) (by simp) s.je fun w7 o ho S9=>?_
   obtain rfl:=ho.one
   have S10:=S9.ju ((Fr.refl _ w7).dr 1)
   obtain⟨d0,_,_,_,_,_,_,_,_,_,d16,_⟩:=ly S10
   have x0:=sp0 (S10.perm (List.perm_middle (l₁:=[_,_,_,_,_,_])))
   simp[d16,x0]
   refine amg S10.up3 s.je ?_
   simp[ki,d0]
   have S11:=S10.ju ((Fr.refl _ (dr w7 1)).dr 1)
   obtain⟨e0,_,_,_,_,_,_,_,_,e15,_,_,_,_,_,e23,_⟩:=ly S11
   have x8:=sp8 (S11.perm (List.perm_middle (l₁:=[_,_,_,_,_,_])))
   simp[e15,e23,x8]
   refine bae S11.up2 hA hl s ⟨hn0,hn1⟩ hw fun w8 S12=>?_
   have hev: ∀{w':World}{L:List Asn},St w0 w' (iz eb (evC ⟨1,0,0,s.je,ja,0,s,0⟩).toArray T.av :: L)->∀K,ldN P 16 eb 0 w' K=K (evA ⟨1,0,0,s.je,ja,0,s,0⟩) w':=fun S' K=>S'.ldA (n:=16) (i:=0) (evC ⟨1,0,0,s.je,ja,0,s,0⟩) rfl rfl K
   have hfin: ∀w9 v',St w0 w9 (clA p {{q with now:=nw} with ev:=v'} :: nh v' (es ++ [sr (qj g A s) nw s]) :: mf q.hb g (tj g A s) (aea g A c s nw) :: jy q.tb n :: om q.kb a0 [] :: iz eb (evC ⟨1,0,0,s.je,ja,0,s,0⟩).toArray T.av :: spB tb s :: R)->K (.int .i64 (if qj g A s=0 then 0 else 8)) w9:=fun w9 v' S'=>by
    refine h s hco hR hr w9 v' ?_
    exact S'.pick (L:=[_,_,_,_,_,_,_]) [0,3,2,4,1] 7 rfl (by decide)
   by_cases hk:qj g A s=0
   ·have S13:=S12.pick (L:=[_,_,_,_,_,_,_]) [5,0,1,2,3,4,6] 7 rfl (by decide)
    simp[hk,hev S13]
    have S14:=S13.pick (L:=[_,_,_,_,_,_,_]) [2,5,1,3,4,0,6] 7 rfl (by decide)
    refine aco (q:={q with now:=nw}) S14 ⟨1,0,0,s.je,ja,0,s,0⟩ he fun w9 v9 S15=>?_
    have:=hfin w9 v9 (by
     unfold sr
     rw[if_pos hk]
     exact S15)
    rw[if_pos hk] at this
    exact this
   ·have S13:=S12.pick (L:=[_,_,_,_,_,_,_]) [6,0,1,2,3,4,5] 7 rfl (by decide)
    simp[hk,sp0 S13,sp8 S13,li]
    have S14:=S13.pick (L:=[_,_,_,_,_,_,_]) [2,5,1,3,4,6,0] 7 rfl (by decide)
    refine aco (q:={q with now:=nw}) S14 ⟨6,0,0,s.je,ja,0,s,8⟩ he fun w9 v9 S15=>?_
    have:=hfin w9 v9 (by
     unfold sr
     rw[if_neg hk]
     exact S15)
    rw[if_neg hk] at this
    exact this
  ·have hrp:(0:Int) < r.length:=by have:=List.length_pos_iff.2 hr0;omega
   have hlp:0 < r.length:=List.length_pos_iff.2 hr0
   simp[hln,hlp]
   exact fin0 w4 6 _ _ (by decide) (fun s' e=>by rw[hco] at e;cases e;exact hr0 rfl) S4.drop.drop
 ·have S3:=S2.mkB #[.int .u64 0,.int .u64 0,.int .u64 0,.int .u64 0,.int .u64 0,.string ⟨#[]⟩,.string ⟨#[]⟩,.bool false] T.i
  unfold li
  simp
  generalize w2.heap.size=tb at *
  generalize w2.alloc _=w3 at *
  refine St.put (vs:=jr aag) (cs':=(jr aag).toArray) S3 (ph aag) (by simp[jr]) (by simp[jr]) fun w4 S4=>?_
  simp[hk]
  exact fin0 w4 k _ _ hk (fun s' e=>by rw[hco] at e;cases e) S4.drop
end
theorem aal{F:KL->Prop}{K:KL}(H: ∀K',(∀x w,K x w->K' x w)->F K'):ii F K:=H K fun _ _ h=>h
section
variable {w0 w : World} {R : List Asn}
theorem bil{t elem r:Nat}{k:IntKind}{zero:Value}(ht:nn P t k elem zero)(S:St w0 w (jh r k [] :: R))(x:Int){K:KV}(h: ∀w' (clk:Nat),St w0 w' (xe r (.map #[⟨.int k x,zero,clk⟩] (clk+1)) :: R)->K (.tuple #[zero,.int .i64 (clk:Nat)]) w'):meT P t (.map (some r)) (.int k x) w K:=by
 obtain⟨⟨key,h1,h2⟩,i,h3,h4⟩:=ht
 obtain⟨es,clk,hr,he,hbn⟩:=S.mp
 have hes:es= #[]:=by
  have:=he.length
  simp at this
  exact this
 subst hes
 obtain⟨B,⟨k1,k2⟩,hB,cl⟩:=S.open
 have hlt:r < w.heap.size:=lj hr
 have hf:=fun w=>ux h2 he x (by rfl) w
 simp only[meT,jk,Instr.mapEntry,Sem.run_bind,jd h1,Result.andThen,qh hr,qy h2,hf,adn h3 h4,uz hr,Sem.run_pure]
 exact h _ clk (cl _ [xe r (.map #[⟨.int k x,zero,clk⟩] (clk+1))] ((Fr.refl B w).setObj (.inl k2) _) (Rs.one (B:=B) ⟨by rw[pd _ _ _ _ hlt,if_pos rfl];rfl,k2⟩ fun b hb=> .inl hb))
theorem bjj{t r clk:Nat}{k:IntKind}{x:Int}{z:Value}(S:St w0 w (xe r (.map #[⟨.int k x,z,clk⟩] (clk+1)) :: R))(v:Value){K:KV}(h: ∀w',St w0 w' (jh r k [(x,v)] :: R)->K undef w'):esT P t (.map (some r)) (.int .i64 (clk:Nat)) v w K:=by
 have hr:=aic S
 obtain⟨B,⟨k1,k2⟩,hB,cl⟩:=S.open
 have hlt:r < w.heap.size:=lj hr
 have hfi:(#[(⟨.int k x,z,clk⟩:MapEntry)]).findIdx? (fun e=>(e.born:Int) == ((clk:Nat):Int))=some 0:=by simp
 simp only[esT,tg,Instr.entryStore,Sem.run_bind,Result.andThen,qh hr,asInt,asIntOf,Sem.run_pure,hfi,uz hr]
 refine h _ (cl _ [jh r k [(x,v)]] ((Fr.refl B w).setObj (.inl k2) _) (Rs.one (B:=B) ⟨⟨⟨_,_,by rw[pd _ _ _ _ hlt,if_pos rfl],?_,?_⟩,by simp[jm]⟩,k2⟩ fun b hb=> .inl hb))
 ·simpa using pm.cons (k:=k) (x:=x) (v:=v) (b:=clk) .nil
 ·simp[yt]
end
section
variable {w0 w : World} {R : List Asn} {p : Nat} {q : Cl} {n : Nd}
theorem ba2(x y:Bal)(w':World)(K:KV):bsT P T.bn 2 #[(0,kj x),(1,kj y)] w' K=K (.slice (some ⟨w'.heap.size,0,none⟩) 2 2) (w'.alloc (.cells #[.int .u64 x.n,.int .u64 x.ji,.int .u64 y.n,.int .u64 y.ji] T.e)):=kr
abbrev nxB(q:Cl)(n:Nd):Bal×Int:=ade (wg ja [ja,q.ke]) (qf n) (afn q.inc)
theorem bii{b:Bal}(hb:b.rng):0<=(wg ja [ja,b]).n/\(wg ja [ja,b]).n < 18446744073709551616:=by
 unfold wg ja
 simp only[List.foldl_cons,List.foldl_nil]
 obtain⟨⟨h1,h2⟩,_⟩:=hb
 split <;>(try split) <;>first|omega| (dsimp only;omega)
theorem blh{je:Int}{x0:List Value}(S:St w0 w (clA p q :: jy q.tb n :: jh q.se .u64 [] :: R))(hn:qn n)(hi:1<=q.inc)(hb:q.ke.rng)(hv:0<=qf n/\qf n < 18446744073709551616){K:KV}
  (h: ∀w' tb L,gv L 20= .pointer (some ⟨tb,0,none⟩)->gv L 21= .int .i64 (nxB q n).2->St w0 w' (baB tb (nxB q n).1 :: clA p q :: jy q.tb n :: jh q.se .u64 [] :: R)->M.k.j1 L (km p) (.int .u64 je) x0 w' K):M.k.j0 (km p) (.int .u64 je) x0 w K:=by
 unfold M.k.j0
 have S1:=S.ju ((Fr.refl _ w).dr 1)
 rw[pz]
 generalize dr w 1=w1 at *
 refine aal fun K1 hK=>?_
 have hfin: ∀w' tb L,gv L 20= .pointer (some ⟨tb,0,none⟩)->gv L 21= .int .i64 (nxB q n).2->St w0 w' (baB tb (nxB q n).1 :: clA p q :: jy q.tb n :: jh q.se .u64 [] :: R)->K1 L w':=fun w' tb L h1 h2 S'=>hK L w' (h w' tb L h1 h2 S')
 obtain⟨_,_,_,_,_,_,_,_,_,_,_,_,c18,_,_,_,_,_,_,_,c20⟩:=ly S1
 have lu: ∀{w':World}{L:List Asn},St w0 w' (jh q.se .u64 [] :: L)->∀K,luT P T.u (.map (some q.se)) (.int .u64 je) false w' K=K (kj ja) w':=fun S' K=>by
  rw[ta mt.u S'.mp]
  rfl
 simp only[km]
 have fin: ∀{w':World}{tb:Nat},St w0 w' (baB tb ja :: clA p q :: jy q.tb n :: jh q.se .u64 [] :: R)->∀L,gv L 20= .pointer (some ⟨tb,0,none⟩)->gv L 21= .int .i64 (nxB q n).2->stT P T.e (.pointer (some ⟨tb,0,none⟩)) (kj (nxB q n).1) w' fun _ w2=>K1 L w2:=fun S' L g1 g2=>adh S' fun w3 S3=>hfin w3 _ L g1 g2 S3
 have e18: ∀{w':World}{L:List Asn},St w0 w' (clA p q :: L)->ik w' p 18=some (.map (some q.se)):=fun S'=>by rw[S'.cell];rfl
 have e20: ∀{w':World}{L:List Asn},St w0 w' (clA p q :: L)->∀K,ldN P 2 p 20 w' K=K (kj q.ke) w':=fun S'=>by
  obtain⟨_,_,_,_,_,_,_,_,_,_,_,_,_,_,_,_,_,_,_,_,x⟩:=ly S'
  exact x
 have nx: ∀{w':World}{L:List Asn}{K':KV},St w0 w' L->(∀w2,St w0 w2 L->K' (.tuple #[kj (nxB q n).1,.int .i64 (nxB q n).2]) w2)->ie P F.cg [kj (wg ja [ja,q.ke]),.int .u64 (qf n),.int .u64 (afn q.inc)] w' K':=fun S' h'=>bgi S' _ (bii hb) hv h'
 have mx: ∀{w':World}{L:List Asn}{v:Value}{K':KV},St w0 w' (pc T.e 2 tx v [ja,q.ke] :: L)->(∀w2,St w0 w2 L->K' (kj (wg ja [ja,q.ke])) w2)->ie P F.dp [v] w' K':=fun S' h'=>bjd S' (fun w2 L S2=>(S2.perm List.perm_middle).row anb) (by simp) fun w2 S2=>h' w2 S2.drop
 have bs: ∀{w':World}{L:List Asn},St w0 w' L->St w0 (w'.alloc (.cells #[.int .u64 ja.n,.int .u64 ja.ji,.int .u64 q.ke.n,.int .u64 q.ke.ji] T.e)) (pc T.e 2 tx (.slice (some ⟨w'.heap.size,0,none⟩) 2 2) [ja,q.ke] :: L):=fun S'=>St.tz (l:=[ja,q.ke]) S' anb rfl (by simp[maxLen])
 have ver: ∀{w':World}{L:List Asn}{K':KV},St w0 w' (clA p q :: jy q.tb n :: L)->(∀w2,St w0 w2 (clA p q :: jy q.tb n :: L)->K' (.int .u64 (qf n)) w2)->ie P F.f [.pointer (some ⟨p,0,none⟩)] w' K':=fun S' h'=>akp S' hn h'
 have lif: ∀{w':World}{L:List Asn}{K':KV},St w0 w' (clA p q :: L)->(∀w2,St w0 w2 (clA p q :: L)->K' (.int .u64 (afn q.inc)) w2)->ie P F.z [.pointer (some ⟨p,0,none⟩)] w' K':=fun S' h'=>bhb S' hi h'
 generalize nxB q n=yk at *
 obtain⟨y,k⟩:=yk
 dsimp only at fin nx hfin
 simp[c18,c20,lu S1.up2,ba2]
 have en: ∀{w':World}{tb:Nat},St w0 w' (clA p q :: jy q.tb n :: jh q.se .u64 [] :: baB tb ja :: R)->∀L,gv L 20= .pointer (some ⟨tb,0,none⟩)->gv L 21= .int .i64 k->stT P T.e (.pointer (some ⟨tb,0,none⟩)) (kj y) w' fun _ w2=>K1 L w2:=fun S' L g1 g2=>fin (S'.pick (L:=[_,_,_,_]) [3,0,1,2] 4 rfl (by decide)) L g1 g2
 have al: ∀{w':World},St w0 w' (clA p q :: jy q.tb n :: jh q.se .u64 [] :: R)->St w0 (w'.alloc (.cells #[.int .u64 0,.int .u64 0] T.e)) (clA p q :: jy q.tb n :: jh q.se .u64 [] :: baB w'.heap.size ja :: R):=fun S'=>(abp S').pick (L:=[_,_,_,_]) [1,2,3,0] 4 rfl (by decide)
 refine⟨⟨?_,?_⟩,?_⟩
 ·refine mx (bs S1) fun w2 S2=>?_
  refine⟨?_,?_⟩
  ·refine ver S2 fun w3 S3=>?_
   refine⟨?_,?_⟩
   ·refine lif S3 fun w4 S4=>?_
    refine⟨?_,?_⟩
    ·refine nx S4 fun w5 S5=>?_
     have T5:=al S5
     simp[e18 T5,e20 T5,lu T5.up2]
     exact en T5 _ rfl rfl
    ·have T4:=al S4
     simp[e18 T4,e20 T4,lu T4.up2]
     refine nx T4 fun w5 S5=>?_
     simp
     exact en S5 _ rfl rfl
   ·have T3:=al S3
    simp[e18 T3,e20 T3,lu T3.up2]
    refine lif T3 fun w4 S4=>nx S4 fun w5 S5=>?_
    simp
    exact en S5 _ rfl rfl
  ·have T2:=al S2
   simp[e18 T2,e20 T2,lu T2.up2]
   refine ver T2 fun w3 S3=>lif S3 fun w4 S4=>nx S4 fun w5 S5=>?_
   simp
   exact en S5 _ rfl rfl
 ·have T1:=(abp (bs S1)).pick (L:=[_,_,_,_,_]) [1,2,3,4,0] 5 rfl (by decide)
  simp only[jc] at T1
  simp[e18 T1.swap,e20 T1.swap,lu T1.up3]
  refine mx T1 fun w2 S2=>ver S2 fun w3 S3=>lif S3 fun w4 S4=>nx S4 fun w5 S5=>?_
  simp
  exact en S5 _ rfl rfl
 ·have T1:=al S1
  have T2:=bs T1
  simp only[jc] at T2
  simp[e18 T1,e20 T1,lu T1.up2,ba2,e18 T2.swap,e20 T2.swap,lu T2.up3]
  refine mx T2 fun w2 S2=>ver S2 fun w3 S3=>lif S3 fun w4 S4=>nx S4 fun w5 S5=>?_
  simp
  exact en S5 _ rfl rfl
end
section
variable {w0 w : World} {R : List Asn} {p : Nat} {q : Cl} {n : Nd} {g : Cfg} {A : List AE} {c : CT} {a0 : Int} {m rm um : MP} {es : List Evn} {ls : List Ltr}
abbrev ll(p:Nat)(q:Cl)(n:Nd)(g:Cfg)(A:List AE)(c:CT)(a0:Int)(m:MP)(es:List Evn)(ls:List Ltr)(rm um:MP):List Asn:=[clA p q,jy q.tb n,mf q.hb g A c,om q.kb a0 m,nh q.ev es,mo q.out ls,rdA 1 lw q.rep [101],rdA 4 kz q.rul [jx],jh q.ru .u64 rm,jh q.se .u64 [],jh q.un .u64 um]
def sy(e:AE):Int:=if e.mj then 3 else aoq e.l
def aao(now:Int):Int:=now+min 4 (18446744073709551615 - now)
theorem nq{L:List Asn}(S:St w0 w L)(h:clA p q∈L):ik w p 0=some (.int .u64 1)/\ik w p 2=some q.rep/\ik w p 3=some (.int .u64 200)/\ik w p 8=some (.int .u64 4)/\ik w p 13=some q.rul/\ik w p 14=some (.pointer (some ⟨q.tb,0,none⟩))/\ik w p 15=some (.pointer (some ⟨q.hb,0,none⟩))/\ik w p 16=some (.pointer (some ⟨q.kb,0,none⟩))/\ik w p 17=some (.map (some q.ru))/\ik w p 18=some (.map (some q.se))/\ik w p 19=some (.map (some q.un))/\ik w p 22=some (.int .u64 q.qd)/\ik w p 23=some (.int .u64 q.now)/\∀K,ldN P 2 p 20 w K=K (kj q.ke) w:=by
 obtain⟨s,t,rfl⟩:=List.append_of_mem h
 have S':=S.perm List.perm_middle
 refine⟨?_,?_,?_,?_,?_,?_,?_,?_,?_,?_,?_,?_,?_,fun K=>S'.ldA (n:=2) (i:=20) (tx q.ke) rfl rfl K⟩ <;>rw[S'.cell] <;>rfl
theorem avn{now:Int}(h0:0<=now)(h1:now<=18446744073709551615):IntKind.u64.wrap (18446744073709551615 - now)=18446744073709551615 - now/\IntKind.u64.wrap (now+min 4 (18446744073709551615 - now))=aao now:=by
 refine⟨?_,?_⟩ <;>rw[lr (by omega) (by omega)]
 rfl
theorem amo{e:AE}(S:St w0 w (ll p q n g A c a0 m es ls [] um ++ R))(hn:qn n)(hi:1<=q.inc)(hb:q.ke.rng)(hv:0<=qf n/\qf n < 18446744073709551616)(hA:A.length<=1000)(hl: ∀e∈A,e.l.length<=1000)(he:e∈A)(hfi:A.find? (fun x=>decide (x.t=e.t))=some e)(h0:0<=q.now)(h1:q.now<=18446744073709551615)(hls:ls.length<=200)(ht:e.t≠0){K:KV}
  (hno:(nxB q n).2≠0->∀w',St w0 w' (ll p q n g A (pa c e.t 18446744073709551615) a0 m es ls [] um ++ R)->K (.tuple #[]) w')
  (hyes:(nxB q n).2=0->(nxB q n).1.n≠0/\(1<=sy e/\sy e<=3)/\∀w' ov rb,St w0 w' (ll p {q with ke:=(nxB q n).1,out:=ov} n g A (pa c e.t (aao q.now)) a0 m es (ls ++ oh [101] (rz e.t (nxB q n).1 (sy e) 0) pp) [(e.t,.pointer (some ⟨rb,0,none⟩))] um ++ po rb e.t (nxB q n).1 (sy e) 0 :: R)->K (.tuple #[]) w'):ie P F.aw [km p,.int .u64 e.t] w K:=by
 rw[M.k.fcall]
 apply M.k.calls
 unfold M.k
 obtain⟨_,_,_,_,_,_,c15,_⟩:=nq (p:=p) (q:=q) S (by simp)
 simp only[km]
 simp[c15]
 refine bim (S.pick (L:=[_,_,_,_,_,_,_,_,_,_,_]) [2,0,1,3,4,5,6,7,8,9,10] 11 rfl (by decide)) hl e.t (fun hnone=>by rw[hnone] at hfi;cases hfi) fun e' he' w1 v1 S1=>?_
 rw[hfi] at he'
 injection he' with he'
 subst he'
 obtain⟨_,_,_,_,d13,_⟩:=nq (p:=p) (q:=q) S1 (by simp)
 simp[d13]
 refine bcb (rv:=q.rul) (v:=v1) (l:=e.l) S1 (fun w' L S'=>aed S' (by simp)) (fun w' L S'=>aed S' (by simp)) (by have:=hl e he;omega) fun w2 S2=>?_
 have S2':St w0 w2 (clA p q :: jy q.tb n :: jh q.se .u64 [] :: mf q.hb g A c :: om q.kb a0 m :: nh q.ev es :: mo q.out ls :: rdA 1 lw q.rep [101] :: rdA 4 kz q.rul [jx] :: jh q.ru .u64 [] :: jh q.un .u64 um :: R):=S2.pick (L:=[_,_,_,_,_,_,_,_,_,_,_,_]) [2,3,10,1,4,5,6,7,8,9,11] 12 rfl (by decide)
 have main: ∀x0,gv x0 0= .int .i64 (sy e)->M.k.j0 (.pointer (some ⟨p,0,none⟩)) (.int .u64 e.t) x0 w2 K:=by
  intro x0 hx0
  refine blh S2' hn hi hb hv fun w3 tb L g20 g21 S3=>?_
  generalize hyk:nxB q n=yk at *
  obtain⟨y,k⟩:=yk
  dsimp only at hno hyes g20 g21 S3
  unfold M.k.j1
  simp only[il,g21]
  obtain⟨_,_,_,_,_,_,e15,_⟩:=nq (p:=p) (q:=q) S3 (by simp)
  by_cases hk:k=0
  ·subst hk
   obtain⟨hy,hw,hyes⟩:=hyes rfl
   simp
   unfold M.k.j2
   have S4:=S3.ju ((Fr.refl _ w3).dr 1)
   have lb: ∀{w':World}{L:List Asn},St w0 w' L->baB tb y∈L->∀K,ldN P 2 tb 0 w' K=K (kj y) w':=fun S' hm K=>by
    obtain⟨s,t,rfl⟩:=List.append_of_mem hm
    exact (S'.perm List.perm_middle).ldA (n:=2) (i:=0) (tx y) rfl rfl K
   obtain⟨_,f2,_⟩:=nq (p:=p) (q:=q) S4 (by simp)
   simp only[g20,hx0]
   simp[lb S4,f2]
   refine bbr S4 (fun w' L S'=>aed S' (by simp)) ht hy hw fun w5 rb S5=>?_
   have S6:=S5.ju ((Fr.refl _ w5).dr 1)
   obtain⟨_,_,_,_,_,_,_,_,g17,_⟩:=nq (p:=p) (q:=q) S6 (by simp)
   have S7:St w0 (dr w5 1) (jh q.ru .u64 [] :: po rb e.t y (sy e) 0 :: baB tb y :: clA p q :: jy q.tb n :: jh q.se .u64 [] :: mf q.hb g A c :: om q.kb a0 m :: nh q.ev es :: mo q.out ls :: rdA 1 lw q.rep [101] :: rdA 4 kz q.rul [jx] :: jh q.un .u64 um :: R):=S6.pick (L:=[_,_,_,_,_,_,_,_,_,_,_,_,_]) [11,0,1,2,3,4,5,6,7,8,9,10,12] 13 rfl (by decide)
   generalize dr w5 1=w6 at *
   simp[lb S6,g17]
   refine bil mt.x S7 e.t fun w8 clk S8=>?_
   simp[lb S8]
   refine bjj S8 _ fun w9 S9=>?_
   simp[lb S9,kj]
   have S10:St w0 w9 (clA p q :: jh q.ru .u64 [(e.t,.pointer (some ⟨rb,0,none⟩))] :: po rb e.t y (sy e) 0 :: jy q.tb n :: jh q.se .u64 [] :: mf q.hb g A c :: om q.kb a0 m :: nh q.ev es :: mo q.out ls :: rdA 1 lw q.rep [101] :: rdA 4 kz q.rul [jx] :: jh q.un .u64 um :: R):=S9.pick (L:=[_,_,_,_,_,_,_,_,_,_,_,_,_]) [3,0,1,4,5,6,7,8,9,10,11,12] 13 rfl (by decide)
   refine St.put (i:=20) (cs':=clC {q with ke:=y}) S10 (by simp[kt]) (by simp[clC]) (by simp[clC]) fun w11 S11=>?_
   refine aly (S11.pick (L:=[_,_,_]) [2,0,1] 3 rfl (by decide)) (.inl rfl) fun w12 S12=>?_
   refine aqw S12 (.inl rfl) fun w13 ov S13=>?_
   have S14:St w0 w13 (clA p {q with ke:=y} :: mo {q with ke:=y}.out ls :: qx ov [101] :: po rb e.t y (sy e) 0 :: jh q.ru .u64 [(e.t,.pointer (some ⟨rb,0,none⟩))] :: jy q.tb n :: jh q.se .u64 [] :: mf q.hb g A c :: om q.kb a0 m :: nh q.ev es :: rdA 1 lw q.rep [101] :: rdA 4 kz q.rul [jx] :: jh q.un .u64 um :: R):=S13.pick (L:=[_,_,_,_,_,_,_,_,_,_,_,_,_]) [2,9,0,1,3,4,5,6,7,8,10,11,12] 13 rfl (by decide)
   refine aib (to:=[101]) S14 pp (fun w' L S'=>(S'.perm List.perm_middle).row nt) (by simp;omega) fun w15 lv S15=>?_
   have S16:=S15.ju ((Fr.refl _ w15).dr 1)
   obtain⟨_,_,_,k8,_,_,k15,_,_,_,_,_,k23,_⟩:=nq (p:=p) (q:={q with ke:=y,out:=lv}) S16 (by simp)
   obtain⟨u1,u2⟩:=avn h0 h1
   simp[k8,k15,k23,aiu,u1,u2]
   have S17:St w0 (dr w15 1) (mf q.hb g A c :: clA p {q with ke:=y,out:=lv} :: mo lv (ls ++ oh [101] (rz e.t y (sy e) 0) pp) :: po rb e.t y (sy e) 0 :: jh q.ru .u64 [(e.t,.pointer (some ⟨rb,0,none⟩))] :: jy q.tb n :: jh q.se .u64 [] :: om q.kb a0 m :: nh q.ev es :: rdA 1 lw q.rep [101] :: rdA 4 kz q.rul [jx] :: jh q.un .u64 um :: R):=S16.pick (L:=[_,_,_,_,_,_,_,_,_,_,_,_,_]) [7,0,1,3,4,5,6,8,9,10,11,12] 13 rfl (by decide)
   refine aqh (e:=e) S17 hA he rfl fun w18 S18=>?_
   exact hyes w18 lv rb (S18.pick (L:=[_,_,_,_,_,_,_,_,_,_,_,_]) [1,5,0,7,8,2,9,10,4,6,11,3] 12 rfl (by decide))
  ·simp[hk,e15]
   refine aqh (e:=e) (t:=18446744073709551615) (S3.pick (L:=[_,_,_,_,_,_,_,_,_,_,_,_]) [4,1,2,3,5,6,7,8,9,10,11] 12 rfl (by decide)) hA he rfl fun w4 S4=>?_
   exact hno hk w4 (S4.pick (L:=[_,_,_,_,_,_,_,_,_,_,_]) [1,2,0,4,5,6,7,8,9,3,10] 11 rfl (by decide))
 unfold sy at main
 cases ho:e.mj with
 | true=>
  rw[ho] at main
  simp
  exact main _ rfl
 | false=>
  rw[ho] at main
  simp
  exact main _ rfl
end
end Go.Proofs.YtgepcfcicngceaaGreatDoor
set_option maxRecDepth 100000
namespace Go.Proofs.YtgepcfcicngceaaGreatDoor.KeyU
open Go.Eng Go.Sort Go.Proofs.YtgepcfcicngceaaGreatDoor.Suint64
def KI(w W:World)(U:Nat->Prop)(r:Nat)(m:MP)(J:List Int->Asn):KL:=fun x w1=> ∃(done:List Int)(U1:Nat->Prop),x.length=1/\yc w1 W.heap.size r .u64 m done/\(J done.reverse).ok w1 U1/\(∀b,U1 b->w.heap.size<=b/\b < w1.heap.size/\b≠W.heap.size)/\Fr (fun b=>w.heap.size<=b) W w1
theorem acp{w:World}{it r:Nat}{k:IntKind}{m:MP}{done:List Int}(h:yc w it r k m done):done.Nodup/\∀x∈done,x∈jm m:=by
 obtain⟨es,clk,since,c0,jp,_,_,_,_,_,_,_,_,_,h1,h2⟩:=h
 exact⟨h1,h2⟩
theorem ajc{w:World}{r Bm:Nat}{m:MP}{e:TypeId}(hm:kx w r .u64 m)(hn:(jm m).Nodup)(hB:w.heap[Bm]? =some (.cells #[.map (some r)] e (0,0)))(hl:m.length < 60000):
  apg P F.b [.pointer (some ⟨Bm,0,none⟩)] alu (fun xs=>xs.Perm (jm m)) 60000 w:=by
 intro l J W U K hf hJ hU hround hend
 apply M.y.calls
 unfold M.y
 have hBm:W.heap[Bm]? =some (.cells #[.map (some r)] e (0,0)):=hf.heap hB fun h=>h
 have c0:=iq hBm 0
 simp only[List.size_toArray,List.getElem?_toArray,List.getElem?_cons_zero] at c0
 have hm':kx W r .u64 m:=hm.of_heap (hf.jf r hm.lt fun h=>h)
 have hrw:=hm.lt
 simp[c0]
 refine apk mt.v hm' fun w1 hi f1=>?_
 have hWs:=hf.size
 have hWlt:=(hi.lt).1
 refine⟨KI w W U r m J,fun _ w1=>sq w1 W.heap.size m.length,⟨[],U,rfl,hi,(J []).jf hJ f1 fun _ _ h=>h,fun b hb=>?_,f1.mono fun _ _ h=>h.elim⟩,?_⟩
 ·have:=hU b hb
  have:=f1.size
  exact⟨by omega,by omega,by omega⟩
 rintro x w2 ⟨done,U1,hx1,hi2,hJ2,hU2,f2⟩
 unfold M.y.j0
 refine ari hi2 hn T.ca (fun hall=>?_) fun y v w3 hy hyd hc3 f3 hlt=>?_
 ·have e0: ∀w K,exT P (.tuple #[.bool false]) 0 w K=K (.bool false) w:=fun _ _=>rfl
  simp[e0]
  obtain⟨h1,h2⟩:=acp hi2
  refine hend _ w2 done.reverse U1 ?_ hJ2 f2
  refine (List.reverse_perm done).trans ?_
  refine (List.perm_ext_iff_of_nodup h1 hn).2 fun z=>⟨h2 z,fun hz=>?_⟩
  obtain⟨p,hp,rfl⟩:=List.mem_map.1 hz
  exact hall p hp
 ·simp
  rw[aqs hc3]
  simp
  have hnit: ∀b,U1 b->¬b=W.heap.size:=fun b hb=>(hU2 b hb).2.2
  have hJ3:=(J done.reverse).jf hJ2 f3 hnit
  have hlen:done.length < m.length:=by
   obtain⟨h1,h2⟩:=acp hi2
   have:=xt (l:=y :: done) (l':=jm m) (List.nodup_cons.2 ⟨hyd,h1⟩) fun z hz=>by
    rcases List.mem_cons.1 hz with rfl|hz
    ·exact List.mem_map_of_mem hy
    ·exact h2 z hz
   simp only[jm,List.length_map,List.length_cons] at this
   omega
  have hs3:=f3.size
  refine hround done.reverse y w3 U1 _ hJ3 (fun b hb=>⟨(hU2 b hb).1,by have:=(hU2 b hb).2.1;omega⟩) (by simp;omega) fun w4 U4 hJ4 hU4 f4=>?_
  simp
  have hit: ¬U1 W.heap.size:=fun h=>hnit _ h rfl
  have hr1: ¬U1 r:=fun h=>by have:=(hU2 r h).1;omega
  have hi3:yc w3 W.heap.size r .u64 m (y :: done):=hc3.1
  have hi4:=hi3.jf (f4.jf _ hi3.lt.1 hit) (f4.jf _ hi3.lt.2 hr1)
  refine⟨⟨y :: done,U4,rfl,hi4,by simpa using hJ4,fun b hb=>?_,?_⟩,?_⟩
  ·rcases hU4 b hb with h|h
   ·have:=hU2 b h
    have:=f4.size
    exact⟨by omega,by omega,by omega⟩
   ·have:=hi3.lt.1
    have:=f2.size
    exact⟨by omega,by omega,by omega⟩
  ·refine (f2.jt f3 fun b hb he=>by omega).jt f4 fun b hb he=>(hU2 b he).1
  ·have:sq w4 W.heap.size m.length=sq w3 W.heap.size m.length:=by
    unfold sq
    rw[f4.jf _ hi3.lt.1 hit]
   rw[this];exact hlt
theorem amk{w:World}{r:Nat}{m:MP}(hm:kx w r .u64 m)(hn:(jm m).Nodup)(hl:m.length < 60000){K:KV}
  (h: ∀w' v,OwN w' w.heap.size v (tk (jm m))->Fz w w'->K v w'):
  ie P F.ag [.map (some r)] w fun t w=>ie P F.ao [t] w K:=by
 rw[M.ah.fcall]
 apply M.ah.calls
 unfold M.ah
 rw[tw,aaj]
 show ie P F.ao _ _ K
 rw[M.cw.fcall]
 have f1:Fz w (w.alloc (.cells #[.map (some r)] T.v)):=(Fr.refl _ w).alloc _
 have hB:(w.alloc (.cells #[.map (some r)] T.v)).heap[w.heap.size]? =some (.cells #[.map (some r)] T.v (0,0)):=by rw[iw,if_pos rfl]
 have hsz:w.heap.size<=(w.alloc (.cells #[.map (some r)] T.v)).heap.size:=by simp
 refine ank (ks:=jm m) FN.b.at (by kernel_rfl) (by kernel_rfl) (by simpa [jm] using hl) (ajc (hm.of_heap (f1.jf r hm.lt fun h=>h)) hn hB hl) fun w2 v o2 f2=>?_
 exact h w2 v (o2.mono hsz) (f1.trans f2)
end Go.Proofs.YtgepcfcicngceaaGreatDoor.KeyU
