/-
  A ring: Make of a few points, Owner. No condition.
-/
import Derived.Test.YtgepcfcicngceaaGreatDoorZMs9
import Derived.Test.YtgepcfcicngceaaGreatDoorZEngSl
import Derived.Lib.Bytealg
import Derived.Test.YtgepcfcicngceaaGreatDoorZSgE
import Derived.Laws.Externs
import Derived.Test.YtgepcfcicngceaaGreatDoorZTim4
set_option maxRecDepth 100000
namespace Go.Proofs.YtgepcfcicngceaaGreatDoor.Ring
open Go.Eng Go.Proofs.YtgepcfcicngceaaGreatDoor
def apd:Int->List Int->Prop
 | _,[]=>True
 | a,x :: l=>a < x/\apd x l
def bnw(w0:World)(ids:List Int)(R:List Asn):KL:=fun x w1=> ∃(u:Value)(kj:Int)(i:Nat),x=[u,.slice none 0 0,.int .i64 0,.int .u64 kj,.int .i64 (i:Nat)]/\i<=ids.length/\apd kj (ids.drop i)/\St w0 w1 R
def MkO(w0:World)(ids:List Int)(n:Nat)(R:List Asn):KL:=fun x w1=> ∃(u0 u1 u2 u3 v:Value)(i:Nat),x=[u0,u1,u2,u3,v,.int .i64 (i:Nat)]/\i<=ids.length/\St w0 w1 (ue v (abo (ids.take i) n) :: R)
def MkN(w0:World)(pre:List Pnt)(id:Int)(n:Nat)(R:List Asn):KL:=fun x w1=> ∃(u v:Value)(j:Nat),x=[u,v,.int .i64 (j:Nat)]/\j<=n/\St w0 w1 (ue v (pre ++ (abn id n).take j) :: R)
section
variable {w0 w : World} {R : List Asn}
theorem beu{v:Value}{l:List Pnt}(S:St w0 w (ue v l :: R))(hn:l.length<=12)(hl:l≠[]){K:KV}(h: ∀w' l',acy l'->l'.Perm l->St w0 w' (ue v l' :: R)->K (.tuple #[]) w'):ig P F.ak [v,CF] w K:=by
 obtain⟨b,cap,cur,hv,_⟩:=S.aim (k:=0) (List.length_pos_iff.2 hl)
 subst hv
 exact bey S hn h
theorem bhq{v:Value}{ids:List Int}{n:Nat}(S:St w0 w R)(hs: ∀w' L,St w0 w' (L ++ R)->Sl w' 1 Suint64.sf v ids)(hr:apd 0 ids)(hn:1<=n/\n<=12)(hlen:ids.length * n<=12)(hl:ids≠[])(hl12:ids.length<=12){K:KV}(h: ∀w' v' l,acy l->l.Perm (abo ids n)->St w0 w' (ue v' l :: R)->K (.tuple #[v',.int .i64 0]) w'):ig P F.gu [v,.int .i64 (n:Nat)] w K:=by
 rw[M.bp.fcall]
 apply M.bp.calls
 unfold M.bp
 have hln: ∀w' K,biT P .len #[T.i] T.d [false] [v] w' K=K (.int .i64 ids.length) w':=fun w' K=>(hs w [] S).jp (by kernel_rfl) [false]
 simp only[im,hln]
 refine⟨bnw w0 ids R,fun x _=>ids.length - ms x 4,⟨_,0,0,rfl,Nat.zero_le _,by simpa using hr,S⟩,?_⟩
 rintro x w1 ⟨u,kj,i,rfl,hi,hri,S1⟩
 have q4:gv [u,.slice none 0 0,.int .i64 0,.int .u64 kj,.int .i64 (i:Nat)] 4= .int .i64 (i:Nat):=rfl
 simp only[q4]
 by_cases hil:i < ids.length
 ·have hili:(i:Int) < ids.length:=by omega
  have hwi:IntKind.i64.wrap ((i:Int)+1)=((i+1:Nat):Int):=by rw[iy];rfl
  obtain⟨ab,ao,cap,hv,_,_,hc⟩:=(hs w1 [] S1).at hil
  have hia: ∀w' K,iaT P T.i v (.int .i64 (i:Nat)) w' K=K (.pointer (some ⟨ab,ao+i,none⟩)) w':=fun w' K=>by rw[hv];simp[hil]
  have hcell:il w1 ab (ao+i)=some (.int .u64 ids[i]):=by simpa [Suint64.sf] using hc 0 _ rfl
  have hd:ids.drop i=ids[i] :: ids.drop (i+1):=List.drop_eq_getElem_cons hil
  rw[hd] at hri
  have hlt: ¬ids[i]<=kj:=by have:=hri.1;omega
  simp[hili]
  unfold M.bp.j2
  simp[hia,hcell,hlt,hwi]
  exact⟨⟨_,_,i+1,rfl,by omega,hri.2,S1⟩,by simp[ms,gv];omega⟩
 have hie:i=ids.length:=by omega
 subst hie
 simp
 unfold M.bp.j0
 have n1: ¬(n:Int) < 1:=by omega
 have n2: ¬(64:Int) < (n:Int):=by omega
 have n3: ¬(16:Int) < (ids.length:Int):=by omega
 simp[n1,n2]
 unfold M.bp.j6
 simp[hln,n3]
 unfold M.bp.j5
 simp only[im,hln]
 refine⟨MkO w0 ids n R,fun x _=>ids.length - ms x 5,⟨_,_,_,_,_,0,rfl,Nat.zero_le _,Go.Eng.wg S1⟩,?_⟩
 rintro x w2 ⟨u0,u1,u2,u3,rv,i,rfl,hi,S2⟩
 by_cases hil:i < ids.length
 ·have hili:(i:Int) < ids.length:=by omega
  have hwi:IntKind.i64.wrap ((i:Int)+1)=((i+1:Nat):Int):=by rw[iy];rfl
  obtain⟨ab,ao,cap,hv,_,_,hc⟩:=(hs w2 [_] S2).at hil
  have hia: ∀w' K,iaT P T.i v (.int .i64 (i:Nat)) w' K=K (.pointer (some ⟨ab,ao+i,none⟩)) w':=fun w' K=>by rw[hv];simp[hil]
  have hcell:il w2 ab (ao+i)=some (.int .u64 ids[i]):=by simpa [Suint64.sf] using hc 0 _ rfl
  have htk:=azm (n:=n) hil
  have hpl:(abo (ids.take i) n).length+n<=1000:=by
   rw[afk,List.length_take,Nat.min_eq_left (by omega)]
   have:=Nat.mul_le_mul hi (Nat.le_refl n)
   omega
  generalize ids[i]=id at *
  simp[hili]
  unfold M.bp.j9
  simp[hia,hcell]
  refine⟨MkN w0 (abo (ids.take i) n) id n R,fun x _=>n - ms x 2,⟨_,_,0,rfl,Nat.zero_le _,by simpa using S2⟩,?_⟩
  rintro x w3 ⟨u,rv3,j,rfl,hj,S3⟩
  by_cases hjn:j < n
  ·have hjni:(j:Int) < n:=by omega
   have hwj:IntKind.i64.wrap ((j:Int)+1)=((j+1:Nat):Int):=by rw[iy];rfl
   simp[hjni]
   unfold M.bp.j12
   simp
   refine ave id (i:=j) (by omega) ?_
   simp[bjr ⟨atI id j,id⟩]
   have S4:St w0 (w3.alloc (.cells #[.int .u64 (atI id j),.int .u64 id] T.au)) (ue (.slice (some ⟨w3.heap.size,0,none⟩) 1 1) [⟨atI id j,id⟩] :: _):=St.ug (l:=[(⟨atI id j,id⟩:Pnt)]) S3 xa rfl (by simp[maxLen])
   have htl:((abn id n).take j).length<=n:=by rw[List.length_take,afi];omega
   refine Go.Eng.ux et.an xa anf S4.swap (S4.row xa) (by simp;omega) (by decide) fun w5 v5 S5=>?_
   simp[hwj]
   refine⟨⟨_,_,j+1,rfl,by omega,?_⟩,by simp[ms,gv];omega⟩
   rw[bav id hjn,<-List.append_assoc]
   exact S5.swap.drop
  ·have hje:j=n:=by omega
   subst hje
   simp[hwi]
   refine⟨⟨_,_,_,_,_,i+1,rfl,by omega,?_⟩,by simp[ms,gv];omega⟩
   rw[htk]
   have e:(abn id j).take j=abn id j:=List.take_of_length_le (by rw[afi];exact Nat.le_refl _)
   rw[e] at S3
   exact S3
 ·have hie:i=ids.length:=by omega
  subst hie
  rw[List.take_length] at S2
  simp
  have hpl:=afk ids n
  have hne:abo ids n≠[]:=fun e=>by
   rw[e] at hpl
   have h1:=List.length_pos_iff.2 hl
   have:=Nat.mul_pos h1 (show 0 < n by omega)
   simp at hpl
   omega
  refine beu S2 (by rw[hpl];exact hlen) hne fun w3 l' a1 a2 S3=>?_
  exact h w3 rv l' a1 a2 S3
def BsI(w0:World)(l:List Pnt)(n:Int)(R:List Asn):KL:=fun x w1=> ∃(u:Value)(i j:Nat),x=[u,.int .i64 (i:Nat),.int .i64 (j:Nat)]/\i<=j/\j<=l.length/\(∀k (hk:k < l.length),k < i->l[k].at' < n)/\(∀k (hk:k < l.length),j<=k->n<=l[k].at')/\St w0 w1 R
theorem bag{x:Pnt}{n:Int}(S:St w0 w R){K:KV}(h: ∀w',St w0 w' R->K (.int .i64 (wh x.at' n)) w'):kx P (.func (.func F.gm) #[] #[]) [xi x,.int .u64 n] w K:=by
 rw[M.gb.rcall]
 apply M.gb.calls
 unfold M.gb xi
 refine St.td S fun b w1 S1=>?_
 have c0:il w1 b 0=some (.int .u64 x.at'):=by rw[S1.cell];rfl
 simp[c0]
 exact ajo _ _ (h w1 S1.drop)
theorem bbd{l:List Pnt}(h:acy l){i j:Nat}(hij:i<=j)(hj:j < l.length):(l[i]'(by omega)).at'<=l[j].at':=by
 by_cases he:i=j
 ·subst he;exact Int.le_refl _
 ·have:=List.pairwise_iff_getElem.1 h i j (by omega) hj (by omega)
  unfold leS at this
  omega
theorem bmp{v:Value}{l:List Pnt}(S:St w0 w R)(hs: ∀w' L,St w0 w' (L ++ R)->awu w' v l)(hl:l.length<=100000)(ha:acy l)(n:Int){K:KV}
  (h: ∀w' (i:Nat) bb,i<=l.length->(∀k (hk:k < l.length),k < i->l[k].at' < n)->(∀k (hk:k < l.length),i<=k->n<=l[k].at')->St w0 w' R->K (.tuple #[.int .i64 (i:Nat),.bool bb]) w'):ig P F.y [v,.int .u64 n,.func (.func F.gm) #[] #[]] w K:=by
 rw[M.c.fcall]
 apply M.c.calls
 unfold M.c
 have hln: ∀w' K,biT P .len #[T.an] T.d [false] [v] w' K=K (.int .i64 l.length) w':=fun w' K=>(hs w [] S).jp (by kernel_rfl) [false]
 simp only[im,hln]
 refine⟨BsI w0 l n R,fun x _=>ms x 2 - ms x 1,⟨_,0,l.length,rfl,Nat.zero_le _,Nat.le_refl _,fun _ _ h=>by omega,fun _ _ h=>by omega,S⟩,?_⟩
 rintro x w1 ⟨u,i,j,rfl,hij,hj,hlo,hhi,S1⟩
 have ia: ∀(k:Nat),k < l.length->∃ab ao,(∀w' K,iaT P T.an v (.int .i64 (k:Nat)) w' K=K (.pointer (some ⟨ab,ao+k * 2,none⟩)) w')/\∀(hk:k < l.length) K,ldN P 2 ab (ao+k * 2) w1 K=K (xi l[k]) w1:=fun k hk=>by
  obtain⟨ab,ao,cap,hv,_,_,hc⟩:=(hs w1 [] S1).at hk
  exact⟨ab,ao,fun w' K=>by rw[hv];simp[hk],fun _ K=>sm (yc l[k]) 2 rfl hc K⟩
 by_cases hlt:i < j
 ·have hlti:(i:Int) < j:=by omega
  simp[hlti]
  unfold M.c.j2
  have hm:(i+j) / 2 < l.length:=by omega
  have w1':IntKind.i64.wrap ((i:Int)+(j:Int))=((i+j:Nat):Int):=by rw[iy];rfl
  have w2':IntKind.u64.wrap ((i+j:Nat):Int)=((i+j:Nat):Int):=lq (by omega) (by omega)
  have c1: ∀w K,cvT P T.d T.bs (.int .i64 ((i+j:Nat):Int)) w K=K (.int .u64 ((i+j:Nat):Int)) w:=fun w K=>by rw[od (ks:= .i64) (kd:= .u64) (by kernel_rfl) (by kernel_rfl),w2']
  have hsh: ∀(rx ry:Operand)(w:World)(K:KV),iq P .shr T.bs rx ry (.int .u64 ((i+j:Nat):Int)) (.int .u64 1) w K=K (.int .u64 (((i+j) / 2:Nat):Int)) w:=fun rx ry w K=>by
   rw[acj (by omega)]
   have e:((i+j:Nat):Int).fdiv (2 ^ min (1:Int).toNat IntKind.u64.bits)=(((i+j) / 2:Nat):Int):=by
    show ((i+j:Nat):Int).fdiv 2=_
    rw[Int.fdiv_eq_ediv_of_nonneg _ (by omega)]
    omega
   rw[e]
  have c2: ∀w K,cvT P T.bs T.d (.int .u64 (((i+j) / 2:Nat):Int)) w K=K (.int .i64 (((i+j) / 2:Nat):Int)) w:=fun w K=>by rw[od (ks:= .u64) (kd:= .i64) (by kernel_rfl) (by kernel_rfl),iy]
  obtain⟨ab,ao,e1,e2⟩:=ia _ hm
  have e2:=e2 hm
  have g1:gv [u,Value.int .i64 (i:Nat),.int .i64 (j:Nat)] 1= .int .i64 (i:Nat):=rfl
  have g2:gv [u,Value.int .i64 (i:Nat),.int .i64 (j:Nat)] 2= .int .i64 (j:Nat):=rfl
  simp only[g1,g2,mf,w1',c1,hsh,c2,e1]
  generalize hmm:(i+j) / 2=m at *
  simp[e2]
  refine bag S1 fun w2 S2=>?_
  have hwm:IntKind.i64.wrap ((m:Int)+1)=((m+1:Nat):Int):=by rw[iy];rfl
  by_cases hc:l[m].at' < n
  ·have hc':wh l[m].at' n < 0:=by unfold wh;rw[if_pos hc];decide
   simp[hc',hwm]
   refine⟨⟨_,m+1,j,rfl,by omega,hj,fun k hk hkm=>?_,hhi,S2⟩,by simp[ms,gv];omega⟩
   have:=bbd ha (i:=k) (j:=m) (by omega) hm
   omega
  ·have hc': ¬wh l[m].at' n < 0:=by
    unfold wh
    rw[if_neg hc]
    split <;>decide
   simp[hc']
   refine⟨⟨_,i,m,rfl,by omega,by omega,hlo,fun k hk hkm=>?_,S2⟩,by simp[ms,gv];omega⟩
   have:=bbd ha (i:=m) (j:=k) hkm hk
   omega
 ·have hie:i=j:=by omega
  subst hie
  simp
  unfold M.c.j0
  by_cases hil:i < l.length
  ·have hili:(i:Int) < l.length:=by omega
   obtain⟨ab,ao,e1,e2⟩:=ia _ hil
   have e2:=e2 hil
   simp[hili,e1,e2]
   refine bag S1 fun w2 S2=>?_
   simp
   exact h w2 i _ hj hlo hhi S2
  ·have hili: ¬(i:Int) < l.length:=by omega
   simp[hili]
   exact h w1 i _ hj hlo hhi S1
def aeq(l:List Pnt)(n:Int):Int:=((l.getD ((l.filter fun p=>decide (p.at' < n)).length % l.length) ⟨0,0⟩)).id
theorem bcg{l:List Pnt}{n:Int}{i:Nat}(hi:i<=l.length)(h1: ∀k (hk:k < l.length),k < i->l[k].at' < n)(h2: ∀k (hk:k < l.length),i<=k->n<=l[k].at'):(l.filter fun p=>decide (p.at' < n)).length=i:=by
 have e:l=l.take i ++ l.drop i:=(List.take_append_drop i l).symm
 rw[e,List.filter_append,List.length_append]
 have a1:(l.take i).filter (fun p=>decide (p.at' < n))=l.take i:=by
  rw[List.filter_eq_self]
  intro p hp
  obtain⟨k,hk,rfl⟩:=List.mem_iff_getElem.1 hp
  rw[List.length_take] at hk
  rw[List.getElem_take]
  exact decide_eq_true (h1 k (by omega) (by omega))
 have a2:(l.drop i).filter (fun p=>decide (p.at' < n))=[]:=by
  rw[List.filter_eq_nil_iff]
  intro p hp
  obtain⟨k,hk,rfl⟩:=List.mem_iff_getElem.1 hp
  rw[List.length_drop] at hk
  rw[List.getElem_drop]
  have:=h2 (i+k) (by omega) (by omega)
  simp
  try omega
 rw[a1,a2,List.length_take]
 simp
 try omega
theorem bdo{v:Value}{l:List Pnt}(S:St w0 w R)(hs: ∀w' L,St w0 w' (L ++ R)->awu w' v l)(hl:l.length<=100000)(hne:l≠[])(ha:acy l)(t:Int){K:KV}(h: ∀w',St w0 w' R->K (.int .u64 (aeq l (ajl t))) w'):ig P F.gp [v,.int .u64 t] w K:=by
 have hpos:=List.length_pos_iff.2 hne
 rw[M.fq.fcall]
 apply M.fq.calls
 unfold M.fq
 refine app t ?_
 rw[M.fu.fcall]
 apply M.fu.calls
 unfold M.fu
 have hln: ∀w' K,biT P .len #[T.an] T.d [false] [v] w' K=K (.int .i64 l.length) w':=fun w' K=>(hs w [] S).jp (by kernel_rfl) [false]
 have h0: ¬(l.length:Int)=0:=by omega
 simp[hln,h0,hne]
 unfold M.fu.j0
 refine bmp S hs hl ha (ajl t) fun w1 i bb hi h1 h2 S1=>?_
 have hf:=bcg hi h1 h2
 have hrem:(i:Int).tmod (l.length:Int)=((i % l.length:Nat):Int):=by
  rw[<-Int.ofNat_tmod]
 have hm:i % l.length < l.length:=Nat.mod_lt _ hpos
 have hown:aeq l (ajl t)=l[i % l.length].id:=by
  unfold aeq
  rw[hf,List.getD_eq_getElem?_getD,List.getElem?_eq_getElem hm]
  rfl
 rw[hown] at h
 generalize i % l.length=m at *
 obtain⟨ab,ao,cap,hv,_,_,hc⟩:=(hs w1 [] S1).at hm
 have hia: ∀w' K,iaT P T.an v (.int .i64 (m:Nat)) w' K=K (.pointer (some ⟨ab,ao+m * 2,none⟩)) w':=fun w' K=>by rw[hv];simp[hm]
 have hcell:il w1 ab (ao+m * 2+1)=some (.int .u64 l[m].id):=by simpa [yc] using hc 1 _ rfl
 simp only[aba,aau,hln,aum h0,hrem,hia]
 simp[hcell]
 exact h w1 S1
theorem ban{l:List Pnt}{id:Int}(h: ∀p∈l,p.id=id)(hne:l≠[])(n:Int):aeq l n=id:=by
 unfold aeq
 have hm:(l.filter fun p=>decide (p.at' < n)).length % l.length < l.length:=Nat.mod_lt _ (List.length_pos_iff.2 hne)
 rw[List.getD_eq_getElem?_getD,List.getElem?_eq_getElem hm]
 exact h _ (List.getElem_mem hm)
end
end Go.Proofs.YtgepcfcicngceaaGreatDoor.Ring
set_option maxRecDepth 100000
namespace Go.Proofs.YtgepcfcicngceaaGreatDoor
open Go.Eng Go.Proofs.YtgepcfcicngceaaGreatDoor.Sint
def avo(w0:World)(R:List Asn)(fv:Value)(pf:Spn->Bool):Prop:= ∀w' L x (K:KV),St w0 w' (L ++ R)->(∀w'',Fz w' w''->K (.bool (pf x)) w'')->kx P fv [ki x] w' K
section
variable {w0 w : World} {R : List Asn} {v fv : Value} {l : List Spn} {pf : Spn → Bool}
def bnr(w0:World)(l:List Spn)(pf:Spn->Bool)(R:List Asn):KL:=fun x w1=> ∃(i:Nat),gv x 2= .int .i64 (i:Nat)/\i<=l.length/\(∀j (h:j < l.length),j < i->pf l[j]=false)/\St w0 w1 R
theorem axv(S:St w0 w R)(hs: ∀w' L,St w0 w' (L ++ R)->SlS w' v l)(hf:avo w0 R fv pf)(hl:l.length<=1000000){K:KV}
  (hno:(∀x∈l,pf x=false)->∀w',St w0 w' R->K (.int .i64 (-1)) w')
  (hyes: ∀i (hi:i < l.length),pf l[i]=true->(∀j (h:j < l.length),j < i->pf l[j]=false)->∀w',St w0 w' R->K (.int .i64 (i:Nat)) w'):ig P F.bb [v,fv] w K:=by
 rw[M.l.fcall]
 apply M.l.calls
 unfold M.l
 have hlen: ∀w' K,biT P .len #[T.j] T.d [false] [v] w' K=K (.int .i64 l.length) w':=fun w' K=>(hs w [] S).jp (by kernel_rfl) [false]
 simp[hlen]
 refine⟨bnr w0 l pf R,fun x _=>l.length - ms x 2,⟨0,rfl,Nat.zero_le _,fun j _ h=>by omega,S⟩,?_⟩
 rintro x w1 ⟨i,e2,hi,hpre,S1⟩
 rw[e2]
 by_cases hil:i < l.length
 ·have hwi:IntKind.i64.wrap ((i:Int)+1)=((i+1:Nat):Int):=by rw[iy];rfl
  simp[hil]
  unfold M.l.j2
  rw[e2]
  obtain⟨ab,ao,cap,hv,_,_,hc⟩:=(hs w1 [] S1).at hil
  have hia: ∀w' K,iaT P T.j v (.int .i64 (i:Nat)) w' K=K (.pointer (some ⟨ab,ao+i * 8,none⟩)) w':=fun w' K=>by rw[hv];simp[hil]
  have hld: ∀K,ldN P 8 ab (ao+i * 8) w1 K=K (ki l[i]) w1:=fun K=>sm (jj l[i]) 8 rfl hc K
  simp[hia,hld]
  refine hf w1 [] l[i] _ S1 fun w2 f2=>?_
  have S2:=S1.ju f2
  cases hp:pf l[i] with
  | true=>
   simp
   exact hyes i hil hp hpre w2 S2
  | false=>
   simp
   rw[hwi]
   refine⟨⟨i+1,rfl,by omega,fun j h hj=>?_,S2⟩,?_⟩
   ·by_cases hji:j=i
    ·subst hji;exact hp
    ·exact hpre j h (by omega)
   ·have:ms x 2=i:=by unfold ms;rw[e2];simp
    rw[this]
    simp[ms,gv];omega
 ·have hie:i=l.length:=by omega
  subst hie
  simp
  refine hno (fun y hy=>?_) w1 S1
  obtain⟨j,hj,rfl⟩:=List.getElem_of_mem hy
  exact hpre j hj hj
end
set_option maxRecDepth 100000
structure Rul where
 ji:Bool
 lf:ByteArray
 num:Int
 blh:ByteArray
def li(r:Rul):List Value:=[.bool r.ji,.string r.lf,.int .u64 r.num,.string r.blh]
theorem xc(r:Rul):(li r).length=4:=rfl
theorem adm(r:Rul): ∀u∈li r,kw u=true:=fun u hu=>by
 simp[li] at hu
 rcases hu with rfl|rfl|rfl|rfl <;>rfl
def uf(r:Rul):Value:= .agg #[.bool r.ji,.string r.lf,.int .u64 r.num,.string r.blh]
abbrev akk(v:Value)(l:List Rul):Asn:=ph T.q 4 li v l
abbrev tg:ByteArray:=⟨#[102,97,105,108]⟩
abbrev bdk:ByteArray:=⟨#[97,108,119,97,121,115]⟩
def jz:Rul:=⟨true,tg,0,⟨#[]⟩⟩
theorem asv:(tg.toList == bdk.toList)=false:=by decide+kernel
theorem aop:(tg.toList == tg.toList)=true:=by decide+kernel
theorem bhv:((⟨#[]⟩:ByteArray).toList == (⟨#[]⟩:ByteArray).toList)=true:=by decide+kernel
theorem aoc{w:World}{K:KV}(h:K (.tuple #[.int .i64 1,.int .u64 0,.int .u64 0]) w):ig P F.ft [.string tg] w K:=by
 rw[M.et.fcall]
 apply M.et.calls
 unfold M.et
 simp only[im,te,asv,aop,ij]
 unfold M.et.j1
 simp only[ij]
 exact h
section
variable {w0 w : World} {R : List Asn} {v fv : Value} {l : List Spn} {pf : Spn → Bool}
theorem aiy(S:St w0 w R){K:KV}(h: ∀w',St w0 w' R->K (.bool true) w'):ig P F.dh [uf jz] w K:=by
 rw[M.cw.fcall]
 apply M.cw.calls
 unfold M.cw uf jz
 refine St.td S fun b w1 S1=>?_
 have c1:il w1 b 1=some (.string tg):=by rw[S1.cell];rfl
 have c2:il w1 b 2=some (.int .u64 0):=by rw[S1.cell];rfl
 have c3:il w1 b 3=some (.string ⟨#[]⟩):=by rw[S1.cell];rfl
 simp[c1]
 refine aoc ?_
 simp
 unfold M.cw.j0
 simp[c2,c3,te,bhv]
 exact h w1 S1.drop
theorem arh(S:St w0 w R)(hs: ∀w' L,St w0 w' (L ++ R)->SlS w' v l)(hf:avo w0 R fv pf)(hl:l.length<=1000000){K:KV}(h: ∀w',St w0 w' R->K (.bool (l.any pf)) w'):ig P F.p [v,fv] w K:=by
 rw[M.aa.fcall]
 apply M.aa.calls
 unfold M.aa
 refine axv S hs hf hl (fun hno w' S'=>?_) fun i hi hyes hpre w' S'=>?_
 ·have e:l.any pf=false:=by
   rw[List.any_eq_false]
   intro x hx
   rw[hno x hx];simp
  rw[e] at h
  simp
  exact h w' S'
 ·have e:l.any pf=true:=by
   rw[List.any_eq_true]
   exact⟨l[i],List.getElem_mem hi,hyes⟩
  rw[e] at h
  have hi0:(0:Int)<=(i:Int):=by omega
  simp[hi0]
  exact h w' S'
theorem bbv:avo w0 R (.func (.func F.em) #[] #[]) Spn.ny:=fun w' L x K S' hK=>by
 rw[M.fc.rcall]
 apply M.fc.calls
 unfold M.fc ki
 have S0:=St.jy w'
 refine St.td S0 fun b w1 S1=>?_
 have c7:il w1 b 7=some (.bool x.ny):=by rw[S1.cell];rfl
 simp[c7]
 exact hK w1 S1.fr
def apg(l:List Spn):Int:=if l=[] then 0 else if l.any Spn.ny then 1 else 2
theorem avn(S:St w0 w R)(hs: ∀w' L,St w0 w' (L ++ R)->SlS w' v l)(hl:l.length<=1000000)(hne:l≠[]){K:KV}(h: ∀w',St w0 w' R->K (.bool (l.any Spn.ny)) w'):ig P F.gf [uf jz,v] w K:=by
 rw[M.dz.fcall]
 apply M.dz.calls
 unfold M.dz
 have hlen: ∀w' K,biT P .len #[T.j] T.d [false] [v] w' K=K (.int .i64 l.length) w':=fun w' K=>(hs w [] S).jp (by kernel_rfl) [false]
 obtain⟨a,cap,hv,_⟩:=hs w [] S
 rw[show uf jz= .agg (li jz).toArray from rfl]
 refine St.td S fun b w1 S1=>?_
 rw[ub]
 have hvc:v.cells= #[v]:=by rw[hv];rfl
 have S2:St w0 (w1.alloc (.cells #[v] T.j)) (ja w1.heap.size #[v] T.j :: ja b (li jz).toArray T.q :: R):=S1.mkB #[v] T.j
 rw[hvc]
 generalize w1.heap.size=vb at *
 generalize w1.alloc _=w2 at *
 have ld4: ∀{w':World}{L:List Asn},St w0 w' (ja b (li jz).toArray T.q :: L)->∀K,ldN P 4 b 0 w' K=K (uf jz) w':=fun S' K=>S'.ldA (n:=4) (i:=0) (li jz) rfl rfl K
 simp[ld4 S2.swap]
 refine aiy S2 fun w3 S3=>?_
 have c0:il w3 vb 0=some v:=by rw[S3.cell];rfl
 have h0: ¬(l.length:Int)=0:=by have:=List.length_pos_iff.2 hne;omega
 simp[c0,hlen,h0,hne]
 unfold M.dz.j0
 have c1:il w3 b 1=some (.string tg):=by rw[S3.swap.cell];rfl
 simp only[im,aas]
 simp[c1,te,aop]
 have hc:=ajw (P:=P) FN.cv.at (by kernel_rfl) (by kernel_rfl) [] [.pointer (some ⟨vb,0,none⟩)] [.func (.func F.em) #[] #[]] w3
 simp only[List.nil_append,List.cons_append] at hc
 rw[show (#[.pointer (some ⟨vb,0,none⟩)]:Array Value)=[Value.pointer (some ⟨vb,0,none⟩)].toArray from rfl,show (#[]:Array Value)=([]:List Value).toArray from rfl] at *
 rw[hc]
 apply M.fx.calls
 unfold M.fx
 simp[c0]
 exact arh S3 (fun w' L S'=>hs w' (L ++ [_,_]) (by simpa using S')) bbv hl fun w' S'=>h w' S'.drop.drop
end
section
variable {w0 w : World} {R : List Asn} {v rv : Value} {l : List Spn}
theorem bei(S:St w0 w R)(hr: ∀w' L,St w0 w' (L ++ R)->Sl w' 4 li rv [jz])(hs: ∀w' L,St w0 w' (L ++ R)->SlS w' v l)(hl:l.length<=1000000){K:KV}(h: ∀w',St w0 w' R->K (.int .i64 (apg l)) w'):ig P F.gj [rv,v] w K:=by
 rw[M.er.fcall]
 apply M.er.calls
 unfold M.er
 have hlen: ∀w' K,biT P .len #[T.j] T.d [false] [v] w' K=K (.int .i64 l.length) w':=fun w' K=>(hs w [] S).jp (by kernel_rfl) [false]
 obtain⟨a,cap,hv,_⟩:=hs w [] S
 have hvc:v.cells= #[v]:=by rw[hv];rfl
 rw[ub,hvc]
 have S2:St w0 (w.alloc (.cells #[v] T.j)) (ja w.heap.size #[v] T.j :: R):=S.mkB #[v] T.j
 generalize w.heap.size=vb at *
 generalize w.alloc _=w2 at *
 have c0: ∀{w':World}{L:List Asn},St w0 w' (ja vb #[v] T.j :: L)->il w' vb 0=some v:=fun S'=>by rw[S'.cell];rfl
 by_cases hne:l=[]
 ·subst hne
  simp[c0 S2,hlen]
  exact h w2 S2.drop
 ·have h0: ¬(l.length:Int)=0:=by have:=List.length_pos_iff.2 hne;omega
  simp[c0 S2,hlen,h0,hne]
  unfold M.er.j0
  rw[aas,M.t.fcall]
  apply M.t.calls
  unfold M.t
  have hlr: ∀w' K,biT P .len #[T.ad] T.d [false] [rv] w' K=K (.int .i64 1) w':=fun w' K=>(hr w2 [_] S2).jp (by kernel_rfl) [false]
  simp only[im,hlr]
  refine⟨fun x w1=> ∃(i:Nat),gv x 2= .int .i64 (i:Nat)/\i<=1/\(i=1->l.any Spn.ny=false)/\St w0 w1 (ja vb #[v] T.j :: R),fun x _=>1 - ms x 2,⟨0,rfl,Nat.zero_le _,fun h=>by omega,S2⟩,?_⟩
  rintro x w3 ⟨i,x2,hi,hany,S3⟩
  rw[x2]
  by_cases hi0:i=0
  ·subst hi0
   simp
   unfold M.t.j2
   rw[x2]
   obtain⟨ab,ao,cap,hrv,_,_,hc⟩:=(hr w3 [_] S3).at (i:=0) (by simp)
   have hia: ∀w' K,iaT P T.ad rv (.int .i64 ((0:Nat):Int)) w' K=K (.pointer (some ⟨ab,ao,none⟩)) w':=fun w' K=>by rw[hrv];simp
   have hld: ∀K,ldN P 4 ab ao w3 K=K (uf jz) w3:=fun K=>sm (li jz) 4 rfl (fun k u hk=>by have:=hc k u hk;simpa using this) K
   simp only[im,hia]
   simp[hld]
   have hcl:=fun K=>ajw (P:=P) FN.dd.at (by kernel_rfl) (by kernel_rfl) [] [.pointer (some ⟨vb,0,none⟩)] [uf jz] w3 K
   simp only[List.nil_append,List.cons_append] at hcl
   rw[hcl]
   apply M.fy.calls
   unfold M.fy
   rw[show uf jz= .agg (li jz).toArray from rfl]
   refine St.td S3 fun b w4 S4=>?_
   have ld4: ∀K,ldN P 4 b 0 w4 K=K (uf jz) w4:=fun K=>S4.ldA (n:=4) (i:=0) (li jz) rfl rfl K
   simp[ld4,c0 S4.swap]
   refine avn S4 (fun w' L S'=>hs w' (L ++ [_,_]) (by simpa using S')) hl hne fun w5 S5=>?_
   have S6:=S5.drop
   cases ha:l.any Spn.ny with
   | true=>
    have hw:=h w5 S6.drop
    unfold apg at hw
    rw[if_neg hne,ha] at hw
    have ck:il w5 ab ao=some (.bool true):=by
     obtain⟨ab',ao',cap',hrv',_,_,hc'⟩:=(hr w5 [_] S6).at (i:=0) (by simp)
     rw[hrv] at hrv'
     injection hrv' with e1 _ _
     injection e1 with e1
     injection e1 with e1 e2 _
     subst e1 e2
     have:=hc' 0 _ rfl
     simpa [jz] using this
    have hia0: ∀w' K,iaT P T.ad rv (.int .i64 0) w' K=K (.pointer (some ⟨ab,ao,none⟩)) w':=hia
    simp[hia0,ck]
    exact hw
   | false=>
    simp
    exact⟨⟨1,rfl,Nat.le_refl _,fun _=>by simpa using ha,S6⟩,by simp[ms,gv,x2,show IntKind.i64.wrap 1=1 from by decide]⟩
  ·have hi1:i=1:=by omega
   subst hi1
   simp
   have hw:=h w3 S3.drop
   unfold apg at hw
   rw[if_neg hne,hany rfl] at hw
   exact hw
end
abbrev aat:ByteArray:=⟨#[107,101,101,112]⟩
abbrev ky:ByteArray:=⟨#[107,101,101,112,32,102,97,105,108]⟩
section
variable {w0 w : World} {R : List Asn}
theorem axq(c:UInt8)(w:World)(K:KV):ixT P T.m (.string ⟨#[c]⟩) (.int .i64 0) w K=K (.int .u8 (c.toNat:Nat)) w:=ard (⟨#[c]⟩:ByteArray) (i:=0) (Nat.lt_succ_self 0) w K
theorem bkr(s:ByteArray)(c:UInt8){K:KV}(h:K (.int .i64 (Lib.countByte s.data.toList c:Nat)) w):ig P F.aj [.string s,.int .u8 (c.toNat:Nat)] w K:=by
 unfold ig kz
 rw[run_callFunc_extern (e:=Extern.BytealgCount.count) FN.aj.at (by kernel_rfl) (by kernel_rfl) (by kernel_rfl) (by kernel_rfl)]
 have hr:=Lib.run_countString (P:=P) s (c.toNat:Int) w
 rw[show ((c.toNat:Int).toNat.toUInt8)=c from by simp] at hr
 rw[show [Value.string s,.int .u8 ((c.toNat:Nat):Int)].toArray= #[.string s,.int .u8 (c.toNat:Int)] from rfl,hr]
 exact h
theorem blr(s:ByteArray)(c:UInt8){K:KV}(h:K (.int .i64 (Lib.indexByte s.data.toList c)) w):ig P F.z [.string s,.int .u8 (c.toNat:Nat)] w K:=by
 unfold ig kz
 rw[run_callFunc_extern (e:=Extern.BytealgIndexByte.indexByte) FN.z.at (by kernel_rfl) (by kernel_rfl) (by kernel_rfl) (by kernel_rfl)]
 have hr:=Lib.run_indexByteString (P:=P) s (c.toNat:Int) w
 rw[show ((c.toNat:Int).toNat.toUInt8)=c from by simp] at hr
 rw[show [Value.string s,.int .u8 ((c.toNat:Nat):Int)].toArray= #[.string s,.int .u8 (c.toNat:Int)] from rfl,hr]
 exact h
theorem aeu(c:UInt8):(⟨#[c]⟩:ByteArray).size=1:=rfl
theorem aom(s:ByteArray)(c:UInt8){K:KV}(h:K (.int .i64 (Lib.countByte s.data.toList c:Nat)) w):ig P F.ev [.string s,.string ⟨#[c]⟩] w K:=by
 rw[M.cn.fcall]
 apply M.cn.calls
 unfold M.cn
 simp[aeu]
 unfold M.cn.j0
 simp[aeu,axq]
 exact bkr s c h
theorem aol(s:ByteArray)(c:UInt8)(hne:((⟨#[c]⟩:ByteArray).toList == s.toList)=false){K:KV}(h:K (.int .i64 (Lib.indexByte s.data.toList c)) w):ig P F.dt [.string s,.string ⟨#[c]⟩] w K:=by
 rw[M.fd.fcall]
 apply M.fd.calls
 unfold M.fd
 rw[M.q.fcall]
 apply M.q.calls
 unfold M.q
 simp[aeu,axq]
 simp only[te,hne,ij]
 rw[M.bv.fcall]
 apply M.bv.calls
 unfold M.bv
 exact blr s c h
theorem boa(w:World)(K:KV):aqw P T.bg (.int .i64 2) (.int .i64 2) w K=K (.slice (some ⟨w.heap.size,0,none⟩) 2 2) (w.alloc (.cells #[.string ⟨#[]⟩,.string ⟨#[]⟩] T.m)):=kr
theorem baf(S:St w0 w R){K:KV}(h: ∀w' g,St w0 w' (ja g #[.string aat,.string tg] T.m :: R)->K (.slice (some ⟨g,0,none⟩) 2 2) w'):ig P F.fv [.string ky,.string ⟨#[32]⟩] w K:=by
 rw[M.fe.fcall]
 apply M.fe.calls
 unfold M.fe
 rw[M.al.fcall]
 apply M.al.calls
 unfold M.al
 have e1:((⟨#[32]⟩:ByteArray).toList == (⟨#[]⟩:ByteArray).toList)=false:=by decide+kernel
 simp only[te,e1]
 simp
 unfold M.al.j1
 simp
 refine aom ky 32 ?_
 have ec:Lib.countByte ky.data.toList 32=1:=by decide
 rw[ec]
 have w2:IntKind.i64.wrap 2=2:=by decide
 simp[w2]
 unfold M.al.j2
 have w10:IntKind.i64.wrap ((ky.size:Int)+1)=10:=by decide
 have w21:IntKind.i64.wrap (2 - 1)=1:=by decide
 have m2: ∀w' K',biT P .min #[T.d,T.d] T.d [false,false] [.int .i64 2,.int .i64 10] w' K'=K' (.int .i64 2) w':=fun w' K'=>by rw[ajd];rfl
 simp[w10,m2,boa,w21]
 have S1:=S.mkB #[.string ⟨#[]⟩,.string ⟨#[]⟩] T.m
 generalize w.heap.size=g at *
 generalize w.alloc _=w1 at *
 refine⟨fun x w'=>(x=[undef,.string ky,.int .i64 0]/\St w0 w' (ja g #[.string ⟨#[]⟩,.string ⟨#[]⟩] T.m :: R))\/(∃u,x=[u,.string tg,.int .i64 1]/\St w0 w' (ja g #[.string aat,.string ⟨#[]⟩] T.m :: R)),fun x _=>1 - ms x 2,.inl ⟨rfl,S1⟩,?_⟩
 rintro x w2' (⟨rfl,S2⟩|⟨u,rfl,S2⟩)
 ·simp
  unfold M.al.j5
  refine aol ky 32 (by decide+kernel) ?_
  have ei:Lib.indexByte ky.data.toList 32=4:=by decide
  rw[ei]
  simp
  unfold M.al.j6
  have w4:IntKind.i64.wrap 4=4:=by decide
  have w5:IntKind.i64.wrap 5=5:=by decide
  have s1: ∀w' K',slT P T.m (.string ky) none (some (.int .i64 4)) none w' K'=K' (.string aat) w':=fun w' K'=>by
   show slT P T.m (.string ky) none (some (.int .i64 ((4:Nat):Int))) none w' K'=_
   rw[ahw (i:=0) (j:=4) (by kernel_rfl) (.inl ⟨rfl,rfl⟩) (.inr ⟨_,rfl⟩) (by decide) (by decide)]
   rw[show ky.extract 0 4=aat from by decide+kernel]
  have s2: ∀w' K',slT P T.m (.string ky) (some (.int .i64 5)) none none w' K'=K' (.string tg) w':=fun w' K'=>by
   show slT P T.m (.string ky) (some (.int .i64 ((5:Nat):Int))) none none w' K'=_
   rw[ahw (i:=5) (j:=9) (by kernel_rfl) (.inr ⟨_,rfl⟩) (.inl ⟨rfl,rfl⟩) (by decide) (by decide)]
   rw[show ky.extract 5 9=tg from by decide+kernel]
  simp[w4,w5,s1,s2,aeu]
  refine St.nh S2 rfl (by simp) fun w3 S3=>?_
  have w1:IntKind.i64.wrap 1=1:=by decide
  exact⟨⟨w1,S3⟩,by simp[ms,gv,w1]⟩
 ·simp
  refine St.nh S2 rfl (by simp) fun w3 S3=>?_
  have S4:St w0 w3 (ja g #[.string aat,.string tg] T.m :: R):=S3
  have s3: ∀w' K',slT P T.bg (.slice (some ⟨g,0,none⟩) 2 2) none (some (.int .i64 2)) none w' K'=K' (.slice (some ⟨g,0,none⟩) 2 2) w':=fun w' K'=>by
   rw[awd (by kernel_rfl) (by decide) (by decide)]
   rfl
  simp[w2,s3]
  exact h w3 g S4
end
section
variable {w0 w : World} {R : List Asn}
theorem ann:(aat.toList == aat.toList)=true:=by decide+kernel
abbrev ruB(b:Nat)(r:Rul):Asn:=ja b (li r).toArray T.q
theorem bcj{b:Nat}{r:Rul}(S:St w0 w (ruB b r :: R)){K:KV}(h: ∀w',St w0 w' (ruB b r :: R)->K (uf r) w'):
  stN P b 0 (li r) w fun _ w=>mi P T.q (.pointer (some ⟨b,0,none⟩)) w fun r0 w'=>w'=w/\K r0 w:=by
 refine St.put (vs:=li r) (cs':=(li r).toArray) S (adm r) (by simp[li]) (by simp[li]) fun w' S'=>?_
 have hres: ∀w' K,mi P T.q (.pointer (some ⟨b,0,none⟩)) w' K=ldN P 4 b 0 w' K:=fun w' K=>kr
 have ld4: ∀K,ldN P 4 b 0 w' K=K (uf r) w':=fun K=>S'.ldA (n:=4) (i:=0) (li r) rfl rfl K
 rw[hres,ld4]
 exact⟨rfl,h w' S'⟩
theorem bdi(S:St w0 w R){K:KV}(h: ∀w',St w0 w' R->K (.tuple #[uf jz,.bool true]) w'):ig P F.gh [.string ky] w K:=by
 rw[M.dn.fcall]
 apply M.dn.calls
 unfold M.dn
 have S1:St w0 (w.alloc (.cells #[.bool false,.string ⟨#[]⟩,.int .u64 0,.string ⟨#[]⟩] T.q)) (ruB w.heap.size ⟨false,⟨#[]⟩,0,⟨#[]⟩⟩ :: R):=S.mkB _ _
 simp
 generalize w.heap.size=rb at *
 generalize w.alloc _=w1 at *
 refine baf S1 fun w2 g S2=>?_
 have c0:il w2 g 0=some (.string aat):=by rw[S2.cell];rfl
 have c1:il w2 g 1=some (.string tg):=by rw[S2.cell];rfl
 simp[c0]
 simp only[bdr,ann]
 simp
 unfold M.dn.j0
 simp[c0,c1]
 simp only[te,ann]
 simp
 have S3:=S2.swap.ju ((Fr.refl _ w2).dr 1)
 refine St.put (vs:=li jz) (cs':=(li jz).toArray) S3 (adm jz) (by simp[li]) (by simp[li]) fun w4 S4=>?_
 have c1:il w4 rb 1=some (.string tg):=by rw[S4.cell];rfl
 simp[c1]
 refine aoc ?_
 simp
 unfold M.dn.j1
 have S5:=S4.ju ((Fr.refl _ w4).dr 1)
 have ld4: ∀{w':World}{L:List Asn},St w0 w' (ruB rb jz :: L)->∀K,ldN P 4 rb 0 w' K=K (uf jz) w':=fun S' K=>S'.ldA (n:=4) (i:=0) (li jz) rfl rfl K
 simp[ld4 S5]
 refine aiy S5 fun w6 S6=>?_
 simp[ld4 S6]
 unfold uf jz
 simp
 exact bcj (r:=jz) (K:=fun r w=>K (.tuple #[r,.bool true]) w) S6 fun w' S'=>h w' S'.drop.drop
end
def xn(b:Nat)(o:Obj):Asn where
 ok w B:=w.heap[b]? =some o/\B b
 ji h hf hn:=⟨hf.heap h.1 (hn _ h.2),h.2⟩
def cL:Code->Code
 | .seq x _=>x
 | .block _ c=>c
 | .rangeFunc _ _ x _=>x
 | c=>c
def cR:Code->Code
 | .seq _ y=>y
 | .rangeFunc _ _ _ y=>y
 | c=>c
noncomputable abbrev pcB:Code:=FN.af.body.getD .skip
noncomputable abbrev pc0:Code:=cL pcB
noncomputable abbrev pc1:Code:=cL (cR pcB)
noncomputable abbrev pc3:Code:=cL (cR (cR pcB))
noncomputable abbrev pc5:Code:=cL (cL (cR (cR (cR pcB))))
noncomputable abbrev pcF:Code:=cL (cR (cL (cR (cR (cR pcB)))))
noncomputable abbrev pcA:Code:=cL pcF
noncomputable abbrev pcD:Code:=cR pcF
noncomputable abbrev pcE:Code:=cR (cR (cR (cR pcB)))
theorem blw:FN.af.body=some (.seq pc0 (.seq pc1 (.seq pc3 (.seq (.seq pc5 (.block 0 (.rangeFunc (.tmp 18) #[19] pcA pcD))) pcE)))):=by kernel_rfl
theorem bnb:ok0 32 pc0=true:=by kernel_rfl
theorem pk1:ok0 32 pc1=true:=by kernel_rfl
theorem pk3:ok0 32 pc3=true:=by kernel_rfl
theorem pk5:ok0 32 pc5=true:=by kernel_rfl
theorem bod:ok0 32 pcA=true:=by kernel_rfl
theorem pkD:ok0 32 pcD=true:=by kernel_rfl
theorem pkE:ok0 32 pcE=true:=by kernel_rfl
section
variable {w0 w : World} {R : List Asn}
theorem pd0(e:Env)(w:World)(Q:Exit->KE):zg P pc0 e w Q=(alT P T.ad w fun t2 w=>alT P T.z w fun t3 w=>Q .normal (upd (upd e 2 t2) 3 t3) w):=by kernel_rfl
theorem pd1(e:Env)(w:World)(Q:Exit->KE):zg P pc1 e w Q=(biT P .len #[T.m] T.d [false] [e 0] w fun t8 w=>iq P .gtr T.d (.tmp 8) (.const (.int .i64 2048)) t8 (.int .i64 2048) w fun t9 w=>
  ie (isB t9 false) (fun K'=>K' (e 0) w) w fun t11 w=>ie (isB t9 false) (fun K'=>ig P F.ev [t11,.string ⟨#[10]⟩] w K') w fun t12 w=>
  ie (isB t9 false) (fun K'=>iq P .geq T.d (.tmp 12) (.const (.int .i64 16)) t12 (.int .i64 16) w K') w fun t13 w=>iw t9 (.bool true) t13 w fun t14 w=>
  ij t14 (stT P T.ad (e 2) (.slice none 0 0) w fun _ w=>stT P T.z (e 3) (.int .i64 4) w fun _ w=>Q .ret (upd (upd (upd (upd (upd (upd (upd (upd e 7 (e 0)) 8 t8) 9 t9) 10 t9) 11 t11) 12 t12) 13 t13) 14 t14) w)
   (Q .normal (upd (upd (upd (upd (upd (upd (upd (upd e 7 (e 0)) 8 t8) 9 t9) 10 t9) 11 t11) 12 t12) 13 t13) 14 t14) w)):=by kernel_rfl
theorem pd3(e:Env)(w:World)(Q:Exit->KE):zg P pc3 e w Q=(iq P .eql T.m (.tmp 15) (.const (.string ⟨#[]⟩)) (e 0) (.string ⟨#[]⟩) w fun t16 w=>
  ij t16 (stT P T.ad (e 2) (.slice none 0 0) w fun _ w=>stT P T.z (e 3) (.int .i64 0) w fun _ w=>Q .ret (upd (upd e 15 (e 0)) 16 t16) w) (Q .normal (upd (upd e 15 (e 0)) 16 t16) w)):=by kernel_rfl
theorem pd5(e:Env)(w:World)(Q:Exit->KE):zg P pc5 e w Q=(ig P F.fw [e 0,.string ⟨#[10]⟩] w fun t18 w=>Q .normal (upd (upd e 17 (e 0)) 18 t18) w):=by kernel_rfl
theorem pdA(e:Env)(w:World)(Q:Exit->KE):zg P pcA e w Q=Q .normal (upd e 4 (e 19)) w:=by kernel_rfl
theorem pdD(e:Env)(w:World)(Q:Exit->KE):zg P pcD e w Q=(ig P F.gh [e 4] w fun t22 w=>exT P t22 0 w fun t23 w=>exT P t22 1 w fun t24 w=>alT P T.q w fun t5 w=>stT P T.q t5 t23 w fun _ w=>unT P .not t24 w fun t26 w=>
  ij t26 (stT P T.ad (e 2) (.slice none 0 0) w fun _ w=>stT P T.z (e 3) (.int .i64 7) w fun _ w=>aaf 1 Q .ret (upd (upd (upd (upd (upd (upd (upd (upd (upd e 21 (e 4)) 22 t22) 20 t22) 23 t23) 24 t24) 5 t5) 6 t24) 25 t24) 26 t26) w)
   (ldT P T.ad (e 2) w fun t27 w=>ldT P T.q t5 w fun t28 w=>bsT P T.ad 1 #[(0,t28)] w fun t29 w=>biT P .append #[T.ad,T.ad] T.ad [false,false] [t27,t29] w fun t30 w=>stT P T.ad (e 2) t30 w fun _ w=>
    aaf 1 Q .normal (upd (upd (upd (upd (upd (upd (upd (upd (upd (upd (upd (upd (upd e 21 (e 4)) 22 t22) 20 t22) 23 t23) 24 t24) 5 t5) 6 t24) 25 t24) 26 t26) 27 t27) 28 t28) 29 t29) 30 t30) w)):=by kernel_rfl
theorem pdE(e:Env)(w:World)(Q:Exit->KE):zg P pcE e w Q=(ldT P T.ad (e 2) w fun t31 w=>stT P T.ad (e 2) t31 w fun _ w=>stT P T.z (e 3) (.int .i64 0) w fun _ w=>Q .ret (upd e 31 t31) w):=by kernel_rfl
end
section
variable {w0 w : World} {R : List Asn} {b l D b2 : Nat} {o o' : Obj}
theorem bae(S:St w0 w R)(o:Obj):St w0 (w.alloc o) (xn w.heap.size o :: R):=S.add ((Fr.refl _ w).alloc _) (B:=fun x=>x=w.heap.size) ⟨by rw[iz,if_pos rfl],rfl⟩ fun x hx=>by subst hx;rw[jd];omega
theorem aid(S:St w0 w (xn b o :: R)):w.heap[b]? =some o:=by
 obtain⟨B,h1,_⟩:=S.open
 exact h1.1
theorem akv(S:St w0 w (xn b o :: R))(o':Obj):St w0 (World.setObj w b o') (xn b o' :: R):=by
 obtain⟨B,⟨k1,k2⟩,hB,cl⟩:=S.open
 exact cl (World.setObj w b o') [xn b o'] ((Fr.refl B w).setObj (.inl k2) o') (Rs.one (B:=B) ⟨by rw[pm _ _ _ _ (ll k1),if_pos rfl],k2⟩ fun b hb=> .inl hb)
noncomputable def zk(fn:FuncId)(tmps:Array Value)(D:Nat)(st:LoopState):Loop:={state:=st,pending:=none,fn,tmps,params:= #[19],assign:=pcA,body:=pcD,defers:=D}
abbrev slB(b:Nat)(v:Value):Asn:=ja b #[v] T.ad
theorem bgp{fn:FuncId}{tmps:Array Value}(hsz:tmps.size=32)(h2:tmps.getD 2 undef= .pointer (some ⟨b2,0,none⟩))(S:St w0 w (xn l (.loop (zk fn tmps D .ready)) :: slB b2 (.slice none 0 0) :: R)){K:KV}
  (h: ∀w' v',St w0 w' (xn l (.loop (zk fn tmps D .ready)) :: slB b2 v' :: akk v' [jz] :: R)->K (.bool true) w'):kx P (.func (.yield l) #[] #[]) [.string ky] w K:=by
 rw[aqh (aid S) rfl]
 refine roundIn_of_wpIn (F:=Fence.wide) (n:=0) trivial ?_
 show pcA.wpIn (th (some l)) 0 P _ _ w
 have hT:((#[19]:Array Nat).zip #[Value.string ky]).foldl (fun tmps (t,a)=>tmps.setIfInBounds t a) tmps=tmps.setIfInBounds 19 (.string ky):=by simp
 show pcA.wpIn (th (some l)) 0 P _ {tmps:=((#[19]:Array Nat).zip #[Value.string ky]).foldl (fun tmps (t,a)=>tmps.setIfInBounds t a) tmps,defers:=[]} w
 rw[hT]
 have t19:(tmps.setIfInBounds 19 (.string ky)).getD 19 undef= .string ky:=by simp[hsz]
 have t2:(tmps.setIfInBounds 19 (.string ky)).getD 2 undef= .pointer (some ⟨b2,0,none⟩):=by
  rw[<-h2]
  simp[hsz]
 refine wpIn_mono (vl (r:=some l) (m:=0) (ds:=[]) pcA _ w (fun x e w1=>x= .normal/\e 4= .string ky/\e 2= .pointer (some ⟨b2,0,none⟩)/\w1=w) _ bod (aul (by simpa using hsz) rfl) ?_) ?_
 ·rw[pdA]
  exact⟨rfl,t19,t2,rfl⟩
 ·rintro x a1 w1 ⟨e1,hR1,rfl,h4,h2',rfl⟩
  refine⟨_,run_beginRound (aid S) rfl,?_⟩
  rw[uz]
  have S2:St w0 _ (xn l (.loop (zk fn tmps D .busy)) :: _):=akv S (.loop {zk fn tmps D .ready with state:= .busy})
  generalize World.setObj w1 l _=w2 at *
  refine wpIn_mono (vl (r:=some l) (m:=0) (ds:=[]) pcD e1 w2 (fun x e w3=>x= .normal/\∃v',St w0 w3 (xn l (.loop (zk fn tmps D .busy)) :: slB b2 v' :: akk v' [jz] :: R)) a1 pkD hR1 ?_) ?_
  ·rw[pdD,h4,h2']
   refine bdi S2 fun w3 S3=>?_
   simp only[aba,aau]
   have S4:St w0 (w3.alloc (.cells #[.bool false,.string ⟨#[]⟩,.int .u64 0,.string ⟨#[]⟩] T.q)) (ruB w3.heap.size ⟨false,⟨#[]⟩,0,⟨#[]⟩⟩ :: _):=S3.mkB _ _
   unfold uf jz
   simp
   generalize w3.heap.size=rb at *
   generalize w3.alloc _=w4 at *
   refine St.put (vs:=li jz) (cs':=(li jz).toArray) S4 (adm jz) (by simp[li]) (by simp[li]) fun w5 S5=>?_
   have c2:il w5 b2 0=some (.slice none 0 0):=by rw[S5.up2.cell];rfl
   have ld4: ∀K,ldN P 4 rb 0 w5 K=K (uf jz) w5:=fun K=>S5.ldA (n:=4) (i:=0) (li jz) rfl rfl K
   simp[c2,ld4,uf,jz]
   have S6:St w0 (w5.alloc (.cells #[.bool true,.string tg,.int .u64 0,.string ⟨#[]⟩] T.q)) (akk (.slice (some ⟨w5.heap.size,0,none⟩) 1 1) [jz] :: _):=St.ug (l:=[jz]) S5 xc rfl (by simp[maxLen])
   have S7:=Go.Eng.wg (α:=Rul) (enc:=li) (sz:=4) (e:=T.q) S6
   refine Go.Eng.ux et.ad xc adm S7 (S7.swap.row xc) (by simp) (by decide) fun w8 v8 S8=>?_
   obtain⟨a8,c8,hv8,_⟩:=(S8.row xc:Sl w8 4 li v8 ([] ++ [jz]))
   subst hv8
   have S9:=S8.up4
   simp
   refine St.nh S9 rfl (by simp) fun w9 S10=>?_
   exact⟨rfl,_,S10.up4.up4.drop.up3.drop⟩
  ·rintro x a3 w3 ⟨e3,_,rfl,v',S3⟩
   have hend:=run_endRound (P:=P) none (aid S3)
   refine⟨_,_,hend,.bool true,rfl,?_⟩
   rw[uz]
   exact h _ v' (akv S3 _)
theorem aoi(S:St w0 w R){K:KV}(h: ∀w' v,St w0 w' (akk v [jz] :: R)->K (.tuple #[v,.int .i64 0]) w'):ig P F.af [.string ky] w K:=by
 rw[show ig P F.af [.string ky] w K=jr P F.af [.string ky] w K from agv FN.af.at (by kernel_rfl) (by kernel_rfl) _ _ _]
 refine (callsIn_wide (n:=0)).1 (callsIn_of_wp_marks (F:=Fence.wide) FN.af.at blw trivial ?_)
 have hnt:FN.af.ntmps=32:=by kernel_rfl
 rw[hnt]
 have e0:Go.Eng.RdI 32 (List.range 32) [] {tmps:=[Value.string ky].toArray ++ Array.replicate (32 - 1) undef,defers:=[]} fun t=>([Value.string ky].toArray ++ Array.replicate (32 - 1) undef).getD t undef:=aul rfl rfl
 refine wpIn_seq (wpIn_mono (vl (r:=none) (m:=0) (ds:=[]) pc0 _ w (fun x e w1=>x= .normal/\∃b2 b3,e 0= .string ky/\e 2= .pointer (some ⟨b2,0,none⟩)/\e 3= .pointer (some ⟨b3,0,none⟩)/\St w0 w1 (slB b2 (.slice none 0 0) :: ja b3 #[.int .i64 0] T.z :: R)) _ bnb e0 ?_) ?_)
 ·rw[pd0]
  have S1:St w0 (w.alloc (.cells #[.slice none 0 0] T.ad)) (slB w.heap.size (.slice none 0 0) :: R):=S.mkB _ _
  have S2:=S1.mkB #[.int .i64 0] T.z
  simp only[jd] at S2
  have a2: ∀w K,alT P T.ad w K=K (.pointer (some ⟨w.heap.size,0,none⟩)) (w.alloc (.cells #[.slice none 0 0] T.ad)):=fun w K=>by simp
  have a3: ∀w K,alT P T.z w K=K (.pointer (some ⟨w.heap.size,0,none⟩)) (w.alloc (.cells #[.int .i64 0] T.z)):=fun w K=>by simp
  simp only[a2,a3,jd]
  exact⟨trivial,w.heap.size,w.heap.size+1,rfl,rfl,rfl,S2.swap⟩
 rintro x a1 w1 ⟨e1,hR1,rfl,b2,b3,h0,h2,h3,S1⟩
 refine wpIn_seq (wpIn_mono (vl (r:=none) (m:=0) (ds:=[]) pc1 e1 w1 (fun x e w2=>x= .normal/\e 0= .string ky/\e 2= .pointer (some ⟨b2,0,none⟩)/\e 3= .pointer (some ⟨b3,0,none⟩)/\w2=w1) a1 pk1 hR1 ?_) ?_)
 ·rw[pd1,h0]
  have hs: ¬(2048:Int) < (ky.size:Int):=by decide
  simp[hs]
  refine aom ky 10 ?_
  have ec:Lib.countByte ky.data.toList 10=0:=by decide
  rw[ec]
  simp
  exact⟨h0,h2,h3⟩
 rintro x a2 w2 ⟨e2,hR2,rfl,h0,h2,h3,rfl⟩
 refine wpIn_seq (wpIn_mono (vl (r:=none) (m:=0) (ds:=[]) pc3 e2 w2 (fun x e w3=>x= .normal/\e 0= .string ky/\e 2= .pointer (some ⟨b2,0,none⟩)/\e 3= .pointer (some ⟨b3,0,none⟩)/\w3=w2) a2 pk3 hR2 ?_) ?_)
 ·rw[pd3,h0]
  have e1:(ky.toList == (⟨#[]⟩:ByteArray).toList)=false:=by decide+kernel
  simp only[te,e1,ij]
  exact⟨trivial,h0,h2,h3,trivial⟩
 rintro x a3 w3 ⟨e3,hR3,rfl,h0,h2,h3,rfl⟩
 refine wpIn_seq (wpIn_seq (wpIn_mono (vl (r:=none) (m:=0) (ds:=[]) pc5 e3 w3 (fun x e w4=>x= .normal/\∃g1 g2 g3,e 18= .func (.func F.m) #[] #[.pointer (some ⟨g1,0,none⟩),.pointer (some ⟨g2,0,none⟩),.pointer (some ⟨g3,0,none⟩)]/\e 2= .pointer (some ⟨b2,0,none⟩)/\e 3= .pointer (some ⟨b3,0,none⟩)/\
  St w0 w4 (ja g3 #[.int .i64 0] T.d :: ja g1 #[.string ⟨#[10]⟩] T.m :: ja g2 #[.string ky] T.m :: slB b2 (.slice none 0 0) :: ja b3 #[.int .i64 0] T.z :: R)) a3 pk5 hR3 ?_) ?_))
 ·rw[pd5,h0]
  rw[M.ek.fcall]
  apply M.ek.calls
  unfold M.ek
  rw[M.el.fcall]
  apply M.el.calls
  unfold M.el
  have S2:=S1.mkB #[.string ky] T.m
  have S3:=S2.mkB #[.string ⟨#[10]⟩] T.m
  have S4:=S3.mkB #[.int .i64 0] T.d
  simp only[jd] at S2 S3 S4
  simp only[ub,aas,jd]
  exact⟨trivial,w3.heap.size+1,w3.heap.size,w3.heap.size+1+1,rfl,h2,h3,S4⟩
 rintro x a4 w4 ⟨e4,hR4,rfl,g1,g2,g3,h18,h2,h3,S4⟩
 have ev18:a4.eval (.tmp 18)= .func (.func F.m) #[] #[.pointer (some ⟨g1,0,none⟩),.pointer (some ⟨g2,0,none⟩),.pointer (some ⟨g3,0,none⟩)]:=by
  rw[hR4.ev (.tmp 18) fun t ht=>by cases ht;rfl];exact h18
 have t2:a4.tmps.getD 2 undef= .pointer (some ⟨b2,0,none⟩):=by rw[hR4.2.2 2 rfl];exact h2
 have d4:a4.defers=[]:=hR4.2.1
 refine wpIn_block (wpIn_rangeFunc fun fn' hfn=>?_)
 have S5:=bae S4 (.deferred (some []))
 have S6:=bae S5 (.loop (zk fn' a4.tmps w4.heap.size .ready))
 simp only[jd] at S6
 generalize hw6:(w4.alloc (.deferred (some []))).alloc (.loop (zk fn' a4.tmps w4.heap.size .ready))=w6 at *
 have hcf: ∀args w,(callFunc F.m args).run P w= .ok (.enter F.m args) w:=fun args w=>by
  unfold callFunc
  simp only[Sem.run_bind,program]
  rw[show Sem.run P (Sem.program Sem.pure) w=Result.ok P w from rfl]
  have q1:(FN.m.name == "runtime.NumGoroutine")=false:=by kernel_rfl
  have q2:FN.m.body.isNone=false:=by kernel_rfl
  simp only[Result.andThen,FN.m.at,q1,q2,Bool.false_eq_true,if_false,Sem.run_pure]
 refine⟨w4.heap.size+1,[{target:= .collected w4.heap.size,args:= #[]}],w6,{target:= .fn (.func F.m) #[.pointer (some ⟨g1,0,none⟩),.pointer (some ⟨g2,0,none⟩),.pointer (some ⟨g3,0,none⟩)],args:= #[.func (.yield (w4.heap.size+1)) #[] #[]]},w6,F.m,
  #[.func (.yield (w4.heap.size+1)) #[] #[]] ++ #[.pointer (some ⟨g1,0,none⟩),.pointer (some ⟨g2,0,none⟩),.pointer (some ⟨g3,0,none⟩)],w6,?_,?_,fun _ _=>trivial,?_,fun h=>by simp[Fence.wide] at h,?_⟩
 ·rw[<-hw6];exact run_enterLoop_outer _ _ _ _ _
 ·have evc: ∀v,a4.eval (.const v)=v:=fun _=>rfl
  simp[resolve,rangeCall,ev18,evc,Deferred.ofValue]
 ·simp[invoke,hcf]
 have S6':St w0 w6 (xn (w4.heap.size+1) (.loop (zk fn' a4.tmps w4.heap.size .ready)) :: slB b2 (.slice none 0 0) :: xn w4.heap.size (.deferred (some [])) :: ja g3 #[.int .i64 0] T.d :: ja g1 #[.string ⟨#[10]⟩] T.m :: ja g2 #[.string ky] T.m :: ja b3 #[.int .i64 0] T.z :: R):=S6.perm (by
  refine List.Perm.cons _ ?_
  exact List.perm_middle (l₁:=[_,_,_,_]))
 have hcall:jr P F.m [.func (.yield (w4.heap.size+1)) #[] #[],.pointer (some ⟨g1,0,none⟩),.pointer (some ⟨g2,0,none⟩),.pointer (some ⟨g3,0,none⟩)] w6 fun v w'=>rangePost Fence.wide 0 P (w4.heap.size+1) (Exit.inBlock 0 (Exit.then (pcE.wpIn Fence.wide 0 P (bodyPostM Fence.wide 0 P FN.af fun e w'=> ∃v,e=Ending.returned v/\K v w')) (bodyPostM Fence.wide 0 P FN.af fun e w'=> ∃v,e=Ending.returned v/\K v w'))) {tmps:=a4.tmps,defers:=[{target:= .collected w4.heap.size,args:= #[]}] ++ a4.defers} (.returned v) w':=by
  apply M.ar.calls
  unfold M.ar
  have cs: ∀{w':World}{X Y:Asn}{v:Value},St w0 w' (X :: slB b2 v :: Y :: xn w4.heap.size (.deferred (some [])) :: ja g3 #[.int .i64 0] T.d :: ja g1 #[.string ⟨#[10]⟩] T.m :: ja g2 #[.string ky] T.m :: ja b3 #[.int .i64 0] T.z :: R)->il w' g1 0=some (.string ⟨#[10]⟩)/\il w' g2 0=some (.string ky):=fun S'=>⟨by rw[(S'.perm (List.perm_middle (l₁:=[_,_,_,_,_]))).cell];rfl,by rw[(S'.perm (List.perm_middle (l₁:=[_,_,_,_,_,_]))).cell];rfl⟩
  have k1:il w6 g1 0=some (.string ⟨#[10]⟩):=by rw[(S6'.perm (List.perm_middle (l₁:=[_,_,_,_]))).cell];rfl
  have k2:il w6 g2 0=some (.string ky):=by rw[(S6'.perm (List.perm_middle (l₁:=[_,_,_,_,_]))).cell];rfl
  simp[k1,aeu]
  refine⟨fun x w'=>w'=w6,fun _ _=>0,rfl,?_⟩
  rintro x w7 rfl
  unfold M.ar.j6
  simp[k1,k2]
  refine aol ky 10 (by decide+kernel) ?_
  have ei:Lib.indexByte ky.data.toList 10= -1:=by decide
  rw[ei]
  simp[k2]
  refine bgp hR4.1 t2 S6' fun w8 v8 S8=>?_
  have hend:=run_endLoop (P:=P) (aid S8) (by simp[zk])
  refine⟨_,_,hend,?_⟩
  rw[uz]
  have S9:=akv S8 (.loop {zk fn' a4.tmps w4.heap.size .ready with state:= .exhausted})
  generalize World.setObj w8 _ _=w9 at *
  simp only[Exit.inBlock,Exit.then,zk]
  rw[d4]
  obtain⟨a8,c8,hv8,_⟩:=(S9.up2.row xc:Sl w9 4 li v8 [jz])
  subst hv8
  refine wpIn_mono (vl (r:=none) (m:=0) (ds:=[{target:= .collected w4.heap.size,args:= #[]}]) pcE e4 w9 (fun x e w=>x= .ret/\e 2= .pointer (some ⟨b2,0,none⟩)/\e 3= .pointer (some ⟨b3,0,none⟩)/\St w0 w (xn w4.heap.size (.deferred (some [])) :: slB b2 (.slice a8 1 c8) :: ja b3 #[.int .i64 0] T.z :: akk (.slice a8 1 c8) [jz] :: R)) _ pkE ⟨hR4.1,rfl,hR4.2.2⟩ ?_) ?_
  ·rw[pdE,h2,h3]
   have q2:il w9 b2 0=some (.slice a8 1 c8):=by rw[S9.swap.cell];rfl
   simp[q2]
   refine St.nh S9.swap rfl (by simp) fun w10 S10=>?_
   have S11:=S10.perm (List.perm_middle (l₁:=[_,_,_,_,_,_,_]))
   refine St.nh S11 rfl (by simp) fun w11 S12=>?_
   have S13:=S12.up2.drop.up2.up3
   refine⟨h2,h3,?_⟩
   exact S13.swap.up3.up4.drop.up4.drop.up4.drop.up2.tail (List.Perm.cons _ (List.Perm.swap _ _ _))
  ·rintro x a9 w10 ⟨e9,hR9,rfl,k2,k3,S10⟩
   show LeavesInM Fence.wide 0 P FN.af a9.tmps _ a9.defers .returning w10
   rw[hR9.2.1]
   refine⟨by simp,.inl ⟨_,_,rfl,run_takeDeferred (aid S10),?_⟩⟩
   rw[uz]
   have S11:=akv S10 (.deferred none)
   generalize World.setObj w10 _ _=w11 at *
   obtain⟨vs,hk,hr⟩:=avy (P:=P) (fn:=FN.af) (w:=w11) (k:=fun vs=>vs=[.slice a8 1 c8,.int .i64 0]) (⟨hR9.1,rfl,hR9.2.2⟩:Rd 32 (List.range 32) {a9 with defers:=[]} e9) (by kernel_rfl) (by
    rw[show FN.af.results.toList=[.cell 2 T.ad,.cell 3 T.z] from by kernel_rfl]
    show ic (fun K'=>mi P T.ad (e9 2) w11 K') w11 fun v=>ic (fun K'=>mi P T.z (e9 3) w11 K') w11 fun v2=>[v,v2]=[Value.slice a8 1 c8,.int .i64 0]
    rw[k2,k3]
    have r2: ∀w K,mi P T.ad (.pointer (some ⟨b2,0,none⟩)) w K=ld1 P b2 0 w K:=fun w K=>kr
    have r3: ∀w K,mi P T.z (.pointer (some ⟨b3,0,none⟩)) w K=ld1 P b3 0 w K:=fun w K=>kr
    have q2:il w11 b2 0=some (.slice a8 1 c8):=by rw[S11.swap.cell];rfl
    have q3:il w11 b3 0=some (.int .i64 0):=by rw[S11.up2.cell];rfl
    simp[r2,r3,q2,q3])
   subst hk
   exact⟨_,hr,_,rfl,h w11 _ (S11.drop.drop.drop)⟩
 have hc2:=abl (r:=none) (n:=0 - 1) hcall
 refine CallsIn.mono (F:=Fence.wide) hc2 fun e w' ⟨v,he,hk⟩=>?_
 subst he
 exact hk
end
section
variable {w0 w : World} {R : List Asn} {p : Nat} {q : Cl}
theorem lx{L:List Asn}(S:St w0 w (clA p q :: L)):il w p 0=some (.int .u64 1)/\il w p 1=some (.int .u64 q.inc)/\il w p 2=some q.rep/\il w p 3=some (.int .u64 200)/\il w p 4=some (.int .i64 3)/\il w p 8=some (.int .u64 4)/\il w p 9=some (.int .i64 q.tr)/\il w p 13=some q.rul/\il w p 14=some (.pointer (some ⟨q.tb,0,none⟩))/\il w p 15=some (.pointer (some ⟨q.hb,0,none⟩))/\il w p 16=some (.pointer (some ⟨q.kb,0,none⟩))/\il w p 17=some (.map (some q.ru))/\il w p 18=some (.map (some q.se))/\il w p 19=some (.map (some q.un))/\il w p 22=some (.int .u64 q.tm)/\il w p 23=some (.int .u64 q.now)/\il w p 24=some q.out/\il w p 25=some q.ev/\il w p 26=some (.int .u64 q.bad)/\il w p 27=some (.int .u64 q.bdt)/\∀K,ldN P 2 p 20 w K=K (kq q.kj) w:=by
 refine⟨?_,?_,?_,?_,?_,?_,?_,?_,?_,?_,?_,?_,?_,?_,?_,?_,?_,?_,?_,?_,fun K=>S.ldA (n:=2) (i:=20) (ud q.kj) rfl rfl K⟩ <;>rw[S.cell] <;>rfl
def evA(e:Evn):Value:= .agg (evC e).toArray
theorem acl{es:List Evn}(S:St w0 w (clA p q :: mu q.ev es :: R))(e:Evn)(hl:es.length<=1000000){K:KV}(h: ∀w' v',St w0 w' (clA p {q with ev:=v'} :: mu v' (es ++ [{e with at':=q.now,jk:=1}]) :: R)->K (.tuple #[]) w'):ig P F.w [km p,evA e] w K:=by
 rw[M.cl.fcall]
 apply M.cl.calls
 unfold M.cl evA
 refine St.td S fun eb w1 S1=>?_
 have S2:=S1.ju ((Fr.refl _ w1).dr 1)
 obtain⟨c0,_,_,_,_,_,_,_,_,_,_,_,_,_,_,c23,_⟩:=lx S2.swap
 simp only[km]
 simp[c0,c23]
 refine St.nh S2 rfl (by simp[evC]) fun w3 S3=>?_
 obtain⟨d0,_⟩:=lx S3.swap
 simp[d0]
 refine St.nh S3 rfl (by simp[evC]) fun w4 S4=>?_
 have S5:St w0 (dr w4 1) (ja eb (evC {e with at':=q.now,jk:=1}).toArray T.ap :: clA p q :: mu q.ev es :: R):=S4.ju ((Fr.refl _ w4).dr 1)
 obtain⟨_,_,_,_,_,_,_,_,_,_,_,_,_,_,_,_,_,c25,_⟩:=lx S5.swap
 have lde: ∀K,ldN P 16 eb 0 (dr w4 1) K=K (evA {e with at':=q.now,jk:=1}) (dr w4 1):=fun K=>S5.ldA (n:=16) (i:=0) (evC {e with at':=q.now,jk:=1}) rfl rfl K
 simp[c25,lde]
 rw[show evA {e with at':=q.now,jk:=1}= .agg #[.int .i64 e.jh,.int .u64 q.now,.int .u64 1,.int .u64 e.tr,.int .u64 e.b.n,.int .u64 e.b.jk,.int .i64 e.v,.int .u64 e.s.je,.int .u64 e.s.id,.int .u64 e.s.me,.int .u64 e.s.jy,.int .u64 e.s.len,.string e.s.kp,.string e.s.name,.bool e.s.ny,.int .i64 e.k] from rfl]
 simp
 have S6:St w0 ((dr w4 1).alloc (.cells #[.int .i64 e.jh,.int .u64 q.now,.int .u64 1,.int .u64 e.tr,.int .u64 e.b.n,.int .u64 e.b.jk,.int .i64 e.v,.int .u64 e.s.je,.int .u64 e.s.id,.int .u64 e.s.me,.int .u64 e.s.jy,.int .u64 e.s.len,.string e.s.kp,.string e.s.name,.bool e.s.ny,.int .i64 e.k] T.ap)) (mu (.slice (some ⟨(dr w4 1).heap.size,0,none⟩) 1 1) [{e with at':=q.now,jk:=1}] :: _):=St.ug (l:=[{e with at':=q.now,jk:=1}]) S5 aek rfl (by simp[maxLen])
 rw[show (dr w4 1).heap.size=w4.heap.size from rfl] at S6
 generalize w4.heap.size=nb at *
 generalize World.alloc _ _=w6 at *
 obtain⟨_,_,_,_,_,_,_,_,_,_,_,_,_,_,_,_,_,d25,_⟩:=lx S6.up2
 simp[d25]
 refine Go.Eng.ux et.ax aek aly S6.up3 (S6.row aek) (by simp;omega) (by decide) fun w7 v7 S7=>?_
 obtain⟨a7,c7,hv7,_⟩:=(S7.row aek:Sl w7 16 evC v7 _)
 subst hv7
 generalize (es ++ [({e with at':=q.now,jk:=1}:Evn)]).length=n7 at *
 simp
 refine St.nh S7.up3 rfl (by simp[clC]) fun w8 S8=>?_
 have S9:St w0 w8 (clA p {q with ev:= .slice a7 n7 c7} :: _):=S8
 exact h w8 _ S9.up2.drop.up2.drop
def pa(to:List Int)(pk:Pk)(h: ∀u∈pkC pk,kw u=true):List Ltr:=to.map fun t=>⟨1,t,pk,h⟩
def SnI(w0:World)(p:Nat)(q:Cl)(ls:List Ltr)(pk:Pk)(h1: ∀u∈pkC pk,kw u=true)(tb:Nat)(to:List Int)(R:List Asn):KL:=fun x w1=> ∃(u:Value)(ov:Value)(i:Nat),x=[u,.int .i64 (i:Nat)]/\i<=to.length/\St w0 w1 (clA p {q with out:=ov} :: mm ov (ls ++ pa (to.take i) pk h1) :: ja tb (pkC pk).toArray T.c :: R)
theorem aii{ls:List Ltr}{pk:Pk}{tv:Value}{to:List Int}(S:St w0 w (clA p q :: mm q.out ls :: R))(h1: ∀u∈pkC pk,kw u=true)(hs: ∀w' L,St w0 w' (L ++ R)->Sl w' 1 Suint64.sf tv to)(hl:ls.length+to.length<=256){K:KV}
  (h: ∀w' ov,St w0 w' (clA p {q with out:=ov} :: mm ov (ls ++ pa to pk h1) :: R)->K (.tuple #[]) w'):ig P F.f [km p,pkA pk,tv] w K:=by
 rw[M.ah.fcall]
 apply M.ah.calls
 unfold M.ah pkA
 refine St.td S fun tb w1 S1=>?_
 have hln: ∀w' K,biT P .len #[T.i] T.d [false] [tv] w' K=K (.int .i64 to.length) w':=fun w' K=>(hs w [_,_] S).jp (by kernel_rfl) [false]
 simp only[im,hln,km]
 have S1':St w0 w1 (clA p {q with out:=q.out} :: mm q.out (ls ++ pa (to.take 0) pk h1) :: ja tb (pkC pk).toArray T.c :: R):=by
  have:=S1.dn2
  simpa [pa] using this
 refine⟨SnI w0 p q ls pk h1 tb to R,fun x _=>to.length - ms x 1,⟨_,_,0,rfl,Nat.zero_le _,S1'⟩,?_⟩
 rintro x w2 ⟨u,ov,i,rfl,hi,S2⟩
 by_cases hil:i < to.length
 ·have hili:(i:Int) < to.length:=by omega
  have hwi:IntKind.i64.wrap ((i:Int)+1)=((i+1:Nat):Int):=by rw[iy];rfl
  obtain⟨ab,ao,cap,hv,_,_,hc⟩:=(hs w2 [_,_,_] S2).at hil
  have hia: ∀w' K,iaT P T.i tv (.int .i64 (i:Nat)) w' K=K (.pointer (some ⟨ab,ao+i,none⟩)) w':=fun w' K=>by rw[hv];simp[hil]
  have hcell:il w2 ab (ao+i)=some (.int .u64 to[i]):=by simpa [Suint64.sf] using hc 0 _ rfl
  have htk:pa (to.take (i+1)) pk h1=pa (to.take i) pk h1 ++ [⟨1,to[i],pk,h1⟩]:=by
   unfold pa
   rw[List.take_succ_eq_append_getElem hil,List.map_append]
   rfl
  have htk':ls ++ pa (to.take (i+1)) pk h1=(ls ++ pa (to.take i) pk h1) ++ [⟨1,to[i],pk,h1⟩]:=by rw[htk,List.append_assoc]
  clear htk
  generalize to[i]=t at *
  have hol:(ls ++ pa (to.take i) pk h1).length < 256:=by
   unfold pa
   rw[List.length_append,List.length_map,List.length_take]
   omega
  have hnl: ¬(256:Int)<=((ls ++ pa (to.take i) pk h1).length:Int):=by omega
  generalize ls ++ pa (to.take i) pk h1=lo at *
  obtain⟨_,_,_,_,_,_,_,_,_,_,_,_,_,_,_,_,c24,_⟩:=lx S2
  have hlo: ∀w' K,biT P .len #[T.ar] T.d [false] [ov] w' K=K (.int .i64 lo.length) w':=fun w' K=>(S2.swap.row acf:Sl w2 13 ltC ov lo).jp (by kernel_rfl) [false]
  simp[hili]
  unfold M.ah.j1
  simp[hia,hcell,c24,hlo,hnl]
  unfold M.ah.j3
  have S3:=S2.ju ((Fr.refl _ w2).dr 1)
  obtain⟨d0,_,_,_,_,_,_,_,_,_,_,_,_,_,_,_,d24,_⟩:=lx S3
  have lp:=we S3.up2
  simp[d0,d24,lp]
  unfold pkA pkC
  simp
  have S4:St w0 ((dr w2 1).alloc (.cells (ltC ⟨1,t,pk,h1⟩).toArray T.bm)) (mm (.slice (some ⟨(dr w2 1).heap.size,0,none⟩) 1 1) [⟨1,t,pk,h1⟩] :: _):=St.ug (l:=[(⟨1,t,pk,h1⟩:Ltr)]) S3 acf (by simp) (by simp[maxLen])
  rw[show (dr w2 1).heap.size=w2.heap.size from rfl] at S4
  unfold ltC pkC at S4
  simp only[List.cons_append,List.nil_append] at S4
  generalize w2.heap.size=nb at *
  generalize World.alloc _ _=w6 at *
  obtain⟨_,_,_,_,_,_,_,_,_,_,_,_,_,_,_,_,e24,_⟩:=lx S4.swap
  simp[e24]
  refine Go.Eng.ux et.ar acf bid S4.up2 (S4.row acf) (by simp;omega) (by decide) fun w7 v7 S7=>?_
  obtain⟨a7,c7,hv7,_⟩:=(S7.row acf:Sl w7 13 ltC v7 _)
  subst hv7
  generalize (lo ++ [(⟨1,t,pk,h1⟩:Ltr)])=l7 at *
  generalize l7.length=n7 at *
  simp
  refine St.nh S7.up2 rfl (by simp[clC]) fun w8 S8=>?_
  have S9:St w0 w8 (clA p {q with out:= .slice a7 n7 c7} :: _):=S8
  rw[hwi]
  refine⟨⟨_,.slice a7 n7 c7,i+1,rfl,by omega,?_⟩,by simp[ms,gv];omega⟩
  rw[htk']
  exact S9.up2.drop
 ·have hie:i=to.length:=by omega
  subst hie
  simp
  rw[List.take_length] at S2
  exact h w2 ov S2.up2.drop
end
open Go.Eng
def adi(l:List Mem):List Int:=(l.filter fun m=>decide (m.st≠2)).map Mem.id
def age(l:List Mem):List Int:=if vm l=0 then adi l else []
section
variable {w0 w : World} {R : List Asn}
theorem axp{l:List Mem}{i:Nat}(hi:i < l.length):adi (l.take (i+1))=adi (l.take i) ++ if l[i].st≠2 then [l[i].id] else []:=by
 unfold adi
 rw[List.take_succ_eq_append_getElem hi,List.filter_append,List.map_append]
 congr 1
 by_cases h:l[i].st=2 <;>simp[h]
theorem azg(l:List Mem):(adi l).length<=l.length:=by
 unfold adi
 rw[List.length_map];exact List.length_filter_le ..
def LvI(w0:World)(l:List Mem)(R:List Asn):KL:=fun x w1=> ∃(v:Value)(i:Nat),x=[v,.int .i64 (i:Nat)]/\i<=l.length/\St w0 w1 (rk v (adi (l.take i)) :: R)
theorem auf{v:Value}{l:List Mem}(S:St w0 w R)(hs: ∀w' L,St w0 w' (L ++ R)->SlM w' v l)(hlen:l.length<=1000000){K:KV}(h: ∀w' v',St w0 w' (rk v' (age l) :: R)->K v' w'):ig P F.gk [v] w K:=by
 rw[M.ef.fcall]
 apply M.ef.calls
 unfold M.ef
 rw[im]
 refine anv (hs w [] S) hlen fun w1 f1=>?_
 have S1:=S.ju f1
 unfold age at h
 by_cases hv:vm l=0
 ·rw[if_pos hv] at h
  simp[hv]
  unfold M.ef.j0
  simp only[im]
  rw[(hs w1 [] S1).jp (by kernel_rfl)]
  refine⟨LvI w0 l R,fun x _=>l.length - ms x 1,⟨_,0,rfl,Nat.zero_le _,aem S1⟩,?_⟩
  rintro x w2 ⟨v2,i,rfl,hi,S2⟩
  have q0:gv [v2,.int .i64 (i:Nat)] 0=v2:=rfl
  have q1:gv [v2,.int .i64 (i:Nat)] 1= .int .i64 (i:Nat):=rfl
  simp only[q1]
  by_cases hil:i < l.length
  ·have hil':(i:Int) < l.length:=by omega
   simp[hil']
   unfold M.ef.j3
   obtain⟨b,o,cap,hv2,hb,_,hc⟩:=(hs w2 [rk v2 (adi (l.take i))] S2).at hil
   have hld: ∀K,ldN P 3 b (o+i * 3) w2 K=K (qg l[i]) w2:=fun K=>ldM hc K
   have hwi:IntKind.i64.wrap ((i:Int)+1)=((i+1:Nat):Int):=by rw[iy];rfl
   have htk:=axp hil
   have hll:=azg (l.take i)
   rw[List.length_take] at hll
   generalize l[i]=m at *
   simp only[im,q1,mf,hwi]
   rw[hv2]
   simp[hil,hld]
   rw[show qg m= .agg #[.int .u64 m.id,.int .u64 m.inc,.int .i64 m.st] from rfl]
   simp
   have hba:(w2.alloc (.cells #[.int .u64 0,.int .u64 0,.int .i64 0] T.n)).heap[w2.heap.size]? =some (.cells #[.int .u64 0,.int .u64 0,.int .i64 0] T.n (0,0)):=by rw[iz,if_pos rfl]
   refine jx (vs:=[.int .u64 m.id,.int .u64 m.inc,.int .i64 m.st]) hba rfl (by simp) fun w3 b3 f3=>?_
   have S3:=S2.ju (((Fr.refl _ w2).alloc _).jv f3 fun y hy he=>by subst he;omega)
   have c0:il w3 w2.heap.size 0=some (.int .u64 m.id):=by rw[iu b3];rfl
   have c2:il w3 w2.heap.size 2=some (.int .i64 m.st):=by rw[iu b3];rfl
   by_cases hst:m.st=2
   ·simp[c2,hst,q0]
    refine⟨⟨v2,i+1,rfl,by omega,?_⟩,by simp[ms,gv];omega⟩
    rw[htk];simp[hst];exact S3
   ·simp[c0,c2,hst,q0]
    have S4:=S3.ju ((Fr.refl _ w3).alloc (.cells #[.int .u64 m.id] T.a))
    refine ack S4 (l2:=[m.id]) (Sl.one rfl rfl) (by simp;omega) fun w5 v5 S5=>?_
    refine⟨⟨v5,i+1,rfl,by omega,?_⟩,by simp[ms,gv];omega⟩
    rw[htk];simp[hst];exact S5
  ·have hil': ¬(i:Int) < l.length:=by omega
   simp[hil']
   rw[List.take_of_length_le (by omega)] at S2
   exact h w2 v2 S2
 ·rw[if_neg hv] at h
  simp[hv]
  exact h w1 _ (aem S1)
end
section
variable {t : TypeId} {rx ry : Operand} {w : World} {K : KV}
theorem bej{x:Nat}(hx:x < 18446744073709551616):iq P .and t rx ry (.int .u64 (x:Int)) (.int .u64 4294967295) w K=K (.int .u64 ((x % 4294967296:Nat):Int)) w:=by
 rw[ams]
 have h1:(BitVec.ofInt IntKind.u64.bits (x:Int) &&& BitVec.ofInt IntKind.u64.bits 4294967295).toNat=x % 4294967296:=by
  rw[BitVec.toNat_and]
  have e1:(BitVec.ofInt IntKind.u64.bits (x:Int)).toNat=x:=xx hx
  have e2:(BitVec.ofInt IntKind.u64.bits 4294967295).toNat=2 ^ 32 - 1:=by decide
  rw[e1,e2,Nat.and_two_pow_sub_one_eq_mod]
 rw[h1,xk (by omega)]
theorem aqm(x:Nat):iq P .shr t rx ry (.int .u64 (x:Int)) (.int .u64 32) w K=K (.int .u64 ((x / 4294967296:Nat):Int)) w:=by
 rw[acj (by decide)]
 have:((x:Nat):Int).fdiv (2 ^ min (32:Int).toNat IntKind.u64.bits)=((x / 4294967296:Nat):Int):=amd x 32
 rw[this]
theorem avr{x y:Nat}(h:x * y < 18446744073709551616):iq P .mul t rx ry (.int .u64 (x:Int)) (.int .u64 (y:Int)) w K=K (.int .u64 ((x * y:Nat):Int)) w:=by
 rw[vq]
 have:IntKind.u64.wrap ((x:Int) * (y:Int))=((x * y:Nat):Int):=by rw[<-Int.natCast_mul];exact xk h
 rw[this]
theorem avs{x y:Nat}(h:x+y < 18446744073709551616):iq P .add t rx ry (.int .u64 (x:Int)) (.int .u64 (y:Int)) w K=K (.int .u64 ((x+y:Nat):Int)) w:=by
 rw[mf]
 have:IntKind.u64.wrap ((x:Int)+(y:Int))=((x+y:Nat):Int):=by rw[<-Int.natCast_add];exact xk h
 rw[this]
end
theorem bcd{w:World}{x:Nat}(hx:x < 18446744073709551616){K:KV}(h:K (.tuple #[.int .u64 ((3 * x / 18446744073709551616:Nat):Int),.int .u64 ((3 * x % 18446744073709551616:Nat):Int)]) w):ig P F.fi [.int .u64 (x:Int),.int .u64 3] w K:=by
 rw[M.ev.fcall]
 apply M.ev.calls
 unfold M.ev
 rw[bej hx,aqm]
 have e3:(3:Int)=((3:Nat):Int):=rfl
 rw[e3,bej (by decide),aqm]
 have c1:3 % 4294967296=3:=by decide
 have c2:3 / 4294967296=0:=by decide
 rw[c1,c2]
 rw[avr (by omega),avr (by omega),aqm,avs (by omega),bej (by omega),aqm,avr (by omega),avs (by omega),avr (by omega),avs (by omega),aqm,avs (by omega),vq]
 have hw:IntKind.u64.wrap ((x:Int) * ((3:Nat):Int))=((3 * x % 18446744073709551616:Nat):Int):=by
  show ((x:Int) * 3) % 18446744073709551616=_
  omega
 rw[hw]
 have hh:x / 4294967296 * 0+(x / 4294967296 * 3+x % 4294967296 * 3 / 4294967296) / 4294967296+((x / 4294967296 * 3+x % 4294967296 * 3 / 4294967296) % 4294967296+x % 4294967296 * 0) / 4294967296=3 * x / 18446744073709551616:=by omega
 rw[hh]
 exact h
theorem aps{w:World}{x y:Int}(hx:0<=x)(hy:0<=y){K:KV}(h:K (.tuple #[.int .u64 ((x+y) % 18446744073709551616),.int .u64 ((x+y) / 18446744073709551616)]) w):ig P F.ca [.int .u64 x,.int .u64 y,.int .u64 0] w K:=by
 unfold ig kz
 rw[run_callFunc_extern (e:=add64Entry) FN.ca.at (by kernel_rfl) (by kernel_rfl) (by kernel_rfl) (by kernel_rfl)]
 have:=run_add64 (P:=P) x y 0 hx hy (by decide) (by decide) w
 rw[Int.add_zero] at this
 rw[this]
 exact h
def aip(m:Mem):Int:=3 * (m.inc - 1)+m.st+1
def zv(l:List Mem):Int:=(l.map aip).sum
def ajb(l:List Mem):Int×Int:=if vm l≠0 then (0,6) else if 18446744073709551616<=zv l then (0,12) else (zv l,0)
theorem bay{l:List Mem}{i:Nat}(hi:i < l.length):zv (l.take (i+1))=zv (l.take i)+aip l[i]:=by
 unfold zv
 rw[List.take_succ_eq_append_getElem hi,List.map_append,List.sum_append];simp
theorem avg{m:Mem}(h1:yt m=false)(h2:0<=m.inc/\m.inc < 18446744073709551616):1<=m.inc/\0<=m.st/\m.st<=2:=by
 unfold yt at h1
 simp at h1
 omega
theorem ast{l:List Mem}(h: ∀m∈l,0<=aip m):0<=zv l:=by
 unfold zv
 induction l with
 | nil=>simp
 | cons x l ih=>
  have h1:=h x (by simp)
  have h2:=ih fun m hm=>h m (by simp[hm])
  simp;omega
def VsI(W:World)(l:List Mem):KL:=fun x w1=> ∃(u0 u1 u2 u3 u4 u5:Value)(s hg:Int)(i:Nat),x=[u0,u1,u2,u3,u4,u5,.int .u64 s,.int .u64 hg,.int .i64 (i:Nat)]/\i<=l.length/\0<=s/\s < 18446744073709551616/\0<=hg/\hg<=10 * i/\s+hg * 18446744073709551616=zv (l.take i)/\Fz W w1
theorem aup{w:World}{v:Value}{l:List Mem}(hs:SlM w v l)(hlen:l.length<=1000000)(hinc:bfr l){K:KV}(h: ∀w',Fz w w'->K (.tuple #[.int .u64 (ajb l).1,.int .i64 (ajb l).2]) w'):ig P F.gd [v] w K:=by
 rw[M.bo.fcall]
 apply M.bo.calls
 unfold M.bo
 rw[im]
 refine anv hs hlen fun w1 f1=>?_
 unfold ajb at h
 by_cases hv:vm l=0
 ·have g:=(afx l).1 hv
  rw[if_neg (by simp[hv])] at h
  simp[hv]
  unfold M.bo.j0
  simp only[im]
  have hs1:=hs.fr f1 fun _ _ _ h=>h
  rw[hs1.jp (by kernel_rfl)]
  refine⟨VsI w l,fun x _=>l.length - ms x 8,⟨_,_,_,_,_,_,0,0,0,rfl,Nat.zero_le _,by omega,by omega,by omega,by omega,by simp[zv],f1⟩,?_⟩
  rintro x w2 ⟨u0,u1,u2,u3,u4,u5,s,hg,i,rfl,hi,hs0,hs1',hg0,hg1,htot,f2⟩
  have q6:gv [u0,u1,u2,u3,u4,u5,.int .u64 s,.int .u64 hg,.int .i64 (i:Nat)] 6= .int .u64 s:=rfl
  have q7:gv [u0,u1,u2,u3,u4,u5,.int .u64 s,.int .u64 hg,.int .i64 (i:Nat)] 7= .int .u64 hg:=rfl
  have q8:gv [u0,u1,u2,u3,u4,u5,.int .u64 s,.int .u64 hg,.int .i64 (i:Nat)] 8= .int .i64 (i:Nat):=rfl
  have hs2:=hs.fr f2 fun _ _ _ h=>h
  unfold M.bo.j2
  simp only[im,q8]
  have hfew:=g.few
  by_cases hil:i < l.length
  ·have hil':(i:Int) < l.length:=by omega
   simp[hil']
   unfold M.bo.j3
   obtain⟨b,o,cap,hv2,hb,_,hc⟩:=hs2.at hil
   have hld: ∀K,ldN P 3 b (o+i * 3) w2 K=K (qg l[i]) w2:=fun K=>ldM hc K
   have hwi:IntKind.i64.wrap ((i:Int)+1)=((i+1:Nat):Int):=by rw[iy];rfl
   have htk:=bay hil
   have hrange:=avg (g.odd _ (List.getElem_mem hil)) (hinc _ (List.getElem_mem hil))
   have hinc':=hinc _ (List.getElem_mem hil)
   generalize l[i]=m at *
   simp only[im,q6,q7,q8]
   rw[hv2]
   simp[hil,hld]
   rw[show qg m= .agg #[.int .u64 m.id,.int .u64 m.inc,.int .i64 m.st] from rfl]
   simp
   have hba:(w2.alloc (.cells #[.int .u64 0,.int .u64 0,.int .i64 0] T.n)).heap[w2.heap.size]? =some (.cells #[.int .u64 0,.int .u64 0,.int .i64 0] T.n (0,0)):=by rw[iz,if_pos rfl]
   refine jx (vs:=[.int .u64 m.id,.int .u64 m.inc,.int .i64 m.st]) hba rfl (by simp) fun w3 b3 f3=>?_
   have f3':Fz w2 w3:=((Fr.refl _ w2).alloc _).jv f3 fun y hy he=>by subst he;omega
   have c1:il w3 w2.heap.size 1=some (.int .u64 m.inc):=by rw[iu b3];rfl
   have c2:il w3 w2.heap.size 2=some (.int .i64 m.st):=by rw[iu b3];rfl
   have hsub:IntKind.u64.wrap (m.inc - 1)=(((m.inc - 1).toNat:Nat):Int):=by rw[lq (by omega) (by omega)];omega
   have hcv: ∀w K,cvT P T.d T.a (.int .i64 m.st) w K=K (.int .u64 m.st) w:=fun w K=>by
    rw[od (ks:= .i64) (kd:= .u64) (by kernel_rfl) (by kernel_rfl),lq (by omega) (by omega)]
   have hst1:IntKind.u64.wrap (m.st+1)=m.st+1:=lq (by omega) (by omega)
   simp[c1]
   rw[hsub]
   generalize hx:(m.inc - 1).toNat=x at *
   have hx':m.inc=(x:Int)+1:=by omega
   refine bcd (by omega) ?_
   simp[c2,hcv,hst1]
   refine aps (by omega) (by omega) ?_
   simp
   refine aps hs0 (by omega) ?_
   simp
   have hi16:(i:Int)<=16:=by omega
   have wa:IntKind.u64.wrap (hg+3 * (x:Int) / 18446744073709551616)=hg+3 * (x:Int) / 18446744073709551616:=lq (by omega) (by omega)
   have wb:IntKind.u64.wrap (hg+3 * (x:Int) / 18446744073709551616+(3 * (x:Int) % 18446744073709551616+(m.st+1)) / 18446744073709551616)=hg+3 * (x:Int) / 18446744073709551616+(3 * (x:Int) % 18446744073709551616+(m.st+1)) / 18446744073709551616:=lq (by omega) (by omega)
   have wc:IntKind.u64.wrap (hg+3 * (x:Int) / 18446744073709551616+(3 * (x:Int) % 18446744073709551616+(m.st+1)) / 18446744073709551616+(s+(3 * (x:Int)+(m.st+1)) % 18446744073709551616) / 18446744073709551616)=hg+3 * (x:Int) / 18446744073709551616+(3 * (x:Int) % 18446744073709551616+(m.st+1)) / 18446744073709551616+(s+(3 * (x:Int)+(m.st+1)) % 18446744073709551616) / 18446744073709551616:=lq (by omega) (by omega)
   rw[wa,wb,wc,hwi]
   have ht:aip m=3 * (x:Int)+m.st+1:=by unfold aip;rw[hx'];omega
   rw[ht] at htk
   exact⟨⟨_,_,_,_,_,_,_,_,i+1,rfl,by omega,by omega,by omega,by omega,by omega,by rw[htk];omega,f2.trans f3'⟩,by simp[ms,gv];omega⟩
  ·have hil': ¬(i:Int) < l.length:=by omega
   simp[hil']
   unfold M.bo.j1
   rw[List.take_of_length_le (by omega)] at htot
   have g10: ∀a b c d e f g h i hh k:Value,gv [a,b,c,d,e,f,g,h,i,hh,k] 10=k:=fun _ _ _ _ _ _ _ _ _ _ _=>rfl
   have g9: ∀a b c d e f g h i hh k:Value,gv [a,b,c,d,e,f,g,h,i,hh,k] 9=hh:=fun _ _ _ _ _ _ _ _ _ _ _=>rfl
   simp only[im,g10,g9]
   by_cases hh0:0 < hg
   ·have hT:18446744073709551616<=zv l:=by omega
    rw[if_pos hT] at h
    simp[hh0]
    exact h w2 f2
   ·have hT: ¬18446744073709551616<=zv l:=by omega
    have hs':s=zv l:=by omega
    rw[if_neg hT] at h
    simp[hh0]
    rw[hs']
    exact h w2 f2
 ·have hv6:vm l=6:=(art l).resolve_left hv
  rw[if_pos hv] at h
  simp[hv6]
  exact h w1 f1
section
variable {w0 w : World} {R : List Asn}
end
section
variable {w0 w : World} {R : List Asn} {p : Nat} {q : Cl} {n : Nd}
def qk(n:Nd):Int:=if (ajb n.v).2≠0 then 18446744073709551615 else (ajb n.v).1
theorem alg(S:St w0 w (clA p q :: kc q.tb n :: R))(hn:sj n){K:KV}(h: ∀w',St w0 w' (clA p q :: kc q.tb n :: R)->K (.int .u64 (qk n)) w'):ig P F.g [km p] w K:=by
 rw[M.cd.fcall]
 apply M.cd.calls
 unfold M.cd
 obtain⟨_,_,_,_,_,_,_,_,c14,_⟩:=lx S
 simp only[km]
 simp[c14]
 refine amo S.swap hn fun w1 v1 S1=>?_
 have hinc:bfr n.v:=fun m hm=>hn.inc m hm
 refine aup S1.rd (by have:=hn.zj.few;omega) hinc fun w2 f2=>?_
 have S2:=(S1.ju f2).drop.swap
 have:=h w2 S2
 unfold qk at this
 by_cases hk:(ajb n.v).2=0
 ·simp[hk] at this⊢
  exact this
 ·simp[hk] at this⊢
  exact this
theorem orN{x y:Nat}(hx:x < 4294967296)(hy:y < 4294967296)(w:World)(t:TypeId)(rx ry:Operand)(K:KV):iq P .or t rx ry (.int .u64 ((x * 4294967296:Nat):Int)) (.int .u64 (y:Int)) w K=K (.int .u64 ((x * 4294967296+y:Nat):Int)) w:=by
 rw[bbk]
 have h1:(BitVec.ofInt IntKind.u64.bits ((x * 4294967296:Nat):Int) ||| BitVec.ofInt IntKind.u64.bits (y:Int)).toNat=x * 4294967296+y:=by
  rw[BitVec.toNat_or]
  have e1:(BitVec.ofInt IntKind.u64.bits ((x * 4294967296:Nat):Int)).toNat=x * 4294967296:=xx (by omega)
  have e2:(BitVec.ofInt IntKind.u64.bits (y:Int)).toNat=y:=xx (by omega)
  rw[e1,e2,show x * 4294967296=2 ^ 32 * x from by rw[Nat.mul_comm],Nat.two_pow_add_eq_or_of_lt (by omega) x]
 rw[h1,xk (by omega)]
def aih(inc:Int):Int:=if 4294967295 < inc then 0 else inc * 4294967296+1
theorem bic(S:St w0 w (clA p q :: R))(hi:1<=q.inc){K:KV}(h: ∀w',St w0 w' (clA p q :: R)->K (.int .u64 (aih q.inc)) w'):ig P F.ac [km p] w K:=by
 rw[M.bh.fcall]
 apply M.bh.calls
 unfold M.bh
 have S1:=S.ju ((Fr.refl _ w).dr 1)
 obtain⟨c0,c1,_⟩:=lx S1
 have hm:max (1:Int) q.inc=q.inc:=by omega
 simp only[km]
 simp[c0,c1,si,hm]
 by_cases hb:4294967295 < q.inc
 ·have:=h _ S1
  unfold aih at this
  rw[if_pos hb] at this
  simp[hb]
  exact this
 ·have S2:=S1.ju ((Fr.refl _ _).dr 1)
  have:=h _ S2
  unfold aih at this
  rw[if_neg hb] at this
  simp[hb]
  unfold M.bh.j0
  obtain⟨d0,d1,_⟩:=lx S2
  obtain⟨x,hx⟩:=Int.eq_ofNat_of_zero_le (show 0<=q.inc by omega)
  rw[hx] at this d1 hb
  have hxl:x < 4294967296:=by omega
  have hsh: ∀(rx ry:Operand)(w:World)(K:KV),iq P .shl T.a rx ry (.int .u64 (x:Int)) (.int .u64 32) w K=K (.int .u64 ((x * 4294967296:Nat):Int)) w:=fun rx ry w K=>by
   rw[ach (by decide)]
   have e:IntKind.u64.wrap ((x:Int) * 2 ^ min (32:Int).toNat IntKind.u64.bits)=((x * 4294967296:Nat):Int):=by
    show IntKind.u64.wrap ((x:Int) * 4294967296)=_
    rw[lq (by omega) (by omega)]
    omega
   rw[e]
  have ho: ∀(rx ry:Operand)(w:World)(K:KV),iq P .or T.a rx ry (.int .u64 ((x:Int) * 4294967296)) (.int .u64 1) w K=K (.int .u64 ((x:Int) * 4294967296+1)) w:=fun rx ry w K=>by
   have:=orN (x:=x) (y:=1) hxl (by decide) w T.a rx ry K
   simpa using this
  simp[d0,d1,hsh,ho]
  exact this
def axe(ids:List Int)(t o:Int):Prop:= ∃l,Ring.acy l/\l.Perm (Ring.abo ids 3)/\o=Ring.aeq l (Ring.ajl t)
theorem axe.one{id t o:Int}(h:axe [id] t o):o=id:=by
 obtain⟨l,a1,a2,rfl⟩:=h
 have hl:=a2.length_eq
 rw[Ring.afk] at hl
 refine Ring.ban (fun p hp=>?_) (fun e=>by rw[e] at hl;simp at hl) _
 have:=a2.mem_iff.1 hp
 simp only[Ring.abo,Ring.abn,List.flatMap_cons,List.flatMap_nil,List.append_nil,List.mem_map] at this
 obtain⟨i,_,rfl⟩:=this
 rfl
theorem ahq(S:St w0 w (clA p q :: kc q.tb n :: R))(hn:sj n){ids:List Int}(hi:age n.v=ids)(hr:Ring.apd 0 ids)(hne:ids≠[])(hlen:ids.length<=4)(t:Int){K:KV}(h: ∀w' o,axe ids t o->St w0 w' (clA p q :: kc q.tb n :: R)->K (.int .u64 o) w'):ig P F.bj [km p,.int .u64 t] w K:=by
 rw[M.ay.fcall]
 apply M.ay.calls
 unfold M.ay
 simp only[km]
 simp
 unfold M.ay.j0
 have S1:=S.ju ((Fr.refl _ w).dr 1)
 obtain⟨_,_,_,_,c4,_,_,_,c14,_⟩:=lx S1
 simp[c4,c14]
 refine amo S1.swap hn fun w2 v2 S2=>?_
 obtain⟨_,_,_,_,d4,_⟩:=lx S2.up2
 simp[d4]
 refine auf (l:=n.v) S2 (fun w' L S'=>(S'.perm List.perm_middle).rd) (by have:=hn.zj.few;omega) fun w3 v3 S3=>?_
 rw[hi] at S3
 obtain⟨_,_,_,_,e4,_⟩:=lx S3.up3
 simp[e4]
 refine Ring.bhq (n:=3) S3 (fun w' L S'=>(S'.perm List.perm_middle).row (fun _=>rfl)) hr (by omega) (by omega) hne (by omega) fun w4 v4 l a1 a2 S4=>?_
 have hl:=a2.length_eq
 rw[Ring.afk] at hl
 have hl0:=List.length_pos_iff.2 hne
 simp
 refine Ring.bdo S4 (fun w' L S'=>(S'.perm List.perm_middle).row Ring.xa) (by omega) (fun e=>by rw[e] at hl;simp at hl;omega) a1 t fun w5 S5=>?_
 exact h w5 _ ⟨l,a1,a2,rfl⟩ S5.drop.drop.drop.swap
theorem azv{ls:List Ltr}(S:St w0 w (clA p q :: mm q.out ls :: R)){K:KV}(h: ∀w',St w0 w' (clA p {q with out:= .slice none 0 0} :: mm q.out ls :: R)->K q.out w'):ig P F.ap [km p] w K:=by
 rw[M.cy.fcall]
 apply M.cy.calls
 unfold M.cy
 obtain⟨_,_,_,_,_,_,_,_,_,_,_,_,_,_,_,_,c24,_⟩:=lx S
 simp only[km]
 simp[c24]
 refine St.nh S rfl (by simp[clC]) fun w2 S2=>?_
 exact h w2 S2
theorem avq{a0:Int}{m:MP}(S:St w0 w (clA p q :: pd q.kb a0 m :: R))(t:Int){K:KV}(h:K ((kl m t).getD (.int .i64 0)) w):ig P F.bs [km p,.int .u64 t] w K:=by
 rw[M.cc.fcall]
 apply M.cc.calls
 unfold M.cc
 obtain⟨_,_,_,_,_,_,_,_,_,_,c16,_⟩:=lx S
 simp only[km]
 simp[c16]
 exact alp S.swap t h
end
end Go.Proofs.YtgepcfcicngceaaGreatDoor
set_option maxRecDepth 100000
namespace Go.Proofs.YtgepcfcicngceaaGreatDoor.KeyB
open Go.Eng Go.Sort Go.Proofs.YtgepcfcicngceaaGreatDoor.Suint64
def KI(w W:World)(U:Nat->Prop)(r:Nat)(m:MP)(J:List Int->Asn):KL:=fun x w1=> ∃(done:List Int)(U1:Nat->Prop),x.length=1/\yx w1 W.heap.size r .u64 m done/\(J done.reverse).ok w1 U1/\(∀b,U1 b->w.heap.size<=b/\b < w1.heap.size/\b≠W.heap.size)/\Fr (fun b=>w.heap.size<=b) W w1
theorem adb{w:World}{it r:Nat}{k:IntKind}{m:MP}{done:List Int}(h:yx w it r k m done):done.Nodup/\∀x∈done,x∈jo m:=by
 obtain⟨es,clk,since,c0,jt,_,_,_,_,_,_,_,_,_,h1,h2⟩:=h
 exact⟨h1,h2⟩
theorem aje{w:World}{r Bm:Nat}{m:MP}{e:TypeId}(hm:la w r .u64 m)(hn:(jo m).Nodup)(hB:w.heap[Bm]? =some (.cells #[.map (some r)] e (0,0)))(hl:m.length < 60000):
  aqi P F.b [.pointer (some ⟨Bm,0,none⟩)] alt (fun xs=>xs.Perm (jo m)) 60000 w:=by
 intro l J W U K hf hJ hU hround hend
 apply M.r.calls
 unfold M.r
 have hBm:W.heap[Bm]? =some (.cells #[.map (some r)] e (0,0)):=hf.heap hB fun h=>h
 have c0:=iu hBm 0
 simp only[List.size_toArray,List.getElem?_toArray,List.getElem?_cons_zero] at c0
 have hm':la W r .u64 m:=hm.of_heap (hf.ji r hm.lt fun h=>h)
 have hrw:=hm.lt
 simp[c0]
 refine aru mt.k hm' fun w1 hi f1=>?_
 have hWs:=hf.size
 have hWlt:=(hi.lt).1
 refine⟨KI w W U r m J,fun _ w1=>tc w1 W.heap.size m.length,⟨[],U,rfl,hi,(J []).ji hJ f1 fun _ _ h=>h,fun b hb=>?_,f1.mono fun _ _ h=>h.elim⟩,?_⟩
 ·have:=hU b hb
  have:=f1.size
  exact⟨by omega,by omega,by omega⟩
 rintro x w2 ⟨done,U1,hx1,hi2,hJ2,hU2,f2⟩
 unfold M.r.j0
 refine arr hi2 hn T.ca (fun hall=>?_) fun y v w3 hy hyd hc3 f3 hlt=>?_
 ·have e0: ∀w K,exT P (.tuple #[.bool false]) 0 w K=K (.bool false) w:=fun _ _=>rfl
  simp[e0]
  obtain⟨h1,h2⟩:=adb hi2
  refine hend _ w2 done.reverse U1 ?_ hJ2 f2
  refine (List.reverse_perm done).trans ?_
  refine (List.perm_ext_iff_of_nodup h1 hn).2 fun z=>⟨h2 z,fun hz=>?_⟩
  obtain⟨p,hp,rfl⟩:=List.mem_map.1 hz
  exact hall p hp
 ·simp
  rw[arp hc3]
  simp
  have hnit: ∀b,U1 b->¬b=W.heap.size:=fun b hb=>(hU2 b hb).2.2
  have hJ3:=(J done.reverse).ji hJ2 f3 hnit
  have hlen:done.length < m.length:=by
   obtain⟨h1,h2⟩:=adb hi2
   have:=yd (l:=y :: done) (l':=jo m) (List.nodup_cons.2 ⟨hyd,h1⟩) fun z hz=>by
    rcases List.mem_cons.1 hz with rfl|hz
    ·exact List.mem_map_of_mem hy
    ·exact h2 z hz
   simp only[jo,List.length_map,List.length_cons] at this
   omega
  have hs3:=f3.size
  refine hround done.reverse y w3 U1 _ hJ3 (fun b hb=>⟨(hU2 b hb).1,by have:=(hU2 b hb).2.1;omega⟩) (by simp;omega) fun w4 U4 hJ4 hU4 f4=>?_
  simp
  have hit: ¬U1 W.heap.size:=fun h=>hnit _ h rfl
  have hr1: ¬U1 r:=fun h=>by have:=(hU2 r h).1;omega
  have hi3:yx w3 W.heap.size r .u64 m (y :: done):=hc3.1
  have hi4:=hi3.ji (f4.ji _ hi3.lt.1 hit) (f4.ji _ hi3.lt.2 hr1)
  refine⟨⟨y :: done,U4,rfl,hi4,by simpa using hJ4,fun b hb=>?_,?_⟩,?_⟩
  ·rcases hU4 b hb with h|h
   ·have:=hU2 b h
    have:=f4.size
    exact⟨by omega,by omega,by omega⟩
   ·have:=hi3.lt.1
    have:=f2.size
    exact⟨by omega,by omega,by omega⟩
  ·refine (f2.jv f3 fun b hb he=>by omega).jv f4 fun b hb he=>(hU2 b he).1
  ·have:tc w4 W.heap.size m.length=tc w3 W.heap.size m.length:=by
    unfold tc
    rw[f4.ji _ hi3.lt.1 hit]
   rw[this];exact hlt
theorem ami{w:World}{r:Nat}{m:MP}(hm:la w r .u64 m)(hn:(jo m).Nodup)(hl:m.length < 60000){K:KV}
  (h: ∀w' v,OwN w' w.heap.size v (ut (jo m))->Fz w w'->K v w'):
  ig P F.t [.map (some r)] w fun t w=>ig P F.ao [t] w K:=by
 rw[M.z.fcall]
 apply M.z.calls
 unfold M.z
 rw[ub,aas]
 show ig P F.ao _ _ K
 rw[M.dc.fcall]
 have f1:Fz w (w.alloc (.cells #[.map (some r)] T.k)):=(Fr.refl _ w).alloc _
 have hB:(w.alloc (.cells #[.map (some r)] T.k)).heap[w.heap.size]? =some (.cells #[.map (some r)] T.k (0,0)):=by rw[iz,if_pos rfl]
 have hsz:w.heap.size<=(w.alloc (.cells #[.map (some r)] T.k)).heap.size:=by simp
 refine aog (ks:=jo m) FN.b.at (by kernel_rfl) (by kernel_rfl) (by simpa [jo] using hl) (aje (hm.of_heap (f1.ji r hm.lt fun h=>h)) hn hB hl) fun w2 v o2 f2=>?_
 exact h w2 v (o2.mono hsz) (f1.trans f2)
end Go.Proofs.YtgepcfcicngceaaGreatDoor.KeyB
set_option maxRecDepth 100000
namespace Go.Proofs.YtgepcfcicngceaaGreatDoor
open Go.Eng
abbrev yu(v:Value)(l:List Int):Asn:=ph T.a 1 Suint64.sf v l
theorem oe(x:Int):(Suint64.sf x).length=1:=rfl
section
variable {w0 w : World} {hb : Nat} {g : Cfg} {A : List AE} {c : CT} {R : List Asn}
def mq(A:List AE):List Int:=Suint64.ut (A.map AE.t)
theorem aoa(S:St w0 w (mr hb g A c :: R))(hA:A.length<=1000){K:KV}(h: ∀w' v,St w0 w' (yu v (mq A) :: mr hb g A c :: R)->K v w'):ig P F.ce [.pointer (some ⟨hb,0,none⟩)] w K:=by
 obtain⟨B,I,hB,cl⟩:=S.open
 have I':Buf w hb g B A c:=I
 obtain⟨O,r,m,es,hAe,J,hfp⟩:=I'.ex
 have hkp:(jo m).Perm (A.map AE.t):=by
  have e:A.map AE.t=es.map Ent.t:=by rw[hAe,List.map_map];rfl
  rw[e]
  refine (List.perm_ext_iff_of_nodup J.mn J.tn).2 fun k=>?_
  constructor
  ·intro hk
   by_cases hx: ∃e∈es,e.t=k
   ·obtain⟨e,he,rfl⟩:=hx;exact List.mem_map_of_mem he
   ·have:=J.mz k fun e he hek=>hx ⟨e,he,hek⟩
    exact absurd hk ((po _ _).1 this)
  ·intro hk
   obtain⟨e,he,rfl⟩:=List.mem_map.1 hk
   by_cases hx:e.t∈jo m
   ·exact hx
   ·have:=(po _ _).2 hx
    rw[J.mg e he] at this;cases this
 rw[M.bt.fcall]
 apply M.bt.calls
 unfold M.bt
 simp
 unfold M.bt.j0
 obtain⟨_,_,_,q5⟩:=J.cells
 simp[q5]
 have hml:m.length < 60000:=by
  have h1:A.length=es.length:=by rw[hAe,List.length_map]
  rw[J.ml];omega
 refine KeyB.ami J.mp J.mn hml fun w' v o f=>?_
 have hd:Suint64.ut (jo m)=mq A:=Suint64.agq hkp
 rw[hd] at o
 exact h w' v (S.add (a:=yu v (mq A)) f (B:=fun b=>v.ownBlock=some b) ⟨o.mono (Nat.zero_le _),fun b hb=>hb⟩ fun b hb=>⟨(o.lt hb).1,(o.lt hb).2⟩)
end
set_option maxRecDepth 100000
open Go.Eng Go.Proofs.YtgepcfcicngceaaGreatDoor.Sint
section
variable {w0 w : World} {R : List Asn} {p : Nat} {q : Cl} {n : Nd} {g : Cfg} {A : List AE} {c : CT} {a0 : Int} {es : List Evn}
theorem ajx{v:Value}{l:List Int}(h:Rdv w0 R v l)(X:List Asn):Rdv w0 (X ++ R) v l:=fun w' L S=>h w' (L ++ X) (by rw[List.append_assoc];exact S)
def qn(k now:Int)(s:Spn):Evn:=if k=0 then ⟨1,now,1,s.je,jc,0,s,0⟩ else ⟨6,now,1,s.je,jc,0,s,8⟩
abbrev acn(p:Nat)(q:Cl)(n:Nd)(g:Cfg)(A:List AE)(c:CT)(a0:Int)(es:List Evn):List Asn:=[clA p q,kc q.tb n,mr q.hb g A c,pd q.kb a0 [],mu q.ev es]
theorem ayx{rv:Value}{s:Spn}{now:Int}(S:St w0 w (acn p q n g A c a0 es ++ R))(hn:sj n)(hv:age n.v=[1])(hs:Rdv w0 R rv (afn s))(hr:kv s=0)(hR:aga s)(h0:0<=q.now)(h1:q.now<=18446744073709551615)(h2:0<=now)(h3:now<=18446744073709551615)
  (hA:A.length<=1000) (hl: ∀e∈A,e.l.length<=1000) (hw:0<=g.jq) (he:es.length<=1000000) {K:KV}
  (h: ∀w' v',St w0 w' (acn p {q with now:=max q.now now,ev:=v'} n g (rl g A s) (aei g A c s (max q.now now)) a0 (es ++ [qn (ou g A s) (max q.now now) s]) ++ R)->K (.int .i64 (if ou g A s=0 then 0 else 8)) w'):ig P F.r [km p,rv,.int .u64 now] w K:=by
 have S0:St w0 w (clA p q :: kc q.tb n :: mr q.hb g A c :: pd q.kb a0 [] :: mu q.ev es :: R):=S
 rw[M.d.fcall]
 apply M.d.calls
 unfold M.d
 obtain⟨_,_,_,_,_,_,_,_,_,_,_,_,_,_,_,c23,_⟩:=lx S0
 simp only[km]
 simp
 unfold M.d.j0
 simp[c23,si]
 refine St.nh S0 rfl (by simp[clC]) fun w1 S1=>?_
 have S1':St w0 w1 (clA p {q with now:=max q.now now} :: kc q.tb n :: mr q.hb g A c :: pd q.kb a0 [] :: mu q.ev es :: R):=S1
 have hn0:0<=max q.now now:=by omega
 have hn1:max q.now now<=18446744073709551615:=by omega
 generalize max q.now now=nw at *
 refine avw (s:=s) (r:=[]) S1' (by rw[List.append_nil];exact ajx hs [_,_,_,_,_]) hr hR (by simp) fun w2 v2 S2=>?_
 have S3:=S2.mkB #[.int .u64 0,.int .u64 0,.int .u64 0,.int .u64 0,.int .u64 0,.string ⟨#[]⟩,.string ⟨#[]⟩,.bool false] T.f
 have hln: ∀w' K,biT P .len #[T.g] T.d [false] [v2] w' K=K (.int .i64 0) w':=fun w' K=>(S2.row oh).jp (by kernel_rfl) [false]
 unfold ki
 simp
 generalize w2.heap.size=tb at *
 generalize w2.alloc _=w3 at *
 refine St.put (vs:=jj s) (cs':=(jj s).toArray) S3 (ni s) (by simp[jj]) (by simp[jj]) fun w4 S4=>?_
 simp[hln]
 unfold M.d.j1
 simp
 unfold M.d.j2
 have S5:St w0 w4 (spB tb s :: clA p {q with now:=nw} :: kc q.tb n :: mr q.hb g A c :: pd q.kb a0 [] :: mu q.ev es :: R):=S4.swap.drop
 have sp0: ∀{w':World}{L:List Asn},St w0 w' (spB tb s :: L)->il w' tb 0=some (.int .u64 s.je):=fun S'=>by rw[S'.cell];rfl
 have sp8: ∀{w':World}{L:List Asn},St w0 w' (spB tb s :: L)->∀K,ldN P 8 tb 0 w' K=K (ki s) w':=fun S' K=>S'.ldA (n:=8) (i:=0) (jj s) rfl rfl K
 have S6:=S5.mkB (evC ⟨0,0,0,0,jc,0,⟨0,0,0,0,0,⟨#[]⟩,⟨#[]⟩,false⟩,0⟩).toArray T.ap
 unfold evC jc at S6
 dsimp only at S6
 simp[sp0 S5,sp8 S5,ki]
 generalize w4.heap.size=eb at *
 generalize w4.alloc _=w5 at *
 refine St.put (vs:=evC ⟨1,0,0,s.je,jc,0,s,0⟩) (cs':=(evC ⟨1,0,0,s.je,jc,0,s,0⟩).toArray) S6 (aly _) (by simp[evC]) (by simp[evC]) fun w6 S7=>?_
 simp[sp0 S7.swap]
 have S8:=S7.perm (List.Perm.append_right R (List.perm_append_comm (l₁:=[_,_]) (l₂:=[_,_,_,_,_])))
 refine ahq S8 hn hv ⟨by decide,trivial⟩ (by simp) (by simp) s.je fun w7 o ho S9=>?_
 obtain rfl:=ho.one
 have S10:=S9.ju ((Fr.refl _ w7).dr 1)
 obtain⟨d0,_,_,_,_,_,_,_,_,_,d16,_⟩:=lx S10
 have x0:=sp0 (S10.perm (List.perm_middle (l₁:=[_,_,_,_,_,_])))
 simp[d16,x0]
 refine alp S10.up3 s.je ?_
 simp[kl,d0]
 have S11:=S10.ju ((Fr.refl _ (dr w7 1)).dr 1)
 obtain⟨e0,_,_,_,_,_,_,_,_,e15,_,_,_,_,_,e23,_⟩:=lx S11
 have x8:=sp8 (S11.perm (List.perm_middle (l₁:=[_,_,_,_,_,_])))
 simp[e15,e23,x8]
 refine ayr S11.up2 hA hl s ⟨hn0,hn1⟩ hw fun w8 S12=>?_
 have hev: ∀{w':World}{L:List Asn},St w0 w' (ja eb (evC ⟨1,0,0,s.je,jc,0,s,0⟩).toArray T.ap :: L)->∀K,ldN P 16 eb 0 w' K=K (evA ⟨1,0,0,s.je,jc,0,s,0⟩) w':=fun S' K=>S'.ldA (n:=16) (i:=0) (evC ⟨1,0,0,s.je,jc,0,s,0⟩) rfl rfl K
 have hfin: ∀w9 v',St w0 w9 (clA p {{q with now:=nw} with ev:=v'} :: mu v' (es ++ [qn (ou g A s) nw s]) :: mr q.hb g (rl g A s) (aei g A c s nw) :: kc q.tb n :: pd q.kb a0 [] :: ja eb (evC ⟨1,0,0,s.je,jc,0,s,0⟩).toArray T.ap :: spB tb s :: R)->K (.int .i64 (if ou g A s=0 then 0 else 8)) w9:=fun w9 v' S'=>by
  refine h w9 v' ?_
  exact S'.pick (L:=[_,_,_,_,_,_,_]) [0,3,2,4,1] 7 rfl (by decide)
 by_cases hk:ou g A s=0
 ·have S13:=S12.pick (L:=[_,_,_,_,_,_,_]) [5,0,1,2,3,4,6] 7 rfl (by decide)
  simp[hk,hev S13]
  have S14:=S13.pick (L:=[_,_,_,_,_,_,_]) [2,5,1,3,4,0,6] 7 rfl (by decide)
  refine acl (q:={q with now:=nw}) S14 ⟨1,0,0,s.je,jc,0,s,0⟩ he fun w9 v9 S15=>?_
  have:=hfin w9 v9 (by
   unfold qn
   rw[if_pos hk]
   exact S15)
  rw[if_pos hk] at this
  exact this
 ·have S13:=S12.pick (L:=[_,_,_,_,_,_,_]) [6,0,1,2,3,4,5] 7 rfl (by decide)
  simp[hk,sp0 S13,sp8 S13,ki]
  have S14:=S13.pick (L:=[_,_,_,_,_,_,_]) [2,5,1,3,4,6,0] 7 rfl (by decide)
  refine acl (q:={q with now:=nw}) S14 ⟨6,0,0,s.je,jc,0,s,8⟩ he fun w9 v9 S15=>?_
  have:=hfin w9 v9 (by
   unfold qn
   rw[if_neg hk]
   exact S15)
  rw[if_neg hk] at this
  exact this
end
def qr(o:Option (List Int)):Option (List Int):=o.bind fun l=>if 8<=l.length then some (l.drop 8) else none
def sm1(lo hi:Int)(o:Option (List Int)):Option (List Int):=o.bind fun l=>if l=[] then none else if lo<=l.headD 0/\l.headD 0<=hi then some (l.drop 1) else none
def tx1(o:Option (List Int)):Option (List Int):=o.bind fun l=>if l=[] then none else if 1<=l.headD 0/\l.headD 0<=32/\(l.headD 0).toNat<=(l.drop 1).length then some ((l.drop 1).drop (l.headD 0).toNat) else none
def txV(l:List Int):ByteArray:=afw ((l.drop 1).take (l.headD 0).toNat)
def acm(l:List Int):Option (List Int):=tx1 (tx1 (sm1 0 1 (qr (qr (qr (qr (qr (some l))))))))
def va(l:List Int):Spn:=
 ⟨qm l,qm (l.drop 8),qm (l.drop 16),qm (l.drop 24),qm (l.drop 32),txV (l.drop 41),txV ((l.drop 42).drop ((l.drop 41).headD 0).toNat),decide ((l.drop 40).headD 0=1)⟩
def pp(l:List Int):Option (Spn×List Int):=(acm l).bind fun r=>if kv (va l)=0 then some (va l,r) else none
theorem abj{o:Option (List Int)}{r:List Int}(h:qr o=some r): ∃l,o=some l/\8<=l.length/\r=l.drop 8:=by
 cases o with
 | none=>cases h
 | some l=>
  simp only[qr,Option.bind_some] at h
  split at h
  ·exact⟨l,rfl,by assumption,(Option.some.inj h).symm⟩
  ·cases h
theorem akb{lo hi:Int}{o:Option (List Int)}{r:List Int}(h:sm1 lo hi o=some r): ∃l,o=some l/\l≠[]/\lo<=l.headD 0/\l.headD 0<=hi/\r=l.drop 1:=by
 cases o with
 | none=>cases h
 | some l=>
  simp only[sm1,Option.bind_some] at h
  split at h
  ·cases h
  ·rename_i h1
   split at h
   ·rename_i h2
    exact⟨l,rfl,h1,h2.1,h2.2,(Option.some.inj h).symm⟩
   ·cases h
theorem aae{o:Option (List Int)}{r:List Int}(h:tx1 o=some r): ∃l,o=some l/\l≠[]/\1<=l.headD 0/\l.headD 0<=32/\(l.headD 0).toNat<=(l.drop 1).length/\r=(l.drop 1).drop (l.headD 0).toNat:=by
 cases o with
 | none=>cases h
 | some l=>
  simp only[tx1,Option.bind_some] at h
  split at h
  ·cases h
  ·rename_i h1
   split at h
   ·rename_i h2
    exact⟨l,rfl,h1,h2.1,h2.2.1,h2.2.2,(Option.some.inj h).symm⟩
   ·cases h
section
variable {w0 w : World} {R X : List Asn}
theorem bfd{n i:Nat}(h:i < n):(madeCells #[Value.int .u8 0] n)[i]? =some (.int .u8 0):=by
 unfold madeCells
 simp[h,Nat.mod_one]
theorem bbc(n:Nat):(List.replicate n (0:Int)).flatMap ww=List.replicate n (.int .u8 0):=by
 induction n with
 | zero=>rfl
 | succ n ih=>rw[List.replicate_succ,List.flatMap_cons,ih,List.replicate_succ];rfl
theorem atl(S:St w0 w R){n:Nat}(hn:n<=1000){K:KV}(h: ∀w' v,St w0 w' (rdA 1 ww v (List.replicate n 0) :: R)->K v w'):aqw P T.g (.int .i64 (n:Nat)) (.int .i64 (n:Nat)) w K:=by
 obtain⟨i,z,hi,hz,hs,hb,hzs⟩:=(et.g).inf
 have hz0:z.cells= #[.int .u8 0]:=by
  have:((P.info? T.ac).bind fun i=>i.zero)=some (.int .u8 0):=by kernel_rfl
  rw[hi] at this
  simp only[Option.bind_some,hz] at this
  cases this
  rfl
 have hr:=run_makeSlice (P:=P) w T.g T.ac i z (et.g).ty hi hz .i64 .i64 (n:Nat) (n:Nat) (by omega) (by omega) (by rw[hs];simp;omega) (by rw[hb];omega) (by omega)
 unfold aqw jm
 rw[hr]
 simp only[Int.toNat_natCast,hs,Nat.mul_one,hz0]
 have hm:(madeCells #[Value.int .u8 0] n).toList=(List.replicate n (0:Int)).flatMap ww:=by
  rw[bbc]
  apply List.ext_getElem?
  intro i
  by_cases hi:i < n
  ·rw[Array.getElem?_toList,bfd hi]
   simp[hi]
  ·rw[Array.getElem?_toList,Array.getElem?_eq_none (by rw[size_madeCells];omega),List.getElem?_eq_none (by simp;omega)]
 have S2:St w0 (w.alloc (.cells (madeCells #[Value.int .u8 0] n) T.ac)) (zp (.slice (some ⟨w.heap.size,0,none⟩) n n) (List.replicate n 0) :: R):=by
  have:=St.ug (e:=T.ac) (l:=List.replicate n (0:Int)) S oh hm (by simp[maxLen];omega)
  simpa using this
 obtain⟨B,⟨k1,k2⟩,hB,cl⟩:=S2.open
 exact h _ _ (cl _ [rdA 1 ww _ (List.replicate n 0)] (Fr.refl _ _) (Rs.one (B:=B) ⟨k1.sl oh,k2⟩ fun x hx=> .inl hx))
theorem atx(a b:Int):ym (orL a b):=by
 unfold orL
 have h:(BitVec.ofInt IntKind.u64.bits a ||| BitVec.ofInt IntKind.u64.bits b).toNat < 18446744073709551616:=(BitVec.ofInt 64 a ||| BitVec.ofInt 64 b).isLt
 rw[lq (by omega) (by omega)]
 exact⟨by omega,by omega⟩
theorem bef(l:List Int):ym (qm l):=atx _ _
end
section
variable {w0 w : World} {R X : List Asn}
def afy(w0:World)(R:List Asn)(v:Value)(k:Int):Option (List Int)->Prop
 | some l=>k=0/\Rdv w0 R v l
 | none=>k≠0/\∃a n c,v= .slice a n c
abbrev vj(b:Nat)(v:Value)(k:Int):Asn:=ja b #[v,.int .i64 k] T.av
def rdt(n:Nat)(o:Option (List Int)):Option (List Int):=o.bind fun l=>if n<=l.length then some (l.drop n) else none
theorem ajm{b n:Nat}{v:Value}{k:Int}{o:Option (List Int)}(S:St w0 w (vj b v k :: (X ++ R)))(ho:afy w0 R v k o)(hn:n<=1000){K:KV}
  (h: ∀w' v1 d v2 k2,SlB w' v1 d->d.length=n->(∀l,o=some l->n<=l.length->d=l.take n)->afy w0 R v2 k2 (rdt n o)->St w0 w' (vj b v2 k2 :: (X ++ R))->K v1 w'):ig P F.bx [.pointer (some ⟨b,0,none⟩),.int .i64 (n:Nat)] w K:=by
 rw[M.ag.fcall]
 apply M.ag.calls
 unfold M.ag
 have c0:il w b 0=some v:=by rw[S.cell];rfl
 have c1:il w b 1=some (.int .i64 k):=by rw[S.cell];rfl
 cases o with
 | none=>
  obtain⟨hk,a,m,c,hv⟩:=ho
  simp[c1,hk]
  unfold M.ag.j0
  simp[c1,hk]
  refine atl S hn fun w2 v2 S2=>?_
  exact h w2 v2 _ v k S2.rd (by simp) (fun l h=>by cases h) ⟨hk,a,m,c,hv⟩ S2.drop
 | some l=>
  obtain⟨hk,hs⟩:=ho
  subst hk
  have hlen: ∀w' K,biT P .len #[T.g] T.d [false] [v] w' K=K (.int .i64 l.length) w':=fun w' K=>(hs w (_ :: X) S).jp (by kernel_rfl) [false]
  by_cases hl:n<=l.length
  ·have hlt: ¬(l.length:Int) < (n:Int):=by omega
   simp[c0,c1,hlen,hlt]
   unfold M.ag.j0
   simp[c1]
   unfold M.ag.j1
   obtain⟨v1,e1,r1⟩:=yz (L0:=rdr b v :: X) S hs (lo:=none) (hi:=some (.int .i64 (n:Nat))) (i:=0) (j:=n) (.inl ⟨rfl,rfl⟩) (.inr ⟨_,rfl⟩) (Nat.zero_le _) hl
   obtain⟨v2,e2,r2⟩:=yz (L0:=rdr b v :: X) S hs (lo:=some (.int .i64 (n:Nat))) (hi:=none) (i:=n) (j:=l.length) (.inr ⟨_,rfl⟩) (.inl ⟨rfl,rfl⟩) hl (Nat.le_refl _)
   rw[List.drop_zero,Nat.sub_zero] at r1
   rw[List.take_of_length_le (by simp)] at r2
   have hv2:kw v2=true:=by
    obtain⟨_,_,e,_⟩:=r2 w (_ :: X) S
    rw[e];rfl
   have hst: ∀w' K,stT P T.g (.pointer (some ⟨b,0,none⟩)) v2 w' K=st1 P b 0 v2 w' K:=fun w' K=>by
    obtain⟨a,c,e,_⟩:=r2 w (_ :: X) S
    rw[e]
    simp
   simp[c0,e1,e2,hst]
   refine St.nh S hv2 (by simp) fun w3 S3=>?_
   have S3':St w0 w3 (vj b v2 0 :: (X ++ R)):=S3
   refine h w3 v1 _ v2 0 (r1 w3 (_ :: X) S3') (by simp;omega) (fun l' h _=>by cases h;rfl) ?_ S3'
   simp only[rdt,Option.bind_some,if_pos hl]
   exact⟨rfl,r2⟩
  ·have hlt:(l.length:Int) < (n:Int):=by omega
   simp[c0,c1,hlen,hlt]
   refine St.nh S rfl (by simp) fun w2 S2=>?_
   have S2':St w0 w2 (vj b v 3 :: (X ++ R)):=S2
   unfold M.ag.j0
   have d1:il w2 b 1=some (.int .i64 3):=by rw[S2'.cell];rfl
   simp[d1]
   refine atl S2' hn fun w3 v3 S3=>?_
   obtain⟨a,c,hv,_⟩:=hs w (_ :: X) S
   refine h w3 v3 _ v 3 S3.rd (by simp) (fun l' h hl'=>by cases h;exact absurd hl' hl) ?_ S3.drop
   simp only[rdt,Option.bind_some,if_neg hl]
   exact⟨by decide,a,_,c,hv⟩
end
theorem anr(l:List Int): ∀i,i<=8->ul (l.take 8) i=ul l i
 | 0,_=>rfl
 | i+1,h=>by
  unfold ul
  rw[anr l i (by omega)]
  have e:(l.take 8).getD i 0=l.getD i 0:=by
   rw[List.getD_eq_getElem?_getD,List.getD_eq_getElem?_getD,List.getElem?_take_of_lt (by omega)]
  rw[e]
theorem ayw(l:List Int):qm (l.take 8)=qm l:=anr l 8 (Nat.le_refl _)
section
variable {w0 w : World} {R X : List Asn} {b : Nat} {v : Value} {k : Int} {o : Option (List Int)}
theorem zh(S:St w0 w (vj b v k :: (X ++ R)))(ho:afy w0 R v k o){K:KV}
  (h: ∀w' x v2 k2,ym x->(∀l,o=some l->8<=l.length->x=qm l)->afy w0 R v2 k2 (qr o)->St w0 w' (vj b v2 k2 :: (X ++ R))->K (.int .u64 x) w'):ig P F.ar [.pointer (some ⟨b,0,none⟩)] w K:=by
 rw[M.cg.fcall]
 apply M.cg.calls
 unfold M.cg
 refine ajm (n:=8) S ho (by decide) fun w1 v1 d v2 k2 r1 hd hdl h2 S1=>?_
 refine axs r1 (by omega) ?_
 exact h w1 _ v2 k2 (bef d) (fun l hl h8=>by rw[hdl l hl h8,ayw]) h2 S1
theorem anj(S:St w0 w (vj b v k :: (X ++ R)))(ho:afy w0 R v k o){lo hi:Int}{K:KV}
  (h: ∀w' x v2 k2,(∀l,o=some l->l≠[]->x=l.headD 0)->afy w0 R v2 k2 (sm1 lo hi o)->St w0 w' (vj b v2 k2 :: (X ++ R))->K (.int .u8 x) w'):ig P F.ch [.pointer (some ⟨b,0,none⟩),.int .u8 lo,.int .u8 hi] w K:=by
 rw[M.cp.fcall]
 apply M.cp.calls
 unfold M.cp
 refine ajm (n:=1) S ho (by decide) fun w1 v1 d v2 k2 r1 hd hdl h2 S1=>?_
 have c1:il w1 b 1=some (.int .i64 k2):=by rw[S1.cell];rfl
 match d,hd with
 | [x],_=>
  obtain⟨ab,ao,ac,e1,_,_,hc⟩:=r1.at (i:=0) (by simp)
  have hcell:il w1 ab ao=some (.int .u8 x):=by simpa using hc 0 _ rfl
  have hia: ∀w' K,iaT P T.g v1 (.int .i64 0) w' K=K (.pointer (some ⟨ab,ao,none⟩)) w':=fun w' K=>by rw[e1];simp
  have hx: ∀l,o=some l->l≠[]->x=l.headD 0:=fun l hl hne=>by
   have:=hdl l hl (by have:=List.length_pos_iff.2 hne;omega)
   cases l with
   | nil=>exact absurd rfl hne
   | cons y l=>simpa using this
  by_cases hk2:k2=0
  ·subst hk2
   -- it went well:there is a byte
   have hol: ∃l,o=some l/\1<=l.length/\rdt 1 o=some (l.drop 1):=by
    cases o with
    | none=>exact absurd rfl h2.1
    | some l=>
     by_cases hl:1<=l.length
     ·exact⟨l,rfl,hl,by simp only[rdt,Option.bind_some,if_pos hl]⟩
     ·simp only[rdt,Option.bind_some,if_neg hl] at h2
      exact absurd rfl h2.1
   obtain⟨l,hol,hl1,hrd⟩:=hol
   have hne:l≠[]:=fun e=>by subst e;simp at hl1
   have hxl:=hx l hol hne
   rw[hrd] at h2
   by_cases hin:lo<=x/\x<=hi
   ·have n0: ¬x < lo:=by omega
    have n1: ¬hi < x:=by omega
    simp[hia,hcell,c1,n0,n1]
    refine h w1 x v2 0 hx ?_ S1
    have e:sm1 lo hi o=some (l.drop 1):=by
     rw[hol]
     simp only[sm1,Option.bind_some,if_neg hne]
     rw[if_pos (by rw[<-hxl];exact hin)]
    rw[e]
    exact h2
   ·have hnn:sm1 lo hi o=none:=by
     rw[hol]
     simp only[sm1,Option.bind_some,if_neg hne]
     rw[if_neg (by rw[<-hxl];exact hin)]
    have fin: ∀w3,St w0 w3 (vj b v2 6 :: (X ++ R))->K (.int .u8 x) w3:=fun w3 S3=>by
     refine h w3 x v2 6 hx ?_ S3
     rw[hnn]
     obtain⟨a,c,hv,_⟩:=h2.2 w1 (_ :: X) S1
     exact⟨by decide,a,_,c,hv⟩
    by_cases n0:x < lo
    ·simp[hia,hcell,c1,n0]
     exact St.nh S1 rfl (by simp) fun w3 S3=>fin w3 S3
    ·have n1:hi < x:=by omega
     simp[hia,hcell,c1,n0,n1]
     exact St.nh S1 rfl (by simp) fun w3 S3=>fin w3 S3
  ·simp[hia,hcell,c1,hk2]
   refine h w1 x v2 k2 hx ?_ S1
   have hnn:sm1 lo hi o=none:=by
    cases o with
    | none=>rfl
    | some l=>
     by_cases hl:l=[]
     ·subst hl;rfl
     ·have hl1:1<=l.length:=List.length_pos_iff.2 hl
      simp only[rdt,Option.bind_some,if_pos hl1] at h2
      exact absurd h2.1 hk2
   rw[hnn]
   cases hrd:rdt 1 o with
   | none=>
    rw[hrd] at h2
    exact h2
   | some l=>
    rw[hrd] at h2
    exact absurd h2.1 hk2
theorem aqr(S:St w0 w (vj b v k :: (X ++ R)))(ho:afy w0 R v k o){K:KV}
  (h: ∀w' x v2 k2,(∀l,o=some l->(tx1 o).isSome->x=txV l)->afy w0 R v2 k2 (tx1 o)->St w0 w' (vj b v2 k2 :: (X ++ R))->K (.string x) w'):ig P F.cp [.pointer (some ⟨b,0,none⟩)] w K:=by
 rw[M.cu.fcall]
 apply M.cu.calls
 unfold M.cu
 refine anj (lo:=1) (hi:=32) S ho fun w1 x v1 k1 hx h1 S1=>?_
 have c1:il w1 b 1=some (.int .i64 k1):=by rw[S1.cell];rfl
 cases hs:sm1 1 32 o with
 | none=>
  rw[hs] at h1
  have hk1:k1≠0:=h1.1
  have htx:tx1 o=none:=by
   cases ht:tx1 o with
   | none=>rfl
   | some r=>
    obtain⟨l,hl,hne,g1,g2,_,_⟩:=aae ht
    rw[hl] at hs
    simp only[sm1,Option.bind_some,if_neg hne,if_pos (And.intro g1 g2)] at hs
    cases hs
  simp[c1,hk1]
  refine h w1 _ v1 k1 (fun l hl hsome=>by rw[htx] at hsome;cases hsome) ?_ S1
  rw[htx]
  exact h1
 | some r1=>
  obtain⟨l,hol,hne,g1,g2,hr1⟩:=akb hs
  rw[hs] at h1
  have hk1:k1=0:=h1.1
  subst hk1
  have hxl:=hx l hol hne
  obtain⟨m,hm⟩:=Int.eq_ofNat_of_zero_le (show 0<=l.headD 0 by omega)
  rw[hm] at hxl
  subst hxl
  simp[c1]
  have hcv: ∀w' K',cvT P T.ac T.d (.int .u8 (m:Int)) w' K'=K' (.int .i64 (m:Nat)) w':=fun w' K'=>by
   rw[od (ks:= .u8) (kd:= .i64) (by kernel_rfl) (by kernel_rfl),iy]
  simp[hcv]
  refine ajm (n:=m) S1 h1 (by omega) fun w2 v2 d v3 k3 r2 hd hdl h2 S2=>?_
  rw[avk (by kernel_rfl) (by kernel_rfl) r2]
  have htx:tx1 o=rdt m (some r1):=by
   rw[hol]
   simp only[tx1,Option.bind_some,if_neg hne,rdt,hr1,hm,Int.toNat_natCast]
   by_cases hml:m<=(l.drop 1).length
   ·rw[if_pos hml,if_pos (by rw[hm] at g1 g2;exact⟨g1,g2,hml⟩)]
   ·rw[if_neg hml,if_neg (fun hh=>hml hh.2.2)]
  refine h w2 _ v3 k3 (fun l' hl' hsome=>?_) (by rw[htx];exact h2) S2
  rw[hol] at hl'
  cases hl'
  have hml:m<=r1.length:=by
   rw[htx] at hsome
   by_cases hml:m<=r1.length
   ·exact hml
   ·simp only[rdt,Option.bind_some,if_neg hml] at hsome
    cases hsome
  rw[hdl r1 rfl hml]
  clear h2 hdl
  unfold txV
  rw[hr1,hm,Int.toNat_natCast]
end
def ns:Spn:=⟨0,0,0,0,0,⟨#[]⟩,⟨#[]⟩,false⟩
section
variable {w0 w : World} {R X : List Asn}
theorem apu{l r:List Int}(h:acm l=some r):8<=l.length/\8<=(l.drop 8).length/\8<=(l.drop 16).length/\8<=(l.drop 24).length/\8<=(l.drop 32).length/\l.drop 40≠[]:=by
 unfold acm at h
 obtain⟨a1,e1,_,_,_,_,_⟩:=aae h
 obtain⟨a2,e2,_,_,_,_,_⟩:=aae e1
 obtain⟨a3,e3,n3,_,_,_⟩:=akb e2
 obtain⟨b5,f5,g5,q5⟩:=abj e3
 obtain⟨b4,f4,g4,q4⟩:=abj f5
 obtain⟨b3,f3,g3,q3⟩:=abj f4
 obtain⟨b2,f2,g2,q2⟩:=abj f3
 obtain⟨b1,f1,g1,q1⟩:=abj f2
 cases f1
 subst q1 q2 q3 q4 q5
 simp only[List.drop_drop] at *
 exact⟨g1,g2,g3,g4,g5,n3⟩
theorem bit{v:Value}{l:List Int}(S:St w0 w R)(hs:Rdv w0 R v l)(hl:l.length<=1000000){K:KV}
  (h1: ∀s r,pp l=some (s,r)->aga s->kv s=0->∀w' v',St w0 w' (zp v' r :: R)->K (.tuple #[ki s,v',.int .i64 0]) w')
  (h0:pp l=none->∀w' k,k≠0->St w0 w' R->K (.tuple #[ki ns,.slice none 0 0,.int .i64 k]) w'):ig P F.gs [v] w K:=by
 rw[M.db.fcall]
 apply M.db.calls
 unfold M.db
 have hb: ∀w' K,jg P T.av #[(0,v)] w' K=K (.agg #[v,.int .i64 0]) w':=fun w' K=>by
  obtain⟨_,_,e,_⟩:=hs w [] S
  rw[e]
  simp
 simp[hb]
 have S1:St w0 (w.alloc (.cells #[.int .u64 0,.int .u64 0,.int .u64 0,.int .u64 0,.int .u64 0,.string ⟨#[]⟩,.string ⟨#[]⟩,.bool false] T.f)) (spB w.heap.size ns :: R):=S.mkB (jj ns).toArray T.f
 have S2:=S1.mkB #[v,.int .i64 0] T.av
 rw[jd] at S2
 generalize w.heap.size=tb at *
 generalize hrb:tb+1=rb at *
 generalize (World.alloc _ (.cells #[v,.int .i64 0] T.av))=w2 at *
 refine zh (X:=[_]) (o:=some l) S2 ⟨rfl,hs⟩ fun w3 x1 v3 k3 g1 y1 r3 S3=>?_
 refine zh (X:=[_]) S3 r3 fun w4 x2 v4 k4 g2 y2 r4 S4=>?_
 refine zh (X:=[_]) S4 r4 fun w5 x3 v5 k5 g3 y3 r5 S5=>?_
 refine zh (X:=[_]) S5 r5 fun w6 x4 v6 k6 g4 y4 r6 S6=>?_
 refine zh (X:=[_]) S6 r6 fun w7 x5 v7 k7 g5 y5 r7 S7=>?_
 simp
 have S7':St w0 w7 (spB tb ns :: vj rb v7 k7 :: R):=S7.swap
 refine St.put (vs:=jj ⟨x1,x2,x3,x4,x5,⟨#[]⟩,⟨#[]⟩,false⟩) (cs':=(jj ⟨x1,x2,x3,x4,x5,⟨#[]⟩,⟨#[]⟩,false⟩).toArray) S7' (ni _) (by simp[jj]) rfl fun w8 S8=>?_
 refine anj (X:=[_]) (lo:=0) (hi:=1) S8.swap r7 fun w9 x6 v9 k9 y6 r9 S9=>?_
 simp
 refine St.nh S9.swap rfl (by simp[jj]) fun w10 S10=>?_
 have S10':St w0 w10 (spB tb ⟨x1,x2,x3,x4,x5,⟨#[]⟩,⟨#[]⟩,decide (x6=1)⟩ :: vj rb v9 k9 :: R):=S10
 refine aqr (X:=[_]) S10'.swap r9 fun w11 x7 v11 k11 y7 r11 S11=>?_
 simp
 refine St.nh S11.swap rfl (by simp[jj]) fun w12 S12=>?_
 have S12':St w0 w12 (spB tb ⟨x1,x2,x3,x4,x5,x7,⟨#[]⟩,decide (x6=1)⟩ :: vj rb v11 k11 :: R):=S12
 refine aqr (X:=[_]) S12'.swap r11 fun w13 x8 v13 k13 y8 r13 S13=>?_
 simp
 refine St.nh S13.swap rfl (by simp[jj]) fun w14 S14=>?_
 have S14':St w0 w14 (spB tb ⟨x1,x2,x3,x4,x5,x7,x8,decide (x6=1)⟩ :: vj rb v13 k13 :: R):=S14
 have c1:il w14 rb 1=some (.int .i64 k13):=by rw[S14'.swap.cell];rfl
 have sl: ∀{w':World}{L:List Asn}{s:Spn},St w0 w' (spB tb s :: L)->∀K,ldN P 8 tb 0 w' K=K (ki s) w':=fun{_ _ s} S' K=>S'.ldA (n:=8) (i:=0) (jj s) rfl rfl K
 have hres: ∀w' K,mi P T.f (.pointer (some ⟨tb,0,none⟩)) w' K=ldN P 8 tb 0 w' K:=fun w' K=>kr
 have hst: ∀(s:Spn) w' K,stT P T.f (.pointer (some ⟨tb,0,none⟩)) (ki s) w' K=stN P tb 0 (jj s) w' K:=fun s w' K=>by
  unfold ki
  simp[jj]
 change afy w0 R v13 k13 (acm l) at r13
 have bad: ∀(s:Spn) w' k,k≠0->pp l=none->St w0 w' (vj rb v13 k :: spB tb s :: R)->M.db.j0 (.pointer (some ⟨rb,0,none⟩)) (.pointer (some ⟨tb,0,none⟩)) w' K:=fun s w' k hk hn S'=>by
  unfold M.db.j0
  have d1: ∀{w':World}{L:List Asn},St w0 w' (vj rb v13 k :: L)->il w' rb 1=some (.int .i64 k):=fun S'=>by rw[S'.cell];rfl
  have S3:=S'.ju ((Fr.refl _ w').dr 1)
  simp[d1 S',d1 S3,hk]
  refine St.put (vs:=jj ns) (cs':=(jj ns).toArray) S3.swap (ni _) (by simp[jj]) (by simp[jj]) fun w4 S4=>?_
  have S4':St w0 w4 (spB tb ns :: vj rb v13 k :: R):=S4
  simp[d1 S4'.swap,hres,sl S4']
  exact h0 hn w4 k hk S4'.drop.drop
 by_cases hk:k13=0
 ·subst hk
  cases hr:acm l with
  | none=>
   rw[hr] at r13
   exact absurd rfl r13.1
  | some r=>
  rw[hr] at r13
  obtain⟨q1,q2,q3,q4,q5,q6⟩:=apu hr
  have o1:qr (some l)=some (l.drop 8):=by simp only[qr,Option.bind_some,if_pos q1]
  have o2:qr (some (l.drop 8))=some (l.drop 16):=by simp only[qr,Option.bind_some,if_pos q2,List.drop_drop]
  have o3:qr (some (l.drop 16))=some (l.drop 24):=by simp only[qr,Option.bind_some,if_pos q3,List.drop_drop]
  have o4:qr (some (l.drop 24))=some (l.drop 32):=by simp only[qr,Option.bind_some,if_pos q4,List.drop_drop]
  have o5:qr (some (l.drop 32))=some (l.drop 40):=by simp only[qr,Option.bind_some,if_pos q5,List.drop_drop]
  have hr':=hr
  unfold acm at hr'
  rw[o1] at y2 y3 y4 y5 y6 y7 y8 hr'
  rw[o2] at y3 y4 y5 y6 y7 y8 hr'
  rw[o3] at y4 y5 y6 y7 y8 hr'
  rw[o4] at y5 y6 y7 y8 hr'
  rw[o5] at y6 y7 y8 hr'
  obtain⟨a1,e1,n1,g11,g12,g13,t1⟩:=aae hr'
  obtain⟨a2,e2,n2,g21,g22,g23,t2⟩:=aae e1
  obtain⟨a3,e3,n3,g31,g32,t3⟩:=akb e2
  cases e3
  have o6:sm1 0 1 (some (l.drop 40))=some (l.drop 41):=by
   rw[e2,t3,List.drop_drop]
   try rfl
  rw[o6] at y7 y8 e1 e2 hr'
  cases e2
  rw[e1] at hr'
  have ta1:a1=(l.drop 42).drop ((l.drop 41).headD 0).toNat:=by
   rw[t2,List.drop_drop (j:=41)]
   try rfl
  have z1:=y1 l rfl q1
  have z2:=y2 _ rfl q2
  have z3:=y3 _ rfl q3
  have z4:=y4 _ rfl q4
  have z5:=y5 _ rfl q5
  have z6:=y6 _ rfl q6
  have z7:=y7 _ rfl (by rw[e1];rfl)
  have z8:=y8 a1 e1 (by rw[e1,hr'];rfl)
  rw[ta1] at z8
  have hsv:(⟨x1,x2,x3,x4,x5,x7,x8,decide (x6=1)⟩:Spn)=va l:=by
   unfold va
   rw[z1,z2,z3,z4,z5,z6,z7,z8]
  have hR:aga (va l):=by
   rw[<-hsv]
   exact⟨g1,g2,g3,g4,g5⟩
  rw[hsv] at S14'
  clear z1 z2 z3 z4 z5 z6 z7 z8 y1 y2 y3 y4 y5 y6 y7 y8
  simp[c1,sl S14']
  rw[M.du.fcall]
  refine agf _ fun w15 f15=>?_
  have S15:=S14'.ju f15
  simp
  refine St.nh S15.swap rfl (by simp) fun w16 S16=>?_
  have S16':St w0 w16 (vj rb v13 (kv (va l)) :: spB tb (va l) :: R):=S16
  by_cases hk:kv (va l)=0
  ·have hco:pp l=some (va l,r):=by
    unfold pp
    rw[hr,Option.bind_some,if_pos hk]
   rw[hk] at S16'
   have d1:il w16 rb 1=some (.int .i64 0):=by rw[S16'.cell];rfl
   unfold M.db.j0
   simp[d1]
   unfold M.db.j1
   have S17:=S16'.ju ((Fr.refl _ w16).dr 1)
   have d0:il (dr w16 1) rb 0=some v13:=by rw[S17.cell];rfl
   simp[sl S17.swap,d0]
   have hrl:r.length<=100000000:=by
    rw[t1]
    simp only[List.length_drop]
    rw[ta1]
    simp only[List.length_drop]
    omega
   refine aob S17 (r13.2 _ [_,_] S17) hrl fun w18 v18 S18=>?_
   simp[sl S18.up2]
   rw[hst]
   refine St.put (vs:=jj (va l)) (cs':=(jj (va l)).toArray) S18.up2 (ni _) (by simp[jj]) (by simp[jj]) fun w19 S19=>?_
   simp[hres,sl S19]
   exact h1 _ r hco hR hk w19 v18 (S19.drop.swap.drop)
  ·have hco:pp l=none:=by
    unfold pp
    rw[hr,Option.bind_some,if_neg hk]
   exact bad _ w16 _ hk hco S16'
 ·have hn:pp l=none:=by
   cases hr:acm l with
   | none=>unfold pp;rw[hr];rfl
   | some r=>
    rw[hr] at r13
    exact absurd r13.1 hk
  simp[c1,hk]
  exact bad _ w14 k13 hk hn S14'.swap
end
section
variable {w0 w : World} {R : List Asn} {p : Nat} {q : Cl} {n : Nd} {g : Cfg} {A : List AE} {c : CT} {a0 : Int} {es : List Evn}
theorem bin{rv:Value}{l:List Int}{now:Int}(S:St w0 w (acn p q n g A c a0 es ++ R))(hn:sj n)(hv:age n.v=[1])(hs:Rdv w0 R rv l)(hll:l.length<=1000000)(hbd:0<=q.bad/\q.bad<=1000000)(h0:0<=q.now)(h1:q.now<=18446744073709551615)(h2:0<=now)(h3:now<=18446744073709551615)
  (hA:A.length<=1000) (hl: ∀e∈A,e.l.length<=1000) (hw:0<=g.jq) (he:es.length<=1000000) {K:KV}
  (h: ∀s,pp l=some (s,[])->aga s->kv s=0->∀w' v',St w0 w' (acn p {q with now:=max q.now now,ev:=v'} n g (rl g A s) (aei g A c s (max q.now now)) a0 (es ++ [qn (ou g A s) (max q.now now) s]) ++ R)->K (.int .i64 (if ou g A s=0 then 0 else 8)) w')
  (hno:(∀s,pp l≠some (s,[]))->∀w' k,k≠0->St w0 w' (acn p {q with now:=max q.now now,bad:=q.bad+1} n g A c a0 es ++ R)->K (.int .i64 k) w'):ig P F.r [km p,rv,.int .u64 now] w K:=by
 have S0:St w0 w (clA p q :: kc q.tb n :: mr q.hb g A c :: pd q.kb a0 [] :: mu q.ev es :: R):=S
 rw[M.d.fcall]
 apply M.d.calls
 unfold M.d
 obtain⟨_,_,_,_,_,_,_,_,_,_,_,_,_,_,_,c23,_⟩:=lx S0
 simp only[km]
 simp
 unfold M.d.j0
 simp[c23,si]
 refine St.nh S0 rfl (by simp[clC]) fun w1 S1=>?_
 have S1':St w0 w1 (clA p {q with now:=max q.now now} :: kc q.tb n :: mr q.hb g A c :: pd q.kb a0 [] :: mu q.ev es :: R):=S1
 have hn0:0<=max q.now now:=by omega
 have hn1:max q.now now<=18446744073709551615:=by omega
 generalize max q.now now=nw at *
 have hs':Rdv w0 (clA p {q with now:=nw} :: kc q.tb n :: mr q.hb g A c :: pd q.kb a0 [] :: mu q.ev es :: R) rv l:=ajx hs [_,_,_,_,_]
 have fin0: ∀(w9:World)(k:Int)(x0:List Value)(t7:Value),k≠0->(∀s,pp l≠some (s,[]))->St w0 w9 (clA p {q with now:=nw} :: kc q.tb n :: mr q.hb g A c :: pd q.kb a0 [] :: mu q.ev es :: R)->M.d.j1 [.int .i64 k] (.pointer (some ⟨p,0,none⟩)) x0 t7 w9 K:=fun w9 k x0 t7 hk hn S'=>by
  have c26:il w9 p 26=some (.int .u64 q.bad):=by rw[S'.cell];rfl
  have hw:IntKind.u64.wrap (q.bad+1)=q.bad+1:=by rw[lq (by omega) (by omega)]
  unfold M.d.j1
  simp[hk,c26,hw]
  refine St.nh S' rfl (by simp[clC]) fun w10 S10=>?_
  exact hno hn w10 k hk S10
 refine bit S1' hs' hll (fun s r hco hR hr w2 v2 S2=>?_) fun hco w2 k hk S2=>?_
 ·have sp0:True:=trivial
  have S3:=S2.mkB #[.int .u64 0,.int .u64 0,.int .u64 0,.int .u64 0,.int .u64 0,.string ⟨#[]⟩,.string ⟨#[]⟩,.bool false] T.f
  have hln: ∀w' K,biT P .len #[T.g] T.d [false] [v2] w' K=K (.int .i64 r.length) w':=fun w' K=>(S2.row oh).jp (by kernel_rfl) [false]
  unfold ki
  simp
  generalize w2.heap.size=tb at *
  generalize w2.alloc _=w3 at *
  refine St.put (vs:=jj s) (cs':=(jj s).toArray) S3 (ni s) (by simp[jj]) (by simp[jj]) fun w4 S4=>?_
  by_cases hr0:r=[]
  ·subst hr0
   have hr0:True:=trivial
   simp[hln,hr0]
   unfold M.d.j1
   simp
   unfold M.d.j2
   have S5:St w0 w4 (spB tb s :: clA p {q with now:=nw} :: kc q.tb n :: mr q.hb g A c :: pd q.kb a0 [] :: mu q.ev es :: R):=S4.swap.drop
   have sp0: ∀{w':World}{L:List Asn},St w0 w' (spB tb s :: L)->il w' tb 0=some (.int .u64 s.je):=fun S'=>by rw[S'.cell];rfl
   have sp8: ∀{w':World}{L:List Asn},St w0 w' (spB tb s :: L)->∀K,ldN P 8 tb 0 w' K=K (ki s) w':=fun S' K=>S'.ldA (n:=8) (i:=0) (jj s) rfl rfl K
   have S6:=S5.mkB (evC ⟨0,0,0,0,jc,0,⟨0,0,0,0,0,⟨#[]⟩,⟨#[]⟩,false⟩,0⟩).toArray T.ap
   unfold evC jc at S6
   dsimp only at S6
   simp[sp0 S5,sp8 S5,ki]
   generalize w4.heap.size=eb at *
   generalize w4.alloc _=w5 at *
   refine St.put (vs:=evC ⟨1,0,0,s.je,jc,0,s,0⟩) (cs':=(evC ⟨1,0,0,s.je,jc,0,s,0⟩).toArray) S6 (aly _) (by simp[evC]) (by simp[evC]) fun w6 S7=>?_
   simp[sp0 S7.swap]
   have S8:=S7.perm (List.Perm.append_right R (List.perm_append_comm (l₁:=[_,_]) (l₂:=[_,_,_,_,_])))
   refine ahq S8 hn hv ⟨by decide,trivial⟩ (by simp) (by simp) s.je fun w7 o ho S9=>?_
   obtain rfl:=ho.one
   have S10:=S9.ju ((Fr.refl _ w7).dr 1)
   obtain⟨d0,_,_,_,_,_,_,_,_,_,d16,_⟩:=lx S10
   have x0:=sp0 (S10.perm (List.perm_middle (l₁:=[_,_,_,_,_,_])))
   simp[d16,x0]
   refine alp S10.up3 s.je ?_
   simp[kl,d0]
   have S11:=S10.ju ((Fr.refl _ (dr w7 1)).dr 1)
   obtain⟨e0,_,_,_,_,_,_,_,_,e15,_,_,_,_,_,e23,_⟩:=lx S11
   have x8:=sp8 (S11.perm (List.perm_middle (l₁:=[_,_,_,_,_,_])))
   simp[e15,e23,x8]
   refine ayr S11.up2 hA hl s ⟨hn0,hn1⟩ hw fun w8 S12=>?_
   have hev: ∀{w':World}{L:List Asn},St w0 w' (ja eb (evC ⟨1,0,0,s.je,jc,0,s,0⟩).toArray T.ap :: L)->∀K,ldN P 16 eb 0 w' K=K (evA ⟨1,0,0,s.je,jc,0,s,0⟩) w':=fun S' K=>S'.ldA (n:=16) (i:=0) (evC ⟨1,0,0,s.je,jc,0,s,0⟩) rfl rfl K
   have hfin: ∀w9 v',St w0 w9 (clA p {{q with now:=nw} with ev:=v'} :: mu v' (es ++ [qn (ou g A s) nw s]) :: mr q.hb g (rl g A s) (aei g A c s nw) :: kc q.tb n :: pd q.kb a0 [] :: ja eb (evC ⟨1,0,0,s.je,jc,0,s,0⟩).toArray T.ap :: spB tb s :: R)->K (.int .i64 (if ou g A s=0 then 0 else 8)) w9:=fun w9 v' S'=>by
    refine h s hco hR hr w9 v' ?_
    exact S'.pick (L:=[_,_,_,_,_,_,_]) [0,3,2,4,1] 7 rfl (by decide)
   by_cases hk:ou g A s=0
   ·have S13:=S12.pick (L:=[_,_,_,_,_,_,_]) [5,0,1,2,3,4,6] 7 rfl (by decide)
    simp[hk,hev S13]
    have S14:=S13.pick (L:=[_,_,_,_,_,_,_]) [2,5,1,3,4,0,6] 7 rfl (by decide)
    refine acl (q:={q with now:=nw}) S14 ⟨1,0,0,s.je,jc,0,s,0⟩ he fun w9 v9 S15=>?_
    have:=hfin w9 v9 (by
     unfold qn
     rw[if_pos hk]
     exact S15)
    rw[if_pos hk] at this
    exact this
   ·have S13:=S12.pick (L:=[_,_,_,_,_,_,_]) [6,0,1,2,3,4,5] 7 rfl (by decide)
    simp[hk,sp0 S13,sp8 S13,ki]
    have S14:=S13.pick (L:=[_,_,_,_,_,_,_]) [2,5,1,3,4,6,0] 7 rfl (by decide)
    refine acl (q:={q with now:=nw}) S14 ⟨6,0,0,s.je,jc,0,s,8⟩ he fun w9 v9 S15=>?_
    have:=hfin w9 v9 (by
     unfold qn
     rw[if_neg hk]
     exact S15)
    rw[if_neg hk] at this
    exact this
  ·have hrp:(0:Int) < r.length:=by have:=List.length_pos_iff.2 hr0;omega
   have hlp:0 < r.length:=List.length_pos_iff.2 hr0
   simp[hln,hlp]
   exact fin0 w4 6 _ _ (by decide) (fun s' e=>by rw[hco] at e;cases e;exact hr0 rfl) S4.drop.drop
 ·have S3:=S2.mkB #[.int .u64 0,.int .u64 0,.int .u64 0,.int .u64 0,.int .u64 0,.string ⟨#[]⟩,.string ⟨#[]⟩,.bool false] T.f
  unfold ki
  simp
  generalize w2.heap.size=tb at *
  generalize w2.alloc _=w3 at *
  refine St.put (vs:=jj ns) (cs':=(jj ns).toArray) S3 (ni ns) (by simp[jj]) (by simp[jj]) fun w4 S4=>?_
  simp[hk]
  exact fin0 w4 k _ _ hk (fun s' e=>by rw[hco] at e;cases e) S4.drop
end
theorem abh{F:KL->Prop}{K:KL}(H: ∀K',(∀x w,K x w->K' x w)->F K'):ik F K:=H K fun _ _ h=>h
section
variable {w0 w : World} {R : List Asn}
theorem blg{t elem r:Nat}{k:IntKind}{zero:Value}(ht:oc P t k elem zero)(S:St w0 w (jl r k [] :: R))(x:Int){K:KV}(h: ∀w' (clk:Nat),St w0 w' (xn r (.map #[⟨.int k x,zero,clk⟩] (clk+1)) :: R)->K (.tuple #[zero,.int .i64 (clk:Nat)]) w'):meT P t (.map (some r)) (.int k x) w K:=by
 obtain⟨⟨key,h1,h2⟩,i,h3,h4⟩:=ht
 obtain⟨es,clk,hr,he,hbn⟩:=S.mp
 have hes:es= #[]:=by
  have:=he.length
  simp at this
  exact this
 subst hes
 obtain⟨B,⟨k1,k2⟩,hB,cl⟩:=S.open
 have hlt:r < w.heap.size:=ll hr
 have hf:=fun w=>vc h2 he x (by rfl) w
 simp only[meT,jm,Instr.mapEntry,Sem.run_bind,jf h1,Result.andThen,qf hr,ri h2,hf,adn h3 h4,vd hr,Sem.run_pure]
 exact h _ clk (cl _ [xn r (.map #[⟨.int k x,zero,clk⟩] (clk+1))] ((Fr.refl B w).setObj (.inl k2) _) (Rs.one (B:=B) ⟨by rw[pm _ _ _ _ hlt,if_pos rfl];rfl,k2⟩ fun b hb=> .inl hb))
theorem bky{t r clk:Nat}{k:IntKind}{x:Int}{z:Value}(S:St w0 w (xn r (.map #[⟨.int k x,z,clk⟩] (clk+1)) :: R))(v:Value){K:KV}(h: ∀w',St w0 w' (jl r k [(x,v)] :: R)->K undef w'):esT P t (.map (some r)) (.int .i64 (clk:Nat)) v w K:=by
 have hr:=aid S
 obtain⟨B,⟨k1,k2⟩,hB,cl⟩:=S.open
 have hlt:r < w.heap.size:=ll hr
 have hfi:(#[(⟨.int k x,z,clk⟩:MapEntry)]).findIdx? (fun e=>(e.born:Int) == ((clk:Nat):Int))=some 0:=by simp
 simp only[esT,tq,Instr.entryStore,Sem.run_bind,Result.andThen,qf hr,asInt,asIntOf,Sem.run_pure,hfi,vd hr]
 refine h _ (cl _ [jl r k [(x,v)]] ((Fr.refl B w).setObj (.inl k2) _) (Rs.one (B:=B) ⟨⟨⟨_,_,by rw[pm _ _ _ _ hlt,if_pos rfl],?_,?_⟩,by simp[jo]⟩,k2⟩ fun b hb=> .inl hb))
 ·simpa using pw.cons (k:=k) (x:=x) (v:=v) (b:=clk) .nil
 ·simp[zd]
end
section
variable {w0 w : World} {R : List Asn} {p : Nat} {q : Cl} {n : Nd}
theorem ba2(x y:Bal)(w':World)(K:KV):bsT P T.bn 2 #[(0,kq x),(1,kq y)] w' K=K (.slice (some ⟨w'.heap.size,0,none⟩) 2 2) (w'.alloc (.cells #[.int .u64 x.n,.int .u64 x.jk,.int .u64 y.n,.int .u64 y.jk] T.e)):=kr
abbrev nxB(q:Cl)(n:Nd):Bal×Int:=afg (wk jc [jc,q.kj]) (qk n) (aih q.inc)
theorem bln{b:Bal}(hb:b.rng):0<=(wk jc [jc,b]).n/\(wk jc [jc,b]).n < 18446744073709551616:=by
 unfold wk jc
 simp only[List.foldl_cons,List.foldl_nil]
 obtain⟨⟨h1,h2⟩,_⟩:=hb
 split <;>(try split) <;>first|omega| (dsimp only;omega)
theorem bmf{je:Int}{x0:List Value}(S:St w0 w (clA p q :: kc q.tb n :: jl q.se .u64 [] :: R))(hn:sj n)(hi:1<=q.inc)(hb:q.kj.rng)(hv:0<=qk n/\qk n < 18446744073709551616){K:KV}
  (h: ∀w' tb L,gv L 20= .pointer (some ⟨tb,0,none⟩)->gv L 21= .int .i64 (nxB q n).2->St w0 w' (baB tb (nxB q n).1 :: clA p q :: kc q.tb n :: jl q.se .u64 [] :: R)->M.k.j1 L (km p) (.int .u64 je) x0 w' K):M.k.j0 (km p) (.int .u64 je) x0 w K:=by
 unfold M.k.j0
 have S1:=S.ju ((Fr.refl _ w).dr 1)
 rw[pu]
 generalize dr w 1=w1 at *
 refine abh fun K1 hK=>?_
 have hfin: ∀w' tb L,gv L 20= .pointer (some ⟨tb,0,none⟩)->gv L 21= .int .i64 (nxB q n).2->St w0 w' (baB tb (nxB q n).1 :: clA p q :: kc q.tb n :: jl q.se .u64 [] :: R)->K1 L w':=fun w' tb L h1 h2 S'=>hK L w' (h w' tb L h1 h2 S')
 obtain⟨_,_,_,_,_,_,_,_,_,_,_,_,c18,_,_,_,_,_,_,_,c20⟩:=lx S1
 have lu: ∀{w':World}{L:List Asn},St w0 w' (jl q.se .u64 [] :: L)->∀K,luT P T.u (.map (some q.se)) (.int .u64 je) false w' K=K (kq jc) w':=fun S' K=>by
  rw[tp mt.u S'.mp]
  rfl
 simp only[km]
 have fin: ∀{w':World}{tb:Nat},St w0 w' (baB tb jc :: clA p q :: kc q.tb n :: jl q.se .u64 [] :: R)->∀L,gv L 20= .pointer (some ⟨tb,0,none⟩)->gv L 21= .int .i64 (nxB q n).2->stT P T.e (.pointer (some ⟨tb,0,none⟩)) (kq (nxB q n).1) w' fun _ w2=>K1 L w2:=fun S' L g1 g2=>adg S' fun w3 S3=>hfin w3 _ L g1 g2 S3
 have e18: ∀{w':World}{L:List Asn},St w0 w' (clA p q :: L)->il w' p 18=some (.map (some q.se)):=fun S'=>by rw[S'.cell];rfl
 have e20: ∀{w':World}{L:List Asn},St w0 w' (clA p q :: L)->∀K,ldN P 2 p 20 w' K=K (kq q.kj) w':=fun S'=>by
  obtain⟨_,_,_,_,_,_,_,_,_,_,_,_,_,_,_,_,_,_,_,_,x⟩:=lx S'
  exact x
 have nx: ∀{w':World}{L:List Asn}{K':KV},St w0 w' L->(∀w2,St w0 w2 L->K' (.tuple #[kq (nxB q n).1,.int .i64 (nxB q n).2]) w2)->ig P F.cj [kq (wk jc [jc,q.kj]),.int .u64 (qk n),.int .u64 (aih q.inc)] w' K':=fun S' h'=>bhi S' _ (bln hb) hv h'
 have mx: ∀{w':World}{L:List Asn}{v:Value}{K':KV},St w0 w' (ph T.e 2 ud v [jc,q.kj] :: L)->(∀w2,St w0 w2 L->K' (kq (wk jc [jc,q.kj])) w2)->ig P F.dv [v] w' K':=fun S' h'=>bjv S' (fun w2 L S2=>(S2.perm List.perm_middle).row anx) (by simp) fun w2 S2=>h' w2 S2.drop
 have bs: ∀{w':World}{L:List Asn},St w0 w' L->St w0 (w'.alloc (.cells #[.int .u64 jc.n,.int .u64 jc.jk,.int .u64 q.kj.n,.int .u64 q.kj.jk] T.e)) (ph T.e 2 ud (.slice (some ⟨w'.heap.size,0,none⟩) 2 2) [jc,q.kj] :: L):=fun S'=>St.ug (l:=[jc,q.kj]) S' anx rfl (by simp[maxLen])
 have ver: ∀{w':World}{L:List Asn}{K':KV},St w0 w' (clA p q :: kc q.tb n :: L)->(∀w2,St w0 w2 (clA p q :: kc q.tb n :: L)->K' (.int .u64 (qk n)) w2)->ig P F.g [.pointer (some ⟨p,0,none⟩)] w' K':=fun S' h'=>alg S' hn h'
 have lif: ∀{w':World}{L:List Asn}{K':KV},St w0 w' (clA p q :: L)->(∀w2,St w0 w2 (clA p q :: L)->K' (.int .u64 (aih q.inc)) w2)->ig P F.ac [.pointer (some ⟨p,0,none⟩)] w' K':=fun S' h'=>bic S' hi h'
 generalize nxB q n=yk at *
 obtain⟨y,k⟩:=yk
 dsimp only at fin nx hfin
 simp[c18,c20,lu S1.up2,ba2]
 have en: ∀{w':World}{tb:Nat},St w0 w' (clA p q :: kc q.tb n :: jl q.se .u64 [] :: baB tb jc :: R)->∀L,gv L 20= .pointer (some ⟨tb,0,none⟩)->gv L 21= .int .i64 k->stT P T.e (.pointer (some ⟨tb,0,none⟩)) (kq y) w' fun _ w2=>K1 L w2:=fun S' L g1 g2=>fin (S'.pick (L:=[_,_,_,_]) [3,0,1,2] 4 rfl (by decide)) L g1 g2
 have al: ∀{w':World},St w0 w' (clA p q :: kc q.tb n :: jl q.se .u64 [] :: R)->St w0 (w'.alloc (.cells #[.int .u64 0,.int .u64 0] T.e)) (clA p q :: kc q.tb n :: jl q.se .u64 [] :: baB w'.heap.size jc :: R):=fun S'=>(aby S').pick (L:=[_,_,_,_]) [1,2,3,0] 4 rfl (by decide)
 refine⟨⟨?_,?_⟩,?_⟩
 ·refine mx (bs S1) fun w2 S2=>?_
  refine⟨?_,?_⟩
  ·refine ver S2 fun w3 S3=>?_
   refine⟨?_,?_⟩
   ·refine lif S3 fun w4 S4=>?_
    refine⟨?_,?_⟩
    ·refine nx S4 fun w5 S5=>?_
     have T5:=al S5
     simp[e18 T5,e20 T5,lu T5.up2]
     exact en T5 _ rfl rfl
    ·have T4:=al S4
     simp[e18 T4,e20 T4,lu T4.up2]
     refine nx T4 fun w5 S5=>?_
     simp
     exact en S5 _ rfl rfl
   ·have T3:=al S3
    simp[e18 T3,e20 T3,lu T3.up2]
    refine lif T3 fun w4 S4=>nx S4 fun w5 S5=>?_
    simp
    exact en S5 _ rfl rfl
  ·have T2:=al S2
   simp[e18 T2,e20 T2,lu T2.up2]
   refine ver T2 fun w3 S3=>lif S3 fun w4 S4=>nx S4 fun w5 S5=>?_
   simp
   exact en S5 _ rfl rfl
 ·have T1:=(aby (bs S1)).pick (L:=[_,_,_,_,_]) [1,2,3,4,0] 5 rfl (by decide)
  simp only[jd] at T1
  simp[e18 T1.swap,e20 T1.swap,lu T1.up3]
  refine mx T1 fun w2 S2=>ver S2 fun w3 S3=>lif S3 fun w4 S4=>nx S4 fun w5 S5=>?_
  simp
  exact en S5 _ rfl rfl
 ·have T1:=al S1
  have T2:=bs T1
  simp only[jd] at T2
  simp[e18 T1,e20 T1,lu T1.up2,ba2,e18 T2.swap,e20 T2.swap,lu T2.up3]
  refine mx T2 fun w2 S2=>ver S2 fun w3 S3=>lif S3 fun w4 S4=>nx S4 fun w5 S5=>?_
  simp
  exact en S5 _ rfl rfl
end
section
variable {w0 w : World} {R : List Asn} {p : Nat} {q : Cl} {n : Nd} {g : Cfg} {A : List AE} {c : CT} {a0 : Int} {m rm um : MP} {es : List Evn} {ls : List Ltr}
abbrev lk(p:Nat)(q:Cl)(n:Nd)(g:Cfg)(A:List AE)(c:CT)(a0:Int)(m:MP)(es:List Evn)(ls:List Ltr)(rm um:MP):List Asn:=[clA p q,kc q.tb n,mr q.hb g A c,pd q.kb a0 m,mu q.ev es,mm q.out ls,rdA 1 mh q.rep [101],rdA 4 li q.rul [jz],jl q.ru .u64 rm,jl q.se .u64 [],jl q.un .u64 um]
def tj(e:AE):Int:=if e.na then 3 else apg e.l
def abf(now:Int):Int:=now+min 4 (18446744073709551615 - now)
theorem oa{L:List Asn}(S:St w0 w L)(h:clA p q∈L):il w p 0=some (.int .u64 1)/\il w p 2=some q.rep/\il w p 3=some (.int .u64 200)/\il w p 8=some (.int .u64 4)/\il w p 13=some q.rul/\il w p 14=some (.pointer (some ⟨q.tb,0,none⟩))/\il w p 15=some (.pointer (some ⟨q.hb,0,none⟩))/\il w p 16=some (.pointer (some ⟨q.kb,0,none⟩))/\il w p 17=some (.map (some q.ru))/\il w p 18=some (.map (some q.se))/\il w p 19=some (.map (some q.un))/\il w p 22=some (.int .u64 q.tm)/\il w p 23=some (.int .u64 q.now)/\∀K,ldN P 2 p 20 w K=K (kq q.kj) w:=by
 obtain⟨s,t,rfl⟩:=List.append_of_mem h
 have S':=S.perm List.perm_middle
 refine⟨?_,?_,?_,?_,?_,?_,?_,?_,?_,?_,?_,?_,?_,fun K=>S'.ldA (n:=2) (i:=20) (ud q.kj) rfl rfl K⟩ <;>rw[S'.cell] <;>rfl
theorem axm{now:Int}(h0:0<=now)(h1:now<=18446744073709551615):IntKind.u64.wrap (18446744073709551615 - now)=18446744073709551615 - now/\IntKind.u64.wrap (now+min 4 (18446744073709551615 - now))=abf now:=by
 refine⟨?_,?_⟩ <;>rw[lq (by omega) (by omega)]
 rfl
theorem ayl{e:AE}(S:St w0 w (lk p q n g A c a0 m es ls [] um ++ R))(hn:sj n)(hi:1<=q.inc)(hb:q.kj.rng)(hv:0<=qk n/\qk n < 18446744073709551616)(hA:A.length<=1000)(hl: ∀e∈A,e.l.length<=1000)(he:e∈A)(hfi:A.find? (fun x=>decide (x.t=e.t))=some e)(h0:0<=q.now)(h1:q.now<=18446744073709551615)(hls:ls.length<=200)(ht:e.t≠0){K:KV}
  (hno:(nxB q n).2≠0->∀w',St w0 w' (lk p q n g A (pc c e.t 18446744073709551615) a0 m es ls [] um ++ R)->K (.tuple #[]) w')
  (hyes:(nxB q n).2=0->(nxB q n).1.n≠0/\(1<=tj e/\tj e<=3)/\∀w' ov rb,St w0 w' (lk p {q with kj:=(nxB q n).1,out:=ov} n g A (pc c e.t (abf q.now)) a0 m es (ls ++ pa [101] (sq e.t (nxB q n).1 (tj e) 0) px) [(e.t,.pointer (some ⟨rb,0,none⟩))] um ++ pq rb e.t (nxB q n).1 (tj e) 0 :: R)->K (.tuple #[]) w'):ig P F.ax [km p,.int .u64 e.t] w K:=by
 rw[M.k.fcall]
 apply M.k.calls
 unfold M.k
 obtain⟨_,_,_,_,_,_,c15,_⟩:=oa (p:=p) (q:=q) S (by simp)
 simp only[km]
 simp[c15]
 refine biy (S.pick (L:=[_,_,_,_,_,_,_,_,_,_,_]) [2,0,1,3,4,5,6,7,8,9,10] 11 rfl (by decide)) hl e.t (fun hnone=>by rw[hnone] at hfi;cases hfi) fun e' he' w1 v1 S1=>?_
 rw[hfi] at he'
 injection he' with he'
 subst he'
 obtain⟨_,_,_,_,d13,_⟩:=oa (p:=p) (q:=q) S1 (by simp)
 simp[d13]
 refine bei (rv:=q.rul) (v:=v1) (l:=e.l) S1 (fun w' L S'=>aez S' (by simp)) (fun w' L S'=>aez S' (by simp)) (by have:=hl e he;omega) fun w2 S2=>?_
 have S2':St w0 w2 (clA p q :: kc q.tb n :: jl q.se .u64 [] :: mr q.hb g A c :: pd q.kb a0 m :: mu q.ev es :: mm q.out ls :: rdA 1 mh q.rep [101] :: rdA 4 li q.rul [jz] :: jl q.ru .u64 [] :: jl q.un .u64 um :: R):=S2.pick (L:=[_,_,_,_,_,_,_,_,_,_,_,_]) [2,3,10,1,4,5,6,7,8,9,11] 12 rfl (by decide)
 have main: ∀x0,gv x0 0= .int .i64 (tj e)->M.k.j0 (.pointer (some ⟨p,0,none⟩)) (.int .u64 e.t) x0 w2 K:=by
  intro x0 hx0
  refine bmf S2' hn hi hb hv fun w3 tb L g20 g21 S3=>?_
  generalize hyk:nxB q n=yk at *
  obtain⟨y,k⟩:=yk
  dsimp only at hno hyes g20 g21 S3
  unfold M.k.j1
  simp only[im,g21]
  obtain⟨_,_,_,_,_,_,e15,_⟩:=oa (p:=p) (q:=q) S3 (by simp)
  by_cases hk:k=0
  ·subst hk
   obtain⟨hy,hw,hyes⟩:=hyes rfl
   simp
   unfold M.k.j2
   have S4:=S3.ju ((Fr.refl _ w3).dr 1)
   have lb: ∀{w':World}{L:List Asn},St w0 w' L->baB tb y∈L->∀K,ldN P 2 tb 0 w' K=K (kq y) w':=fun S' hm K=>by
    obtain⟨s,t,rfl⟩:=List.append_of_mem hm
    exact (S'.perm List.perm_middle).ldA (n:=2) (i:=0) (ud y) rfl rfl K
   obtain⟨_,f2,_⟩:=oa (p:=p) (q:=q) S4 (by simp)
   simp only[g20,hx0]
   simp[lb S4,f2]
   refine bdd S4 (fun w' L S'=>aez S' (by simp)) ht hy hw fun w5 rb S5=>?_
   have S6:=S5.ju ((Fr.refl _ w5).dr 1)
   obtain⟨_,_,_,_,_,_,_,_,g17,_⟩:=oa (p:=p) (q:=q) S6 (by simp)
   have S7:St w0 (dr w5 1) (jl q.ru .u64 [] :: pq rb e.t y (tj e) 0 :: baB tb y :: clA p q :: kc q.tb n :: jl q.se .u64 [] :: mr q.hb g A c :: pd q.kb a0 m :: mu q.ev es :: mm q.out ls :: rdA 1 mh q.rep [101] :: rdA 4 li q.rul [jz] :: jl q.un .u64 um :: R):=S6.pick (L:=[_,_,_,_,_,_,_,_,_,_,_,_,_]) [11,0,1,2,3,4,5,6,7,8,9,10,12] 13 rfl (by decide)
   generalize dr w5 1=w6 at *
   simp[lb S6,g17]
   refine blg mt.x S7 e.t fun w8 clk S8=>?_
   simp[lb S8]
   refine bky S8 _ fun w9 S9=>?_
   simp[lb S9,kq]
   have S10:St w0 w9 (clA p q :: jl q.ru .u64 [(e.t,.pointer (some ⟨rb,0,none⟩))] :: pq rb e.t y (tj e) 0 :: kc q.tb n :: jl q.se .u64 [] :: mr q.hb g A c :: pd q.kb a0 m :: mu q.ev es :: mm q.out ls :: rdA 1 mh q.rep [101] :: rdA 4 li q.rul [jz] :: jl q.un .u64 um :: R):=S9.pick (L:=[_,_,_,_,_,_,_,_,_,_,_,_,_]) [3,0,1,4,5,6,7,8,9,10,11,12] 13 rfl (by decide)
   refine St.put (i:=20) (cs':=clC {q with kj:=y}) S10 (by simp[kw]) (by simp[clC]) (by simp[clC]) fun w11 S11=>?_
   refine alx (S11.pick (L:=[_,_,_]) [2,0,1] 3 rfl (by decide)) (.inl rfl) fun w12 S12=>?_
   refine aqx S12 (.inl rfl) fun w13 ov S13=>?_
   have S14:St w0 w13 (clA p {q with kj:=y} :: mm {q with kj:=y}.out ls :: rk ov [101] :: pq rb e.t y (tj e) 0 :: jl q.ru .u64 [(e.t,.pointer (some ⟨rb,0,none⟩))] :: kc q.tb n :: jl q.se .u64 [] :: mr q.hb g A c :: pd q.kb a0 m :: mu q.ev es :: rdA 1 mh q.rep [101] :: rdA 4 li q.rul [jz] :: jl q.un .u64 um :: R):=S13.pick (L:=[_,_,_,_,_,_,_,_,_,_,_,_,_]) [2,9,0,1,3,4,5,6,7,8,10,11,12] 13 rfl (by decide)
   refine aii (to:=[101]) S14 px (fun w' L S'=>(S'.perm List.perm_middle).row oe) (by simp;omega) fun w15 lv S15=>?_
   have S16:=S15.ju ((Fr.refl _ w15).dr 1)
   obtain⟨_,_,_,k8,_,_,k15,_,_,_,_,_,k23,_⟩:=oa (p:=p) (q:={q with kj:=y,out:=lv}) S16 (by simp)
   obtain⟨u1,u2⟩:=axm h0 h1
   simp[k8,k15,k23,ajd,u1,u2]
   have S17:St w0 (dr w15 1) (mr q.hb g A c :: clA p {q with kj:=y,out:=lv} :: mm lv (ls ++ pa [101] (sq e.t y (tj e) 0) px) :: pq rb e.t y (tj e) 0 :: jl q.ru .u64 [(e.t,.pointer (some ⟨rb,0,none⟩))] :: kc q.tb n :: jl q.se .u64 [] :: pd q.kb a0 m :: mu q.ev es :: rdA 1 mh q.rep [101] :: rdA 4 li q.rul [jz] :: jl q.un .u64 um :: R):=S16.pick (L:=[_,_,_,_,_,_,_,_,_,_,_,_,_]) [7,0,1,3,4,5,6,8,9,10,11,12] 13 rfl (by decide)
   refine apn (e:=e) S17 hA he rfl fun w18 S18=>?_
   exact hyes w18 lv rb (S18.pick (L:=[_,_,_,_,_,_,_,_,_,_,_,_]) [1,5,0,7,8,2,9,10,4,6,11,3] 12 rfl (by decide))
  ·simp[hk,e15]
   refine apn (e:=e) (t:=18446744073709551615) (S3.pick (L:=[_,_,_,_,_,_,_,_,_,_,_,_]) [4,1,2,3,5,6,7,8,9,10,11] 12 rfl (by decide)) hA he rfl fun w4 S4=>?_
   exact hno hk w4 (S4.pick (L:=[_,_,_,_,_,_,_,_,_,_,_]) [1,2,0,4,5,6,7,8,9,3,10] 11 rfl (by decide))
 unfold tj at main
 cases ho:e.na with
 | true=>
  rw[ho] at main
  simp
  exact main _ rfl
 | false=>
  rw[ho] at main
  simp
  exact main _ rfl
end
end Go.Proofs.YtgepcfcicngceaaGreatDoor
set_option maxRecDepth 100000
namespace Go.Proofs.YtgepcfcicngceaaGreatDoor.KeyU
open Go.Eng Go.Sort Go.Proofs.YtgepcfcicngceaaGreatDoor.Suint64
def KI(w W:World)(U:Nat->Prop)(r:Nat)(m:MP)(J:List Int->Asn):KL:=fun x w1=> ∃(done:List Int)(U1:Nat->Prop),x.length=1/\yx w1 W.heap.size r .u64 m done/\(J done.reverse).ok w1 U1/\(∀b,U1 b->w.heap.size<=b/\b < w1.heap.size/\b≠W.heap.size)/\Fr (fun b=>w.heap.size<=b) W w1
theorem adb{w:World}{it r:Nat}{k:IntKind}{m:MP}{done:List Int}(h:yx w it r k m done):done.Nodup/\∀x∈done,x∈jo m:=by
 obtain⟨es,clk,since,c0,jt,_,_,_,_,_,_,_,_,_,h1,h2⟩:=h
 exact⟨h1,h2⟩
theorem aje{w:World}{r Bm:Nat}{m:MP}{e:TypeId}(hm:la w r .u64 m)(hn:(jo m).Nodup)(hB:w.heap[Bm]? =some (.cells #[.map (some r)] e (0,0)))(hl:m.length < 60000):
  aqi P F.c [.pointer (some ⟨Bm,0,none⟩)] alt (fun xs=>xs.Perm (jo m)) 60000 w:=by
 intro l J W U K hf hJ hU hround hend
 apply M.y.calls
 unfold M.y
 have hBm:W.heap[Bm]? =some (.cells #[.map (some r)] e (0,0)):=hf.heap hB fun h=>h
 have c0:=iu hBm 0
 simp only[List.size_toArray,List.getElem?_toArray,List.getElem?_cons_zero] at c0
 have hm':la W r .u64 m:=hm.of_heap (hf.ji r hm.lt fun h=>h)
 have hrw:=hm.lt
 simp[c0]
 refine aru mt.v hm' fun w1 hi f1=>?_
 have hWs:=hf.size
 have hWlt:=(hi.lt).1
 refine⟨KI w W U r m J,fun _ w1=>tc w1 W.heap.size m.length,⟨[],U,rfl,hi,(J []).ji hJ f1 fun _ _ h=>h,fun b hb=>?_,f1.mono fun _ _ h=>h.elim⟩,?_⟩
 ·have:=hU b hb
  have:=f1.size
  exact⟨by omega,by omega,by omega⟩
 rintro x w2 ⟨done,U1,hx1,hi2,hJ2,hU2,f2⟩
 unfold M.y.j0
 refine arr hi2 hn T.ca (fun hall=>?_) fun y v w3 hy hyd hc3 f3 hlt=>?_
 ·have e0: ∀w K,exT P (.tuple #[.bool false]) 0 w K=K (.bool false) w:=fun _ _=>rfl
  simp[e0]
  obtain⟨h1,h2⟩:=adb hi2
  refine hend _ w2 done.reverse U1 ?_ hJ2 f2
  refine (List.reverse_perm done).trans ?_
  refine (List.perm_ext_iff_of_nodup h1 hn).2 fun z=>⟨h2 z,fun hz=>?_⟩
  obtain⟨p,hp,rfl⟩:=List.mem_map.1 hz
  exact hall p hp
 ·simp
  rw[arp hc3]
  simp
  have hnit: ∀b,U1 b->¬b=W.heap.size:=fun b hb=>(hU2 b hb).2.2
  have hJ3:=(J done.reverse).ji hJ2 f3 hnit
  have hlen:done.length < m.length:=by
   obtain⟨h1,h2⟩:=adb hi2
   have:=yd (l:=y :: done) (l':=jo m) (List.nodup_cons.2 ⟨hyd,h1⟩) fun z hz=>by
    rcases List.mem_cons.1 hz with rfl|hz
    ·exact List.mem_map_of_mem hy
    ·exact h2 z hz
   simp only[jo,List.length_map,List.length_cons] at this
   omega
  have hs3:=f3.size
  refine hround done.reverse y w3 U1 _ hJ3 (fun b hb=>⟨(hU2 b hb).1,by have:=(hU2 b hb).2.1;omega⟩) (by simp;omega) fun w4 U4 hJ4 hU4 f4=>?_
  simp
  have hit: ¬U1 W.heap.size:=fun h=>hnit _ h rfl
  have hr1: ¬U1 r:=fun h=>by have:=(hU2 r h).1;omega
  have hi3:yx w3 W.heap.size r .u64 m (y :: done):=hc3.1
  have hi4:=hi3.ji (f4.ji _ hi3.lt.1 hit) (f4.ji _ hi3.lt.2 hr1)
  refine⟨⟨y :: done,U4,rfl,hi4,by simpa using hJ4,fun b hb=>?_,?_⟩,?_⟩
  ·rcases hU4 b hb with h|h
   ·have:=hU2 b h
    have:=f4.size
    exact⟨by omega,by omega,by omega⟩
   ·have:=hi3.lt.1
    have:=f2.size
    exact⟨by omega,by omega,by omega⟩
  ·refine (f2.jv f3 fun b hb he=>by omega).jv f4 fun b hb he=>(hU2 b he).1
  ·have:tc w4 W.heap.size m.length=tc w3 W.heap.size m.length:=by
    unfold tc
    rw[f4.ji _ hi3.lt.1 hit]
   rw[this];exact hlt
theorem ami{w:World}{r:Nat}{m:MP}(hm:la w r .u64 m)(hn:(jo m).Nodup)(hl:m.length < 60000){K:KV}
  (h: ∀w' v,OwN w' w.heap.size v (ut (jo m))->Fz w w'->K v w'):
  ig P F.ai [.map (some r)] w fun t w=>ig P F.ao [t] w K:=by
 rw[M.ai.fcall]
 apply M.ai.calls
 unfold M.ai
 rw[ub,aas]
 show ig P F.ao _ _ K
 rw[M.dc.fcall]
 have f1:Fz w (w.alloc (.cells #[.map (some r)] T.v)):=(Fr.refl _ w).alloc _
 have hB:(w.alloc (.cells #[.map (some r)] T.v)).heap[w.heap.size]? =some (.cells #[.map (some r)] T.v (0,0)):=by rw[iz,if_pos rfl]
 have hsz:w.heap.size<=(w.alloc (.cells #[.map (some r)] T.v)).heap.size:=by simp
 refine aog (ks:=jo m) FN.c.at (by kernel_rfl) (by kernel_rfl) (by simpa [jo] using hl) (aje (hm.of_heap (f1.ji r hm.lt fun h=>h)) hn hB hl) fun w2 v o2 f2=>?_
 exact h w2 v (o2.mono hsz) (f1.trans f2)
end Go.Proofs.YtgepcfcicngceaaGreatDoor.KeyU
