/-
  Sorting a row of a ring's points: an element read and written; the insertion sort. No condition.
-/
import Derived.Test.YtgepcfcicngceaaGreatDoorZMs9
import Derived.Test.YtgepcfcicngceaaGreatDoorZSgE
import Derived.Test.YtgepcfcicngceaaGreatDoorZEngSl
import Derived.Test.YtgepcfcicngceaaGreatDoorZSpn0
import Derived.Lib.Bytealg
import Derived.Laws.Externs
import Derived.Test.YtgepcfcicngceaaGreatDoorZTim4
set_option maxRecDepth 100000
namespace Go.Proofs.YtgepcfcicngceaaGreatDoor.Ring
open Go.Eng
abbrev vS(g n cap:Nat):Value:= .slice (some ⟨g,0,none⟩) n cap
abbrev CF:Value:= .func (.func F.dz) #[] #[]
theorem beg{g n cap i:Nat}(h:i < n)(w:World)(K:KV):iaT P T.am (vS g n cap) (.int .i64 (i:Nat)) w K=K (.pointer (some ⟨g,i * 2,none⟩)) w:=by simp[h]
theorem bia(b o:Nat)(x:Pnt)(w:World)(K:KV):stT P T.aq (.pointer (some ⟨b,o,none⟩)) (wq x) w K=stN P b o (xk x) w K:=by
 unfold wq
 simp[xk]
theorem wr1{x:Nat}(h:x < 1000000):IntKind.i64.wrap ((x:Int)+1)=((x+1:Nat):Int):=by rw[iz];rfl
theorem bmu{x:Nat}(h:1<=x)(hx:x < 1000000):IntKind.i64.wrap ((x:Int) - 1)=((x - 1:Nat):Int):=by rw[iz];omega
section
variable {w0 w : World} {R : List Asn} {g n cap : Nat} {l : List Pnt}
theorem anz(S:St w0 w (tp (vS g n cap) l :: R)){i:Nat}(hi:i < l.length)(K:KV):ldN P 2 g (i * 2) w K=K (wq l[i]) w:=by
 obtain⟨b,o,c,hv,_,_,hc⟩:=(S.row vo:avc w (vS g n cap) l).at hi
 injection hv with h1 h2 h3
 injection h1 with h1
 injection h1 with h1 h4
 subst h1 h4
 exact sf (xk l[i]) 2 rfl (fun k u hk=>by have:=hc k u hk;rwa [Nat.zero_add] at this) K
theorem axs(S:St w0 w (tp (vS g n cap) l :: R)){i:Nat}(hi:i < l.length)(x:Pnt){K:KV}(h: ∀w',St w0 w' (tp (vS g n cap) (l.set i x) :: R)->K undef w'):stT P T.aq (.pointer (some ⟨g,i * 2,none⟩)) (wq x) w K:=by
 obtain⟨b,c,hv,hs⟩:=St.blm vo amq S hi x
 injection hv with h1 h2 h3
 injection h1 with h1
 injection h1 with h1 h4
 subst h1
 rw[bia]
 have:=hs K h
 rwa [Nat.zero_add] at this
theorem bjf(S:St w0 w R)(x y:Pnt){K:KV}(h: ∀w',St w0 w' R->K (.int .i64 (ald x y)) w'):zc P CF [wq x,wq y] w K:=by
 have:=bcp (P:=P) F.dz [] [] [wq x,wq y] w K
 rw[show (CF:Value)= .func (.func F.dz) ([]:List Value).toArray ([]:List Value).toArray from rfl,this]
 exact awo x y fun w' f=>h w' (S.jv f)
theorem asv(S:St w0 w (tp (vS g n cap) l :: R)):l.length=n:=by
 obtain⟨_,_,hv,_⟩:=(S.row vo:avc w (vS g n cap) l)
 injection hv with _ h _
 exact h.symm
end
def blz(w0:World)(g n cap a:Nat)(X Z S:List Pnt)(x:Pnt)(R:List Asn):KL:=fun v w1=> ∃(j:Nat)(S1 S2:List Pnt),v=[.int .i64 (j:Nat)]/\j=a+S1.length/\X.length=a/\abr (S1 ++ S2)/\(∀y∈S2,leS x y)/\(S1 ++ S2).Perm S/\St w0 w1 (tp (vS g n cap) (X ++ (S1 ++ x :: S2) ++ Z) :: R)
def biq(w0:World)(g n cap a b:Nat)(X A Y:List Pnt)(R:List Asn):KL:=fun v w1=> ∃(u:Value)(i:Nat)(S Q:List Pnt),v=[u,.int .i64 (i:Nat)]/\i=a+S.length/\S.length+Q.length=A.length/\1<=S.length/\abr S/\(S ++ Q).Perm A/\St w0 w1 (tp (vS g n cap) (X ++ S ++ Q ++ Y) :: R)
section
variable {w0 w : World} {R : List Asn} {g n cap : Nat} {l : List Pnt}
theorem bjm{a b:Nat}{X A Y:List Pnt}(S:St w0 w (tp (vS g n cap) (X ++ A ++ Y) :: R))(hn:n < 100000)(ha:X.length=a)(hb:a+A.length=b){K:KV}
  (h: ∀w' C,abr C->C.Perm A->St w0 w' (tp (vS g n cap) (X ++ C ++ Y) :: R)->K (.tuple #[]) w'):ig P F.aw [vS g n cap,.int .i64 (a:Nat),.int .i64 (b:Nat),CF] w K:=by
 have hlen:=asv S
 simp only[List.length_append] at hlen
 rw[M.d.fcall]
 apply M.d.calls
 unfold M.d
 simp only[lr,wr1 (show a < 1000000 by omega)]
 by_cases hA:A=[]
 ·subst hA
  simp only[List.length_nil] at hb
  refine⟨fun v w1=>v=[undef,.int .i64 ((a+1:Nat):Int)]/\w1=w,fun _ _=>0,⟨rfl,rfl⟩,?_⟩
  rintro v w1 ⟨rfl,rfl⟩
  unfold M.d.j0
  have g1:gv [undef,Value.int .i64 ((a+1:Nat):Int)] 1= .int .i64 ((a+1:Nat):Int):=rfl
  have hlt: ¬((a+1:Nat):Int) < (b:Int):=by omega
  simp only[im,g1,oc,hlt,decide_false,Eng.cond_false]
  exact h w1 [] List.Pairwise.nil (List.Perm.refl _) S
 have hAl:0 < A.length:=List.length_pos_iff.2 hA
 refine⟨biq w0 g n cap a b X A Y R,fun v _=>b - ms v 1,⟨_,a+1,[A[0]],A.drop 1,rfl,rfl,by simp;omega,by simp,by simp,?_,?_⟩,?_⟩
 ·rw[List.singleton_append,show A[0] :: A.drop 1=A from by rw[<-List.drop_eq_getElem_cons hAl,List.drop_zero]]
 ·have e:X ++ [A[0]] ++ A.drop 1 ++ Y=X ++ A ++ Y:=by
   rw[List.append_assoc X,List.singleton_append,show A[0] :: A.drop 1=A from by rw[<-List.drop_eq_getElem_cons hAl,List.drop_zero]]
  rw[e];exact S
 rintro v w1 ⟨u,i,S0,Q,rfl,hi,hl0,h1,hS,hp,T1⟩
 have g1:gv [u,Value.int .i64 (i:Nat)] 1= .int .i64 (i:Nat):=rfl
 unfold M.d.j0
 simp only[im,g1,oc]
 by_cases hib:i < b
 ·have hib':(i:Int) < b:=by omega
  have hQ:0 < Q.length:=by omega
  obtain⟨x,Q',rfl⟩:=List.exists_cons_of_length_pos hQ
  simp only[hib',decide_true,Eng.cond_true]
  refine⟨blz w0 g n cap a X (Q' ++ Y) S0 x R,fun v _=>ms v 0,⟨i,S0,[],rfl,hi,ha,by simpa using hS,by simp,by simp,by simpa using T1⟩,?_⟩
  rintro v w2 ⟨j,S1,S2,rfl,hj,_,hs12,hle,hp12,T2⟩
  have hl12:=hp12.length_eq
  rw[List.length_append] at hl12
  simp only[List.length_cons] at hl0
  have done: ∀v w3,abr (S1 ++ x :: S2)->St w0 w3 (tp (vS g n cap) (X ++ (S1 ++ x :: S2) ++ (Q' ++ Y)) :: R)->biq w0 g n cap a b X A Y R [v,.int .i64 (IntKind.i64.wrap ((i:Int)+1))] w3/\b - ms [v,.int .i64 (IntKind.i64.wrap ((i:Int)+1))] 1 < b - ms [u,.int .i64 (i:Nat)] 1:=by
   intro v w3 hasc T3
   rw[wr1 (by omega)]
   refine⟨⟨v,i+1,S1 ++ x :: S2,Q',rfl,by simp;omega,by simp;omega,by simp;omega,hasc,?_,by simpa using T3⟩,by simp[ms,gv];omega⟩
   refine List.Perm.trans ?_ hp
   rw[show S0 ++ x :: Q'=(S0 ++ [x]) ++ Q' from by simp]
   refine List.Perm.append_right _ ?_
   refine List.Perm.trans List.perm_middle ?_
   refine List.Perm.trans (List.Perm.cons x hp12) ?_
   exact (List.perm_append_comm (l₁:=S0) (l₂:=[x])).symm
  have g0:gv [Value.int .i64 (j:Nat)] 0= .int .i64 (j:Nat):=rfl
  unfold M.d.j3
  simp only[im,g0]
  have T3:=T2.jv ((Fr.refl _ w2).dr 1)
  by_cases hja:a < j
  ·have hS1:0 < S1.length:=by omega
   obtain⟨S1',y,rfl⟩: ∃S1' y,S1=S1' ++ [y]:=⟨S1.dropLast,S1.getLast (List.ne_nil_of_length_pos hS1),(List.dropLast_concat_getLast _).symm⟩
   have hja':(a:Int) < (j:Int):=by omega
   simp only[List.length_append,List.length_singleton] at hj hl12
   have ej:j - 1=X.length+S1'.length:=by omega
   have eL:X ++ (S1' ++ [y] ++ x :: S2) ++ (Q' ++ Y)=(X ++ S1') ++ y :: ([] ++ x :: (S2 ++ (Q' ++ Y))):=by simp
   have eL2:X ++ (S1' ++ x :: (y :: S2)) ++ (Q' ++ Y)=(X ++ S1') ++ x :: ([] ++ y :: (S2 ++ (Q' ++ Y))):=by simp
   have j1:j < (X ++ (S1' ++ [y] ++ x :: S2) ++ (Q' ++ Y)).length:=by simp;omega
   have j2:j - 1 < (X ++ (S1' ++ [y] ++ x :: S2) ++ (Q' ++ Y)).length:=by omega
   have r1:(X ++ (S1' ++ [y] ++ x :: S2) ++ (Q' ++ Y))[j]=x:=by
    have hjj:j=(X ++ S1' ++ [y]).length:=by simp;omega
    have e:X ++ (S1' ++ [y] ++ x :: S2) ++ (Q' ++ Y)=(X ++ S1' ++ [y]) ++ x :: (S2 ++ (Q' ++ Y)):=by simp
    simp only[e,hjj]
    simp
   have r2:(X ++ (S1' ++ [y] ++ x :: S2) ++ (Q' ++ Y))[j - 1]=y:=by
    have hjj:j - 1=(X ++ S1').length:=by simp;omega
    have e:X ++ (S1' ++ [y] ++ x :: S2) ++ (Q' ++ Y)=(X ++ S1') ++ y :: (x :: S2 ++ (Q' ++ Y)):=by simp
    simp only[e,hjj]
    simp
   have d1:=anz T3 j1
   have d2:=anz T3 j2
   rw[r1] at d1
   rw[r2] at d2
   have i1:=fun w K=>beg (g:=g) (cap:=cap) (show j < n by omega) w K
   have i2:=fun w K=>beg (g:=g) (cap:=cap) (show j - 1 < n by omega) w K
   have hw:=bmu (x:=j) (by omega) (by omega)
   have b1:(j:Int) < n:=by omega
   have b2:((j - 1:Nat):Int) < n:=by omega
   simp[hja,hja',hw,i1,i2,b1,b2,d1,d2]
   refine bjf T3 x y fun w4 T4=>?_
   by_cases hc:leS y x
   ·have hlt: ¬ald x y < 0:=fun hh=>asp.1 hh hc
    simp[hlt]
    refine done _ _ ?_ T4
    have h12:=List.pairwise_append.1 hs12
    refine List.pairwise_append.2 ⟨h12.1,List.pairwise_cons.2 ⟨hle,h12.2.1⟩,fun c hcm q hq=>?_⟩
    rcases List.mem_cons.1 hq with rfl|hq
    ·rcases List.mem_append.1 hcm with hcm|hcm
     ·exact ((List.pairwise_append.1 h12.1).2.2 c hcm y (by simp)).trans hc
     ·rw[List.mem_singleton.1 hcm];exact hc
    ·exact h12.2.2 c hcm q hq
   ·have hlt:ald x y < 0:=asp.2 hc
    simp[hlt]
    unfold M.d.j4
    have T5:=T4.jv ((Fr.refl _ w4).dr 1)
    have d1:=anz T5 j1
    have d2:=anz T5 j2
    rw[r1] at d1
    rw[r2] at d2
    simp[hw,i1,i2,b1,b2,d1,d2]
    refine axs T5 j1 y fun w6 T6=>?_
    refine axs T6 (by simpa using j2) x fun w7 T7=>?_
    have e:((X ++ (S1' ++ [y] ++ x :: S2) ++ (Q' ++ Y)).set j y).set (j - 1) x=X ++ (S1' ++ x :: (y :: S2)) ++ (Q' ++ Y):=by
     have:=bfu (X ++ S1') [] (S2 ++ (Q' ++ Y)) y x (l:=X ++ (S1' ++ [y] ++ x :: S2) ++ (Q' ++ Y)) (i:=j - 1) (j:=j) eL (by simp;omega) (by simp;omega) j2 j1
     unfold bbn at this
     rw[r1,r2] at this
     rw[eL2,<-this,List.set_comm _ _ (by omega)]
    rw[e] at T7
    refine⟨⟨j - 1,S1',y :: S2,rfl,by omega,ha,by simpa using hs12,fun z hz=>?_,by simpa using hp12,T7⟩,by simp[ms,gv];omega⟩
    rcases List.mem_cons.1 hz with rfl|hz
    ·exact leS.of hc
    ·exact hle z hz
  ·have hja': ¬(a:Int) < (j:Int):=by omega
   have hS1:S1=[]:=List.length_eq_zero_iff.1 (by omega)
   subst hS1
   simp[hja,hja']
   have:=done (.int .i64 (j:Nat)) _ (List.pairwise_cons.2 ⟨hle,by simpa using hs12⟩) T3
   simpa using this
 ·have hib': ¬(i:Int) < b:=by omega
  have hQ:Q=[]:=List.length_eq_zero_iff.1 (by omega)
  subst hQ
  simp only[hib',decide_false,Eng.cond_false]
  exact h w1 S0 hS (by simpa using hp) (by simpa using T1)
end
set_option maxRecDepth 100000
open Go.Eng Go.Proofs.YtgepcfcicngceaaGreatDoor
def aud(x y:Int):Int:=IntKind.u64.wrap (BitVec.ofInt IntKind.u64.bits x ^^^ BitVec.ofInt IntKind.u64.bits y).toNat
def shU(x:Int)(k:Nat):Int:=x.fdiv (2 ^ min k IntKind.u64.bits)
def bmp(a:Int):Int:=aud a (shU a 31)
def bmt(a:Int):Int:=bmp (IntKind.u64.wrap (aud a (shU a 27) * 10723151780598845931))
def blq(a:Int):Int:=bmt (IntKind.u64.wrap (aud a (shU a 30) * 13787848793156543929))
def aiw(n:Int):Int:=blq (IntKind.u64.wrap (n+11400714819323198485))
theorem aqj{w:World}(n:Int){K:KV}(h:K (.int .u64 (aiw n)) w):ig P F.fo [.int .u64 n] w K:=by
 rw[M.fu.fcall]
 apply M.fu.calls
 unfold M.fu
 have sh: ∀(t:TypeId)(rx ry:Operand)(x y:Int)(hy:0<=y)(w:World)(K:KV),iq P .shr t rx ry (.int .u64 x) (.int .u64 y) w K=K (.int .u64 (shU x y.toNat)) w:=fun t rx ry x y hy w K=>by rw[abo hy];rfl
 have xo: ∀(t:TypeId)(rx ry:Operand)(x y:Int)(w:World)(K:KV),iq P .xor t rx ry (.int .u64 x) (.int .u64 y) w K=K (.int .u64 (aud x y)) w:=fun t rx ry x y w K=>by rw[aso];rfl
 simp only[lr,sh _ _ _ _ 30 (by decide),sh _ _ _ _ 27 (by decide),sh _ _ _ _ 31 (by decide),xo,vh]
 exact h
def atI(id:Int)(i:Nat):Int:=aiw (IntKind.u64.wrap (aiw id+(i:Int)))
theorem atx{w:World}(id:Int){i:Nat}(hi:i < 1000){K:KV}(h:K (.int .u64 (atI id i)) w):ig P F.gz [.int .u64 id,.int .i64 (i:Nat)] w K:=by
 rw[M.gg.fcall]
 apply M.gg.calls
 unfold M.gg
 refine aqj id ?_
 have hw:IntKind.u64.wrap (i:Int)=(i:Int):=me (by omega) (by omega)
 have hc: ∀w K,cvT P T.d T.a (.int .i64 (i:Nat)) w K=K (.int .u64 (i:Nat)) w:=fun w K=>by rw[oh (ks:= .i64) (kd:= .u64) (by kernel_rfl) (by kernel_rfl),hw]
 simp only[hc,lr]
 exact aqj _ h
def aau(id:Int)(n:Nat):List Pnt:=(List.range n).map fun i=>⟨atI id i,id⟩
def aba(ids:List Int)(n:Nat):List Pnt:=ids.flatMap fun id=>aau id n
theorem aei(id:Int)(n:Nat):(aau id n).length=n:=by simp[aau]
theorem aek(ids:List Int)(n:Nat):(aba ids n).length=ids.length * n:=by
 unfold aba
 induction ids with
 | nil=>simp
 | cons a l ih=>rw[List.flatMap_cons,List.length_append,ih,aei,List.length_cons,Nat.add_mul];omega
theorem aze(id:Int){n i:Nat}(hi:i < n):(aau id n).take (i+1)=(aau id n).take i ++ [⟨atI id i,id⟩]:=by
 rw[List.take_succ_eq_append_getElem (by rw[aei];exact hi)]
 simp[aau]
theorem ayu{ids:List Int}{n i:Nat}(hi:i < ids.length):aba (ids.take (i+1)) n=aba (ids.take i) n ++ aau ids[i] n:=by
 unfold aba
 rw[List.take_succ_eq_append_getElem hi,List.flatMap_append]
 simp
section
variable {w0 w : World} {R : List Asn}
theorem bkh(x:Pnt)(w':World)(K:KV):bsT P T.am 1 #[(0,.agg #[.int .u64 x.at',.int .u64 x.id])] w' K=K (.slice (some ⟨w'.heap.size,0,none⟩) 1 1) (w'.alloc (.cells #[.int .u64 x.at',.int .u64 x.id] T.aq)):=kr
theorem bax{g n cap:Nat}{l:List Pnt}(S:St w0 w (tp (vS g n cap) l :: R))(hn:n<=12){K:KV}(h: ∀w' l',abr l'->l'.Perm l->St w0 w' (tp (vS g n cap) l' :: R)->K (.tuple #[]) w'):ig P F.ai [vS g n cap,CF] w K:=by
 have hlen:=asv S
 rw[M.ay.fcall]
 apply M.ay.calls
 unfold M.ay
 have hw:IntKind.u64.wrap (n:Int)=(n:Int):=me (by omega) (by omega)
 have hc: ∀w K,cvT P T.d T.br (.int .i64 (n:Nat)) w K=K (.int .u64 (n:Nat)) w:=fun w K=>by rw[oh (ks:= .i64) (kd:= .u64) (by kernel_rfl) (by kernel_rfl),hw]
 simp[hc]
 rw[M.ds.fcall]
 refine ahd (x:=n) (by omega) ?_
 rw[M.b.fcall]
 apply M.b.calls
 unfold M.b
 refine⟨fun x w1=>(gv x 5= .int .i64 ((0:Nat):Int)/\gv x 13= .int .i64 (n:Nat))/\w1=w,fun _ _=>0,⟨⟨rfl,rfl⟩,rfl⟩,?_⟩
 rintro x w1 ⟨⟨x5,x13⟩,rfl⟩
 unfold M.b.j0
 have hs:IntKind.i64.wrap ((n:Int) - 0)=n:=by rw[iz];omega
 have h12:(n:Int)<=12:=by omega
 simp only[im,x5,x13,na]
 simp only[Int.natCast_zero,hs,adz,h12,decide_true,Eng.cond_true,ii]
 refine bjm (X:=[]) (A:=l) (Y:=[]) (a:=0) (b:=n) (by simpa using S) (by omega) rfl (by omega) fun w' C h1 h2 S'=>h w' C h1 h2 (by simpa using S')
end
def anw:Int->List Int->Prop
 | _,[]=>True
 | a,x :: l=>a < x/\anw x l
def bna(w0:World)(ids:List Int)(R:List Asn):KL:=fun x w1=> ∃(u:Value)(ke:Int)(i:Nat),x=[u,.slice none 0 0,.int .i64 0,.int .u64 ke,.int .i64 (i:Nat)]/\i<=ids.length/\anw ke (ids.drop i)/\St w0 w1 R
def MkO(w0:World)(ids:List Int)(n:Nat)(R:List Asn):KL:=fun x w1=> ∃(u0 u1 u2 u3 v:Value)(i:Nat),x=[u0,u1,u2,u3,v,.int .i64 (i:Nat)]/\i<=ids.length/\St w0 w1 (tp v (aba (ids.take i) n) :: R)
def MkN(w0:World)(pre:List Pnt)(id:Int)(n:Nat)(R:List Asn):KL:=fun x w1=> ∃(u v:Value)(j:Nat),x=[u,v,.int .i64 (j:Nat)]/\j<=n/\St w0 w1 (tp v (pre ++ (aau id n).take j) :: R)
section
variable {w0 w : World} {R : List Asn}
theorem bbp{v:Value}{l:List Pnt}(S:St w0 w (tp v l :: R))(hn:l.length<=12)(hl:l≠[]){K:KV}(h: ∀w' l',abr l'->l'.Perm l->St w0 w' (tp v l' :: R)->K (.tuple #[]) w'):ig P F.ai [v,CF] w K:=by
 obtain⟨b,cap,cur,hv,_⟩:=S.ahg (k:=0) (List.length_pos_iff.2 hl)
 subst hv
 exact bax S hn h
theorem bhg{v:Value}{ids:List Int}{n:Nat}(S:St w0 w R)(hs: ∀w' L,St w0 w' (L ++ R)->Sl w' 1 Suint64.rk v ids)(hr:anw 0 ids)(hn:1<=n/\n<=12)(hlen:ids.length * n<=12)(hl:ids≠[])(hl12:ids.length<=12){K:KV}(h: ∀w' v' l,abr l->l.Perm (aba ids n)->St w0 w' (tp v' l :: R)->K (.tuple #[v',.int .i64 0]) w'):ig P F.gs [v,.int .i64 (n:Nat)] w K:=by
 rw[M.bo.fcall]
 apply M.bo.calls
 unfold M.bo
 have hln: ∀w' K,biT P .len #[T.h] T.d [false] [v] w' K=K (.int .i64 ids.length) w':=fun w' K=>(hs w [] S).jr (by kernel_rfl) [false]
 simp only[im,hln]
 refine⟨bna w0 ids R,fun x _=>ids.length - ms x 4,⟨_,0,0,rfl,Nat.zero_le _,by simpa using hr,S⟩,?_⟩
 rintro x w1 ⟨u,ke,i,rfl,hi,hri,S1⟩
 have q4:gv [u,.slice none 0 0,.int .i64 0,.int .u64 ke,.int .i64 (i:Nat)] 4= .int .i64 (i:Nat):=rfl
 simp only[q4]
 by_cases hil:i < ids.length
 ·have hili:(i:Int) < ids.length:=by omega
  have hwi:IntKind.i64.wrap ((i:Int)+1)=((i+1:Nat):Int):=by rw[iz];rfl
  obtain⟨ab,ao,cap,hv,_,_,hc⟩:=(hs w1 [] S1).at hil
  have hia: ∀w' K,iaT P T.h v (.int .i64 (i:Nat)) w' K=K (.pointer (some ⟨ab,ao+i,none⟩)) w':=fun w' K=>by rw[hv];simp[hil]
  have hcell:il w1 ab (ao+i)=some (.int .u64 ids[i]):=by simpa [Suint64.rk] using hc 0 _ rfl
  have hd:ids.drop i=ids[i] :: ids.drop (i+1):=List.drop_eq_getElem_cons hil
  rw[hd] at hri
  have hlt: ¬ids[i]<=ke:=by have:=hri.1;omega
  simp[hili]
  unfold M.bo.j2
  simp[hia,hcell,hlt,hwi]
  exact⟨⟨_,_,i+1,rfl,by omega,hri.2,S1⟩,by simp[ms,gv];omega⟩
 have hie:i=ids.length:=by omega
 subst hie
 simp
 unfold M.bo.j0
 have n1: ¬(n:Int) < 1:=by omega
 have n2: ¬(64:Int) < (n:Int):=by omega
 have n3: ¬(16:Int) < (ids.length:Int):=by omega
 simp[n1,n2]
 unfold M.bo.j6
 simp[hln,n3]
 unfold M.bo.j5
 simp only[im,hln]
 refine⟨MkO w0 ids n R,fun x _=>ids.length - ms x 5,⟨_,_,_,_,_,0,rfl,Nat.zero_le _,Go.Eng.yw S1⟩,?_⟩
 rintro x w2 ⟨u0,u1,u2,u3,rv,i,rfl,hi,S2⟩
 by_cases hil:i < ids.length
 ·have hili:(i:Int) < ids.length:=by omega
  have hwi:IntKind.i64.wrap ((i:Int)+1)=((i+1:Nat):Int):=by rw[iz];rfl
  obtain⟨ab,ao,cap,hv,_,_,hc⟩:=(hs w2 [_] S2).at hil
  have hia: ∀w' K,iaT P T.h v (.int .i64 (i:Nat)) w' K=K (.pointer (some ⟨ab,ao+i,none⟩)) w':=fun w' K=>by rw[hv];simp[hil]
  have hcell:il w2 ab (ao+i)=some (.int .u64 ids[i]):=by simpa [Suint64.rk] using hc 0 _ rfl
  have htk:=ayu (n:=n) hil
  have hpl:(aba (ids.take i) n).length+n<=1000:=by
   rw[aek,List.length_take,Nat.min_eq_left (by omega)]
   have:=Nat.mul_le_mul hi (Nat.le_refl n)
   omega
  generalize ids[i]=id at *
  simp[hili]
  unfold M.bo.j9
  simp[hia,hcell]
  refine⟨MkN w0 (aba (ids.take i) n) id n R,fun x _=>n - ms x 2,⟨_,_,0,rfl,Nat.zero_le _,by simpa using S2⟩,?_⟩
  rintro x w3 ⟨u,rv3,j,rfl,hj,S3⟩
  by_cases hjn:j < n
  ·have hjni:(j:Int) < n:=by omega
   have hwj:IntKind.i64.wrap ((j:Int)+1)=((j+1:Nat):Int):=by rw[iz];rfl
   simp[hjni]
   unfold M.bo.j12
   simp
   refine atx id (i:=j) (by omega) ?_
   simp[bkh ⟨atI id j,id⟩]
   have S4:St w0 (w3.alloc (.cells #[.int .u64 (atI id j),.int .u64 id] T.aq)) (tp (.slice (some ⟨w3.heap.size,0,none⟩) 1 1) [⟨atI id j,id⟩] :: _):=St.uj (l:=[(⟨atI id j,id⟩:Pnt)]) S3 vo rfl (by simp[maxLen])
   have htl:((aau id n).take j).length<=n:=by rw[List.length_take,aei];omega
   refine Go.Eng.ui et.am vo amq S4.swap (S4.row vo) (by simp;omega) (by decide) fun w5 v5 S5=>?_
   simp[hwj]
   refine⟨⟨_,_,j+1,rfl,by omega,?_⟩,by simp[ms,gv];omega⟩
   rw[aze id hjn,<-List.append_assoc]
   exact S5.swap.drop
  ·have hje:j=n:=by omega
   subst hje
   simp[hwi]
   refine⟨⟨_,_,_,_,_,i+1,rfl,by omega,?_⟩,by simp[ms,gv];omega⟩
   rw[htk]
   have e:(aau id j).take j=aau id j:=List.take_of_length_le (by rw[aei];exact Nat.le_refl _)
   rw[e] at S3
   exact S3
 ·have hie:i=ids.length:=by omega
  subst hie
  rw[List.take_length] at S2
  simp
  have hpl:=aek ids n
  have hne:aba ids n≠[]:=fun e=>by
   rw[e] at hpl
   have h1:=List.length_pos_iff.2 hl
   have:=Nat.mul_pos h1 (show 0 < n by omega)
   simp at hpl
   omega
  refine bbp S2 (by rw[hpl];exact hlen) hne fun w3 l' a1 a2 S3=>?_
  exact h w3 rv l' a1 a2 S3
def BsI(w0:World)(l:List Pnt)(n:Int)(R:List Asn):KL:=fun x w1=> ∃(u:Value)(i j:Nat),x=[u,.int .i64 (i:Nat),.int .i64 (j:Nat)]/\i<=j/\j<=l.length/\(∀k (hk:k < l.length),k < i->l[k].at' < n)/\(∀k (hk:k < l.length),j<=k->n<=l[k].at')/\St w0 w1 R
theorem axb{x:Pnt}{n:Int}(S:St w0 w R){K:KV}(h: ∀w',St w0 w' R->K (.int .i64 (vq x.at' n)) w'):ku P (.func (.func F.gl) #[] #[]) [wq x,.int .u64 n] w K:=by
 rw[M.ga.rcall]
 apply M.ga.calls
 unfold M.ga wq
 refine St.qt S fun b w1 S1=>?_
 have c0:il w1 b 0=some (.int .u64 x.at'):=by rw[S1.cell];rfl
 simp[c0]
 exact aja _ _ (h w1 S1.drop)
theorem azn{l:List Pnt}(h:abr l){i j:Nat}(hij:i<=j)(hj:j < l.length):(l[i]'(by omega)).at'<=l[j].at':=by
 by_cases he:i=j
 ·subst he;exact Int.le_refl _
 ·have:=List.pairwise_iff_getElem.1 h i j (by omega) hj (by omega)
  unfold leS at this
  omega
theorem bli{v:Value}{l:List Pnt}(S:St w0 w R)(hs: ∀w' L,St w0 w' (L ++ R)->avc w' v l)(hl:l.length<=100000)(ha:abr l)(n:Int){K:KV}
  (h: ∀w' (i:Nat) bb,i<=l.length->(∀k (hk:k < l.length),k < i->l[k].at' < n)->(∀k (hk:k < l.length),i<=k->n<=l[k].at')->St w0 w' R->K (.tuple #[.int .i64 (i:Nat),.bool bb]) w'):ig P F.w [v,.int .u64 n,.func (.func F.gl) #[] #[]] w K:=by
 rw[M.c.fcall]
 apply M.c.calls
 unfold M.c
 have hln: ∀w' K,biT P .len #[T.am] T.d [false] [v] w' K=K (.int .i64 l.length) w':=fun w' K=>(hs w [] S).jr (by kernel_rfl) [false]
 simp only[im,hln]
 refine⟨BsI w0 l n R,fun x _=>ms x 2 - ms x 1,⟨_,0,l.length,rfl,Nat.zero_le _,Nat.le_refl _,fun _ _ h=>by omega,fun _ _ h=>by omega,S⟩,?_⟩
 rintro x w1 ⟨u,i,j,rfl,hij,hj,hlo,hhi,S1⟩
 have ia: ∀(k:Nat),k < l.length->∃ab ao,(∀w' K,iaT P T.am v (.int .i64 (k:Nat)) w' K=K (.pointer (some ⟨ab,ao+k * 2,none⟩)) w')/\∀(hk:k < l.length) K,ldN P 2 ab (ao+k * 2) w1 K=K (wq l[k]) w1:=fun k hk=>by
  obtain⟨ab,ao,cap,hv,_,_,hc⟩:=(hs w1 [] S1).at hk
  exact⟨ab,ao,fun w' K=>by rw[hv];simp[hk],fun _ K=>sf (xk l[k]) 2 rfl hc K⟩
 by_cases hlt:i < j
 ·have hlti:(i:Int) < j:=by omega
  simp[hlti]
  unfold M.c.j2
  have hm:(i+j) / 2 < l.length:=by omega
  have w1':IntKind.i64.wrap ((i:Int)+(j:Int))=((i+j:Nat):Int):=by rw[iz];rfl
  have w2':IntKind.u64.wrap ((i+j:Nat):Int)=((i+j:Nat):Int):=me (by omega) (by omega)
  have c1: ∀w K,cvT P T.d T.br (.int .i64 ((i+j:Nat):Int)) w K=K (.int .u64 ((i+j:Nat):Int)) w:=fun w K=>by rw[oh (ks:= .i64) (kd:= .u64) (by kernel_rfl) (by kernel_rfl),w2']
  have hsh: ∀(rx ry:Operand)(w:World)(K:KV),iq P .shr T.br rx ry (.int .u64 ((i+j:Nat):Int)) (.int .u64 1) w K=K (.int .u64 (((i+j) / 2:Nat):Int)) w:=fun rx ry w K=>by
   rw[abo (by omega)]
   have e:((i+j:Nat):Int).fdiv (2 ^ min (1:Int).toNat IntKind.u64.bits)=(((i+j) / 2:Nat):Int):=by
    show ((i+j:Nat):Int).fdiv 2=_
    rw[Int.fdiv_eq_ediv_of_nonneg _ (by omega)]
    omega
   rw[e]
  have c2: ∀w K,cvT P T.br T.d (.int .u64 (((i+j) / 2:Nat):Int)) w K=K (.int .i64 (((i+j) / 2:Nat):Int)) w:=fun w K=>by rw[oh (ks:= .u64) (kd:= .i64) (by kernel_rfl) (by kernel_rfl),iz]
  obtain⟨ab,ao,e1,e2⟩:=ia _ hm
  have e2:=e2 hm
  have g1:gv [u,Value.int .i64 (i:Nat),.int .i64 (j:Nat)] 1= .int .i64 (i:Nat):=rfl
  have g2:gv [u,Value.int .i64 (i:Nat),.int .i64 (j:Nat)] 2= .int .i64 (j:Nat):=rfl
  simp only[g1,g2,lr,w1',c1,hsh,c2,e1]
  generalize hmm:(i+j) / 2=m at *
  simp[e2]
  refine axb S1 fun w2 S2=>?_
  have hwm:IntKind.i64.wrap ((m:Int)+1)=((m+1:Nat):Int):=by rw[iz];rfl
  by_cases hc:l[m].at' < n
  ·have hc':vq l[m].at' n < 0:=by unfold vq;rw[if_pos hc];decide
   simp[hc',hwm]
   refine⟨⟨_,m+1,j,rfl,by omega,hj,fun k hk hkm=>?_,hhi,S2⟩,by simp[ms,gv];omega⟩
   have:=azn ha (i:=k) (j:=m) (by omega) hm
   omega
  ·have hc': ¬vq l[m].at' n < 0:=by
    unfold vq
    rw[if_neg hc]
    split <;>decide
   simp[hc']
   refine⟨⟨_,i,m,rfl,by omega,by omega,hlo,fun k hk hkm=>?_,S2⟩,by simp[ms,gv];omega⟩
   have:=azn ha (i:=m) (j:=k) hkm hk
   omega
 ·have hie:i=j:=by omega
  subst hie
  simp
  unfold M.c.j0
  by_cases hil:i < l.length
  ·have hili:(i:Int) < l.length:=by omega
   obtain⟨ab,ao,e1,e2⟩:=ia _ hil
   have e2:=e2 hil
   simp[hili,e1,e2]
   refine axb S1 fun w2 S2=>?_
   simp
   exact h w2 i _ hj hlo hhi S2
  ·have hili: ¬(i:Int) < l.length:=by omega
   simp[hili]
   exact h w1 i _ hj hlo hhi S1
def adp(l:List Pnt)(n:Int):Int:=((l.getD ((l.filter fun p=>decide (p.at' < n)).length % l.length) ⟨0,0⟩)).id
theorem bbr{l:List Pnt}{n:Int}{i:Nat}(hi:i<=l.length)(h1: ∀k (hk:k < l.length),k < i->l[k].at' < n)(h2: ∀k (hk:k < l.length),i<=k->n<=l[k].at'):(l.filter fun p=>decide (p.at' < n)).length=i:=by
 have e:l=l.take i ++ l.drop i:=(List.take_append_drop i l).symm
 rw[e,List.filter_append,List.length_append]
 have a1:(l.take i).filter (fun p=>decide (p.at' < n))=l.take i:=by
  rw[List.filter_eq_self]
  intro p hp
  obtain⟨k,hk,rfl⟩:=List.mem_iff_getElem.1 hp
  rw[List.length_take] at hk
  rw[List.getElem_take]
  exact decide_eq_true (h1 k (by omega) (by omega))
 have a2:(l.drop i).filter (fun p=>decide (p.at' < n))=[]:=by
  rw[List.filter_eq_nil_iff]
  intro p hp
  obtain⟨k,hk,rfl⟩:=List.mem_iff_getElem.1 hp
  rw[List.length_drop] at hk
  rw[List.getElem_drop]
  have:=h2 (i+k) (by omega) (by omega)
  simp
  try omega
 rw[a1,a2,List.length_take]
 simp
 try omega
theorem baw{v:Value}{l:List Pnt}(S:St w0 w R)(hs: ∀w' L,St w0 w' (L ++ R)->avc w' v l)(hl:l.length<=100000)(hne:l≠[])(ha:abr l)(t:Int){K:KV}(h: ∀w',St w0 w' R->K (.int .u64 (adp l (aiw t))) w'):ig P F.go [v,.int .u64 t] w K:=by
 have hpos:=List.length_pos_iff.2 hne
 rw[M.fp.fcall]
 apply M.fp.calls
 unfold M.fp
 refine aqj t ?_
 rw[M.ft.fcall]
 apply M.ft.calls
 unfold M.ft
 have hln: ∀w' K,biT P .len #[T.am] T.d [false] [v] w' K=K (.int .i64 l.length) w':=fun w' K=>(hs w [] S).jr (by kernel_rfl) [false]
 have h0: ¬(l.length:Int)=0:=by omega
 simp[hln,h0,hne]
 unfold M.ft.j0
 refine bli S hs hl ha (aiw t) fun w1 i bb hi h1 h2 S1=>?_
 have hf:=bbr hi h1 h2
 have hrem:(i:Int).tmod (l.length:Int)=((i % l.length:Nat):Int):=by
  rw[<-Int.ofNat_tmod]
 have hm:i % l.length < l.length:=Nat.mod_lt _ hpos
 have hown:adp l (aiw t)=l[i % l.length].id:=by
  unfold adp
  rw[hf,List.getD_eq_getElem?_getD,List.getElem?_eq_getElem hm]
  rfl
 rw[hown] at h
 generalize i % l.length=m at *
 obtain⟨ab,ao,cap,hv,_,_,hc⟩:=(hs w1 [] S1).at hm
 have hia: ∀w' K,iaT P T.am v (.int .i64 (m:Nat)) w' K=K (.pointer (some ⟨ab,ao+m * 2,none⟩)) w':=fun w' K=>by rw[hv];simp[hm]
 have hcell:il w1 ab (ao+m * 2+1)=some (.int .u64 l[m].id):=by simpa [xk] using hc 1 _ rfl
 simp only[aam,aae,hln,atc h0,hrem,hia]
 simp[hcell]
 exact h w1 S1
theorem bae{l:List Pnt}{id:Int}(h: ∀p∈l,p.id=id)(hne:l≠[])(n:Int):adp l n=id:=by
 unfold adp
 have hm:(l.filter fun p=>decide (p.at' < n)).length % l.length < l.length:=Nat.mod_lt _ (List.length_pos_iff.2 hne)
 rw[List.getD_eq_getElem?_getD,List.getElem?_eq_getElem hm]
 exact h _ (List.getElem_mem hm)
end
end Go.Proofs.YtgepcfcicngceaaGreatDoor.Ring
set_option maxRecDepth 100000
namespace Go.Proofs.YtgepcfcicngceaaGreatDoor
open Go.Eng Go.Proofs.YtgepcfcicngceaaGreatDoor.Sint
def aur(w0:World)(R:List Asn)(fv:Value)(pf:Spn->Bool):Prop:= ∀w' L x (K:KV),St w0 w' (L ++ R)->(∀w'',Fz w' w''->K (.bool (pf x)) w'')->ku P fv [lx x] w' K
section
variable {w0 w : World} {R : List Asn} {v fv : Value} {l : List Spn} {pf : Spn → Bool}
def bly(w0:World)(l:List Spn)(pf:Spn->Bool)(R:List Asn):KL:=fun x w1=> ∃(i:Nat),gv x 2= .int .i64 (i:Nat)/\i<=l.length/\(∀j (h:j < l.length),j < i->pf l[j]=false)/\St w0 w1 R
theorem azl(S:St w0 w R)(hs: ∀w' L,St w0 w' (L ++ R)->SlS w' v l)(hf:aur w0 R fv pf)(hl:l.length<=1000000){K:KV}
  (hno:(∀x∈l,pf x=false)->∀w',St w0 w' R->K (.int .i64 (-1)) w')
  (hyes: ∀i (hi:i < l.length),pf l[i]=true->(∀j (h:j < l.length),j < i->pf l[j]=false)->∀w',St w0 w' R->K (.int .i64 (i:Nat)) w'):ig P F.bc [v,fv] w K:=by
 rw[M.l.fcall]
 apply M.l.calls
 unfold M.l
 have hlen: ∀w' K,biT P .len #[T.g] T.d [false] [v] w' K=K (.int .i64 l.length) w':=fun w' K=>(hs w [] S).jr (by kernel_rfl) [false]
 simp[hlen]
 refine⟨bly w0 l pf R,fun x _=>l.length - ms x 2,⟨0,rfl,Nat.zero_le _,fun j _ h=>by omega,S⟩,?_⟩
 rintro x w1 ⟨i,e2,hi,hpre,S1⟩
 rw[e2]
 by_cases hil:i < l.length
 ·have hwi:IntKind.i64.wrap ((i:Int)+1)=((i+1:Nat):Int):=by rw[iz];rfl
  simp[hil]
  unfold M.l.j2
  rw[e2]
  obtain⟨ab,ao,cap,hv,_,_,hc⟩:=(hs w1 [] S1).at hil
  have hia: ∀w' K,iaT P T.g v (.int .i64 (i:Nat)) w' K=K (.pointer (some ⟨ab,ao+i * 8,none⟩)) w':=fun w' K=>by rw[hv];simp[hil]
  have hld: ∀K,ldN P 8 ab (ao+i * 8) w1 K=K (lx l[i]) w1:=fun K=>sf (kp l[i]) 8 rfl hc K
  simp[hia,hld]
  refine hf w1 [] l[i] _ S1 fun w2 f2=>?_
  have S2:=S1.jv f2
  cases hp:pf l[i] with
  | true=>
   simp
   exact hyes i hil hp hpre w2 S2
  | false=>
   simp
   rw[hwi]
   refine⟨⟨i+1,rfl,by omega,fun j h hj=>?_,S2⟩,?_⟩
   ·by_cases hji:j=i
    ·subst hji;exact hp
    ·exact hpre j h (by omega)
   ·have:ms x 2=i:=by unfold ms;rw[e2];simp
    rw[this]
    simp[ms,gv];omega
 ·have hie:i=l.length:=by omega
  subst hie
  simp
  refine hno (fun y hy=>?_) w1 S1
  obtain⟨j,hj,rfl⟩:=List.getElem_of_mem hy
  exact hpre j hj hj
end
set_option maxRecDepth 100000
structure Rul where
 jf:Bool
 lh:ByteArray
 num:Int
 biw:ByteArray
def lc(r:Rul):List Value:=[.bool r.jf,.string r.lh,.int .u64 r.num,.string r.biw]
theorem vz(r:Rul):(lc r).length=4:=rfl
theorem act(r:Rul): ∀u∈lc r,kq u=true:=fun u hu=>by
 simp[lc] at hu
 rcases hu with rfl|rfl|rfl|rfl <;>rfl
def tk(r:Rul):Value:= .agg #[.bool r.jf,.string r.lh,.int .u64 r.num,.string r.biw]
abbrev ajf(v:Value)(l:List Rul):Asn:=ot T.q 4 lc v l
abbrev sm:ByteArray:=⟨#[102,97,105,108]⟩
abbrev bbw:ByteArray:=⟨#[97,108,119,97,121,115]⟩
def jz:Rul:=⟨true,sm,0,⟨#[]⟩⟩
theorem ary:(sm.toList == bbw.toList)=false:=by decide+kernel
theorem ang:(sm.toList == sm.toList)=true:=by decide+kernel
theorem bgp:((⟨#[]⟩:ByteArray).toList == (⟨#[]⟩:ByteArray).toList)=true:=by decide+kernel
theorem ani{w:World}{K:KV}(h:K (.tuple #[.int .i64 1,.int .u64 0,.int .u64 0]) w):ig P F.fr [.string sm] w K:=by
 rw[M.er.fcall]
 apply M.er.calls
 unfold M.er
 simp only[im,sk,ary,ang,ii]
 unfold M.er.j1
 simp only[ii]
 exact h
section
variable {w0 w : World} {R : List Asn} {v fv : Value} {l : List Spn} {pf : Spn → Bool}
theorem ahx(S:St w0 w R){K:KV}(h: ∀w',St w0 w' R->K (.bool true) w'):ig P F.de [tk jz] w K:=by
 rw[M.ct.fcall]
 apply M.ct.calls
 unfold M.ct tk jz
 refine St.qt S fun b w1 S1=>?_
 have c1:il w1 b 1=some (.string sm):=by rw[S1.cell];rfl
 have c2:il w1 b 2=some (.int .u64 0):=by rw[S1.cell];rfl
 have c3:il w1 b 3=some (.string ⟨#[]⟩):=by rw[S1.cell];rfl
 simp[c1]
 refine ani ?_
 simp
 unfold M.ct.j0
 simp[c2,c3,sk,bgp]
 exact h w1 S1.drop
theorem aqo(S:St w0 w R)(hs: ∀w' L,St w0 w' (L ++ R)->SlS w' v l)(hf:aur w0 R fv pf)(hl:l.length<=1000000){K:KV}(h: ∀w',St w0 w' R->K (.bool (l.any pf)) w'):ig P F.o [v,fv] w K:=by
 rw[M.aa.fcall]
 apply M.aa.calls
 unfold M.aa
 refine azl S hs hf hl (fun hno w' S'=>?_) fun i hi hyes hpre w' S'=>?_
 ·have e:l.any pf=false:=by
   rw[List.any_eq_false]
   intro x hx
   rw[hno x hx];simp
  rw[e] at h
  simp
  exact h w' S'
 ·have e:l.any pf=true:=by
   rw[List.any_eq_true]
   exact⟨l[i],List.getElem_mem hi,hyes⟩
  rw[e] at h
  have hi0:(0:Int)<=(i:Int):=by omega
  simp[hi0]
  exact h w' S'
theorem ayq:aur w0 R (.func (.func F.el) #[] #[]) Spn.ny:=fun w' L x K S' hK=>by
 rw[M.fb.rcall]
 apply M.fb.calls
 unfold M.fb lx
 have S0:=St.kl w'
 refine St.qt S0 fun b w1 S1=>?_
 have c7:il w1 b 7=some (.bool x.ny):=by rw[S1.cell];rfl
 simp[c7]
 exact hK w1 S1.fr
def anu(l:List Spn):Int:=if l=[] then 0 else if l.any Spn.ny then 1 else 2
theorem aus(S:St w0 w R)(hs: ∀w' L,St w0 w' (L ++ R)->SlS w' v l)(hl:l.length<=1000000)(hne:l≠[]){K:KV}(h: ∀w',St w0 w' R->K (.bool (l.any Spn.ny)) w'):ig P F.ge [tk jz,v] w K:=by
 rw[M.dw.fcall]
 apply M.dw.calls
 unfold M.dw
 have hlen: ∀w' K,biT P .len #[T.g] T.d [false] [v] w' K=K (.int .i64 l.length) w':=fun w' K=>(hs w [] S).jr (by kernel_rfl) [false]
 obtain⟨a,cap,hv,_⟩:=hs w [] S
 rw[show tk jz= .agg (lc jz).toArray from rfl]
 refine St.qt S fun b w1 S1=>?_
 rw[tm]
 have hvc:v.cells= #[v]:=by rw[hv];rfl
 have S2:St w0 (w1.alloc (.cells #[v] T.g)) (ja w1.heap.size #[v] T.g :: ja b (lc jz).toArray T.q :: R):=S1.mkB #[v] T.g
 rw[hvc]
 generalize w1.heap.size=vb at *
 generalize w1.alloc _=w2 at *
 have ld4: ∀{w':World}{L:List Asn},St w0 w' (ja b (lc jz).toArray T.q :: L)->∀K,ldN P 4 b 0 w' K=K (tk jz) w':=fun S' K=>S'.ldA (n:=4) (i:=0) (lc jz) rfl rfl K
 simp[ld4 S2.swap]
 refine ahx S2 fun w3 S3=>?_
 have c0:il w3 vb 0=some v:=by rw[S3.cell];rfl
 have h0: ¬(l.length:Int)=0:=by have:=List.length_pos_iff.2 hne;omega
 simp[c0,hlen,h0,hne]
 unfold M.dw.j0
 have c1:il w3 b 1=some (.string sm):=by rw[S3.swap.cell];rfl
 simp only[im,aal]
 simp[c1,sk,ang]
 have hc:=aij (P:=P) FN.cs.at (by kernel_rfl) (by kernel_rfl) [] [.pointer (some ⟨vb,0,none⟩)] [.func (.func F.el) #[] #[]] w3
 simp only[List.nil_append,List.cons_append] at hc
 rw[show (#[.pointer (some ⟨vb,0,none⟩)]:Array Value)=[Value.pointer (some ⟨vb,0,none⟩)].toArray from rfl,show (#[]:Array Value)=([]:List Value).toArray from rfl] at *
 rw[hc]
 apply M.fw.calls
 unfold M.fw
 simp[c0]
 exact aqo S3 (fun w' L S'=>hs w' (L ++ [_,_]) (by simpa using S')) ayq hl fun w' S'=>h w' S'.drop.drop
end
section
variable {w0 w : World} {R : List Asn} {v rv : Value} {l : List Spn}
theorem bdd(S:St w0 w R)(hr: ∀w' L,St w0 w' (L ++ R)->Sl w' 4 lc rv [jz])(hs: ∀w' L,St w0 w' (L ++ R)->SlS w' v l)(hl:l.length<=1000000){K:KV}(h: ∀w',St w0 w' R->K (.int .i64 (anu l)) w'):ig P F.gi [rv,v] w K:=by
 rw[M.eo.fcall]
 apply M.eo.calls
 unfold M.eo
 have hlen: ∀w' K,biT P .len #[T.g] T.d [false] [v] w' K=K (.int .i64 l.length) w':=fun w' K=>(hs w [] S).jr (by kernel_rfl) [false]
 obtain⟨a,cap,hv,_⟩:=hs w [] S
 have hvc:v.cells= #[v]:=by rw[hv];rfl
 rw[tm,hvc]
 have S2:St w0 (w.alloc (.cells #[v] T.g)) (ja w.heap.size #[v] T.g :: R):=S.mkB #[v] T.g
 generalize w.heap.size=vb at *
 generalize w.alloc _=w2 at *
 have c0: ∀{w':World}{L:List Asn},St w0 w' (ja vb #[v] T.g :: L)->il w' vb 0=some v:=fun S'=>by rw[S'.cell];rfl
 by_cases hne:l=[]
 ·subst hne
  simp[c0 S2,hlen]
  exact h w2 S2.drop
 ·have h0: ¬(l.length:Int)=0:=by have:=List.length_pos_iff.2 hne;omega
  simp[c0 S2,hlen,h0,hne]
  unfold M.eo.j0
  rw[aal,M.s.fcall]
  apply M.s.calls
  unfold M.s
  have hlr: ∀w' K,biT P .len #[T.ad] T.d [false] [rv] w' K=K (.int .i64 1) w':=fun w' K=>(hr w2 [_] S2).jr (by kernel_rfl) [false]
  simp only[im,hlr]
  refine⟨fun x w1=> ∃(i:Nat),gv x 2= .int .i64 (i:Nat)/\i<=1/\(i=1->l.any Spn.ny=false)/\St w0 w1 (ja vb #[v] T.g :: R),fun x _=>1 - ms x 2,⟨0,rfl,Nat.zero_le _,fun h=>by omega,S2⟩,?_⟩
  rintro x w3 ⟨i,x2,hi,hany,S3⟩
  rw[x2]
  by_cases hi0:i=0
  ·subst hi0
   simp
   unfold M.s.j2
   rw[x2]
   obtain⟨ab,ao,cap,hrv,_,_,hc⟩:=(hr w3 [_] S3).at (i:=0) (by simp)
   have hia: ∀w' K,iaT P T.ad rv (.int .i64 ((0:Nat):Int)) w' K=K (.pointer (some ⟨ab,ao,none⟩)) w':=fun w' K=>by rw[hrv];simp
   have hld: ∀K,ldN P 4 ab ao w3 K=K (tk jz) w3:=fun K=>sf (lc jz) 4 rfl (fun k u hk=>by have:=hc k u hk;simpa using this) K
   simp only[im,hia]
   simp[hld]
   have hcl:=fun K=>aij (P:=P) FN.db.at (by kernel_rfl) (by kernel_rfl) [] [.pointer (some ⟨vb,0,none⟩)] [tk jz] w3 K
   simp only[List.nil_append,List.cons_append] at hcl
   rw[hcl]
   apply M.fx.calls
   unfold M.fx
   rw[show tk jz= .agg (lc jz).toArray from rfl]
   refine St.qt S3 fun b w4 S4=>?_
   have ld4: ∀K,ldN P 4 b 0 w4 K=K (tk jz) w4:=fun K=>S4.ldA (n:=4) (i:=0) (lc jz) rfl rfl K
   simp[ld4,c0 S4.swap]
   refine aus S4 (fun w' L S'=>hs w' (L ++ [_,_]) (by simpa using S')) hl hne fun w5 S5=>?_
   have S6:=S5.drop
   cases ha:l.any Spn.ny with
   | true=>
    have hw:=h w5 S6.drop
    unfold anu at hw
    rw[if_neg hne,ha] at hw
    have ck:il w5 ab ao=some (.bool true):=by
     obtain⟨ab',ao',cap',hrv',_,_,hc'⟩:=(hr w5 [_] S6).at (i:=0) (by simp)
     rw[hrv] at hrv'
     injection hrv' with e1 _ _
     injection e1 with e1
     injection e1 with e1 e2 _
     subst e1 e2
     have:=hc' 0 _ rfl
     simpa [jz] using this
    have hia0: ∀w' K,iaT P T.ad rv (.int .i64 0) w' K=K (.pointer (some ⟨ab,ao,none⟩)) w':=hia
    simp[hia0,ck]
    exact hw
   | false=>
    simp
    exact⟨⟨1,rfl,Nat.le_refl _,fun _=>by simpa using ha,S6⟩,by simp[ms,gv,x2,show IntKind.i64.wrap 1=1 from by decide]⟩
  ·have hi1:i=1:=by omega
   subst hi1
   simp
   have hw:=h w3 S3.drop
   unfold anu at hw
   rw[if_neg hne,hany rfl] at hw
   exact hw
end
abbrev aan:ByteArray:=⟨#[107,101,101,112]⟩
abbrev kv:ByteArray:=⟨#[107,101,101,112,32,102,97,105,108]⟩
section
variable {w0 w : World} {R : List Asn}
theorem bak(c:UInt8)(w:World)(K:KV):ixT P T.l (.string ⟨#[c]⟩) (.int .i64 0) w K=K (.int .u8 (c.toNat:Nat)) w:=apv (⟨#[c]⟩:ByteArray) (i:=0) (Nat.lt_succ_self 0) w K
theorem bjn(s:ByteArray)(c:UInt8){K:KV}(h:K (.int .i64 (Lib.countByte s.data.toList c:Nat)) w):ig P F.ah [.string s,.int .u8 (c.toNat:Nat)] w K:=by
 unfold ig kw
 rw[run_callFunc_extern (e:=Extern.BytealgCount.count) FN.ah.at (by kernel_rfl) (by kernel_rfl) (by kernel_rfl) (by kernel_rfl)]
 have hr:=Lib.run_countString (P:=P) s (c.toNat:Int) w
 rw[show ((c.toNat:Int).toNat.toUInt8)=c from by simp] at hr
 rw[show [Value.string s,.int .u8 ((c.toNat:Nat):Int)].toArray= #[.string s,.int .u8 (c.toNat:Int)] from rfl,hr]
 exact h
theorem bjo(s:ByteArray)(c:UInt8){K:KV}(h:K (.int .i64 (Lib.indexByte s.data.toList c)) w):ig P F.x [.string s,.int .u8 (c.toNat:Nat)] w K:=by
 unfold ig kw
 rw[run_callFunc_extern (e:=Extern.BytealgIndexByte.indexByte) FN.x.at (by kernel_rfl) (by kernel_rfl) (by kernel_rfl) (by kernel_rfl)]
 have hr:=Lib.run_indexByteString (P:=P) s (c.toNat:Int) w
 rw[show ((c.toNat:Int).toNat.toUInt8)=c from by simp] at hr
 rw[show [Value.string s,.int .u8 ((c.toNat:Nat):Int)].toArray= #[.string s,.int .u8 (c.toNat:Int)] from rfl,hr]
 exact h
theorem adu(c:UInt8):(⟨#[c]⟩:ByteArray).size=1:=rfl
theorem amf(s:ByteArray)(c:UInt8){K:KV}(h:K (.int .i64 (Lib.countByte s.data.toList c:Nat)) w):ig P F.et [.string s,.string ⟨#[c]⟩] w K:=by
 rw[M.cl.fcall]
 apply M.cl.calls
 unfold M.cl
 simp[adu]
 unfold M.cl.j0
 simp[adu,bak]
 exact bjn s c h
theorem ana(s:ByteArray)(c:UInt8)(hne:((⟨#[c]⟩:ByteArray).toList == s.toList)=false){K:KV}(h:K (.int .i64 (Lib.indexByte s.data.toList c)) w):ig P F.dq [.string s,.string ⟨#[c]⟩] w K:=by
 rw[M.fc.fcall]
 apply M.fc.calls
 unfold M.fc
 rw[M.q.fcall]
 apply M.q.calls
 unfold M.q
 simp[adu,bak]
 simp only[sk,hne,ii]
 rw[M.bv.fcall]
 apply M.bv.calls
 unfold M.bv
 exact bjo s c h
theorem bnd(w:World)(K:KV):bav P T.bh (.int .i64 2) (.int .i64 2) w K=K (.slice (some ⟨w.heap.size,0,none⟩) 2 2) (w.alloc (.cells #[.string ⟨#[]⟩,.string ⟨#[]⟩] T.l)):=kr
theorem axv(S:St w0 w R){K:KV}(h: ∀w' g,St w0 w' (ja g #[.string aan,.string sm] T.l :: R)->K (.slice (some ⟨g,0,none⟩) 2 2) w'):ig P F.fu [.string kv,.string ⟨#[32]⟩] w K:=by
 rw[M.fd.fcall]
 apply M.fd.calls
 unfold M.fd
 rw[M.aj.fcall]
 apply M.aj.calls
 unfold M.aj
 have e1:((⟨#[32]⟩:ByteArray).toList == (⟨#[]⟩:ByteArray).toList)=false:=by decide+kernel
 simp only[sk,e1]
 simp
 unfold M.aj.j1
 simp
 refine amf kv 32 ?_
 have ec:Lib.countByte kv.data.toList 32=1:=by decide
 rw[ec]
 have w2:IntKind.i64.wrap 2=2:=by decide
 simp[w2]
 unfold M.aj.j2
 have w10:IntKind.i64.wrap ((kv.size:Int)+1)=10:=by decide
 have w21:IntKind.i64.wrap (2 - 1)=1:=by decide
 have m2: ∀w' K',biT P .min #[T.d,T.d] T.d [false,false] [.int .i64 2,.int .i64 10] w' K'=K' (.int .i64 2) w':=fun w' K'=>by rw[ain];rfl
 simp[w10,m2,bnd,w21]
 have S1:=S.mkB #[.string ⟨#[]⟩,.string ⟨#[]⟩] T.l
 generalize w.heap.size=g at *
 generalize w.alloc _=w1 at *
 refine⟨fun x w'=>(x=[undef,.string kv,.int .i64 0]/\St w0 w' (ja g #[.string ⟨#[]⟩,.string ⟨#[]⟩] T.l :: R))\/(∃u,x=[u,.string sm,.int .i64 1]/\St w0 w' (ja g #[.string aan,.string ⟨#[]⟩] T.l :: R)),fun x _=>1 - ms x 2,.inl ⟨rfl,S1⟩,?_⟩
 rintro x w2' (⟨rfl,S2⟩|⟨u,rfl,S2⟩)
 ·simp
  unfold M.aj.j5
  refine ana kv 32 (by decide+kernel) ?_
  have ei:Lib.indexByte kv.data.toList 32=4:=by decide
  rw[ei]
  simp
  unfold M.aj.j6
  have w4:IntKind.i64.wrap 4=4:=by decide
  have w5:IntKind.i64.wrap 5=5:=by decide
  have s1: ∀w' K',slT P T.l (.string kv) none (some (.int .i64 4)) none w' K'=K' (.string aan) w':=fun w' K'=>by
   show slT P T.l (.string kv) none (some (.int .i64 ((4:Nat):Int))) none w' K'=_
   rw[age (i:=0) (j:=4) (by kernel_rfl) (.inl ⟨rfl,rfl⟩) (.inr ⟨_,rfl⟩) (by decide) (by decide)]
   rw[show kv.extract 0 4=aan from by decide+kernel]
  have s2: ∀w' K',slT P T.l (.string kv) (some (.int .i64 5)) none none w' K'=K' (.string sm) w':=fun w' K'=>by
   show slT P T.l (.string kv) (some (.int .i64 ((5:Nat):Int))) none none w' K'=_
   rw[age (i:=5) (j:=9) (by kernel_rfl) (.inr ⟨_,rfl⟩) (.inl ⟨rfl,rfl⟩) (by decide) (by decide)]
   rw[show kv.extract 5 9=sm from by decide+kernel]
  simp[w4,w5,s1,s2,adu]
  refine St.qk S2 rfl (by simp) fun w3 S3=>?_
  have w1:IntKind.i64.wrap 1=1:=by decide
  exact⟨⟨w1,S3⟩,by simp[ms,gv,w1]⟩
 ·simp
  refine St.qk S2 rfl (by simp) fun w3 S3=>?_
  have S4:St w0 w3 (ja g #[.string aan,.string sm] T.l :: R):=S3
  have s3: ∀w' K',slT P T.bh (.slice (some ⟨g,0,none⟩) 2 2) none (some (.int .i64 2)) none w' K'=K' (.slice (some ⟨g,0,none⟩) 2 2) w':=fun w' K'=>by
   rw[awf (by kernel_rfl) (by decide) (by decide)]
   rfl
  simp[w2,s3]
  exact h w3 g S4
end
section
variable {w0 w : World} {R : List Asn}
theorem anh:(aan.toList == aan.toList)=true:=by decide+kernel
abbrev ruB(b:Nat)(r:Rul):Asn:=ja b (lc r).toArray T.q
theorem bcw{b:Nat}{r:Rul}(S:St w0 w (ruB b r :: R)){K:KV}(h: ∀w',St w0 w' (ruB b r :: R)->K (tk r) w'):
  stN P b 0 (lc r) w fun _ w=>ni P T.q (.pointer (some ⟨b,0,none⟩)) w fun r0 w'=>w'=w/\K r0 w:=by
 refine St.put (vs:=lc r) (cs':=(lc r).toArray) S (act r) (by simp[lc]) (by simp[lc]) fun w' S'=>?_
 have hres: ∀w' K,ni P T.q (.pointer (some ⟨b,0,none⟩)) w' K=ldN P 4 b 0 w' K:=fun w' K=>kr
 have ld4: ∀K,ldN P 4 b 0 w' K=K (tk r) w':=fun K=>S'.ldA (n:=4) (i:=0) (lc r) rfl rfl K
 rw[hres,ld4]
 exact⟨rfl,h w' S'⟩
theorem bee(S:St w0 w R){K:KV}(h: ∀w',St w0 w' R->K (.tuple #[tk jz,.bool true]) w'):ig P F.gg [.string kv] w K:=by
 rw[M.di.fcall]
 apply M.di.calls
 unfold M.di
 have S1:St w0 (w.alloc (.cells #[.bool false,.string ⟨#[]⟩,.int .u64 0,.string ⟨#[]⟩] T.q)) (ruB w.heap.size ⟨false,⟨#[]⟩,0,⟨#[]⟩⟩ :: R):=S.mkB _ _
 simp
 generalize w.heap.size=rb at *
 generalize w.alloc _=w1 at *
 refine axv S1 fun w2 g S2=>?_
 have c0:il w2 g 0=some (.string aan):=by rw[S2.cell];rfl
 have c1:il w2 g 1=some (.string sm):=by rw[S2.cell];rfl
 simp[c0]
 simp only[bco,anh]
 simp
 unfold M.di.j0
 simp[c0,c1]
 simp only[sk,anh]
 simp
 have S3:=S2.swap.jv ((Fr.refl _ w2).dr 1)
 refine St.put (vs:=lc jz) (cs':=(lc jz).toArray) S3 (act jz) (by simp[lc]) (by simp[lc]) fun w4 S4=>?_
 have c1:il w4 rb 1=some (.string sm):=by rw[S4.cell];rfl
 simp[c1]
 refine ani ?_
 simp
 unfold M.di.j1
 have S5:=S4.jv ((Fr.refl _ w4).dr 1)
 have ld4: ∀{w':World}{L:List Asn},St w0 w' (ruB rb jz :: L)->∀K,ldN P 4 rb 0 w' K=K (tk jz) w':=fun S' K=>S'.ldA (n:=4) (i:=0) (lc jz) rfl rfl K
 simp[ld4 S5]
 refine ahx S5 fun w6 S6=>?_
 simp[ld4 S6]
 unfold tk jz
 simp
 exact bcw (r:=jz) (K:=fun r w=>K (.tuple #[r,.bool true]) w) S6 fun w' S'=>h w' S'.drop.drop
end
def xa(b:Nat)(o:Obj):Asn where
 ok w B:=w.heap[b]? =some o/\B b
 jf h hf hn:=⟨hf.heap h.1 (hn _ h.2),h.2⟩
def cL:Code->Code
 | .seq x _=>x
 | .block _ c=>c
 | .rangeFunc _ _ x _=>x
 | c=>c
def cR:Code->Code
 | .seq _ y=>y
 | .rangeFunc _ _ _ y=>y
 | c=>c
noncomputable abbrev pcB:Code:=FN.ad.body.getD .skip
noncomputable abbrev pc0:Code:=cL pcB
noncomputable abbrev pc1:Code:=cL (cR pcB)
noncomputable abbrev pc3:Code:=cL (cR (cR pcB))
noncomputable abbrev pc5:Code:=cL (cL (cR (cR (cR pcB))))
noncomputable abbrev pcF:Code:=cL (cR (cL (cR (cR (cR pcB)))))
noncomputable abbrev pcA:Code:=cL pcF
noncomputable abbrev pcD:Code:=cR pcF
noncomputable abbrev pcE:Code:=cR (cR (cR (cR pcB)))
theorem bks:FN.ad.body=some (.seq pc0 (.seq pc1 (.seq pc3 (.seq (.seq pc5 (.block 0 (.rangeFunc (.tmp 18) #[19] pcA pcD))) pcE)))):=by kernel_rfl
theorem blx:ok0 32 pc0=true:=by kernel_rfl
theorem pk1:ok0 32 pc1=true:=by kernel_rfl
theorem pk3:ok0 32 pc3=true:=by kernel_rfl
theorem pk5:ok0 32 pc5=true:=by kernel_rfl
theorem bma:ok0 32 pcA=true:=by kernel_rfl
theorem pkD:ok0 32 pcD=true:=by kernel_rfl
theorem pkE:ok0 32 pcE=true:=by kernel_rfl
section
variable {w0 w : World} {R : List Asn}
theorem pd0(e:Env)(w:World)(Q:Exit->KE):yn P pc0 e w Q=(alT P T.ad w fun t2 w=>alT P T.ac w fun t3 w=>Q .normal (upd (upd e 2 t2) 3 t3) w):=by kernel_rfl
theorem pd1(e:Env)(w:World)(Q:Exit->KE):yn P pc1 e w Q=(biT P .len #[T.l] T.d [false] [e 0] w fun t8 w=>iq P .gtr T.d (.tmp 8) (.const (.int .i64 2048)) t8 (.int .i64 2048) w fun t9 w=>
  ie (isB t9 false) (fun K'=>K' (e 0) w) w fun t11 w=>ie (isB t9 false) (fun K'=>ig P F.et [t11,.string ⟨#[10]⟩] w K') w fun t12 w=>
  ie (isB t9 false) (fun K'=>iq P .geq T.d (.tmp 12) (.const (.int .i64 16)) t12 (.int .i64 16) w K') w fun t13 w=>iw t9 (.bool true) t13 w fun t14 w=>
  ii t14 (stT P T.ad (e 2) (.slice none 0 0) w fun _ w=>stT P T.ac (e 3) (.int .i64 4) w fun _ w=>Q .ret (upd (upd (upd (upd (upd (upd (upd (upd e 7 (e 0)) 8 t8) 9 t9) 10 t9) 11 t11) 12 t12) 13 t13) 14 t14) w)
   (Q .normal (upd (upd (upd (upd (upd (upd (upd (upd e 7 (e 0)) 8 t8) 9 t9) 10 t9) 11 t11) 12 t12) 13 t13) 14 t14) w)):=by kernel_rfl
theorem pd3(e:Env)(w:World)(Q:Exit->KE):yn P pc3 e w Q=(iq P .eql T.l (.tmp 15) (.const (.string ⟨#[]⟩)) (e 0) (.string ⟨#[]⟩) w fun t16 w=>
  ii t16 (stT P T.ad (e 2) (.slice none 0 0) w fun _ w=>stT P T.ac (e 3) (.int .i64 0) w fun _ w=>Q .ret (upd (upd e 15 (e 0)) 16 t16) w) (Q .normal (upd (upd e 15 (e 0)) 16 t16) w)):=by kernel_rfl
theorem pd5(e:Env)(w:World)(Q:Exit->KE):yn P pc5 e w Q=(ig P F.fv [e 0,.string ⟨#[10]⟩] w fun t18 w=>Q .normal (upd (upd e 17 (e 0)) 18 t18) w):=by kernel_rfl
theorem pdA(e:Env)(w:World)(Q:Exit->KE):yn P pcA e w Q=Q .normal (upd e 4 (e 19)) w:=by kernel_rfl
theorem pdD(e:Env)(w:World)(Q:Exit->KE):yn P pcD e w Q=(ig P F.gg [e 4] w fun t22 w=>exT P t22 0 w fun t23 w=>exT P t22 1 w fun t24 w=>alT P T.q w fun t5 w=>stT P T.q t5 t23 w fun _ w=>unT P .not t24 w fun t26 w=>
  ii t26 (stT P T.ad (e 2) (.slice none 0 0) w fun _ w=>stT P T.ac (e 3) (.int .i64 7) w fun _ w=>zi 1 Q .ret (upd (upd (upd (upd (upd (upd (upd (upd (upd e 21 (e 4)) 22 t22) 20 t22) 23 t23) 24 t24) 5 t5) 6 t24) 25 t24) 26 t26) w)
   (ldT P T.ad (e 2) w fun t27 w=>ldT P T.q t5 w fun t28 w=>bsT P T.ad 1 #[(0,t28)] w fun t29 w=>biT P .append #[T.ad,T.ad] T.ad [false,false] [t27,t29] w fun t30 w=>stT P T.ad (e 2) t30 w fun _ w=>
    zi 1 Q .normal (upd (upd (upd (upd (upd (upd (upd (upd (upd (upd (upd (upd (upd e 21 (e 4)) 22 t22) 20 t22) 23 t23) 24 t24) 5 t5) 6 t24) 25 t24) 26 t26) 27 t27) 28 t28) 29 t29) 30 t30) w)):=by kernel_rfl
theorem pdE(e:Env)(w:World)(Q:Exit->KE):yn P pcE e w Q=(ldT P T.ad (e 2) w fun t31 w=>stT P T.ad (e 2) t31 w fun _ w=>stT P T.ac (e 3) (.int .i64 0) w fun _ w=>Q .ret (upd e 31 t31) w):=by kernel_rfl
end
section
variable {w0 w : World} {R : List Asn} {b l D b2 : Nat} {o o' : Obj}
theorem axl(S:St w0 w R)(o:Obj):St w0 (w.alloc o) (xa w.heap.size o :: R):=S.add ((Fr.refl _ w).alloc _) (B:=fun x=>x=w.heap.size) ⟨by rw[iy,if_pos rfl],rfl⟩ fun x hx=>by subst hx;rw[jc];omega
theorem ahj(S:St w0 w (xa b o :: R)):w.heap[b]? =some o:=by
 obtain⟨B,h1,_⟩:=S.open
 exact h1.1
theorem ajk(S:St w0 w (xa b o :: R))(o':Obj):St w0 (World.setObj w b o') (xa b o' :: R):=by
 obtain⟨B,⟨k1,k2⟩,hB,cl⟩:=S.open
 exact cl (World.setObj w b o') [xa b o'] ((Fr.refl B w).setObj (.inl k2) o') (Rs.one (B:=B) ⟨by rw[om _ _ _ _ (li k1),if_pos rfl],k2⟩ fun b hb=> .inl hb)
noncomputable def yy(fn:FuncId)(tmps:Array Value)(D:Nat)(st:LoopState):Loop:={state:=st,pending:=none,fn,tmps,params:= #[19],assign:=pcA,body:=pcD,defers:=D}
abbrev slB(b:Nat)(v:Value):Asn:=ja b #[v] T.ad
theorem bgh{fn:FuncId}{tmps:Array Value}(hsz:tmps.size=32)(h2:tmps.getD 2 undef= .pointer (some ⟨b2,0,none⟩))(S:St w0 w (xa l (.loop (yy fn tmps D .ready)) :: slB b2 (.slice none 0 0) :: R)){K:KV}
  (h: ∀w' v',St w0 w' (xa l (.loop (yy fn tmps D .ready)) :: slB b2 v' :: ajf v' [jz] :: R)->K (.bool true) w'):ku P (.func (.yield l) #[] #[]) [.string kv] w K:=by
 rw[aql (ahj S) rfl]
 refine roundIn_of_wpIn (F:=Fence.wide) (n:=0) trivial ?_
 show pcA.wpIn (sq (some l)) 0 P _ _ w
 have hT:((#[19]:Array Nat).zip #[Value.string kv]).foldl (fun tmps (t,a)=>tmps.setIfInBounds t a) tmps=tmps.setIfInBounds 19 (.string kv):=by simp
 show pcA.wpIn (sq (some l)) 0 P _ {tmps:=((#[19]:Array Nat).zip #[Value.string kv]).foldl (fun tmps (t,a)=>tmps.setIfInBounds t a) tmps,defers:=[]} w
 rw[hT]
 have t19:(tmps.setIfInBounds 19 (.string kv)).getD 19 undef= .string kv:=by simp[hsz]
 have t2:(tmps.setIfInBounds 19 (.string kv)).getD 2 undef= .pointer (some ⟨b2,0,none⟩):=by
  rw[<-h2]
  simp[hsz]
 refine wpIn_mono (ux (r:=some l) (m:=0) (ds:=[]) pcA _ w (fun x e w1=>x= .normal/\e 4= .string kv/\e 2= .pointer (some ⟨b2,0,none⟩)/\w1=w) _ bma (ash (by simpa using hsz) rfl) ?_) ?_
 ·rw[pdA]
  exact⟨rfl,t19,t2,rfl⟩
 ·rintro x a1 w1 ⟨e1,hR1,rfl,h4,h2',rfl⟩
  refine⟨_,run_beginRound (ahj S) rfl,?_⟩
  rw[uo]
  have S2:St w0 _ (xa l (.loop (yy fn tmps D .busy)) :: _):=ajk S (.loop {yy fn tmps D .ready with state:= .busy})
  generalize World.setObj w1 l _=w2 at *
  refine wpIn_mono (ux (r:=some l) (m:=0) (ds:=[]) pcD e1 w2 (fun x e w3=>x= .normal/\∃v',St w0 w3 (xa l (.loop (yy fn tmps D .busy)) :: slB b2 v' :: ajf v' [jz] :: R)) a1 pkD hR1 ?_) ?_
  ·rw[pdD,h4,h2']
   refine bee S2 fun w3 S3=>?_
   simp only[aam,aae]
   have S4:St w0 (w3.alloc (.cells #[.bool false,.string ⟨#[]⟩,.int .u64 0,.string ⟨#[]⟩] T.q)) (ruB w3.heap.size ⟨false,⟨#[]⟩,0,⟨#[]⟩⟩ :: _):=S3.mkB _ _
   unfold tk jz
   simp
   generalize w3.heap.size=rb at *
   generalize w3.alloc _=w4 at *
   refine St.put (vs:=lc jz) (cs':=(lc jz).toArray) S4 (act jz) (by simp[lc]) (by simp[lc]) fun w5 S5=>?_
   have c2:il w5 b2 0=some (.slice none 0 0):=by rw[S5.up2.cell];rfl
   have ld4: ∀K,ldN P 4 rb 0 w5 K=K (tk jz) w5:=fun K=>S5.ldA (n:=4) (i:=0) (lc jz) rfl rfl K
   simp[c2,ld4,tk,jz]
   have S6:St w0 (w5.alloc (.cells #[.bool true,.string sm,.int .u64 0,.string ⟨#[]⟩] T.q)) (ajf (.slice (some ⟨w5.heap.size,0,none⟩) 1 1) [jz] :: _):=St.uj (l:=[jz]) S5 vz rfl (by simp[maxLen])
   have S7:=Go.Eng.yw (α:=Rul) (enc:=lc) (sz:=4) (e:=T.q) S6
   refine Go.Eng.ui et.ad vz act S7 (S7.swap.row vz) (by simp) (by decide) fun w8 v8 S8=>?_
   obtain⟨a8,c8,hv8,_⟩:=(S8.row vz:Sl w8 4 lc v8 ([] ++ [jz]))
   subst hv8
   have S9:=S8.up4
   simp
   refine St.qk S9 rfl (by simp) fun w9 S10=>?_
   exact⟨rfl,_,S10.up4.up4.drop.up3.drop⟩
  ·rintro x a3 w3 ⟨e3,_,rfl,v',S3⟩
   have hend:=run_endRound (P:=P) none (ahj S3)
   refine⟨_,_,hend,.bool true,rfl,?_⟩
   rw[uo]
   exact h _ v' (ajk S3 _)
theorem amk(S:St w0 w R){K:KV}(h: ∀w' v,St w0 w' (ajf v [jz] :: R)->K (.tuple #[v,.int .i64 0]) w'):ig P F.ad [.string kv] w K:=by
 rw[show ig P F.ad [.string kv] w K=jp P F.ad [.string kv] w K from afr FN.ad.at (by kernel_rfl) (by kernel_rfl) _ _ _]
 refine (callsIn_wide (n:=0)).1 (callsIn_of_wp_marks (F:=Fence.wide) FN.ad.at bks trivial ?_)
 have hnt:FN.ad.ntmps=32:=by kernel_rfl
 rw[hnt]
 have e0:Go.Eng.RdI 32 (List.range 32) [] {tmps:=[Value.string kv].toArray ++ Array.replicate (32 - 1) undef,defers:=[]} fun t=>([Value.string kv].toArray ++ Array.replicate (32 - 1) undef).getD t undef:=ash rfl rfl
 refine wpIn_seq (wpIn_mono (ux (r:=none) (m:=0) (ds:=[]) pc0 _ w (fun x e w1=>x= .normal/\∃b2 b3,e 0= .string kv/\e 2= .pointer (some ⟨b2,0,none⟩)/\e 3= .pointer (some ⟨b3,0,none⟩)/\St w0 w1 (slB b2 (.slice none 0 0) :: ja b3 #[.int .i64 0] T.ac :: R)) _ blx e0 ?_) ?_)
 ·rw[pd0]
  have S1:St w0 (w.alloc (.cells #[.slice none 0 0] T.ad)) (slB w.heap.size (.slice none 0 0) :: R):=S.mkB _ _
  have S2:=S1.mkB #[.int .i64 0] T.ac
  simp only[jc] at S2
  have a2: ∀w K,alT P T.ad w K=K (.pointer (some ⟨w.heap.size,0,none⟩)) (w.alloc (.cells #[.slice none 0 0] T.ad)):=fun w K=>by simp
  have a3: ∀w K,alT P T.ac w K=K (.pointer (some ⟨w.heap.size,0,none⟩)) (w.alloc (.cells #[.int .i64 0] T.ac)):=fun w K=>by simp
  simp only[a2,a3,jc]
  exact⟨trivial,w.heap.size,w.heap.size+1,rfl,rfl,rfl,S2.swap⟩
 rintro x a1 w1 ⟨e1,hR1,rfl,b2,b3,h0,h2,h3,S1⟩
 refine wpIn_seq (wpIn_mono (ux (r:=none) (m:=0) (ds:=[]) pc1 e1 w1 (fun x e w2=>x= .normal/\e 0= .string kv/\e 2= .pointer (some ⟨b2,0,none⟩)/\e 3= .pointer (some ⟨b3,0,none⟩)/\w2=w1) a1 pk1 hR1 ?_) ?_)
 ·rw[pd1,h0]
  have hs: ¬(2048:Int) < (kv.size:Int):=by decide
  simp[hs]
  refine amf kv 10 ?_
  have ec:Lib.countByte kv.data.toList 10=0:=by decide
  rw[ec]
  simp
  exact⟨h0,h2,h3⟩
 rintro x a2 w2 ⟨e2,hR2,rfl,h0,h2,h3,rfl⟩
 refine wpIn_seq (wpIn_mono (ux (r:=none) (m:=0) (ds:=[]) pc3 e2 w2 (fun x e w3=>x= .normal/\e 0= .string kv/\e 2= .pointer (some ⟨b2,0,none⟩)/\e 3= .pointer (some ⟨b3,0,none⟩)/\w3=w2) a2 pk3 hR2 ?_) ?_)
 ·rw[pd3,h0]
  have e1:(kv.toList == (⟨#[]⟩:ByteArray).toList)=false:=by decide+kernel
  simp only[sk,e1,ii]
  exact⟨trivial,h0,h2,h3,trivial⟩
 rintro x a3 w3 ⟨e3,hR3,rfl,h0,h2,h3,rfl⟩
 refine wpIn_seq (wpIn_seq (wpIn_mono (ux (r:=none) (m:=0) (ds:=[]) pc5 e3 w3 (fun x e w4=>x= .normal/\∃g1 g2 g3,e 18= .func (.func F.l) #[] #[.pointer (some ⟨g1,0,none⟩),.pointer (some ⟨g2,0,none⟩),.pointer (some ⟨g3,0,none⟩)]/\e 2= .pointer (some ⟨b2,0,none⟩)/\e 3= .pointer (some ⟨b3,0,none⟩)/\
  St w0 w4 (ja g3 #[.int .i64 0] T.d :: ja g1 #[.string ⟨#[10]⟩] T.l :: ja g2 #[.string kv] T.l :: slB b2 (.slice none 0 0) :: ja b3 #[.int .i64 0] T.ac :: R)) a3 pk5 hR3 ?_) ?_))
 ·rw[pd5,h0]
  rw[M.ei.fcall]
  apply M.ei.calls
  unfold M.ei
  rw[M.ej.fcall]
  apply M.ej.calls
  unfold M.ej
  have S2:=S1.mkB #[.string kv] T.l
  have S3:=S2.mkB #[.string ⟨#[10]⟩] T.l
  have S4:=S3.mkB #[.int .i64 0] T.d
  simp only[jc] at S2 S3 S4
  simp only[tm,aal,jc]
  exact⟨trivial,w3.heap.size+1,w3.heap.size,w3.heap.size+1+1,rfl,h2,h3,S4⟩
 rintro x a4 w4 ⟨e4,hR4,rfl,g1,g2,g3,h18,h2,h3,S4⟩
 have ev18:a4.eval (.tmp 18)= .func (.func F.l) #[] #[.pointer (some ⟨g1,0,none⟩),.pointer (some ⟨g2,0,none⟩),.pointer (some ⟨g3,0,none⟩)]:=by
  rw[hR4.ev (.tmp 18) fun t ht=>by cases ht;rfl];exact h18
 have t2:a4.tmps.getD 2 undef= .pointer (some ⟨b2,0,none⟩):=by rw[hR4.2.2 2 rfl];exact h2
 have d4:a4.defers=[]:=hR4.2.1
 refine wpIn_block (wpIn_rangeFunc fun fn' hfn=>?_)
 have S5:=axl S4 (.deferred (some []))
 have S6:=axl S5 (.loop (yy fn' a4.tmps w4.heap.size .ready))
 simp only[jc] at S6
 generalize hw6:(w4.alloc (.deferred (some []))).alloc (.loop (yy fn' a4.tmps w4.heap.size .ready))=w6 at *
 have hcf: ∀args w,(callFunc F.l args).run P w= .ok (.enter F.l args) w:=fun args w=>by
  unfold callFunc
  simp only[Sem.run_bind,program]
  rw[show Sem.run P (Sem.program Sem.pure) w=Result.ok P w from rfl]
  have q1:(FN.l.name == "runtime.NumGoroutine")=false:=by kernel_rfl
  have q2:FN.l.body.isNone=false:=by kernel_rfl
  simp only[Result.andThen,FN.l.at,q1,q2,Bool.false_eq_true,if_false,Sem.run_pure]
 refine⟨w4.heap.size+1,[{target:= .collected w4.heap.size,args:= #[]}],w6,{target:= .fn (.func F.l) #[.pointer (some ⟨g1,0,none⟩),.pointer (some ⟨g2,0,none⟩),.pointer (some ⟨g3,0,none⟩)],args:= #[.func (.yield (w4.heap.size+1)) #[] #[]]},w6,F.l,
  #[.func (.yield (w4.heap.size+1)) #[] #[]] ++ #[.pointer (some ⟨g1,0,none⟩),.pointer (some ⟨g2,0,none⟩),.pointer (some ⟨g3,0,none⟩)],w6,?_,?_,fun _ _=>trivial,?_,fun h=>by simp[Fence.wide] at h,?_⟩
 ·rw[<-hw6];exact run_enterLoop_outer _ _ _ _ _
 ·have evc: ∀v,a4.eval (.const v)=v:=fun _=>rfl
  simp[resolve,rangeCall,ev18,evc,Deferred.ofValue]
 ·simp[invoke,hcf]
 have S6':St w0 w6 (xa (w4.heap.size+1) (.loop (yy fn' a4.tmps w4.heap.size .ready)) :: slB b2 (.slice none 0 0) :: xa w4.heap.size (.deferred (some [])) :: ja g3 #[.int .i64 0] T.d :: ja g1 #[.string ⟨#[10]⟩] T.l :: ja g2 #[.string kv] T.l :: ja b3 #[.int .i64 0] T.ac :: R):=S6.perm (by
  refine List.Perm.cons _ ?_
  exact List.perm_middle (l₁:=[_,_,_,_]))
 have hcall:jp P F.l [.func (.yield (w4.heap.size+1)) #[] #[],.pointer (some ⟨g1,0,none⟩),.pointer (some ⟨g2,0,none⟩),.pointer (some ⟨g3,0,none⟩)] w6 fun v w'=>rangePost Fence.wide 0 P (w4.heap.size+1) (Exit.inBlock 0 (Exit.then (pcE.wpIn Fence.wide 0 P (bodyPostM Fence.wide 0 P FN.ad fun e w'=> ∃v,e=Ending.returned v/\K v w')) (bodyPostM Fence.wide 0 P FN.ad fun e w'=> ∃v,e=Ending.returned v/\K v w'))) {tmps:=a4.tmps,defers:=[{target:= .collected w4.heap.size,args:= #[]}] ++ a4.defers} (.returned v) w':=by
  apply M.ao.calls
  unfold M.ao
  have cs: ∀{w':World}{X Y:Asn}{v:Value},St w0 w' (X :: slB b2 v :: Y :: xa w4.heap.size (.deferred (some [])) :: ja g3 #[.int .i64 0] T.d :: ja g1 #[.string ⟨#[10]⟩] T.l :: ja g2 #[.string kv] T.l :: ja b3 #[.int .i64 0] T.ac :: R)->il w' g1 0=some (.string ⟨#[10]⟩)/\il w' g2 0=some (.string kv):=fun S'=>⟨by rw[(S'.perm (List.perm_middle (l₁:=[_,_,_,_,_]))).cell];rfl,by rw[(S'.perm (List.perm_middle (l₁:=[_,_,_,_,_,_]))).cell];rfl⟩
  have k1:il w6 g1 0=some (.string ⟨#[10]⟩):=by rw[(S6'.perm (List.perm_middle (l₁:=[_,_,_,_]))).cell];rfl
  have k2:il w6 g2 0=some (.string kv):=by rw[(S6'.perm (List.perm_middle (l₁:=[_,_,_,_,_]))).cell];rfl
  simp[k1,adu]
  refine⟨fun x w'=>w'=w6,fun _ _=>0,rfl,?_⟩
  rintro x w7 rfl
  unfold M.ao.j6
  simp[k1,k2]
  refine ana kv 10 (by decide+kernel) ?_
  have ei:Lib.indexByte kv.data.toList 10= -1:=by decide
  rw[ei]
  simp[k2]
  refine bgh hR4.1 t2 S6' fun w8 v8 S8=>?_
  have hend:=run_endLoop (P:=P) (ahj S8) (by simp[yy])
  refine⟨_,_,hend,?_⟩
  rw[uo]
  have S9:=ajk S8 (.loop {yy fn' a4.tmps w4.heap.size .ready with state:= .exhausted})
  generalize World.setObj w8 _ _=w9 at *
  simp only[Exit.inBlock,Exit.then,yy]
  rw[d4]
  obtain⟨a8,c8,hv8,_⟩:=(S9.up2.row vz:Sl w9 4 lc v8 [jz])
  subst hv8
  refine wpIn_mono (ux (r:=none) (m:=0) (ds:=[{target:= .collected w4.heap.size,args:= #[]}]) pcE e4 w9 (fun x e w=>x= .ret/\e 2= .pointer (some ⟨b2,0,none⟩)/\e 3= .pointer (some ⟨b3,0,none⟩)/\St w0 w (xa w4.heap.size (.deferred (some [])) :: slB b2 (.slice a8 1 c8) :: ja b3 #[.int .i64 0] T.ac :: ajf (.slice a8 1 c8) [jz] :: R)) _ pkE ⟨hR4.1,rfl,hR4.2.2⟩ ?_) ?_
  ·rw[pdE,h2,h3]
   have q2:il w9 b2 0=some (.slice a8 1 c8):=by rw[S9.swap.cell];rfl
   simp[q2]
   refine St.qk S9.swap rfl (by simp) fun w10 S10=>?_
   have S11:=S10.perm (List.perm_middle (l₁:=[_,_,_,_,_,_,_]))
   refine St.qk S11 rfl (by simp) fun w11 S12=>?_
   have S13:=S12.up2.drop.up2.up3
   refine⟨h2,h3,?_⟩
   exact S13.swap.up3.up4.drop.up4.drop.up4.drop.up2.tail (List.Perm.cons _ (List.Perm.swap _ _ _))
  ·rintro x a9 w10 ⟨e9,hR9,rfl,k2,k3,S10⟩
   show LeavesInM Fence.wide 0 P FN.ad a9.tmps _ a9.defers .returning w10
   rw[hR9.2.1]
   refine⟨by simp,.inl ⟨_,_,rfl,run_takeDeferred (ahj S10),?_⟩⟩
   rw[uo]
   have S11:=ajk S10 (.deferred none)
   generalize World.setObj w10 _ _=w11 at *
   obtain⟨vs,hk,hr⟩:=atv (P:=P) (fn:=FN.ad) (w:=w11) (k:=fun vs=>vs=[.slice a8 1 c8,.int .i64 0]) (⟨hR9.1,rfl,hR9.2.2⟩:Rd 32 (List.range 32) {a9 with defers:=[]} e9) (by kernel_rfl) (by
    rw[show FN.ad.results.toList=[.cell 2 T.ad,.cell 3 T.ac] from by kernel_rfl]
    show ic (fun K'=>ni P T.ad (e9 2) w11 K') w11 fun v=>ic (fun K'=>ni P T.ac (e9 3) w11 K') w11 fun v2=>[v,v2]=[Value.slice a8 1 c8,.int .i64 0]
    rw[k2,k3]
    have r2: ∀w K,ni P T.ad (.pointer (some ⟨b2,0,none⟩)) w K=ld1 P b2 0 w K:=fun w K=>kr
    have r3: ∀w K,ni P T.ac (.pointer (some ⟨b3,0,none⟩)) w K=ld1 P b3 0 w K:=fun w K=>kr
    have q2:il w11 b2 0=some (.slice a8 1 c8):=by rw[S11.swap.cell];rfl
    have q3:il w11 b3 0=some (.int .i64 0):=by rw[S11.up2.cell];rfl
    simp[r2,r3,q2,q3])
   subst hk
   exact⟨_,hr,_,rfl,h w11 _ (S11.drop.drop.drop)⟩
 have hc2:=aaw (r:=none) (n:=0 - 1) hcall
 refine CallsIn.mono (F:=Fence.wide) hc2 fun e w' ⟨v,he,hk⟩=>?_
 subst he
 exact hk
end
section
variable {w0 w : World} {R : List Asn} {p : Nat} {q : Cl}
theorem mf{L:List Asn}(S:St w0 w (clA p q :: L)):il w p 0=some (.int .u64 1)/\il w p 1=some (.int .u64 q.inc)/\il w p 2=some q.rep/\il w p 3=some (.int .u64 200)/\il w p 4=some (.int .i64 3)/\il w p 8=some (.int .u64 4)/\il w p 9=some (.int .i64 q.tr)/\il w p 13=some q.rul/\il w p 14=some (.pointer (some ⟨q.tb,0,none⟩))/\il w p 15=some (.pointer (some ⟨q.hb,0,none⟩))/\il w p 16=some (.pointer (some ⟨q.kb,0,none⟩))/\il w p 17=some (.map (some q.ru))/\il w p 18=some (.map (some q.se))/\il w p 19=some (.map (some q.un))/\il w p 22=some (.int .u64 q.sr)/\il w p 23=some (.int .u64 q.now)/\il w p 24=some q.out/\il w p 25=some q.ev/\il w p 26=some (.int .u64 q.bad)/\il w p 27=some (.int .u64 q.bkb)/\∀K,ldN P 2 p 20 w K=K (kj q.ke) w:=by
 refine⟨?_,?_,?_,?_,?_,?_,?_,?_,?_,?_,?_,?_,?_,?_,?_,?_,?_,?_,?_,?_,fun K=>S.ldA (n:=2) (i:=20) (tl q.ke) rfl rfl K⟩ <;>rw[S.cell] <;>rfl
def evA(e:Evn):Value:= .agg (evC e).toArray
theorem aid{es:List Evn}(S:St w0 w (clA p q :: pg q.ev es :: R))(e:Evn)(hl:es.length<=1000000){K:KV}(h: ∀w' v',St w0 w' (clA p {q with ev:=v'} :: pg v' (es ++ [{e with at':=q.now,ji:=1}]) :: R)->K (.tuple #[]) w'):ig P F.u [lf p,evA e] w K:=by
 rw[M.cj.fcall]
 apply M.cj.calls
 unfold M.cj evA
 refine St.qt S fun eb w1 S1=>?_
 have S2:=S1.jv ((Fr.refl _ w1).dr 1)
 obtain⟨c0,_,_,_,_,_,_,_,_,_,_,_,_,_,_,c23,_⟩:=mf S2.swap
 simp only[lf]
 simp[c0,c23]
 refine St.qk S2 rfl (by simp[evC]) fun w3 S3=>?_
 obtain⟨d0,_⟩:=mf S3.swap
 simp[d0]
 refine St.qk S3 rfl (by simp[evC]) fun w4 S4=>?_
 have S5:St w0 (dr w4 1) (ja eb (evC {e with at':=q.now,ji:=1}).toArray T.av :: clA p q :: pg q.ev es :: R):=S4.jv ((Fr.refl _ w4).dr 1)
 obtain⟨_,_,_,_,_,_,_,_,_,_,_,_,_,_,_,_,_,c25,_⟩:=mf S5.swap
 have lde: ∀K,ldN P 16 eb 0 (dr w4 1) K=K (evA {e with at':=q.now,ji:=1}) (dr w4 1):=fun K=>S5.ldA (n:=16) (i:=0) (evC {e with at':=q.now,ji:=1}) rfl rfl K
 simp[c25,lde]
 rw[show evA {e with at':=q.now,ji:=1}= .agg #[.int .i64 e.jg,.int .u64 q.now,.int .u64 1,.int .u64 e.tr,.int .u64 e.b.n,.int .u64 e.b.ji,.int .i64 e.v,.int .u64 e.s.jh,.int .u64 e.s.id,.int .u64 e.s.mm,.int .u64 e.s.kl,.int .u64 e.s.len,.string e.s.jx,.string e.s.name,.bool e.s.ny,.int .i64 e.k] from rfl]
 simp
 have S6:St w0 ((dr w4 1).alloc (.cells #[.int .i64 e.jg,.int .u64 q.now,.int .u64 1,.int .u64 e.tr,.int .u64 e.b.n,.int .u64 e.b.ji,.int .i64 e.v,.int .u64 e.s.jh,.int .u64 e.s.id,.int .u64 e.s.mm,.int .u64 e.s.kl,.int .u64 e.s.len,.string e.s.jx,.string e.s.name,.bool e.s.ny,.int .i64 e.k] T.av)) (pg (.slice (some ⟨(dr w4 1).heap.size,0,none⟩) 1 1) [{e with at':=q.now,ji:=1}] :: _):=St.uj (l:=[{e with at':=q.now,ji:=1}]) S5 ahe rfl (by simp[maxLen])
 rw[show (dr w4 1).heap.size=w4.heap.size from rfl] at S6
 generalize w4.heap.size=nb at *
 generalize World.alloc _ _=w6 at *
 obtain⟨_,_,_,_,_,_,_,_,_,_,_,_,_,_,_,_,_,d25,_⟩:=mf S6.up2
 simp[d25]
 refine Go.Eng.ui et.bd ahe asu S6.up3 (S6.row ahe) (by simp;omega) (by decide) fun w7 v7 S7=>?_
 obtain⟨a7,c7,hv7,_⟩:=(S7.row ahe:Sl w7 16 evC v7 _)
 subst hv7
 generalize (es ++ [({e with at':=q.now,ji:=1}:Evn)]).length=n7 at *
 simp
 refine St.qk S7.up3 rfl (by simp[clC]) fun w8 S8=>?_
 have S9:St w0 w8 (clA p {q with ev:= .slice a7 n7 c7} :: _):=S8
 exact h w8 _ S9.up2.drop.up2.drop
def oa(to:List Int)(pk:Pk)(h: ∀u∈pkC pk,kq u=true):List Ltr:=to.map fun t=>⟨1,t,pk,h⟩
def SnI(w0:World)(p:Nat)(q:Cl)(ls:List Ltr)(pk:Pk)(h1: ∀u∈pkC pk,kq u=true)(tb:Nat)(to:List Int)(R:List Asn):KL:=fun x w1=> ∃(u:Value)(ov:Value)(i:Nat),x=[u,.int .i64 (i:Nat)]/\i<=to.length/\St w0 w1 (clA p {q with out:=ov} :: mu ov (ls ++ oa (to.take i) pk h1) :: ja tb (pkC pk).toArray T.c :: R)
theorem ahi{ls:List Ltr}{pk:Pk}{tv:Value}{to:List Int}(S:St w0 w (clA p q :: mu q.out ls :: R))(h1: ∀u∈pkC pk,kq u=true)(hs: ∀w' L,St w0 w' (L ++ R)->Sl w' 1 Suint64.rk tv to)(hl:ls.length+to.length<=256){K:KV}
  (h: ∀w' ov,St w0 w' (clA p {q with out:=ov} :: mu ov (ls ++ oa to pk h1) :: R)->K (.tuple #[]) w'):ig P F.e [lf p,pkA pk,tv] w K:=by
 rw[M.ag.fcall]
 apply M.ag.calls
 unfold M.ag pkA
 refine St.qt S fun tb w1 S1=>?_
 have hln: ∀w' K,biT P .len #[T.h] T.d [false] [tv] w' K=K (.int .i64 to.length) w':=fun w' K=>(hs w [_,_] S).jr (by kernel_rfl) [false]
 simp only[im,hln,lf]
 have S1':St w0 w1 (clA p {q with out:=q.out} :: mu q.out (ls ++ oa (to.take 0) pk h1) :: ja tb (pkC pk).toArray T.c :: R):=by
  have:=S1.dn2
  simpa [oa] using this
 refine⟨SnI w0 p q ls pk h1 tb to R,fun x _=>to.length - ms x 1,⟨_,_,0,rfl,Nat.zero_le _,S1'⟩,?_⟩
 rintro x w2 ⟨u,ov,i,rfl,hi,S2⟩
 by_cases hil:i < to.length
 ·have hili:(i:Int) < to.length:=by omega
  have hwi:IntKind.i64.wrap ((i:Int)+1)=((i+1:Nat):Int):=by rw[iz];rfl
  obtain⟨ab,ao,cap,hv,_,_,hc⟩:=(hs w2 [_,_,_] S2).at hil
  have hia: ∀w' K,iaT P T.h tv (.int .i64 (i:Nat)) w' K=K (.pointer (some ⟨ab,ao+i,none⟩)) w':=fun w' K=>by rw[hv];simp[hil]
  have hcell:il w2 ab (ao+i)=some (.int .u64 to[i]):=by simpa [Suint64.rk] using hc 0 _ rfl
  have htk:oa (to.take (i+1)) pk h1=oa (to.take i) pk h1 ++ [⟨1,to[i],pk,h1⟩]:=by
   unfold oa
   rw[List.take_succ_eq_append_getElem hil,List.map_append]
   rfl
  have htk':ls ++ oa (to.take (i+1)) pk h1=(ls ++ oa (to.take i) pk h1) ++ [⟨1,to[i],pk,h1⟩]:=by rw[htk,List.append_assoc]
  clear htk
  generalize to[i]=t at *
  have hol:(ls ++ oa (to.take i) pk h1).length < 256:=by
   unfold oa
   rw[List.length_append,List.length_map,List.length_take]
   omega
  have hnl: ¬(256:Int)<=((ls ++ oa (to.take i) pk h1).length:Int):=by omega
  generalize ls ++ oa (to.take i) pk h1=lo at *
  obtain⟨_,_,_,_,_,_,_,_,_,_,_,_,_,_,_,_,c24,_⟩:=mf S2
  have hlo: ∀w' K,biT P .len #[T.ap] T.d [false] [ov] w' K=K (.int .i64 lo.length) w':=fun w' K=>(S2.swap.row abm:Sl w2 13 ltC ov lo).jr (by kernel_rfl) [false]
  simp[hili]
  unfold M.ag.j1
  simp[hia,hcell,c24,hlo,hnl]
  unfold M.ag.j3
  have S3:=S2.jv ((Fr.refl _ w2).dr 1)
  obtain⟨d0,_,_,_,_,_,_,_,_,_,_,_,_,_,_,_,d24,_⟩:=mf S3
  have lp:=ud S3.up2
  simp[d0,d24,lp]
  unfold pkA pkC
  simp
  have S4:St w0 ((dr w2 1).alloc (.cells (ltC ⟨1,t,pk,h1⟩).toArray T.bm)) (mu (.slice (some ⟨(dr w2 1).heap.size,0,none⟩) 1 1) [⟨1,t,pk,h1⟩] :: _):=St.uj (l:=[(⟨1,t,pk,h1⟩:Ltr)]) S3 abm (by simp) (by simp[maxLen])
  rw[show (dr w2 1).heap.size=w2.heap.size from rfl] at S4
  unfold ltC pkC at S4
  simp only[List.cons_append,List.nil_append] at S4
  generalize w2.heap.size=nb at *
  generalize World.alloc _ _=w6 at *
  obtain⟨_,_,_,_,_,_,_,_,_,_,_,_,_,_,_,_,e24,_⟩:=mf S4.swap
  simp[e24]
  refine Go.Eng.ui et.ap abm bgm S4.up2 (S4.row abm) (by simp;omega) (by decide) fun w7 v7 S7=>?_
  obtain⟨a7,c7,hv7,_⟩:=(S7.row abm:Sl w7 13 ltC v7 _)
  subst hv7
  generalize (lo ++ [(⟨1,t,pk,h1⟩:Ltr)])=l7 at *
  generalize l7.length=n7 at *
  simp
  refine St.qk S7.up2 rfl (by simp[clC]) fun w8 S8=>?_
  have S9:St w0 w8 (clA p {q with out:= .slice a7 n7 c7} :: _):=S8
  rw[hwi]
  refine⟨⟨_,.slice a7 n7 c7,i+1,rfl,by omega,?_⟩,by simp[ms,gv];omega⟩
  rw[htk']
  exact S9.up2.drop
 ·have hie:i=to.length:=by omega
  subst hie
  simp
  rw[List.take_length] at S2
  exact h w2 ov S2.up2.drop
end
open Go.Eng
def acn(l:List Mem):List Int:=(l.filter fun m=>decide (m.st≠2)).map Mem.id
def ahp(l:List Mem):List Int:=if va l=0 then acn l else []
section
variable {w0 w : World} {R : List Asn}
theorem avn{l:List Mem}{i:Nat}(hi:i < l.length):acn (l.take (i+1))=acn (l.take i) ++ if l[i].st≠2 then [l[i].id] else []:=by
 unfold acn
 rw[List.take_succ_eq_append_getElem hi,List.filter_append,List.map_append]
 congr 1
 by_cases h:l[i].st=2 <;>simp[h]
theorem awp(l:List Mem):(acn l).length<=l.length:=by
 unfold acn
 rw[List.length_map];exact List.length_filter_le ..
def LvI(w0:World)(l:List Mem)(R:List Asn):KL:=fun x w1=> ∃(v:Value)(i:Nat),x=[v,.int .i64 (i:Nat)]/\i<=l.length/\St w0 w1 (qy v (acn (l.take i)) :: R)
theorem asw{v:Value}{l:List Mem}(S:St w0 w R)(hs: ∀w' L,St w0 w' (L ++ R)->SlM w' v l)(hlen:l.length<=1000000){K:KV}(h: ∀w' v',St w0 w' (qy v' (ahp l) :: R)->K v' w'):ig P F.gj [v] w K:=by
 rw[M.ed.fcall]
 apply M.ed.calls
 unfold M.ed
 rw[im]
 refine amz (hs w [] S) hlen fun w1 f1=>?_
 have S1:=S.jv f1
 unfold ahp at h
 by_cases hv:va l=0
 ·rw[if_pos hv] at h
  simp[hv]
  unfold M.ed.j0
  simp only[im]
  rw[(hs w1 [] S1).jr (by kernel_rfl)]
  refine⟨LvI w0 l R,fun x _=>l.length - ms x 1,⟨_,0,rfl,Nat.zero_le _,ado S1⟩,?_⟩
  rintro x w2 ⟨v2,i,rfl,hi,S2⟩
  have q0:gv [v2,.int .i64 (i:Nat)] 0=v2:=rfl
  have q1:gv [v2,.int .i64 (i:Nat)] 1= .int .i64 (i:Nat):=rfl
  simp only[q1]
  by_cases hil:i < l.length
  ·have hil':(i:Int) < l.length:=by omega
   simp[hil']
   unfold M.ed.j3
   obtain⟨b,o,cap,hv2,hb,_,hc⟩:=(hs w2 [qy v2 (acn (l.take i))] S2).at hil
   have hld: ∀K,ldN P 3 b (o+i * 3) w2 K=K (ol l[i]) w2:=fun K=>ldM hc K
   have hwi:IntKind.i64.wrap ((i:Int)+1)=((i+1:Nat):Int):=by rw[iz];rfl
   have htk:=avn hil
   have hll:=awp (l.take i)
   rw[List.length_take] at hll
   generalize l[i]=m at *
   simp only[im,q1,lr,hwi]
   rw[hv2]
   simp[hil,hld]
   rw[show ol m= .agg #[.int .u64 m.id,.int .u64 m.inc,.int .i64 m.st] from rfl]
   simp
   have hba:(w2.alloc (.cells #[.int .u64 0,.int .u64 0,.int .i64 0] T.m)).heap[w2.heap.size]? =some (.cells #[.int .u64 0,.int .u64 0,.int .i64 0] T.m (0,0)):=by rw[iy,if_pos rfl]
   refine jw (vs:=[.int .u64 m.id,.int .u64 m.inc,.int .i64 m.st]) hba rfl (by simp) fun w3 b3 f3=>?_
   have S3:=S2.jv (((Fr.refl _ w2).alloc _).jt f3 fun y hy he=>by subst he;omega)
   have c0:il w3 w2.heap.size 0=some (.int .u64 m.id):=by rw[ir b3];rfl
   have c2:il w3 w2.heap.size 2=some (.int .i64 m.st):=by rw[ir b3];rfl
   by_cases hst:m.st=2
   ·simp[c2,hst,q0]
    refine⟨⟨v2,i+1,rfl,by omega,?_⟩,by simp[ms,gv];omega⟩
    rw[htk];simp[hst];exact S3
   ·simp[c0,c2,hst,q0]
    have S4:=S3.jv ((Fr.refl _ w3).alloc (.cells #[.int .u64 m.id] T.a))
    refine aby S4 (l2:=[m.id]) (Sl.one rfl rfl) (by simp;omega) fun w5 v5 S5=>?_
    refine⟨⟨v5,i+1,rfl,by omega,?_⟩,by simp[ms,gv];omega⟩
    rw[htk];simp[hst];exact S5
  ·have hil': ¬(i:Int) < l.length:=by omega
   simp[hil']
   rw[List.take_of_length_le (by omega)] at S2
   exact h w2 v2 S2
 ·rw[if_neg hv] at h
  simp[hv]
  exact h w1 _ (ado S1)
end
section
variable {t : TypeId} {rx ry : Operand} {w : World} {K : KV}
theorem bbo{x:Nat}(hx:x < 18446744073709551616):iq P .and t rx ry (.int .u64 (x:Int)) (.int .u64 4294967295) w K=K (.int .u64 ((x % 4294967296:Nat):Int)) w:=by
 rw[akx]
 have h1:(BitVec.ofInt IntKind.u64.bits (x:Int) &&& BitVec.ofInt IntKind.u64.bits 4294967295).toNat=x % 4294967296:=by
  rw[BitVec.toNat_and]
  have e1:(BitVec.ofInt IntKind.u64.bits (x:Int)).toNat=x:=aah hx
  have e2:(BitVec.ofInt IntKind.u64.bits 4294967295).toNat=2 ^ 32 - 1:=by decide
  rw[e1,e2,Nat.and_two_pow_sub_one_eq_mod]
 rw[h1,ww (by omega)]
theorem aoq(x:Nat):iq P .shr t rx ry (.int .u64 (x:Int)) (.int .u64 32) w K=K (.int .u64 ((x / 4294967296:Nat):Int)) w:=by
 rw[abo (by decide)]
 have:((x:Nat):Int).fdiv (2 ^ min (32:Int).toNat IntKind.u64.bits)=((x / 4294967296:Nat):Int):=akw x 32
 rw[this]
theorem awd{x y:Nat}(h:x * y < 18446744073709551616):iq P .mul t rx ry (.int .u64 (x:Int)) (.int .u64 (y:Int)) w K=K (.int .u64 ((x * y:Nat):Int)) w:=by
 rw[vh]
 have:IntKind.u64.wrap ((x:Int) * (y:Int))=((x * y:Nat):Int):=by rw[<-Int.natCast_mul];exact ww h
 rw[this]
theorem avk{x y:Nat}(h:x+y < 18446744073709551616):iq P .add t rx ry (.int .u64 (x:Int)) (.int .u64 (y:Int)) w K=K (.int .u64 ((x+y:Nat):Int)) w:=by
 rw[lr]
 have:IntKind.u64.wrap ((x:Int)+(y:Int))=((x+y:Nat):Int):=by rw[<-Int.natCast_add];exact ww h
 rw[this]
end
theorem bea{w:World}{x:Nat}(hx:x < 18446744073709551616){K:KV}(h:K (.tuple #[.int .u64 ((3 * x / 18446744073709551616:Nat):Int),.int .u64 ((3 * x % 18446744073709551616:Nat):Int)]) w):ig P F.fg [.int .u64 (x:Int),.int .u64 3] w K:=by
 rw[M.et.fcall]
 apply M.et.calls
 unfold M.et
 rw[bbo hx,aoq]
 have e3:(3:Int)=((3:Nat):Int):=rfl
 rw[e3,bbo (by decide),aoq]
 have c1:3 % 4294967296=3:=by decide
 have c2:3 / 4294967296=0:=by decide
 rw[c1,c2]
 rw[awd (by omega),awd (by omega),aoq,avk (by omega),bbo (by omega),aoq,awd (by omega),avk (by omega),awd (by omega),avk (by omega),aoq,avk (by omega),vh]
 have hw:IntKind.u64.wrap ((x:Int) * ((3:Nat):Int))=((3 * x % 18446744073709551616:Nat):Int):=by
  show ((x:Int) * 3) % 18446744073709551616=_
  omega
 rw[hw]
 have hh:x / 4294967296 * 0+(x / 4294967296 * 3+x % 4294967296 * 3 / 4294967296) / 4294967296+((x / 4294967296 * 3+x % 4294967296 * 3 / 4294967296) % 4294967296+x % 4294967296 * 0) / 4294967296=3 * x / 18446744073709551616:=by omega
 rw[hh]
 exact h
theorem aqr{w:World}{x y:Int}(hx:0<=x)(hy:0<=y){K:KV}(h:K (.tuple #[.int .u64 ((x+y) % 18446744073709551616),.int .u64 ((x+y) / 18446744073709551616)]) w):ig P F.bw [.int .u64 x,.int .u64 y,.int .u64 0] w K:=by
 unfold ig kw
 rw[run_callFunc_extern (e:=add64Entry) FN.bw.at (by kernel_rfl) (by kernel_rfl) (by kernel_rfl) (by kernel_rfl)]
 have:=run_add64 (P:=P) x y 0 hx hy (by decide) (by decide) w
 rw[Int.add_zero] at this
 rw[this]
 exact h
def ahc(m:Mem):Int:=3 * (m.inc - 1)+m.st+1
def yq(l:List Mem):Int:=(l.map ahc).sum
def aix(l:List Mem):Int×Int:=if va l≠0 then (0,6) else if 18446744073709551616<=yq l then (0,12) else (yq l,0)
theorem azo{l:List Mem}{i:Nat}(hi:i < l.length):yq (l.take (i+1))=yq (l.take i)+ahc l[i]:=by
 unfold yq
 rw[List.take_succ_eq_append_getElem hi,List.map_append,List.sum_append];simp
theorem avb{m:Mem}(h1:yb m=false)(h2:0<=m.inc/\m.inc < 18446744073709551616):1<=m.inc/\0<=m.st/\m.st<=2:=by
 unfold yb at h1
 simp at h1
 omega
theorem aqz{l:List Mem}(h: ∀m∈l,0<=ahc m):0<=yq l:=by
 unfold yq
 induction l with
 | nil=>simp
 | cons x l ih=>
  have h1:=h x (by simp)
  have h2:=ih fun m hm=>h m (by simp[hm])
  simp;omega
def VsI(W:World)(l:List Mem):KL:=fun x w1=> ∃(u0 u1 u2 u3 u4 u5:Value)(s hg:Int)(i:Nat),x=[u0,u1,u2,u3,u4,u5,.int .u64 s,.int .u64 hg,.int .i64 (i:Nat)]/\i<=l.length/\0<=s/\s < 18446744073709551616/\0<=hg/\hg<=10 * i/\s+hg * 18446744073709551616=yq (l.take i)/\Fz W w1
theorem avm{w:World}{v:Value}{l:List Mem}(hs:SlM w v l)(hlen:l.length<=1000000)(hinc:bfh l){K:KV}(h: ∀w',Fz w w'->K (.tuple #[.int .u64 (aix l).1,.int .i64 (aix l).2]) w'):ig P F.gc [v] w K:=by
 rw[M.bn.fcall]
 apply M.bn.calls
 unfold M.bn
 rw[im]
 refine amz hs hlen fun w1 f1=>?_
 unfold aix at h
 by_cases hv:va l=0
 ·have g:=(aen l).1 hv
  rw[if_neg (by simp[hv])] at h
  simp[hv]
  unfold M.bn.j0
  simp only[im]
  have hs1:=hs.fr f1 fun _ _ _ h=>h
  rw[hs1.jr (by kernel_rfl)]
  refine⟨VsI w l,fun x _=>l.length - ms x 8,⟨_,_,_,_,_,_,0,0,0,rfl,Nat.zero_le _,by omega,by omega,by omega,by omega,by simp[yq],f1⟩,?_⟩
  rintro x w2 ⟨u0,u1,u2,u3,u4,u5,s,hg,i,rfl,hi,hs0,hs1',hg0,hg1,htot,f2⟩
  have q6:gv [u0,u1,u2,u3,u4,u5,.int .u64 s,.int .u64 hg,.int .i64 (i:Nat)] 6= .int .u64 s:=rfl
  have q7:gv [u0,u1,u2,u3,u4,u5,.int .u64 s,.int .u64 hg,.int .i64 (i:Nat)] 7= .int .u64 hg:=rfl
  have q8:gv [u0,u1,u2,u3,u4,u5,.int .u64 s,.int .u64 hg,.int .i64 (i:Nat)] 8= .int .i64 (i:Nat):=rfl
  have hs2:=hs.fr f2 fun _ _ _ h=>h
  unfold M.bn.j2
  simp only[im,q8]
  have hfew:=g.few
  by_cases hil:i < l.length
  ·have hil':(i:Int) < l.length:=by omega
   simp[hil']
   unfold M.bn.j3
   obtain⟨b,o,cap,hv2,hb,_,hc⟩:=hs2.at hil
   have hld: ∀K,ldN P 3 b (o+i * 3) w2 K=K (ol l[i]) w2:=fun K=>ldM hc K
   have hwi:IntKind.i64.wrap ((i:Int)+1)=((i+1:Nat):Int):=by rw[iz];rfl
   have htk:=azo hil
   have hrange:=avb (g.odd _ (List.getElem_mem hil)) (hinc _ (List.getElem_mem hil))
   have hinc':=hinc _ (List.getElem_mem hil)
   generalize l[i]=m at *
   simp only[im,q6,q7,q8]
   rw[hv2]
   simp[hil,hld]
   rw[show ol m= .agg #[.int .u64 m.id,.int .u64 m.inc,.int .i64 m.st] from rfl]
   simp
   have hba:(w2.alloc (.cells #[.int .u64 0,.int .u64 0,.int .i64 0] T.m)).heap[w2.heap.size]? =some (.cells #[.int .u64 0,.int .u64 0,.int .i64 0] T.m (0,0)):=by rw[iy,if_pos rfl]
   refine jw (vs:=[.int .u64 m.id,.int .u64 m.inc,.int .i64 m.st]) hba rfl (by simp) fun w3 b3 f3=>?_
   have f3':Fz w2 w3:=((Fr.refl _ w2).alloc _).jt f3 fun y hy he=>by subst he;omega
   have c1:il w3 w2.heap.size 1=some (.int .u64 m.inc):=by rw[ir b3];rfl
   have c2:il w3 w2.heap.size 2=some (.int .i64 m.st):=by rw[ir b3];rfl
   have hsub:IntKind.u64.wrap (m.inc - 1)=(((m.inc - 1).toNat:Nat):Int):=by rw[me (by omega) (by omega)];omega
   have hcv: ∀w K,cvT P T.d T.a (.int .i64 m.st) w K=K (.int .u64 m.st) w:=fun w K=>by
    rw[oh (ks:= .i64) (kd:= .u64) (by kernel_rfl) (by kernel_rfl),me (by omega) (by omega)]
   have hst1:IntKind.u64.wrap (m.st+1)=m.st+1:=me (by omega) (by omega)
   simp[c1]
   rw[hsub]
   generalize hx:(m.inc - 1).toNat=x at *
   have hx':m.inc=(x:Int)+1:=by omega
   refine bea (by omega) ?_
   simp[c2,hcv,hst1]
   refine aqr (by omega) (by omega) ?_
   simp
   refine aqr hs0 (by omega) ?_
   simp
   have hi16:(i:Int)<=16:=by omega
   have wa:IntKind.u64.wrap (hg+3 * (x:Int) / 18446744073709551616)=hg+3 * (x:Int) / 18446744073709551616:=me (by omega) (by omega)
   have wb:IntKind.u64.wrap (hg+3 * (x:Int) / 18446744073709551616+(3 * (x:Int) % 18446744073709551616+(m.st+1)) / 18446744073709551616)=hg+3 * (x:Int) / 18446744073709551616+(3 * (x:Int) % 18446744073709551616+(m.st+1)) / 18446744073709551616:=me (by omega) (by omega)
   have wc:IntKind.u64.wrap (hg+3 * (x:Int) / 18446744073709551616+(3 * (x:Int) % 18446744073709551616+(m.st+1)) / 18446744073709551616+(s+(3 * (x:Int)+(m.st+1)) % 18446744073709551616) / 18446744073709551616)=hg+3 * (x:Int) / 18446744073709551616+(3 * (x:Int) % 18446744073709551616+(m.st+1)) / 18446744073709551616+(s+(3 * (x:Int)+(m.st+1)) % 18446744073709551616) / 18446744073709551616:=me (by omega) (by omega)
   rw[wa,wb,wc,hwi]
   have ht:ahc m=3 * (x:Int)+m.st+1:=by unfold ahc;rw[hx'];omega
   rw[ht] at htk
   exact⟨⟨_,_,_,_,_,_,_,_,i+1,rfl,by omega,by omega,by omega,by omega,by omega,by rw[htk];omega,f2.trans f3'⟩,by simp[ms,gv];omega⟩
  ·have hil': ¬(i:Int) < l.length:=by omega
   simp[hil']
   unfold M.bn.j1
   rw[List.take_of_length_le (by omega)] at htot
   have g10: ∀a b c d e f g h i hh k:Value,gv [a,b,c,d,e,f,g,h,i,hh,k] 10=k:=fun _ _ _ _ _ _ _ _ _ _ _=>rfl
   have g9: ∀a b c d e f g h i hh k:Value,gv [a,b,c,d,e,f,g,h,i,hh,k] 9=hh:=fun _ _ _ _ _ _ _ _ _ _ _=>rfl
   simp only[im,g10,g9]
   by_cases hh0:0 < hg
   ·have hT:18446744073709551616<=yq l:=by omega
    rw[if_pos hT] at h
    simp[hh0]
    exact h w2 f2
   ·have hT: ¬18446744073709551616<=yq l:=by omega
    have hs':s=yq l:=by omega
    rw[if_neg hT] at h
    simp[hh0]
    rw[hs']
    exact h w2 f2
 ·have hv6:va l=6:=(aqs l).resolve_left hv
  rw[if_pos hv] at h
  simp[hv6]
  exact h w1 f1
section
variable {w0 w : World} {R : List Asn}
end
section
variable {w0 w : World} {R : List Asn} {p : Nat} {q : Cl} {n : Nd}
def pq(n:Nd):Int:=if (aix n.v).2≠0 then 18446744073709551615 else (aix n.v).1
theorem aka(S:St w0 w (clA p q :: kt q.tb n :: R))(hn:tx n){K:KV}(h: ∀w',St w0 w' (clA p q :: kt q.tb n :: R)->K (.int .u64 (pq n)) w'):ig P F.f [lf p] w K:=by
 rw[M.cc.fcall]
 apply M.cc.calls
 unfold M.cc
 obtain⟨_,_,_,_,_,_,_,_,c14,_⟩:=mf S
 simp only[lf]
 simp[c14]
 refine alk S.swap hn fun w1 v1 S1=>?_
 have hinc:bfh n.v:=fun m hm=>hn.inc m hm
 refine avm S1.rd (by have:=hn.za.few;omega) hinc fun w2 f2=>?_
 have S2:=(S1.jv f2).drop.swap
 have:=h w2 S2
 unfold pq at this
 by_cases hk:(aix n.v).2=0
 ·simp[hk] at this⊢
  exact this
 ·simp[hk] at this⊢
  exact this
theorem orN{x y:Nat}(hx:x < 4294967296)(hy:y < 4294967296)(w:World)(t:TypeId)(rx ry:Operand)(K:KV):iq P .or t rx ry (.int .u64 ((x * 4294967296:Nat):Int)) (.int .u64 (y:Int)) w K=K (.int .u64 ((x * 4294967296+y:Nat):Int)) w:=by
 rw[ban]
 have h1:(BitVec.ofInt IntKind.u64.bits ((x * 4294967296:Nat):Int) ||| BitVec.ofInt IntKind.u64.bits (y:Int)).toNat=x * 4294967296+y:=by
  rw[BitVec.toNat_or]
  have e1:(BitVec.ofInt IntKind.u64.bits ((x * 4294967296:Nat):Int)).toNat=x * 4294967296:=aah (by omega)
  have e2:(BitVec.ofInt IntKind.u64.bits (y:Int)).toNat=y:=aah (by omega)
  rw[e1,e2,show x * 4294967296=2 ^ 32 * x from by rw[Nat.mul_comm],Nat.two_pow_add_eq_or_of_lt (by omega) x]
 rw[h1,ww (by omega)]
def ahf(inc:Int):Int:=if 4294967295 < inc then 0 else inc * 4294967296+1
theorem bgc(S:St w0 w (clA p q :: R))(hi:1<=q.inc){K:KV}(h: ∀w',St w0 w' (clA p q :: R)->K (.int .u64 (ahf q.inc)) w'):ig P F.z [lf p] w K:=by
 rw[M.be.fcall]
 apply M.be.calls
 unfold M.be
 have S1:=S.jv ((Fr.refl _ w).dr 1)
 obtain⟨c0,c1,_⟩:=mf S1
 have hm:max (1:Int) q.inc=q.inc:=by omega
 simp only[lf]
 simp[c0,c1,sn,hm]
 by_cases hb:4294967295 < q.inc
 ·have:=h _ S1
  unfold ahf at this
  rw[if_pos hb] at this
  simp[hb]
  exact this
 ·have S2:=S1.jv ((Fr.refl _ _).dr 1)
  have:=h _ S2
  unfold ahf at this
  rw[if_neg hb] at this
  simp[hb]
  unfold M.be.j0
  obtain⟨d0,d1,_⟩:=mf S2
  obtain⟨x,hx⟩:=Int.eq_ofNat_of_zero_le (show 0<=q.inc by omega)
  rw[hx] at this d1 hb
  have hxl:x < 4294967296:=by omega
  have hsh: ∀(rx ry:Operand)(w:World)(K:KV),iq P .shl T.a rx ry (.int .u64 (x:Int)) (.int .u64 32) w K=K (.int .u64 ((x * 4294967296:Nat):Int)) w:=fun rx ry w K=>by
   rw[adv (by decide)]
   have e:IntKind.u64.wrap ((x:Int) * 2 ^ min (32:Int).toNat IntKind.u64.bits)=((x * 4294967296:Nat):Int):=by
    show IntKind.u64.wrap ((x:Int) * 4294967296)=_
    rw[me (by omega) (by omega)]
    omega
   rw[e]
  have ho: ∀(rx ry:Operand)(w:World)(K:KV),iq P .or T.a rx ry (.int .u64 ((x:Int) * 4294967296)) (.int .u64 1) w K=K (.int .u64 ((x:Int) * 4294967296+1)) w:=fun rx ry w K=>by
   have:=orN (x:=x) (y:=1) hxl (by decide) w T.a rx ry K
   simpa using this
  simp[d0,d1,hsh,ho]
  exact this
def avr(ids:List Int)(t o:Int):Prop:= ∃l,Ring.abr l/\l.Perm (Ring.aba ids 3)/\o=Ring.adp l (Ring.aiw t)
theorem avr.one{id t o:Int}(h:avr [id] t o):o=id:=by
 obtain⟨l,a1,a2,rfl⟩:=h
 have hl:=a2.length_eq
 rw[Ring.aek] at hl
 refine Ring.bae (fun p hp=>?_) (fun e=>by rw[e] at hl;simp at hl) _
 have:=a2.mem_iff.1 hp
 simp only[Ring.aba,Ring.aau,List.flatMap_cons,List.flatMap_nil,List.append_nil,List.mem_map] at this
 obtain⟨i,_,rfl⟩:=this
 rfl
theorem amo(S:St w0 w (clA p q :: kt q.tb n :: R))(hn:tx n){ids:List Int}(hi:ahp n.v=ids)(hr:Ring.anw 0 ids)(hne:ids≠[])(hlen:ids.length<=4)(t:Int){K:KV}(h: ∀w' o,avr ids t o->St w0 w' (clA p q :: kt q.tb n :: R)->K (.int .u64 o) w'):ig P F.al [lf p,.int .u64 t] w K:=by
 rw[M.af.fcall]
 apply M.af.calls
 unfold M.af
 simp only[lf]
 simp
 unfold M.af.j0
 have S1:=S.jv ((Fr.refl _ w).dr 1)
 obtain⟨_,_,_,_,c4,_,_,_,c14,_⟩:=mf S1
 simp[c4,c14]
 refine alk S1.swap hn fun w2 v2 S2=>?_
 obtain⟨_,_,_,_,d4,_⟩:=mf S2.up2
 simp[d4]
 refine asw (l:=n.v) S2 (fun w' L S'=>(S'.perm List.perm_middle).rd) (by have:=hn.za.few;omega) fun w3 v3 S3=>?_
 rw[hi] at S3
 obtain⟨_,_,_,_,e4,_⟩:=mf S3.up3
 simp[e4]
 refine Ring.bhg (n:=3) S3 (fun w' L S'=>(S'.perm List.perm_middle).row (fun _=>rfl)) hr (by omega) (by omega) hne (by omega) fun w4 v4 l a1 a2 S4=>?_
 have hl:=a2.length_eq
 rw[Ring.aek] at hl
 have hl0:=List.length_pos_iff.2 hne
 simp
 refine Ring.baw S4 (fun w' L S'=>(S'.perm List.perm_middle).row Ring.vo) (by omega) (fun e=>by rw[e] at hl;simp at hl;omega) a1 t fun w5 S5=>?_
 exact h w5 _ ⟨l,a1,a2,rfl⟩ S5.drop.drop.drop.swap
theorem bkj{ls:List Ltr}(S:St w0 w (clA p q :: mu q.out ls :: R)){K:KV}(h: ∀w',St w0 w' (clA p {q with out:= .slice none 0 0} :: mu q.out ls :: R)->K q.out w'):ig P F.be [lf p] w K:=by
 rw[M.bh.fcall]
 apply M.bh.calls
 unfold M.bh
 obtain⟨_,_,_,_,_,_,_,_,_,_,_,_,_,_,_,_,c24,_⟩:=mf S
 simp only[lf]
 simp[c24]
 refine St.qk S rfl (by simp[clC]) fun w2 S2=>?_
 exact h w2 S2
theorem aum{a0:Int}{m:MP}(S:St w0 w (clA p q :: qp q.kb a0 m :: R))(t:Int){K:KV}(h:K ((kg m t).getD (.int .i64 0)) w):ig P F.ar [lf p,.int .u64 t] w K:=by
 rw[M.ar.fcall]
 apply M.ar.calls
 unfold M.ar
 obtain⟨_,_,_,_,_,_,_,_,_,_,c16,_⟩:=mf S
 simp only[lf]
 simp[c16]
 exact ata S.swap t h
end
end Go.Proofs.YtgepcfcicngceaaGreatDoor
set_option maxRecDepth 100000
namespace Go.Proofs.YtgepcfcicngceaaGreatDoor.KeyB
open Go.Eng Go.Sort Go.Proofs.YtgepcfcicngceaaGreatDoor.Suint64
def KI(w W:World)(U:Nat->Prop)(r:Nat)(m:MP)(J:List Int->Asn):KL:=fun x w1=> ∃(done:List Int)(U1:Nat->Prop),x.length=1/\xv w1 W.heap.size r .u64 m done/\(J done.reverse).ok w1 U1/\(∀b,U1 b->w.heap.size<=b/\b < w1.heap.size/\b≠W.heap.size)/\Fr (fun b=>w.heap.size<=b) W w1
theorem abq{w:World}{it r:Nat}{k:IntKind}{m:MP}{done:List Int}(h:xv w it r k m done):done.Nodup/\∀x∈done,x∈jn m:=by
 obtain⟨es,clk,since,c0,jq,_,_,_,_,_,_,_,_,_,h1,h2⟩:=h
 exact⟨h1,h2⟩
theorem aio{w:World}{r Bm:Nat}{m:MP}{e:TypeId}(hm:kx w r .u64 m)(hn:(jn m).Nodup)(hB:w.heap[Bm]? =some (.cells #[.map (some r)] e (0,0)))(hl:m.length < 60000):
  api P F.a [.pointer (some ⟨Bm,0,none⟩)] alo (fun xs=>xs.Perm (jn m)) 60000 w:=by
 intro l J W U K hf hJ hU hround hend
 apply M.r.calls
 unfold M.r
 have hBm:W.heap[Bm]? =some (.cells #[.map (some r)] e (0,0)):=hf.heap hB fun h=>h
 have c0:=ir hBm 0
 simp only[List.size_toArray,List.getElem?_toArray,List.getElem?_cons_zero] at c0
 have hm':kx W r .u64 m:=hm.of_heap (hf.jf r hm.lt fun h=>h)
 have hrw:=hm.lt
 simp[c0]
 refine aph mt.j hm' fun w1 hi f1=>?_
 have hWs:=hf.size
 have hWlt:=(hi.lt).1
 refine⟨KI w W U r m J,fun _ w1=>rz w1 W.heap.size m.length,⟨[],U,rfl,hi,(J []).jf hJ f1 fun _ _ h=>h,fun b hb=>?_,f1.mono fun _ _ h=>h.elim⟩,?_⟩
 ·have:=hU b hb
  have:=f1.size
  exact⟨by omega,by omega,by omega⟩
 rintro x w2 ⟨done,U1,hx1,hi2,hJ2,hU2,f2⟩
 unfold M.r.j0
 refine aqk hi2 hn T.bz (fun hall=>?_) fun y v w3 hy hyd hc3 f3 hlt=>?_
 ·have e0: ∀w K,exT P (.tuple #[.bool false]) 0 w K=K (.bool false) w:=fun _ _=>rfl
  simp[e0]
  obtain⟨h1,h2⟩:=abq hi2
  refine hend _ w2 done.reverse U1 ?_ hJ2 f2
  refine (List.reverse_perm done).trans ?_
  refine (List.perm_ext_iff_of_nodup h1 hn).2 fun z=>⟨h2 z,fun hz=>?_⟩
  obtain⟨p,hp,rfl⟩:=List.mem_map.1 hz
  exact hall p hp
 ·simp
  rw[aqg hc3]
  simp
  have hnit: ∀b,U1 b->¬b=W.heap.size:=fun b hb=>(hU2 b hb).2.2
  have hJ3:=(J done.reverse).jf hJ2 f3 hnit
  have hlen:done.length < m.length:=by
   obtain⟨h1,h2⟩:=abq hi2
   have:=xr (l:=y :: done) (l':=jn m) (List.nodup_cons.2 ⟨hyd,h1⟩) fun z hz=>by
    rcases List.mem_cons.1 hz with rfl|hz
    ·exact List.mem_map_of_mem hy
    ·exact h2 z hz
   simp only[jn,List.length_map,List.length_cons] at this
   omega
  have hs3:=f3.size
  refine hround done.reverse y w3 U1 _ hJ3 (fun b hb=>⟨(hU2 b hb).1,by have:=(hU2 b hb).2.1;omega⟩) (by simp;omega) fun w4 U4 hJ4 hU4 f4=>?_
  simp
  have hit: ¬U1 W.heap.size:=fun h=>hnit _ h rfl
  have hr1: ¬U1 r:=fun h=>by have:=(hU2 r h).1;omega
  have hi3:xv w3 W.heap.size r .u64 m (y :: done):=hc3.1
  have hi4:=hi3.jf (f4.jf _ hi3.lt.1 hit) (f4.jf _ hi3.lt.2 hr1)
  refine⟨⟨y :: done,U4,rfl,hi4,by simpa using hJ4,fun b hb=>?_,?_⟩,?_⟩
  ·rcases hU4 b hb with h|h
   ·have:=hU2 b h
    have:=f4.size
    exact⟨by omega,by omega,by omega⟩
   ·have:=hi3.lt.1
    have:=f2.size
    exact⟨by omega,by omega,by omega⟩
  ·refine (f2.jt f3 fun b hb he=>by omega).jt f4 fun b hb he=>(hU2 b he).1
  ·have:rz w4 W.heap.size m.length=rz w3 W.heap.size m.length:=by
    unfold rz
    rw[f4.jf _ hi3.lt.1 hit]
   rw[this];exact hlt
theorem aku{w:World}{r:Nat}{m:MP}(hm:kx w r .u64 m)(hn:(jn m).Nodup)(hl:m.length < 60000){K:KV}
  (h: ∀w' v,OwN w' w.heap.size v (uk (jn m))->Fz w w'->K v w'):
  ig P F.r [.map (some r)] w fun t w=>ig P F.ap [t] w K:=by
 rw[M.z.fcall]
 apply M.z.calls
 unfold M.z
 rw[tm,aal]
 show ig P F.ap _ _ K
 rw[M.cx.fcall]
 have f1:Fz w (w.alloc (.cells #[.map (some r)] T.j)):=(Fr.refl _ w).alloc _
 have hB:(w.alloc (.cells #[.map (some r)] T.j)).heap[w.heap.size]? =some (.cells #[.map (some r)] T.j (0,0)):=by rw[iy,if_pos rfl]
 have hsz:w.heap.size<=(w.alloc (.cells #[.map (some r)] T.j)).heap.size:=by simp
 refine amb (ks:=jn m) FN.a.at (by kernel_rfl) (by kernel_rfl) (by simpa [jn] using hl) (aio (hm.of_heap (f1.jf r hm.lt fun h=>h)) hn hB hl) fun w2 v o2 f2=>?_
 exact h w2 v (o2.mono hsz) (f1.trans f2)
end Go.Proofs.YtgepcfcicngceaaGreatDoor.KeyB
set_option maxRecDepth 100000
namespace Go.Proofs.YtgepcfcicngceaaGreatDoor
open Go.Eng
abbrev adi(v:Value)(l:List Int):Asn:=ot T.a 1 Suint64.rk v l
theorem qh(x:Int):(Suint64.rk x).length=1:=rfl
section
variable {w0 w : World} {hb : Nat} {g : Cfg} {A : List AE} {c : CT} {R : List Asn}
def qe(A:List AE):List Int:=Suint64.uk (A.map AE.t)
theorem ama(S:St w0 w (ng hb g A c :: R))(hA:A.length<=1000){K:KV}(h: ∀w' v,St w0 w' (adi v (qe A) :: ng hb g A c :: R)->K v w'):ig P F.cc [.pointer (some ⟨hb,0,none⟩)] w K:=by
 obtain⟨B,I,hB,cl⟩:=S.open
 have I':Buf w hb g B A c:=I
 obtain⟨O,r,m,es,hAe,J,hfp⟩:=I'.ex
 have hkp:(jn m).Perm (A.map AE.t):=by
  have e:A.map AE.t=es.map Ent.t:=by rw[hAe,List.map_map];rfl
  rw[e]
  refine (List.perm_ext_iff_of_nodup J.mn J.tn).2 fun k=>?_
  constructor
  ·intro hk
   by_cases hx: ∃e∈es,e.t=k
   ·obtain⟨e,he,rfl⟩:=hx;exact List.mem_map_of_mem he
   ·have:=J.mz k fun e he hek=>hx ⟨e,he,hek⟩
    exact absurd hk ((ou _ _).1 this)
  ·intro hk
   obtain⟨e,he,rfl⟩:=List.mem_map.1 hk
   by_cases hx:e.t∈jn m
   ·exact hx
   ·have:=(ou _ _).2 hx
    rw[J.mg e he] at this;cases this
 rw[M.bt.fcall]
 apply M.bt.calls
 unfold M.bt
 simp
 unfold M.bt.j0
 obtain⟨_,_,_,q5⟩:=J.cells
 simp[q5]
 have hml:m.length < 60000:=by
  have h1:A.length=es.length:=by rw[hAe,List.length_map]
  rw[J.ml];omega
 refine KeyB.aku J.mp J.mn hml fun w' v o f=>?_
 have hd:Suint64.uk (jn m)=qe A:=Suint64.agx hkp
 rw[hd] at o
 exact h w' v (S.add (a:=adi v (qe A)) f (B:=fun b=>v.ownBlock=some b) ⟨o.mono (Nat.zero_le _),fun b hb=>hb⟩ fun b hb=>⟨(o.lt hb).1,(o.lt hb).2⟩)
end
set_option maxRecDepth 100000
open Go.Eng Go.Proofs.YtgepcfcicngceaaGreatDoor.Sint
section
variable {w0 w : World} {R : List Asn} {p : Nat} {q : Cl} {n : Nd} {g : Cfg} {A : List AE} {c : CT} {a0 : Int} {es : List Evn}
theorem bdg{v:Value}{l:List Int}(h:Rdv w0 R v l)(X:List Asn):Rdv w0 (X ++ R) v l:=fun w' L S=>h w' (L ++ X) (by rw[List.append_assoc];exact S)
def aeg(k now:Int)(s:Spn):Evn:=if k=0 then ⟨1,now,1,s.jh,je,0,s,0⟩ else ⟨6,now,1,s.jh,je,0,s,8⟩
abbrev apx(p:Nat)(q:Cl)(n:Nd)(g:Cfg)(A:List AE)(c:CT)(a0:Int)(es:List Evn):List Asn:=[clA p q,kt q.tb n,ng q.hb g A c,qp q.kb a0 [],pg q.ev es]
theorem baj{rv:Value}{s:Spn}{now:Int}(S:St w0 w (apx p q n g A c a0 es ++ R))(hn:tx n)(hv:ahp n.v=[1])(hs:Rdv w0 R rv (aer s))(hr:ly s=0)(hR:aha s)(h0:0<=q.now)(h1:q.now<=18446744073709551615)(h2:0<=now)(h3:now<=18446744073709551615)
  (hA:A.length<=1000) (hl: ∀e∈A,e.l.length<=1000) (hw:0<=g.jo) (he:es.length<=1000000) {K:KV}
  (h: ∀w' v',St w0 w' (apx p {q with now:=max q.now now,ev:=v'} n g (aky g A s) (akv g A c s (max q.now now)) a0 (es ++ [aeg (afb g A s) (max q.now now) s]) ++ R)->K (.int .i64 (if afb g A s=0 then 0 else 8)) w'):ig P F.ax [lf p,rv,.int .u64 now] w K:=by
 have S0:St w0 w (clA p q :: kt q.tb n :: ng q.hb g A c :: qp q.kb a0 [] :: pg q.ev es :: R):=S
 rw[M.f.fcall]
 apply M.f.calls
 unfold M.f
 obtain⟨_,_,_,_,_,_,_,_,_,_,_,_,_,_,_,c23,_⟩:=mf S0
 simp only[lf]
 simp
 unfold M.f.j0
 simp[c23,sn]
 refine St.qk S0 rfl (by simp[clC]) fun w1 S1=>?_
 have S1':St w0 w1 (clA p {q with now:=max q.now now} :: kt q.tb n :: ng q.hb g A c :: qp q.kb a0 [] :: pg q.ev es :: R):=S1
 have hn0:0<=max q.now now:=by omega
 have hn1:max q.now now<=18446744073709551615:=by omega
 generalize max q.now now=nw at *
 refine aub (s:=s) (r:=[]) S1' (by rw[List.append_nil];exact bdg hs [_,_,_,_,_]) hr hR (by simp) fun w2 v2 S2=>?_
 have S3:=S2.mkB #[.int .u64 0,.int .u64 0,.int .u64 0,.int .u64 0,.int .u64 0,.string ⟨#[]⟩,.string ⟨#[]⟩,.bool false] T.i
 have hln: ∀w' K,biT P .len #[T.y] T.d [false] [v2] w' K=K (.int .i64 0) w':=fun w' K=>(S2.row pc).jr (by kernel_rfl) [false]
 unfold lx
 simp
 generalize w2.heap.size=tb at *
 generalize w2.alloc _=w3 at *
 refine St.put (vs:=kp s) (cs':=(kp s).toArray) S3 (tq s) (by simp[kp]) (by simp[kp]) fun w4 S4=>?_
 simp[hln]
 unfold M.f.j1
 simp
 unfold M.f.j2
 have S5:St w0 w4 (spB tb s :: clA p {q with now:=nw} :: kt q.tb n :: ng q.hb g A c :: qp q.kb a0 [] :: pg q.ev es :: R):=S4.swap.drop
 have sp0: ∀{w':World}{L:List Asn},St w0 w' (spB tb s :: L)->il w' tb 0=some (.int .u64 s.jh):=fun S'=>by rw[S'.cell];rfl
 have sp8: ∀{w':World}{L:List Asn},St w0 w' (spB tb s :: L)->∀K,ldN P 8 tb 0 w' K=K (lx s) w':=fun S' K=>S'.ldA (n:=8) (i:=0) (kp s) rfl rfl K
 have S6:=S5.mkB (evC ⟨0,0,0,0,je,0,⟨0,0,0,0,0,⟨#[]⟩,⟨#[]⟩,false⟩,0⟩).toArray T.av
 unfold evC je at S6
 dsimp only at S6
 simp[sp0 S5,sp8 S5,lx]
 generalize w4.heap.size=eb at *
 generalize w4.alloc _=w5 at *
 refine St.put (vs:=evC ⟨1,0,0,s.jh,je,0,s,0⟩) (cs':=(evC ⟨1,0,0,s.jh,je,0,s,0⟩).toArray) S6 (asu _) (by simp[evC]) (by simp[evC]) fun w6 S7=>?_
 simp[sp0 S7.swap]
 have S8:=S7.perm (List.Perm.append_right R (List.perm_append_comm (l₁:=[_,_]) (l₂:=[_,_,_,_,_])))
 refine amo S8 hn hv ⟨by decide,trivial⟩ (by simp) (by simp) s.jh fun w7 o ho S9=>?_
 obtain rfl:=ho.one
 have S10:=S9.jv ((Fr.refl _ w7).dr 1)
 obtain⟨d0,_,_,_,_,_,_,_,_,_,d16,_⟩:=mf S10
 have x0:=sp0 (S10.perm (List.perm_middle (l₁:=[_,_,_,_,_,_])))
 simp[d16,x0]
 refine ata S10.up3 s.jh ?_
 simp[kg,d0]
 have S11:=S10.jv ((Fr.refl _ (dr w7 1)).dr 1)
 obtain⟨e0,_,_,_,_,_,_,_,_,e15,_,_,_,_,_,e23,_⟩:=mf S11
 have x8:=sp8 (S11.perm (List.perm_middle (l₁:=[_,_,_,_,_,_])))
 simp[e15,e23,x8]
 refine bkl S11.up2 hA hl s ⟨hn0,hn1⟩ hw fun w8 S12=>?_
 have hev: ∀{w':World}{L:List Asn},St w0 w' (ja eb (evC ⟨1,0,0,s.jh,je,0,s,0⟩).toArray T.av :: L)->∀K,ldN P 16 eb 0 w' K=K (evA ⟨1,0,0,s.jh,je,0,s,0⟩) w':=fun S' K=>S'.ldA (n:=16) (i:=0) (evC ⟨1,0,0,s.jh,je,0,s,0⟩) rfl rfl K
 have hfin: ∀w9 v',St w0 w9 (clA p {{q with now:=nw} with ev:=v'} :: pg v' (es ++ [aeg (afb g A s) nw s]) :: ng q.hb g (aky g A s) (akv g A c s nw) :: kt q.tb n :: qp q.kb a0 [] :: ja eb (evC ⟨1,0,0,s.jh,je,0,s,0⟩).toArray T.av :: spB tb s :: R)->K (.int .i64 (if afb g A s=0 then 0 else 8)) w9:=fun w9 v' S'=>by
  refine h w9 v' ?_
  exact S'.pick (L:=[_,_,_,_,_,_,_]) [0,3,2,4,1] 7 rfl (by decide)
 by_cases hk:afb g A s=0
 ·have S13:=S12.pick (L:=[_,_,_,_,_,_,_]) [5,0,1,2,3,4,6] 7 rfl (by decide)
  simp[hk,hev S13]
  have S14:=S13.pick (L:=[_,_,_,_,_,_,_]) [2,5,1,3,4,0,6] 7 rfl (by decide)
  refine aid (q:={q with now:=nw}) S14 ⟨1,0,0,s.jh,je,0,s,0⟩ he fun w9 v9 S15=>?_
  have:=hfin w9 v9 (by
   unfold aeg
   rw[if_pos hk]
   exact S15)
  rw[if_pos hk] at this
  exact this
 ·have S13:=S12.pick (L:=[_,_,_,_,_,_,_]) [6,0,1,2,3,4,5] 7 rfl (by decide)
  simp[hk,sp0 S13,sp8 S13,lx]
  have S14:=S13.pick (L:=[_,_,_,_,_,_,_]) [2,5,1,3,4,6,0] 7 rfl (by decide)
  refine aid (q:={q with now:=nw}) S14 ⟨6,0,0,s.jh,je,0,s,8⟩ he fun w9 v9 S15=>?_
  have:=hfin w9 v9 (by
   unfold aeg
   rw[if_neg hk]
   exact S15)
  rw[if_neg hk] at this
  exact this
end
theorem acb{F:KL->Prop}{K:KL}(H: ∀K',(∀x w,K x w->K' x w)->F K'):ij F K:=H K fun _ _ h=>h
section
variable {w0 w : World} {R : List Asn}
theorem bhz{t elem r:Nat}{k:IntKind}{zero:Value}(ht:nj P t k elem zero)(S:St w0 w (jk r k [] :: R))(x:Int){K:KV}(h: ∀w' (clk:Nat),St w0 w' (xa r (.map #[⟨.int k x,zero,clk⟩] (clk+1)) :: R)->K (.tuple #[zero,.int .i64 (clk:Nat)]) w'):meT P t (.map (some r)) (.int k x) w K:=by
 obtain⟨⟨key,h1,h2⟩,i,h3,h4⟩:=ht
 obtain⟨es,clk,hr,he,hbn⟩:=S.mp
 have hes:es= #[]:=by
  have:=he.length
  simp at this
  exact this
 subst hes
 obtain⟨B,⟨k1,k2⟩,hB,cl⟩:=S.open
 have hlt:r < w.heap.size:=li hr
 have hf:=fun w=>ur h2 he x (by rfl) w
 simp only[meT,jl,Instr.mapEntry,Sem.run_bind,jd h1,Result.andThen,pt hr,qu h2,hf,ack h3 h4,ut hr,Sem.run_pure]
 exact h _ clk (cl _ [xa r (.map #[⟨.int k x,zero,clk⟩] (clk+1))] ((Fr.refl B w).setObj (.inl k2) _) (Rs.one (B:=B) ⟨by rw[om _ _ _ _ hlt,if_pos rfl];rfl,k2⟩ fun b hb=> .inl hb))
theorem bjg{t r clk:Nat}{k:IntKind}{x:Int}{z:Value}(S:St w0 w (xa r (.map #[⟨.int k x,z,clk⟩] (clk+1)) :: R))(v:Value){K:KV}(h: ∀w',St w0 w' (jk r k [(x,v)] :: R)->K undef w'):esT P t (.map (some r)) (.int .i64 (clk:Nat)) v w K:=by
 have hr:=ahj S
 obtain⟨B,⟨k1,k2⟩,hB,cl⟩:=S.open
 have hlt:r < w.heap.size:=li hr
 have hfi:(#[(⟨.int k x,z,clk⟩:MapEntry)]).findIdx? (fun e=>(e.born:Int) == ((clk:Nat):Int))=some 0:=by simp
 simp only[esT,td,Instr.entryStore,Sem.run_bind,Result.andThen,pt hr,asInt,asIntOf,Sem.run_pure,hfi,ut hr]
 refine h _ (cl _ [jk r k [(x,v)]] ((Fr.refl B w).setObj (.inl k2) _) (Rs.one (B:=B) ⟨⟨⟨_,_,by rw[om _ _ _ _ hlt,if_pos rfl],?_,?_⟩,by simp[jn]⟩,k2⟩ fun b hb=> .inl hb))
 ·simpa using pa.cons (k:=k) (x:=x) (v:=v) (b:=clk) .nil
 ·simp[zh]
end
section
variable {w0 w : World} {R : List Asn} {p : Nat} {q : Cl} {n : Nd}
theorem ba2(x y:Bal)(w':World)(K:KV):bsT P T.bn 2 #[(0,kj x),(1,kj y)] w' K=K (.slice (some ⟨w'.heap.size,0,none⟩) 2 2) (w'.alloc (.cells #[.int .u64 x.n,.int .u64 x.ji,.int .u64 y.n,.int .u64 y.ji] T.e)):=kr
abbrev nxB(q:Cl)(n:Nd):Bal×Int:=aem (vt je [je,q.ke]) (pq n) (ahf q.inc)
theorem bim{b:Bal}(hb:b.rng):0<=(vt je [je,b]).n/\(vt je [je,b]).n < 18446744073709551616:=by
 unfold vt je
 simp only[List.foldl_cons,List.foldl_nil]
 obtain⟨⟨h1,h2⟩,_⟩:=hb
 split <;>(try split) <;>first|omega| (dsimp only;omega)
theorem bky{jh:Int}{x0:List Value}(S:St w0 w (clA p q :: kt q.tb n :: jk q.se .u64 [] :: R))(hn:tx n)(hi:1<=q.inc)(hb:q.ke.rng)(hv:0<=pq n/\pq n < 18446744073709551616){K:KV}
  (h: ∀w' tb L,gv L 20= .pointer (some ⟨tb,0,none⟩)->gv L 21= .int .i64 (nxB q n).2->St w0 w' (baB tb (nxB q n).1 :: clA p q :: kt q.tb n :: jk q.se .u64 [] :: R)->M.j.j1 L (lf p) (.int .u64 jh) x0 w' K):M.j.j0 (lf p) (.int .u64 jh) x0 w K:=by
 unfold M.j.j0
 have S1:=S.jv ((Fr.refl _ w).dr 1)
 rw[qa]
 generalize dr w 1=w1 at *
 refine acb fun K1 hK=>?_
 have hfin: ∀w' tb L,gv L 20= .pointer (some ⟨tb,0,none⟩)->gv L 21= .int .i64 (nxB q n).2->St w0 w' (baB tb (nxB q n).1 :: clA p q :: kt q.tb n :: jk q.se .u64 [] :: R)->K1 L w':=fun w' tb L h1 h2 S'=>hK L w' (h w' tb L h1 h2 S')
 obtain⟨_,_,_,_,_,_,_,_,_,_,_,_,c18,_,_,_,_,_,_,_,c20⟩:=mf S1
 have lu: ∀{w':World}{L:List Asn},St w0 w' (jk q.se .u64 [] :: L)->∀K,luT P T.t (.map (some q.se)) (.int .u64 jh) false w' K=K (kj je) w':=fun S' K=>by
  rw[ss mt.t S'.mp]
  rfl
 simp only[lf]
 have fin: ∀{w':World}{tb:Nat},St w0 w' (baB tb je :: clA p q :: kt q.tb n :: jk q.se .u64 [] :: R)->∀L,gv L 20= .pointer (some ⟨tb,0,none⟩)->gv L 21= .int .i64 (nxB q n).2->stT P T.e (.pointer (some ⟨tb,0,none⟩)) (kj (nxB q n).1) w' fun _ w2=>K1 L w2:=fun S' L g1 g2=>aci S' fun w3 S3=>hfin w3 _ L g1 g2 S3
 have e18: ∀{w':World}{L:List Asn},St w0 w' (clA p q :: L)->il w' p 18=some (.map (some q.se)):=fun S'=>by rw[S'.cell];rfl
 have e20: ∀{w':World}{L:List Asn},St w0 w' (clA p q :: L)->∀K,ldN P 2 p 20 w' K=K (kj q.ke) w':=fun S'=>by
  obtain⟨_,_,_,_,_,_,_,_,_,_,_,_,_,_,_,_,_,_,_,_,x⟩:=mf S'
  exact x
 have nx: ∀{w':World}{L:List Asn}{K':KV},St w0 w' L->(∀w2,St w0 w2 L->K' (.tuple #[kj (nxB q n).1,.int .i64 (nxB q n).2]) w2)->ig P F.ch [kj (vt je [je,q.ke]),.int .u64 (pq n),.int .u64 (ahf q.inc)] w' K':=fun S' h'=>bgi S' _ (bim hb) hv h'
 have mx: ∀{w':World}{L:List Asn}{v:Value}{K':KV},St w0 w' (ot T.e 2 tl v [je,q.ke] :: L)->(∀w2,St w0 w2 L->K' (kj (vt je [je,q.ke])) w2)->ig P F.dr [v] w' K':=fun S' h'=>bhp S' (fun w2 L S2=>(S2.perm List.perm_middle).row amh) (by simp) fun w2 S2=>h' w2 S2.drop
 have bs: ∀{w':World}{L:List Asn},St w0 w' L->St w0 (w'.alloc (.cells #[.int .u64 je.n,.int .u64 je.ji,.int .u64 q.ke.n,.int .u64 q.ke.ji] T.e)) (ot T.e 2 tl (.slice (some ⟨w'.heap.size,0,none⟩) 2 2) [je,q.ke] :: L):=fun S'=>St.uj (l:=[je,q.ke]) S' amh rfl (by simp[maxLen])
 have ver: ∀{w':World}{L:List Asn}{K':KV},St w0 w' (clA p q :: kt q.tb n :: L)->(∀w2,St w0 w2 (clA p q :: kt q.tb n :: L)->K' (.int .u64 (pq n)) w2)->ig P F.f [.pointer (some ⟨p,0,none⟩)] w' K':=fun S' h'=>aka S' hn h'
 have lif: ∀{w':World}{L:List Asn}{K':KV},St w0 w' (clA p q :: L)->(∀w2,St w0 w2 (clA p q :: L)->K' (.int .u64 (ahf q.inc)) w2)->ig P F.z [.pointer (some ⟨p,0,none⟩)] w' K':=fun S' h'=>bgc S' hi h'
 generalize nxB q n=yk at *
 obtain⟨y,k⟩:=yk
 dsimp only at fin nx hfin
 simp[c18,c20,lu S1.up2,ba2]
 have en: ∀{w':World}{tb:Nat},St w0 w' (clA p q :: kt q.tb n :: jk q.se .u64 [] :: baB tb je :: R)->∀L,gv L 20= .pointer (some ⟨tb,0,none⟩)->gv L 21= .int .i64 k->stT P T.e (.pointer (some ⟨tb,0,none⟩)) (kj y) w' fun _ w2=>K1 L w2:=fun S' L g1 g2=>fin (S'.pick (L:=[_,_,_,_]) [3,0,1,2] 4 rfl (by decide)) L g1 g2
 have al: ∀{w':World},St w0 w' (clA p q :: kt q.tb n :: jk q.se .u64 [] :: R)->St w0 (w'.alloc (.cells #[.int .u64 0,.int .u64 0] T.e)) (clA p q :: kt q.tb n :: jk q.se .u64 [] :: baB w'.heap.size je :: R):=fun S'=>(abi S').pick (L:=[_,_,_,_]) [1,2,3,0] 4 rfl (by decide)
 refine⟨⟨?_,?_⟩,?_⟩
 ·refine mx (bs S1) fun w2 S2=>?_
  refine⟨?_,?_⟩
  ·refine ver S2 fun w3 S3=>?_
   refine⟨?_,?_⟩
   ·refine lif S3 fun w4 S4=>?_
    refine⟨?_,?_⟩
    ·refine nx S4 fun w5 S5=>?_
     have T5:=al S5
     simp[e18 T5,e20 T5,lu T5.up2]
     exact en T5 _ rfl rfl
    ·have T4:=al S4
     simp[e18 T4,e20 T4,lu T4.up2]
     refine nx T4 fun w5 S5=>?_
     simp
     exact en S5 _ rfl rfl
   ·have T3:=al S3
    simp[e18 T3,e20 T3,lu T3.up2]
    refine lif T3 fun w4 S4=>nx S4 fun w5 S5=>?_
    simp
    exact en S5 _ rfl rfl
  ·have T2:=al S2
   simp[e18 T2,e20 T2,lu T2.up2]
   refine ver T2 fun w3 S3=>lif S3 fun w4 S4=>nx S4 fun w5 S5=>?_
   simp
   exact en S5 _ rfl rfl
 ·have T1:=(abi (bs S1)).pick (L:=[_,_,_,_,_]) [1,2,3,4,0] 5 rfl (by decide)
  simp only[jc] at T1
  simp[e18 T1.swap,e20 T1.swap,lu T1.up3]
  refine mx T1 fun w2 S2=>ver S2 fun w3 S3=>lif S3 fun w4 S4=>nx S4 fun w5 S5=>?_
  simp
  exact en S5 _ rfl rfl
 ·have T1:=al S1
  have T2:=bs T1
  simp only[jc] at T2
  simp[e18 T1,e20 T1,lu T1.up2,ba2,e18 T2.swap,e20 T2.swap,lu T2.up3]
  refine mx T2 fun w2 S2=>ver S2 fun w3 S3=>lif S3 fun w4 S4=>nx S4 fun w5 S5=>?_
  simp
  exact en S5 _ rfl rfl
end
section
variable {w0 w : World} {R : List Asn} {p : Nat} {q : Cl} {n : Nd} {g : Cfg} {A : List AE} {c : CT} {a0 : Int} {m rm um : MP} {es : List Evn} {ls : List Ltr}
abbrev nc(p:Nat)(q:Cl)(n:Nd)(g:Cfg)(A:List AE)(c:CT)(a0:Int)(m:MP)(es:List Evn)(ls:List Ltr)(rm um:MP):List Asn:=[clA p q,kt q.tb n,ng q.hb g A c,qp q.kb a0 m,pg q.ev es,mu q.out ls,rdA 1 lq q.rep [101],rdA 4 lc q.rul [jz],jk q.ru .u64 rm,jk q.se .u64 [],jk q.un .u64 um]
def su(e:AE):Int:=if e.mq then 3 else anu e.l
def aap(now:Int):Int:=now+min 4 (18446744073709551615 - now)
theorem nk{L:List Asn}(S:St w0 w L)(h:clA p q∈L):il w p 0=some (.int .u64 1)/\il w p 2=some q.rep/\il w p 3=some (.int .u64 200)/\il w p 8=some (.int .u64 4)/\il w p 13=some q.rul/\il w p 14=some (.pointer (some ⟨q.tb,0,none⟩))/\il w p 15=some (.pointer (some ⟨q.hb,0,none⟩))/\il w p 16=some (.pointer (some ⟨q.kb,0,none⟩))/\il w p 17=some (.map (some q.ru))/\il w p 18=some (.map (some q.se))/\il w p 19=some (.map (some q.un))/\il w p 22=some (.int .u64 q.sr)/\il w p 23=some (.int .u64 q.now)/\∀K,ldN P 2 p 20 w K=K (kj q.ke) w:=by
 obtain⟨s,t,rfl⟩:=List.append_of_mem h
 have S':=S.perm List.perm_middle
 refine⟨?_,?_,?_,?_,?_,?_,?_,?_,?_,?_,?_,?_,?_,fun K=>S'.ldA (n:=2) (i:=20) (tl q.ke) rfl rfl K⟩ <;>rw[S'.cell] <;>rfl
theorem avp{now:Int}(h0:0<=now)(h1:now<=18446744073709551615):IntKind.u64.wrap (18446744073709551615 - now)=18446744073709551615 - now/\IntKind.u64.wrap (now+min 4 (18446744073709551615 - now))=aap now:=by
 refine⟨?_,?_⟩ <;>rw[me (by omega) (by omega)]
 rfl
theorem ayd{e:AE}(S:St w0 w (nc p q n g A c a0 m es ls [] um ++ R))(hn:tx n)(hi:1<=q.inc)(hb:q.ke.rng)(hv:0<=pq n/\pq n < 18446744073709551616)(hA:A.length<=1000)(hl: ∀e∈A,e.l.length<=1000)(he:e∈A)(hfi:A.find? (fun x=>decide (x.t=e.t))=some e)(h0:0<=q.now)(h1:q.now<=18446744073709551615)(hls:ls.length<=200)(ht:e.t≠0){K:KV}
  (hno:(nxB q n).2≠0->∀w',St w0 w' (nc p q n g A (od c e.t 18446744073709551615) a0 m es ls [] um ++ R)->K (.tuple #[]) w')
  (hyes:(nxB q n).2=0->(nxB q n).1.n≠0/\(1<=su e/\su e<=3)/\∀w' ov rb,St w0 w' (nc p {q with ke:=(nxB q n).1,out:=ov} n g A (od c e.t (aap q.now)) a0 m es (ls ++ oa [101] (rl e.t (nxB q n).1 (su e) 0) pe) [(e.t,.pointer (some ⟨rb,0,none⟩))] um ++ oz rb e.t (nxB q n).1 (su e) 0 :: R)->K (.tuple #[]) w'):ig P F.ay [lf p,.int .u64 e.t] w K:=by
 rw[M.j.fcall]
 apply M.j.calls
 unfold M.j
 obtain⟨_,_,_,_,_,_,c15,_⟩:=nk (p:=p) (q:=q) S (by simp)
 simp only[lf]
 simp[c15]
 refine bhy (S.pick (L:=[_,_,_,_,_,_,_,_,_,_,_]) [2,0,1,3,4,5,6,7,8,9,10] 11 rfl (by decide)) hl e.t (fun hnone=>by rw[hnone] at hfi;cases hfi) fun e' he' w1 v1 S1=>?_
 rw[hfi] at he'
 injection he' with he'
 subst he'
 obtain⟨_,_,_,_,d13,_⟩:=nk (p:=p) (q:=q) S1 (by simp)
 simp[d13]
 refine bdd (rv:=q.rul) (v:=v1) (l:=e.l) S1 (fun w' L S'=>ady S' (by simp)) (fun w' L S'=>ady S' (by simp)) (by have:=hl e he;omega) fun w2 S2=>?_
 have S2':St w0 w2 (clA p q :: kt q.tb n :: jk q.se .u64 [] :: ng q.hb g A c :: qp q.kb a0 m :: pg q.ev es :: mu q.out ls :: rdA 1 lq q.rep [101] :: rdA 4 lc q.rul [jz] :: jk q.ru .u64 [] :: jk q.un .u64 um :: R):=S2.pick (L:=[_,_,_,_,_,_,_,_,_,_,_,_]) [2,3,10,1,4,5,6,7,8,9,11] 12 rfl (by decide)
 have main: ∀x0,gv x0 0= .int .i64 (su e)->M.j.j0 (.pointer (some ⟨p,0,none⟩)) (.int .u64 e.t) x0 w2 K:=by
  intro x0 hx0
  refine bky S2' hn hi hb hv fun w3 tb L g20 g21 S3=>?_
  generalize hyk:nxB q n=yk at *
  obtain⟨y,k⟩:=yk
  dsimp only at hno hyes g20 g21 S3
  unfold M.j.j1
  simp only[im,g21]
  obtain⟨_,_,_,_,_,_,e15,_⟩:=nk (p:=p) (q:=q) S3 (by simp)
  by_cases hk:k=0
  ·subst hk
   obtain⟨hy,hw,hyes⟩:=hyes rfl
   simp
   unfold M.j.j2
   have S4:=S3.jv ((Fr.refl _ w3).dr 1)
   have lb: ∀{w':World}{L:List Asn},St w0 w' L->baB tb y∈L->∀K,ldN P 2 tb 0 w' K=K (kj y) w':=fun S' hm K=>by
    obtain⟨s,t,rfl⟩:=List.append_of_mem hm
    exact (S'.perm List.perm_middle).ldA (n:=2) (i:=0) (tl y) rfl rfl K
   obtain⟨_,f2,_⟩:=nk (p:=p) (q:=q) S4 (by simp)
   simp only[g20,hx0]
   simp[lb S4,f2]
   refine bcf S4 (fun w' L S'=>ady S' (by simp)) ht hy hw fun w5 rb S5=>?_
   have S6:=S5.jv ((Fr.refl _ w5).dr 1)
   obtain⟨_,_,_,_,_,_,_,_,g17,_⟩:=nk (p:=p) (q:=q) S6 (by simp)
   have S7:St w0 (dr w5 1) (jk q.ru .u64 [] :: oz rb e.t y (su e) 0 :: baB tb y :: clA p q :: kt q.tb n :: jk q.se .u64 [] :: ng q.hb g A c :: qp q.kb a0 m :: pg q.ev es :: mu q.out ls :: rdA 1 lq q.rep [101] :: rdA 4 lc q.rul [jz] :: jk q.un .u64 um :: R):=S6.pick (L:=[_,_,_,_,_,_,_,_,_,_,_,_,_]) [11,0,1,2,3,4,5,6,7,8,9,10,12] 13 rfl (by decide)
   generalize dr w5 1=w6 at *
   simp[lb S6,g17]
   refine bhz mt.w S7 e.t fun w8 clk S8=>?_
   simp[lb S8]
   refine bjg S8 _ fun w9 S9=>?_
   simp[lb S9,kj]
   have S10:St w0 w9 (clA p q :: jk q.ru .u64 [(e.t,.pointer (some ⟨rb,0,none⟩))] :: oz rb e.t y (su e) 0 :: kt q.tb n :: jk q.se .u64 [] :: ng q.hb g A c :: qp q.kb a0 m :: pg q.ev es :: mu q.out ls :: rdA 1 lq q.rep [101] :: rdA 4 lc q.rul [jz] :: jk q.un .u64 um :: R):=S9.pick (L:=[_,_,_,_,_,_,_,_,_,_,_,_,_]) [3,0,1,4,5,6,7,8,9,10,11,12] 13 rfl (by decide)
   refine St.put (i:=20) (cs':=clC {q with ke:=y}) S10 (by simp[kq]) (by simp[clC]) (by simp[clC]) fun w11 S11=>?_
   refine akp (S11.pick (L:=[_,_,_]) [2,0,1] 3 rfl (by decide)) (.inl rfl) fun w12 S12=>?_
   refine aom S12 (.inl rfl) fun w13 ov S13=>?_
   have S14:St w0 w13 (clA p {q with ke:=y} :: mu {q with ke:=y}.out ls :: qy ov [101] :: oz rb e.t y (su e) 0 :: jk q.ru .u64 [(e.t,.pointer (some ⟨rb,0,none⟩))] :: kt q.tb n :: jk q.se .u64 [] :: ng q.hb g A c :: qp q.kb a0 m :: pg q.ev es :: rdA 1 lq q.rep [101] :: rdA 4 lc q.rul [jz] :: jk q.un .u64 um :: R):=S13.pick (L:=[_,_,_,_,_,_,_,_,_,_,_,_,_]) [2,9,0,1,3,4,5,6,7,8,10,11,12] 13 rfl (by decide)
   refine ahi (to:=[101]) S14 pe (fun w' L S'=>(S'.perm List.perm_middle).row qh) (by simp;omega) fun w15 lv S15=>?_
   have S16:=S15.jv ((Fr.refl _ w15).dr 1)
   obtain⟨_,_,_,k8,_,_,k15,_,_,_,_,_,k23,_⟩:=nk (p:=p) (q:={q with ke:=y,out:=lv}) S16 (by simp)
   obtain⟨u1,u2⟩:=avp h0 h1
   simp[k8,k15,k23,ain,u1,u2]
   have S17:St w0 (dr w15 1) (ng q.hb g A c :: clA p {q with ke:=y,out:=lv} :: mu lv (ls ++ oa [101] (rl e.t y (su e) 0) pe) :: oz rb e.t y (su e) 0 :: jk q.ru .u64 [(e.t,.pointer (some ⟨rb,0,none⟩))] :: kt q.tb n :: jk q.se .u64 [] :: qp q.kb a0 m :: pg q.ev es :: rdA 1 lq q.rep [101] :: rdA 4 lc q.rul [jz] :: jk q.un .u64 um :: R):=S16.pick (L:=[_,_,_,_,_,_,_,_,_,_,_,_,_]) [7,0,1,3,4,5,6,8,9,10,11,12] 13 rfl (by decide)
   refine aqh (e:=e) S17 hA he rfl fun w18 S18=>?_
   exact hyes w18 lv rb (S18.pick (L:=[_,_,_,_,_,_,_,_,_,_,_,_]) [1,5,0,7,8,2,9,10,4,6,11,3] 12 rfl (by decide))
  ·simp[hk,e15]
   refine aqh (e:=e) (t:=18446744073709551615) (S3.pick (L:=[_,_,_,_,_,_,_,_,_,_,_,_]) [4,1,2,3,5,6,7,8,9,10,11] 12 rfl (by decide)) hA he rfl fun w4 S4=>?_
   exact hno hk w4 (S4.pick (L:=[_,_,_,_,_,_,_,_,_,_,_]) [1,2,0,4,5,6,7,8,9,3,10] 11 rfl (by decide))
 unfold su at main
 cases ho:e.mq with
 | true=>
  rw[ho] at main
  simp
  exact main _ rfl
 | false=>
  rw[ho] at main
  simp
  exact main _ rfl
end
end Go.Proofs.YtgepcfcicngceaaGreatDoor
set_option maxRecDepth 100000
namespace Go.Proofs.YtgepcfcicngceaaGreatDoor.KeyU
open Go.Eng Go.Sort Go.Proofs.YtgepcfcicngceaaGreatDoor.Suint64
def KI(w W:World)(U:Nat->Prop)(r:Nat)(m:MP)(J:List Int->Asn):KL:=fun x w1=> ∃(done:List Int)(U1:Nat->Prop),x.length=1/\xv w1 W.heap.size r .u64 m done/\(J done.reverse).ok w1 U1/\(∀b,U1 b->w.heap.size<=b/\b < w1.heap.size/\b≠W.heap.size)/\Fr (fun b=>w.heap.size<=b) W w1
theorem abq{w:World}{it r:Nat}{k:IntKind}{m:MP}{done:List Int}(h:xv w it r k m done):done.Nodup/\∀x∈done,x∈jn m:=by
 obtain⟨es,clk,since,c0,jq,_,_,_,_,_,_,_,_,_,h1,h2⟩:=h
 exact⟨h1,h2⟩
theorem aio{w:World}{r Bm:Nat}{m:MP}{e:TypeId}(hm:kx w r .u64 m)(hn:(jn m).Nodup)(hB:w.heap[Bm]? =some (.cells #[.map (some r)] e (0,0)))(hl:m.length < 60000):
  api P F.b [.pointer (some ⟨Bm,0,none⟩)] alo (fun xs=>xs.Perm (jn m)) 60000 w:=by
 intro l J W U K hf hJ hU hround hend
 apply M.y.calls
 unfold M.y
 have hBm:W.heap[Bm]? =some (.cells #[.map (some r)] e (0,0)):=hf.heap hB fun h=>h
 have c0:=ir hBm 0
 simp only[List.size_toArray,List.getElem?_toArray,List.getElem?_cons_zero] at c0
 have hm':kx W r .u64 m:=hm.of_heap (hf.jf r hm.lt fun h=>h)
 have hrw:=hm.lt
 simp[c0]
 refine aph mt.u hm' fun w1 hi f1=>?_
 have hWs:=hf.size
 have hWlt:=(hi.lt).1
 refine⟨KI w W U r m J,fun _ w1=>rz w1 W.heap.size m.length,⟨[],U,rfl,hi,(J []).jf hJ f1 fun _ _ h=>h,fun b hb=>?_,f1.mono fun _ _ h=>h.elim⟩,?_⟩
 ·have:=hU b hb
  have:=f1.size
  exact⟨by omega,by omega,by omega⟩
 rintro x w2 ⟨done,U1,hx1,hi2,hJ2,hU2,f2⟩
 unfold M.y.j0
 refine aqk hi2 hn T.bz (fun hall=>?_) fun y v w3 hy hyd hc3 f3 hlt=>?_
 ·have e0: ∀w K,exT P (.tuple #[.bool false]) 0 w K=K (.bool false) w:=fun _ _=>rfl
  simp[e0]
  obtain⟨h1,h2⟩:=abq hi2
  refine hend _ w2 done.reverse U1 ?_ hJ2 f2
  refine (List.reverse_perm done).trans ?_
  refine (List.perm_ext_iff_of_nodup h1 hn).2 fun z=>⟨h2 z,fun hz=>?_⟩
  obtain⟨p,hp,rfl⟩:=List.mem_map.1 hz
  exact hall p hp
 ·simp
  rw[aqg hc3]
  simp
  have hnit: ∀b,U1 b->¬b=W.heap.size:=fun b hb=>(hU2 b hb).2.2
  have hJ3:=(J done.reverse).jf hJ2 f3 hnit
  have hlen:done.length < m.length:=by
   obtain⟨h1,h2⟩:=abq hi2
   have:=xr (l:=y :: done) (l':=jn m) (List.nodup_cons.2 ⟨hyd,h1⟩) fun z hz=>by
    rcases List.mem_cons.1 hz with rfl|hz
    ·exact List.mem_map_of_mem hy
    ·exact h2 z hz
   simp only[jn,List.length_map,List.length_cons] at this
   omega
  have hs3:=f3.size
  refine hround done.reverse y w3 U1 _ hJ3 (fun b hb=>⟨(hU2 b hb).1,by have:=(hU2 b hb).2.1;omega⟩) (by simp;omega) fun w4 U4 hJ4 hU4 f4=>?_
  simp
  have hit: ¬U1 W.heap.size:=fun h=>hnit _ h rfl
  have hr1: ¬U1 r:=fun h=>by have:=(hU2 r h).1;omega
  have hi3:xv w3 W.heap.size r .u64 m (y :: done):=hc3.1
  have hi4:=hi3.jf (f4.jf _ hi3.lt.1 hit) (f4.jf _ hi3.lt.2 hr1)
  refine⟨⟨y :: done,U4,rfl,hi4,by simpa using hJ4,fun b hb=>?_,?_⟩,?_⟩
  ·rcases hU4 b hb with h|h
   ·have:=hU2 b h
    have:=f4.size
    exact⟨by omega,by omega,by omega⟩
   ·have:=hi3.lt.1
    have:=f2.size
    exact⟨by omega,by omega,by omega⟩
  ·refine (f2.jt f3 fun b hb he=>by omega).jt f4 fun b hb he=>(hU2 b he).1
  ·have:rz w4 W.heap.size m.length=rz w3 W.heap.size m.length:=by
    unfold rz
    rw[f4.jf _ hi3.lt.1 hit]
   rw[this];exact hlt
theorem aku{w:World}{r:Nat}{m:MP}(hm:kx w r .u64 m)(hn:(jn m).Nodup)(hl:m.length < 60000){K:KV}
  (h: ∀w' v,OwN w' w.heap.size v (uk (jn m))->Fz w w'->K v w'):
  ig P F.ag [.map (some r)] w fun t w=>ig P F.ap [t] w K:=by
 rw[M.ah.fcall]
 apply M.ah.calls
 unfold M.ah
 rw[tm,aal]
 show ig P F.ap _ _ K
 rw[M.cx.fcall]
 have f1:Fz w (w.alloc (.cells #[.map (some r)] T.u)):=(Fr.refl _ w).alloc _
 have hB:(w.alloc (.cells #[.map (some r)] T.u)).heap[w.heap.size]? =some (.cells #[.map (some r)] T.u (0,0)):=by rw[iy,if_pos rfl]
 have hsz:w.heap.size<=(w.alloc (.cells #[.map (some r)] T.u)).heap.size:=by simp
 refine amb (ks:=jn m) FN.b.at (by kernel_rfl) (by kernel_rfl) (by simpa [jn] using hl) (aio (hm.of_heap (f1.jf r hm.lt fun h=>h)) hn hB hl) fun w2 v o2 f2=>?_
 exact h w2 v (o2.mono hsz) (f1.trans f2)
end Go.Proofs.YtgepcfcicngceaaGreatDoor.KeyU
set_option maxRecDepth 100000
namespace Go.Proofs.YtgepcfcicngceaaGreatDoor
open Go.Eng Go.Proofs.YtgepcfcicngceaaGreatDoor.Sint
section
variable {w0 w : World} {R : List Asn} {p : Nat} {q : Cl} {n : Nd} {g : Cfg} {A : List AE} {c : CT} {a0 : Int} {m rm um : MP} {es : List Evn} {ls : List Ltr}
theorem afv(S:St w0 w (clA p q :: jk q.un .u64 um :: R))(hl:um.length < 60000){K:KV}(h: ∀w' v,St w0 w' (adi v (Suint64.uk (jn um)) :: clA p q :: jk q.un .u64 um :: R)->K v w'):ig P F.ac [lf p] w K:=by
 rw[M.u.fcall]
 apply M.u.calls
 unfold M.u
 obtain⟨_,_,_,_,_,_,_,_,_,_,c19,_⟩:=nk (p:=p) (q:=q) S (by simp)
 simp only[lf]
 simp
 unfold M.u.j0
 simp[c19]
 refine KeyU.aku S.swap.mp S.swap.bdz hl fun w' v o f=>?_
 exact h w' v (S.add (a:=adi v (Suint64.uk (jn um))) f (B:=fun b=>v.ownBlock=some b) ⟨o.mono (Nat.zero_le _),fun b hb=>hb⟩ fun b hb=>⟨(o.lt hb).1,(o.lt hb).2⟩)
theorem bgq{t:Int}(S:St w0 w (nc p q n g A c a0 m es ls rm um ++ R))(hr:kg rm t=none){K:KV}(h:ig P F.ay [lf p,.int .u64 t] w fun _ w=>K (.tuple #[]) w):ig P F.ci [lf p,.int .u64 t] w K:=by
 rw[M.av.fcall]
 apply M.av.calls
 unfold M.av
 obtain⟨_,_,_,_,_,_,_,_,c17,_⟩:=nk (p:=p) (q:=q) S (by simp)
 have lu: ∀K,luT P T.w (.map (some q.ru)) (.int .u64 t) false w K=K (.pointer none) w:=fun K=>by
  rw[ss mt.w (S.pick (L:=[_,_,_,_,_,_,_,_,_,_,_]) [8] 11 rfl (by decide)).mp,hr]
  rfl
 simp only[lf] at *
 simp[c17,lu]
 exact h
def acz(n:Nd)(inc:Int):Prop:=n.id=1/\n.v=[⟨1,inc,0⟩]
theorem amx{inc now pick:Int}(h:acz n inc):acz (n.vy now pick).1 inc/\(n.vy now pick).2=[]:=by
 obtain⟨h1,h2⟩:=h
 unfold Nd.vy
 generalize tt n.now now=t
 have ha:ro 1 t n.jo n.h ⟨1,inc,0⟩=⟨1,inc,0⟩:=by simp[ro]
 split
 ·exact⟨⟨h1,h2⟩,rfl⟩
 ·simp[acz,h1,h2,ha,yl,nz,yx]
theorem agv{inc:Int}(hn:tx n)(h:acz n inc):ahp n.v=[1]:=by
 unfold ahp
 rw[if_pos ((aen _).2 hn.za),h.2]
 rfl
theorem ajr{v:Value}{l:List Int}(h:Sl w 1 Suint64.rk v l){w':World}{K:KV}:biT P .len #[T.h] T.d [false] [v] w' K=K (.int .i64 l.length) w':=h.jr (by kernel_rfl) [false]
theorem bbz(S:St w0 w (nc p q n g A c a0 m es ls rm [] ++ R))(h0:0<=q.sr/\q.sr<=q.now/\q.now<=18446744073709551615){K:KV}(h: ∀w' ag,(ag=q.sr\/ag=q.now)->St w0 w' (nc p {q with sr:=ag} n g A c a0 m es ls rm [] ++ R)->K (.tuple #[]) w'):M.a.j6 (lf p) w K:=by
 unfold M.a.j6
 have S1:=S.jv ((Fr.refl _ w).dr 1)
 rw[qa]
 generalize dr w 1=w1 at *
 obtain⟨_,_,_,c8,_,_,_,_,_,_,_,c22,c23,_⟩:=nk (p:=p) (q:=q) S1 (by simp)
 have hw:IntKind.u64.wrap (q.now - q.sr)=q.now - q.sr:=by rw[me (by omega) (by omega)]
 simp only[lf]
 simp[c8,c22,c23,hw]
 by_cases hb:4<=q.now - q.sr
 ·simp[hb]
  refine St.qk S1 rfl (by simp[clC]) fun w2 S2=>?_
  have S3:St w0 w2 (clA p {q with sr:=q.now} :: _):=S2
  refine afv (S3.pick (L:=[_,_,_,_,_,_,_,_,_,_,_]) [0,10,1,2,3,4,5,6,7,8,9] 11 rfl (by decide)) (by simp) fun w4 v4 S4=>?_
  have hln:=fun w' K=>ajr (w':=w') (K:=K) (S4.row qh)
  have hz:(Suint64.uk (jn ([]:MP))).length=0:=by rw[show jn ([]:MP)=[] from rfl];simp[Suint64.uk]
  rw[hz] at hln
  simp only[hln,im]
  have S5:St w0 w4 (nc p {q with sr:=q.now} n g A c a0 m es ls rm [] ++ R):=S4.pick (L:=[_,_,_,_,_,_,_,_,_,_,_,_]) [1,3,4,5,6,7,8,9,10,11,2] 12 rfl (by decide)
  refine⟨fun x w'=>x=[undef,.int .i64 0]/\w'=w4,fun _ _=>0,⟨rfl,rfl⟩,?_⟩
  rintro x w' ⟨rfl,rfl⟩
  simp
  exact h _ _ (.inr rfl) S5
 ·simp[hb]
  exact h _ q.sr (.inl rfl) S1
def LoI(w0:World)(L:List Asn)(m:Nat):KL:=fun x w1=> ∃(u1 u2:Value)(i:Nat),x=[u1,u2,.int .i64 (i:Nat)]/\i<=m/\St w0 w1 L
theorem bcy{inc now pick:Int}(S:St w0 w (nc p q n g A c a0 m es ls rm um ++ R))(hn:tx n)(hs:acz n inc)(hA:A.length<=1000)(h0:0<=q.now/\q.now<=18446744073709551615)(h1:0<=now/\now<=18446744073709551615)(hp:0<=pick){K:KV}
  (h: ∀w' v K6 x7,(∀x w,M.a.j6 (lf p) w K->K6 x w)->gv x7 8=v->gv x7 9= .int .i64 (pm c (max q.now now)).length->gv x7 10= .int .i64 0->St w0 w' (rdA 1 lq v (pm c (max q.now now)) :: (nc p {q with now:=max q.now now} (n.vy (max q.now now) pick).1 g A c a0 m es ls rm um ++ R))->M.a.j7 x7 K6 (lf p) w' K):ig P F.ao [lf p,.int .u64 now,.int .u64 pick] w K:=by
 rw[M.a.fcall]
 apply M.a.calls
 unfold M.a
 obtain⟨_,_,_,_,_,_,_,_,_,_,_,_,c23,_⟩:=nk (p:=p) (q:=q) S (by simp)
 simp only[lf]
 simp
 unfold M.a.j0
 simp[c23,sn]
 have hn0:0<=max q.now now:=by omega
 have hn1:max q.now now<=18446744073709551615:=by omega
 generalize max q.now now=nw at *
 refine St.qk S rfl (by simp[clC]) fun w1 S1=>?_
 have S2:St w0 w1 (clA p {q with now:=nw} :: _):=S1
 have S3:=S2.jv ((Fr.refl _ w1).dr 1)
 generalize dr w1 1=w2 at *
 obtain⟨_,_,_,_,_,d14,_,_,_,_,_,_,d23,_⟩:=nk (p:=p) (q:={q with now:=nw}) S3 (by simp)
 simp[d14,d23]
 refine bhk (S3.pick (L:=[_,_,_,_,_,_,_,_,_,_,_]) [1,0,2,3,4,5,6,7,8,9,10] 11 rfl (by decide)) hn ⟨hn0,by omega⟩ hp fun w4 v4 S4=>?_
 obtain⟨hs',ht⟩:=amx (now:=nw) (pick:=pick) hs
 have hnk:=akn (pick:=pick) hn ⟨hn0,show nw < 18446744073709551616 by omega⟩
 rw[ht] at S4
 have hln:=fun w' K=>ajr (w':=w') (K:=K) (S4.row qh)
 simp[hln]
 have S5:St w0 w4 (nc p {q with now:=nw} (n.vy nw pick).1 g A c a0 m es ls rm um ++ R):=S4.pick (L:=[_,_,_,_,_,_,_,_,_,_,_,_]) [2,1,3,4,5,6,7,8,9,10,11] 12 rfl (by decide)
 unfold M.a.j1
 refine acb fun K2 hK2=>?_
 obtain⟨_,_,_,_,_,_,e15,_⟩:=nk (p:=p) (q:={q with now:=nw}) S5 (by simp)
 simp[e15]
 refine ama (S5.pick (L:=[_,_,_,_,_,_,_,_,_,_,_]) [2,0,1,3,4,5,6,7,8,9,10] 11 rfl (by decide)) hA fun w6 v6 S6=>?_
 have hln6:=fun w' K=>ajr (w':=w') (K:=K) (S6.row qh)
 simp only[hln6,im]
 refine⟨LoI w0 (clA p {q with now:=nw} :: kt q.tb (n.vy nw pick).1 :: adi v6 (qe A) :: ng q.hb g A c :: qp q.kb a0 m :: pg q.ev es :: mu q.out ls :: rdA 1 lq q.rep [101] :: rdA 4 lc q.rul [jz] :: jk q.ru .u64 rm :: jk q.se .u64 [] :: jk q.un .u64 um :: R) (qe A).length,fun x _=>(qe A).length - ms x 2,⟨_,_,0,rfl,Nat.zero_le _,S6.pick (L:=[_,_,_,_,_,_,_,_,_,_,_,_]) [2,3,0,1,4,5,6,7,8,9,10,11] 12 rfl (by decide)⟩,?_⟩
 rintro x w7 ⟨u1,u2,i,rfl,hi,S7⟩
 by_cases hil:i < (qe A).length
 ·have hili:(i:Int) < (qe A).length:=by omega
  have hwi:IntKind.i64.wrap ((i:Int)+1)=((i+1:Nat):Int):=by
   have:(qe A).length<=1000:=by
    unfold qe
    rw[(Suint64.acl _).length_eq,List.length_map]
    exact hA
   rw[iz];rfl
  obtain⟨ab,ao,cap,hv,_,_,hc⟩:=(S7.up2.row qh).at hil
  have hia: ∀w' K,iaT P T.h v6 (.int .i64 (i:Nat)) w' K=K (.pointer (some ⟨ab,ao+i,none⟩)) w':=fun w' K=>by rw[hv];simp[hil]
  have hcell:il w7 ab (ao+i)=some (.int .u64 (qe A)[i]):=by simpa [Suint64.rk] using hc 0 _ rfl
  generalize (qe A)[i]=t at *
  simp[hili]
  unfold M.a.j4
  simp[hia,hcell]
  refine amo S7 hnk (agv hnk hs') ⟨by decide,trivial⟩ (by simp) (by simp) t fun w8 o ho S8=>?_
  obtain rfl:=ho.one
  obtain⟨f0,_⟩:=nk (p:=p) (q:={q with now:=nw}) S8 (by simp)
  simp[f0]
  refine⟨⟨_,_,i+1,by rw[hwi],by omega,S8⟩,by rw[hwi];simp[ms,gv];omega⟩
 ·have hie:i=(qe A).length:=by omega
  subst hie
  simp
  refine hK2 _ _ ?_
  unfold M.a.j2
  refine acb fun K6 hK6=>?_
  have S9:=S7.jv ((Fr.refl _ w7).dr 1)
  rw[qa]
  generalize dr w7 1=w8 at *
  have e15: ∀{w':World}{L:List Asn},St w0 w' L->clA p {q with now:=nw}∈L->il w' p 15=some (.pointer (some ⟨q.hb,0,none⟩))/\il w' p 23=some (.int .u64 nw):=fun S' hm=>by
   obtain⟨_,_,_,_,_,_,e15,_,_,_,_,_,e23,_⟩:=nk S' hm
   exact⟨e15,e23⟩
  obtain⟨k15,k23⟩:=e15 S9 (by simp)
  refine acb fun K7 hK7=>?_
  have du: ∀{K':KV},(∀w' v,(∀K,biT P .len #[T.h] T.d [false] [v] w' K=K (.int .i64 (pm c nw).length) w')->(il w' p 15=some (.pointer (some ⟨q.hb,0,none⟩))/\il w' p 23=some (.int .u64 nw))->St w0 w' (rdA 1 lq v (pm c nw) :: (nc p {q with now:=nw} (n.vy nw pick).1 g A c a0 m es ls rm um ++ R))->K' v w')->ig P F.bp [.pointer (some ⟨q.hb,0,none⟩),.int .u64 nw] w8 K':=fun h'=>by
   refine bjz (S9.pick (L:=[_,_,_,_,_,_,_,_,_,_,_,_]) [3,0,1,4,5,6,7,8,9,10,11] 12 rfl (by decide)) hA nw fun w' v S'=>?_
   refine h' w' v (fun K=>S'.rd.jr (by kernel_rfl) [false]) (e15 S' (by simp)) ?_
   exact S'.pick (L:=[_,_,_,_,_,_,_,_,_,_,_,_]) [0,2,3,1,4,5,6,7,8,9,10,11] 12 rfl (by decide)
  simp[k15,k23]
  refine⟨du fun w' v hl hk S'=>⟨?_,?_⟩,du fun w' v hl hk S'=>?_⟩
  ·rw[hl]
   simp[hk.1,hk.2]
   exact hK7 _ _ (h w' v K6 _ hK6 rfl rfl rfl S')
  ·simp[hk.1,hk.2]
   rw[hl]
   exact hK7 _ _ (h w' v K6 _ hK6 rfl rfl rfl S')
  ·rw[hl]
   exact hK7 _ _ (h w' v K6 _ hK6 rfl rfl rfl S')
theorem auv(hn:tx n):0<=pq n/\pq n < 18446744073709551616:=by
 unfold pq aix
 have hnn:0<=yq n.v:=aqz fun m hm=>by
  have:=aoh hn.za hn.inc hm
  unfold ahc
  omega
 have hv:=(aen _).2 hn.za
 by_cases hb:18446744073709551616<=yq n.v
 ·simp[hb,hv]
 ·simp[hb,hv]
  omega
def goI(w0:World)(p:Nat)(q:Cl)(n:Nd)(g:Cfg)(A:List AE)(c:CT)(a0:Int)(m:MP)(es:List Evn)(ls:List Ltr)(um:MP)(R:List Asn)(v:Value)(e:AE):KL:=fun x w1=> ∃(u:Value)(i:Nat),x=[u,.int .i64 (i:Nat)]/\i<=1/\(i=0->St w0 w1 (rdA 1 lq v [e.t] :: (nc p q n g A c a0 m es ls [] um ++ R)))/\(i=1->∃ov rb,St w0 w1 (nc p {q with ke:=(nxB q n).1,out:=ov} n g A (od c e.t (aap q.now)) a0 m es (ls ++ oa [101] (rl e.t (nxB q n).1 (su e) 0) pe) [(e.t,.pointer (some ⟨rb,0,none⟩))] um ++ oz rb e.t (nxB q n).1 (su e) 0 :: R))
theorem bgk{inc now pick:Int}{e:AE}(S:St w0 w (nc p q n g A c a0 m es ls [] [] ++ R))(hn:tx n)(hs:acz n inc)(hA:A.length<=1000)(h0:0<=q.now/\q.now<=18446744073709551615)(h1:0<=now/\now<=18446744073709551615)(hag:0<=q.sr/\q.sr<=q.now)(hp:0<=pick)(hi:1<=q.inc)(hb:q.ke.rng)(hl: ∀e∈A,e.l.length<=1000)(he:e∈A)(hfi:A.find? (fun x=>decide (x.t=e.t))=some e)(hls:ls.length<=200)(ht:e.t≠0)(hd:pm c (max q.now now)=[e.t])
  (hy: ∀n',n'=(n.vy (max q.now now) pick).1->(nxB q n').2=0/\(nxB q n').1.n≠0/\(1<=su e/\su e<=3)) {K:KV}
  (h: ∀w' ov rb ag n',(ag=q.sr\/ag=max q.now now)->n'=(n.vy (max q.now now) pick).1->St w0 w' (nc p {q with now:=max q.now now,ke:=(nxB q n').1,out:=ov,sr:=ag} n' g A (od c e.t (aap (max q.now now))) a0 m es (ls ++ oa [101] (rl e.t (nxB q n').1 (su e) 0) pe) [(e.t,.pointer (some ⟨rb,0,none⟩))] [] ++ oz rb e.t (nxB q n').1 (su e) 0 :: R)->K (.tuple #[]) w'):ig P F.ao [lf p,.int .u64 now,.int .u64 pick] w K:=by
 refine bcy S hn hs hA h0 h1 hp fun w1 v K6 x7 hK6 g8 g9 g10 S1=>?_
 have hnk:=akn (now:=max q.now now) (pick:=pick) hn ⟨by omega,by omega⟩
 have hy':=hy _ rfl
 have h':=fun w' ov rb ag hag=>h w' ov rb ag _ hag rfl
 have hn0:0<=max q.now now:=by omega
 have hn1:max q.now now<=18446744073709551615:=by omega
 have hag':q.sr<=max q.now now:=by omega
 clear h hy
 generalize max q.now now=nw at *
 generalize (n.vy nw pick).1=n' at *
 rw[hd] at S1 g9
 unfold M.a.j7
 simp only[im,g8,g9,g10]
 refine⟨goI w0 p {q with now:=nw} n' g A c a0 m es ls [] R v e,fun x _=>1 - ms x 1,⟨_,0,rfl,Nat.zero_le _,fun _=>S1,fun h=>absurd h (by decide)⟩,?_⟩
 rintro x w2 ⟨u,i,rfl,hi1,hz,ho⟩
 by_cases hi0:i=0
 ·subst hi0
  have S2:=hz rfl
  obtain⟨ab,ao,cap,hv,_,_,hc⟩:=S2.rd.at (i:=0) (by simp)
  have hia: ∀w' K,iaT P T.h v (.int .i64 0) w' K=K (.pointer (some ⟨ab,ao,none⟩)) w':=fun w' K=>by rw[hv];simp
  have hcell:il w2 ab ao=some (.int .u64 e.t):=by simpa [lq] using hc 0 _ rfl
  simp
  unfold M.a.j9
  simp[g8,hia,hcell]
  have S3:=S2.drop
  refine bgq S3 rfl ?_
  refine ayd S3 hnk hi hb (auv hnk) hA hl he hfi hn0 hn1 hls ht (fun hno=>absurd hy'.1 hno) fun _=>⟨hy'.2.1,hy'.2.2,fun w4 ov rb S4=>?_⟩
  refine⟨⟨_,1,rfl,Nat.le_refl _,?_⟩,by simp[ms,gv,show IntKind.i64.wrap 1=1 from by decide]⟩
  refine And.intro ?_ ?_
  ·intro hx
   exact absurd hx (by decide)
  ·intro _
   exact⟨ov,rb,S4⟩
 ·have hi1:i=1:=by omega
  subst hi1
  obtain⟨ov,rb,S2⟩:=ho rfl
  simp
  refine hK6 _ _ ?_
  refine bbz S2 ⟨hag.1,hag',hn1⟩ fun w3 ag hag S3=>?_
  exact h' w3 ov rb ag hag S3
end
end Go.Proofs.YtgepcfcicngceaaGreatDoor
