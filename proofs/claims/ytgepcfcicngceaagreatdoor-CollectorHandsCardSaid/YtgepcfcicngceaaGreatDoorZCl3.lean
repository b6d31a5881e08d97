/-
  A collector takes a right span's bytes. No condition.
-/
import Derived.Test.YtgepcfcicngceaaGreatDoorZSt1
import Derived.Test.YtgepcfcicngceaaGreatDoorZEngSl
import Derived.Test.YtgepcfcicngceaaGreatDoorZSgE
import Derived.Test.YtgepcfcicngceaaGreatDoorZTim0
import Derived.Test.YtgepcfcicngceaaGreatDoorM
import Derived.Test.YtgepcfcicngceaaGreatDoorFacts
import Derived.Test.YtgepcfcicngceaaGreatDoorZWl0
set_option maxRecDepth 100000
namespace Go.Proofs.YtgepcfcicngceaaGreatDoor
open Go.Eng Go.Proofs.YtgepcfcicngceaaGreatDoor.Sint
section
variable {w0 w : World} {R : List Asn} {p : Nat} {q : Cl} {n : Nd} {g : Cfg} {A : List AE} {c : CT} {a0 : Int} {es : List Evn}
theorem alt{v:Value}{l:List Int}(h:Rdv w0 R v l)(X:List Asn):Rdv w0 (X ++ R) v l:=fun w' L S=>h w' (L ++ X) (by rw[List.append_assoc];exact S)
def uz(k now:Int)(s:Spn):Evn:=if k=0 then ⟨1,now,1,s.jj,jf,0,s,0⟩ else ⟨6,now,1,s.jj,jf,0,s,8⟩
abbrev aew(p:Nat)(q:Cl)(n:Nd)(g:Cfg)(A:List AE)(c:CT)(a0:Int)(es:List Evn):List Asn:=[clA p q,ki q.tb n,ns q.hb g A c,qf q.kb a0 [],nh q.ev es]
theorem bbn{rv:Value}{s:Spn}{now:Int}(S:St w0 w (aew p q n g A c a0 es ++ R))(hn:qk n)(hv:abk n.v=[1])(hs:Rdv w0 R rv (ahj s))(hr:ll s=0)(hR:ahx s)(h0:0<=q.now)(h1:q.now<=18446744073709551615)(h2:0<=now)(h3:now<=18446744073709551615)
  (hA:A.length<=1000) (hl: ∀e∈A,e.l.length<=1000) (hw:0<=g.jx) (he:es.length<=1000000) {K:KV}
  (h: ∀w' v',St w0 w' (aew p {q with now:=max q.now now,ev:=v'} n g (uk g A s) (ada g A c s (max q.now now)) a0 (es ++ [uz (rt g A s) (max q.now now) s]) ++ R)->K (.int .i64 (if rt g A s=0 then 0 else 8)) w'):ik P F.ad [kl p,rv,.int .u64 now] w K:=by
 have S0:St w0 w (clA p q :: ki q.tb n :: ns q.hb g A c :: qf q.kb a0 [] :: nh q.ev es :: R):=S
 rw[M.e.fcall]
 apply M.e.calls
 unfold M.e
 obtain⟨_,_,_,_,_,_,_,_,_,_,_,_,_,_,_,c23,_⟩:=mr S0
 simp only[kl]
 simp
 unfold M.e.j0
 simp[c23,qo]
 refine St.oh S0 rfl (by simp[clC]) fun w1 S1=>?_
 have S1':St w0 w1 (clA p {q with now:=max q.now now} :: ki q.tb n :: ns q.hb g A c :: qf q.kb a0 [] :: nh q.ev es :: R):=S1
 have hn0:0<=max q.now now:=by omega
 have hn1:max q.now now<=18446744073709551615:=by omega
 generalize max q.now now=nw at *
 refine bap (s:=s) (r:=[]) S1' (by rw[List.append_nil];exact alt hs [_,_,_,_,_]) hr hR (by simp) fun w2 v2 S2=>?_
 have S3:=S2.mkB #[.int .u64 0,.int .u64 0,.int .u64 0,.int .u64 0,.int .u64 0,.string ⟨#[]⟩,.string ⟨#[]⟩,.bool false] T.j
 have hln: ∀w' K,biT P .len #[T.t] T.d [false] [v2] w' K=K (.int .i64 0) w':=fun w' K=>(S2.row pe).jv (by kernel_rfl) [false]
 unfold lw
 simp
 generalize w2.heap.size=tb at *
 generalize w2.alloc _=w3 at *
 refine St.put (vs:=jz s) (cs':=(jz s).toArray) S3 (qn s) (by simp[jz]) (by simp[jz]) fun w4 S4=>?_
 simp[hln]
 unfold M.e.j1
 simp
 unfold M.e.j2
 have S5:St w0 w4 (spB tb s :: clA p {q with now:=nw} :: ki q.tb n :: ns q.hb g A c :: qf q.kb a0 [] :: nh q.ev es :: R):=S4.swap.drop
 have sp0: ∀{w':World}{L:List Asn},St w0 w' (spB tb s :: L)->iq w' tb 0=some (.int .u64 s.jj):=fun S'=>by rw[S'.cell];rfl
 have sp8: ∀{w':World}{L:List Asn},St w0 w' (spB tb s :: L)->∀K,ldN P 8 tb 0 w' K=K (lw s) w':=fun S' K=>S'.ldA (n:=8) (i:=0) (jz s) rfl rfl K
 have S6:=S5.mkB (evC ⟨0,0,0,0,jf,0,⟨0,0,0,0,0,⟨#[]⟩,⟨#[]⟩,false⟩,0⟩).toArray T.ar
 unfold evC jf at S6
 dsimp only at S6
 simp[sp0 S5,sp8 S5,lw]
 generalize w4.heap.size=eb at *
 generalize w4.alloc _=w5 at *
 refine St.put (vs:=evC ⟨1,0,0,s.jj,jf,0,s,0⟩) (cs':=(evC ⟨1,0,0,s.jj,jf,0,s,0⟩).toArray) S6 (apr _) (by simp[evC]) (by simp[evC]) fun w6 S7=>?_
 simp[sp0 S7.swap]
 have S8:=S7.perm (List.Perm.append_right R (List.perm_append_comm (l₁:=[_,_]) (l₂:=[_,_,_,_,_])))
 refine aat S8 hn hv ⟨by decide,trivial⟩ (by simp) (by simp) s.jj fun w7 o ho S9=>?_
 obtain rfl:=ho.one
 have S10:=S9.ju ((Fr.refl _ w7).dr 1)
 obtain⟨d0,_,_,_,_,_,_,_,_,_,d16,_⟩:=mr S10
 have x0:=sp0 (S10.perm (List.perm_middle (l₁:=[_,_,_,_,_,_])))
 simp[d16,x0]
 refine apy S10.up3 s.jj ?_
 simp[kh,d0]
 have S11:=S10.ju ((Fr.refl _ (dr w7 1)).dr 1)
 obtain⟨e0,_,_,_,_,_,_,_,_,e15,_,_,_,_,_,e23,_⟩:=mr S11
 have x8:=sp8 (S11.perm (List.perm_middle (l₁:=[_,_,_,_,_,_])))
 simp[e15,e23,x8]
 refine ber S11.up2 hA hl s ⟨hn0,hn1⟩ hw fun w8 S12=>?_
 have hev: ∀{w':World}{L:List Asn},St w0 w' (jd eb (evC ⟨1,0,0,s.jj,jf,0,s,0⟩).toArray T.ar :: L)->∀K,ldN P 16 eb 0 w' K=K (evA ⟨1,0,0,s.jj,jf,0,s,0⟩) w':=fun S' K=>S'.ldA (n:=16) (i:=0) (evC ⟨1,0,0,s.jj,jf,0,s,0⟩) rfl rfl K
 have hfin: ∀w9 v',St w0 w9 (clA p {{q with now:=nw} with ev:=v'} :: nh v' (es ++ [uz (rt g A s) nw s]) :: ns q.hb g (uk g A s) (ada g A c s nw) :: ki q.tb n :: qf q.kb a0 [] :: jd eb (evC ⟨1,0,0,s.jj,jf,0,s,0⟩).toArray T.ar :: spB tb s :: R)->K (.int .i64 (if rt g A s=0 then 0 else 8)) w9:=fun w9 v' S'=>by
  refine h w9 v' ?_
  exact S'.pick (L:=[_,_,_,_,_,_,_]) [0,3,2,4,1] 7 rfl (by decide)
 by_cases hk:rt g A s=0
 ·have S13:=S12.pick (L:=[_,_,_,_,_,_,_]) [5,0,1,2,3,4,6] 7 rfl (by decide)
  simp[hk,hev S13]
  have S14:=S13.pick (L:=[_,_,_,_,_,_,_]) [2,5,1,3,4,0,6] 7 rfl (by decide)
  refine aei (q:={q with now:=nw}) S14 ⟨1,0,0,s.jj,jf,0,s,0⟩ he fun w9 v9 S15=>?_
  have:=hfin w9 v9 (by
   unfold uz
   rw[if_pos hk]
   exact S15)
  rw[if_pos hk] at this
  exact this
 ·have S13:=S12.pick (L:=[_,_,_,_,_,_,_]) [6,0,1,2,3,4,5] 7 rfl (by decide)
  simp[hk,sp0 S13,sp8 S13,lw]
  have S14:=S13.pick (L:=[_,_,_,_,_,_,_]) [2,5,1,3,4,6,0] 7 rfl (by decide)
  refine aei (q:={q with now:=nw}) S14 ⟨6,0,0,s.jj,jf,0,s,8⟩ he fun w9 v9 S15=>?_
  have:=hfin w9 v9 (by
   unfold uz
   rw[if_neg hk]
   exact S15)
  rw[if_neg hk] at this
  exact this
end
set_option maxRecDepth 100000
def yc(o:Option (List Int)):Option (List Int):=o.bind fun l=>if 8<=l.length then some (l.drop 8) else none
def sm1(lo hi:Int)(o:Option (List Int)):Option (List Int):=o.bind fun l=>if l=[] then none else if lo<=l.headD 0/\l.headD 0<=hi then some (l.drop 1) else none
def tx1(o:Option (List Int)):Option (List Int):=o.bind fun l=>if l=[] then none else if 1<=l.headD 0/\l.headD 0<=32/\(l.headD 0).toNat<=(l.drop 1).length then some ((l.drop 1).drop (l.headD 0).toNat) else none
def txV(l:List Int):ByteArray:=akb ((l.drop 1).take (l.headD 0).toNat)
def alp(l:List Int):Option (List Int):=tx1 (tx1 (sm1 0 1 (yc (yc (yc (yc (yc (some l))))))))
def aea(l:List Int):Spn:=
 ⟨adc l,adc (l.drop 8),adc (l.drop 16),adc (l.drop 24),adc (l.drop 32),txV (l.drop 41),txV ((l.drop 42).drop ((l.drop 41).headD 0).toNat),decide ((l.drop 40).headD 0=1)⟩
def zj(l:List Int):Option (Spn×List Int):=(alp l).bind fun r=>if ll (aea l)=0 then some (aea l,r) else none
theorem acw{o:Option (List Int)}{r:List Int}(h:yc o=some r): ∃l,o=some l/\8<=l.length/\r=l.drop 8:=by
 cases o with
 | none=>cases h
 | some l=>
  simp only[yc,Option.bind_some] at h
  split at h
  ·exact⟨l,rfl,by assumption,(Option.some.inj h).symm⟩
  ·cases h
theorem alq{lo hi:Int}{o:Option (List Int)}{r:List Int}(h:sm1 lo hi o=some r): ∃l,o=some l/\l≠[]/\lo<=l.headD 0/\l.headD 0<=hi/\r=l.drop 1:=by
 cases o with
 | none=>cases h
 | some l=>
  simp only[sm1,Option.bind_some] at h
  split at h
  ·cases h
  ·rename_i h1
   split at h
   ·rename_i h2
    exact⟨l,rfl,h1,h2.1,h2.2,(Option.some.inj h).symm⟩
   ·cases h
theorem aev{o:Option (List Int)}{r:List Int}(h:tx1 o=some r): ∃l,o=some l/\l≠[]/\1<=l.headD 0/\l.headD 0<=32/\(l.headD 0).toNat<=(l.drop 1).length/\r=(l.drop 1).drop (l.headD 0).toNat:=by
 cases o with
 | none=>cases h
 | some l=>
  simp only[tx1,Option.bind_some] at h
  split at h
  ·cases h
  ·rename_i h1
   split at h
   ·rename_i h2
    exact⟨l,rfl,h1,h2.1,h2.2.1,h2.2.2,(Option.some.inj h).symm⟩
   ·cases h
section
variable {w0 w : World} {R X : List Asn}
theorem bfo{n i:Nat}(h:i < n):(madeCells #[Value.int .u8 0] n)[i]? =some (.int .u8 0):=by
 unfold madeCells
 simp[h,Nat.mod_one]
theorem bcw(n:Nat):(List.replicate n (0:Int)).flatMap aej=List.replicate n (.int .u8 0):=by
 induction n with
 | zero=>rfl
 | succ n ih=>rw[List.replicate_succ,List.flatMap_cons,ih,List.replicate_succ];rfl
theorem awu(S:St w0 w R){n:Nat}(hn:n<=1000){K:KV}(h: ∀w' v,St w0 w' (rdA 1 aej v (List.replicate n 0) :: R)->K v w'):atr P T.t (.int .i64 (n:Nat)) (.int .i64 (n:Nat)) w K:=by
 obtain⟨i,z,hi,hz,hs,hb,hzs⟩:=(et.t).inf
 have hz0:z.cells= #[.int .u8 0]:=by
  have:((P.info? T.be).bind fun i=>i.zero)=some (.int .u8 0):=by kernel_rfl
  rw[hi] at this
  simp only[Option.bind_some,hz] at this
  cases this
  rfl
 have hr:=run_makeSlice (P:=P) w T.t T.be i z (et.t).ty hi hz .i64 .i64 (n:Nat) (n:Nat) (by omega) (by omega) (by rw[hs];simp;omega) (by rw[hb];omega) (by omega)
 unfold atr jt
 rw[hr]
 simp only[Int.toNat_natCast,hs,Nat.mul_one,hz0]
 have hm:(madeCells #[Value.int .u8 0] n).toList=(List.replicate n (0:Int)).flatMap aej:=by
  rw[bcw]
  apply List.ext_getElem?
  intro i
  by_cases hi:i < n
  ·rw[Array.getElem?_toList,bfo hi]
   simp[hi]
  ·rw[Array.getElem?_toList,Array.getElem?_eq_none (by rw[size_madeCells];omega),List.getElem?_eq_none (by simp;omega)]
 have S2:St w0 (w.alloc (.cells (madeCells #[Value.int .u8 0] n) T.be)) (aaw (.slice (some ⟨w.heap.size,0,none⟩) n n) (List.replicate n 0) :: R):=by
  have:=St.uh (e:=T.be) (l:=List.replicate n (0:Int)) S pe hm (by simp[maxLen];omega)
  simpa using this
 obtain⟨B,⟨k1,k2⟩,hB,cl⟩:=S2.open
 exact h _ _ (cl _ [rdA 1 aej _ (List.replicate n 0)] (Fr.refl _ _) (Rs.one (B:=B) ⟨k1.sl pe,k2⟩ fun x hx=> .inl hx))
theorem bly(a b:Int):aao (orL a b):=by
 unfold orL
 have h:(BitVec.ofInt IntKind.u64.bits a ||| BitVec.ofInt IntKind.u64.bits b).toNat < 18446744073709551616:=(BitVec.ofInt 64 a ||| BitVec.ofInt 64 b).isLt
 rw[mu (by omega) (by omega)]
 exact⟨by omega,by omega⟩
theorem bjd(l:List Int):aao (adc l):=bly _ _
end
section
variable {w0 w : World} {R X : List Asn}
def ahm(w0:World)(R:List Asn)(v:Value)(k:Int):Option (List Int)->Prop
 | some l=>k=0/\Rdv w0 R v l
 | none=>k≠0/\∃a n c,v= .slice a n c
abbrev xe(b:Nat)(v:Value)(k:Int):Asn:=jd b #[v,.int .i64 k] T.av
def rdt(n:Nat)(o:Option (List Int)):Option (List Int):=o.bind fun l=>if n<=l.length then some (l.drop n) else none
theorem amh{b n:Nat}{v:Value}{k:Int}{o:Option (List Int)}(S:St w0 w (xe b v k :: (X ++ R)))(ho:ahm w0 R v k o)(hn:n<=1000){K:KV}
  (h: ∀w' v1 d v2 k2,SlB w' v1 d->d.length=n->(∀l,o=some l->n<=l.length->d=l.take n)->ahm w0 R v2 k2 (rdt n o)->St w0 w' (xe b v2 k2 :: (X ++ R))->K v1 w'):ik P F.bz [.pointer (some ⟨b,0,none⟩),.int .i64 (n:Nat)] w K:=by
 rw[M.aj.fcall]
 apply M.aj.calls
 unfold M.aj
 have c0:iq w b 0=some v:=by rw[S.cell];rfl
 have c1:iq w b 1=some (.int .i64 k):=by rw[S.cell];rfl
 cases o with
 | none=>
  obtain⟨hk,a,m,c,hv⟩:=ho
  simp[c1,hk]
  unfold M.aj.j0
  simp[c1,hk]
  refine awu S hn fun w2 v2 S2=>?_
  exact h w2 v2 _ v k S2.rd (by simp) (fun l h=>by cases h) ⟨hk,a,m,c,hv⟩ S2.drop
 | some l=>
  obtain⟨hk,hs⟩:=ho
  subst hk
  have hlen: ∀w' K,biT P .len #[T.t] T.d [false] [v] w' K=K (.int .i64 l.length) w':=fun w' K=>(hs w (_ :: X) S).jv (by kernel_rfl) [false]
  by_cases hl:n<=l.length
  ·have hlt: ¬(l.length:Int) < (n:Int):=by omega
   simp[c0,c1,hlen,hlt]
   unfold M.aj.j0
   simp[c1]
   unfold M.aj.j1
   obtain⟨v1,e1,r1⟩:=akl (L0:=rdr b v :: X) S hs (lo:=none) (hi:=some (.int .i64 (n:Nat))) (i:=0) (j:=n) (.inl ⟨rfl,rfl⟩) (.inr ⟨_,rfl⟩) (Nat.zero_le _) hl
   obtain⟨v2,e2,r2⟩:=akl (L0:=rdr b v :: X) S hs (lo:=some (.int .i64 (n:Nat))) (hi:=none) (i:=n) (j:=l.length) (.inr ⟨_,rfl⟩) (.inl ⟨rfl,rfl⟩) hl (Nat.le_refl _)
   rw[List.drop_zero,Nat.sub_zero] at r1
   rw[List.take_of_length_le (by simp)] at r2
   have hv2:lc v2=true:=by
    obtain⟨_,_,e,_⟩:=r2 w (_ :: X) S
    rw[e];rfl
   have hst: ∀w' K,stT P T.t (.pointer (some ⟨b,0,none⟩)) v2 w' K=st1 P b 0 v2 w' K:=fun w' K=>by
    obtain⟨a,c,e,_⟩:=r2 w (_ :: X) S
    rw[e]
    simp
   simp[c0,e1,e2,hst]
   refine St.oh S hv2 (by simp) fun w3 S3=>?_
   have S3':St w0 w3 (xe b v2 0 :: (X ++ R)):=S3
   refine h w3 v1 _ v2 0 (r1 w3 (_ :: X) S3') (by simp;omega) (fun l' h _=>by cases h;rfl) ?_ S3'
   simp only[rdt,Option.bind_some,if_pos hl]
   exact⟨rfl,r2⟩
  ·have hlt:(l.length:Int) < (n:Int):=by omega
   simp[c0,c1,hlen,hlt]
   refine St.oh S rfl (by simp) fun w2 S2=>?_
   have S2':St w0 w2 (xe b v 3 :: (X ++ R)):=S2
   unfold M.aj.j0
   have d1:iq w2 b 1=some (.int .i64 3):=by rw[S2'.cell];rfl
   simp[d1]
   refine awu S2' hn fun w3 v3 S3=>?_
   obtain⟨a,c,hv,_⟩:=hs w (_ :: X) S
   refine h w3 v3 _ v 3 S3.rd (by simp) (fun l' h hl'=>by cases h;exact absurd hl' hl) ?_ S3.drop
   simp only[rdt,Option.bind_some,if_neg hl]
   exact⟨by decide,a,_,c,hv⟩
end
theorem arg(l:List Int): ∀i,i<=8->aak (l.take 8) i=aak l i
 | 0,_=>rfl
 | i+1,h=>by
  unfold aak
  rw[arg l i (by omega)]
  have e:(l.take 8).getD i 0=l.getD i 0:=by
   rw[List.getD_eq_getElem?_getD,List.getD_eq_getElem?_getD,List.getElem?_take_of_lt (by omega)]
  rw[e]
theorem bcd(l:List Int):adc (l.take 8)=adc l:=arg l 8 (Nat.le_refl _)
section
variable {w0 w : World} {R X : List Asn} {b : Nat} {v : Value} {k : Int} {o : Option (List Int)}
theorem abe(S:St w0 w (xe b v k :: (X ++ R)))(ho:ahm w0 R v k o){K:KV}
  (h: ∀w' x v2 k2,aao x->(∀l,o=some l->8<=l.length->x=adc l)->ahm w0 R v2 k2 (yc o)->St w0 w' (xe b v2 k2 :: (X ++ R))->K (.int .u64 x) w'):ik P F.az [.pointer (some ⟨b,0,none⟩)] w K:=by
 rw[M.ci.fcall]
 apply M.ci.calls
 unfold M.ci
 refine amh (n:=8) S ho (by decide) fun w1 v1 d v2 k2 r1 hd hdl h2 S1=>?_
 refine bcn r1 (by omega) ?_
 exact h w1 _ v2 k2 (bjd d) (fun l hl h8=>by rw[hdl l hl h8,bcd]) h2 S1
theorem ard(S:St w0 w (xe b v k :: (X ++ R)))(ho:ahm w0 R v k o){lo hi:Int}{K:KV}
  (h: ∀w' x v2 k2,(∀l,o=some l->l≠[]->x=l.headD 0)->ahm w0 R v2 k2 (sm1 lo hi o)->St w0 w' (xe b v2 k2 :: (X ++ R))->K (.int .u8 x) w'):ik P F.cj [.pointer (some ⟨b,0,none⟩),.int .u8 lo,.int .u8 hi] w K:=by
 rw[M.cq.fcall]
 apply M.cq.calls
 unfold M.cq
 refine amh (n:=1) S ho (by decide) fun w1 v1 d v2 k2 r1 hd hdl h2 S1=>?_
 have c1:iq w1 b 1=some (.int .i64 k2):=by rw[S1.cell];rfl
 match d,hd with
 | [x],_=>
  obtain⟨ab,ao,ac,e1,_,_,hc⟩:=r1.at (i:=0) (by simp)
  have hcell:iq w1 ab ao=some (.int .u8 x):=by simpa using hc 0 _ rfl
  have hia: ∀w' K,iaT P T.t v1 (.int .i64 0) w' K=K (.pointer (some ⟨ab,ao,none⟩)) w':=fun w' K=>by rw[e1];simp
  have hx: ∀l,o=some l->l≠[]->x=l.headD 0:=fun l hl hne=>by
   have:=hdl l hl (by have:=List.length_pos_iff.2 hne;omega)
   cases l with
   | nil=>exact absurd rfl hne
   | cons y l=>simpa using this
  by_cases hk2:k2=0
  ·subst hk2
   -- it went well:there is a byte
   have hol: ∃l,o=some l/\1<=l.length/\rdt 1 o=some (l.drop 1):=by
    cases o with
    | none=>exact absurd rfl h2.1
    | some l=>
     by_cases hl:1<=l.length
     ·exact⟨l,rfl,hl,by simp only[rdt,Option.bind_some,if_pos hl]⟩
     ·simp only[rdt,Option.bind_some,if_neg hl] at h2
      exact absurd rfl h2.1
   obtain⟨l,hol,hl1,hrd⟩:=hol
   have hne:l≠[]:=fun e=>by subst e;simp at hl1
   have hxl:=hx l hol hne
   rw[hrd] at h2
   by_cases hin:lo<=x/\x<=hi
   ·have n0: ¬x < lo:=by omega
    have n1: ¬hi < x:=by omega
    simp[hia,hcell,c1,n0,n1]
    refine h w1 x v2 0 hx ?_ S1
    have e:sm1 lo hi o=some (l.drop 1):=by
     rw[hol]
     simp only[sm1,Option.bind_some,if_neg hne]
     rw[if_pos (by rw[<-hxl];exact hin)]
    rw[e]
    exact h2
   ·have hnn:sm1 lo hi o=none:=by
     rw[hol]
     simp only[sm1,Option.bind_some,if_neg hne]
     rw[if_neg (by rw[<-hxl];exact hin)]
    have fin: ∀w3,St w0 w3 (xe b v2 6 :: (X ++ R))->K (.int .u8 x) w3:=fun w3 S3=>by
     refine h w3 x v2 6 hx ?_ S3
     rw[hnn]
     obtain⟨a,c,hv,_⟩:=h2.2 w1 (_ :: X) S1
     exact⟨by decide,a,_,c,hv⟩
    by_cases n0:x < lo
    ·simp[hia,hcell,c1,n0]
     exact St.oh S1 rfl (by simp) fun w3 S3=>fin w3 S3
    ·have n1:hi < x:=by omega
     simp[hia,hcell,c1,n0,n1]
     exact St.oh S1 rfl (by simp) fun w3 S3=>fin w3 S3
  ·simp[hia,hcell,c1,hk2]
   refine h w1 x v2 k2 hx ?_ S1
   have hnn:sm1 lo hi o=none:=by
    cases o with
    | none=>rfl
    | some l=>
     by_cases hl:l=[]
     ·subst hl;rfl
     ·have hl1:1<=l.length:=List.length_pos_iff.2 hl
      simp only[rdt,Option.bind_some,if_pos hl1] at h2
      exact absurd h2.1 hk2
   rw[hnn]
   cases hrd:rdt 1 o with
   | none=>
    rw[hrd] at h2
    exact h2
   | some l=>
    rw[hrd] at h2
    exact absurd h2.1 hk2
theorem aus(S:St w0 w (xe b v k :: (X ++ R)))(ho:ahm w0 R v k o){K:KV}
  (h: ∀w' x v2 k2,(∀l,o=some l->(tx1 o).isSome->x=txV l)->ahm w0 R v2 k2 (tx1 o)->St w0 w' (xe b v2 k2 :: (X ++ R))->K (.string x) w'):ik P F.cq [.pointer (some ⟨b,0,none⟩)] w K:=by
 rw[M.cw.fcall]
 apply M.cw.calls
 unfold M.cw
 refine ard (lo:=1) (hi:=32) S ho fun w1 x v1 k1 hx h1 S1=>?_
 have c1:iq w1 b 1=some (.int .i64 k1):=by rw[S1.cell];rfl
 cases hs:sm1 1 32 o with
 | none=>
  rw[hs] at h1
  have hk1:k1≠0:=h1.1
  have htx:tx1 o=none:=by
   cases ht:tx1 o with
   | none=>rfl
   | some r=>
    obtain⟨l,hl,hne,g1,g2,_,_⟩:=aev ht
    rw[hl] at hs
    simp only[sm1,Option.bind_some,if_neg hne,if_pos (And.intro g1 g2)] at hs
    cases hs
  simp[c1,hk1]
  refine h w1 _ v1 k1 (fun l hl hsome=>by rw[htx] at hsome;cases hsome) ?_ S1
  rw[htx]
  exact h1
 | some r1=>
  obtain⟨l,hol,hne,g1,g2,hr1⟩:=alq hs
  rw[hs] at h1
  have hk1:k1=0:=h1.1
  subst hk1
  have hxl:=hx l hol hne
  obtain⟨m,hm⟩:=Int.eq_ofNat_of_zero_le (show 0<=l.headD 0 by omega)
  rw[hm] at hxl
  subst hxl
  simp[c1]
  have hcv: ∀w' K',cvT P T.be T.d (.int .u8 (m:Int)) w' K'=K' (.int .i64 (m:Nat)) w':=fun w' K'=>by
   rw[pw (ks:= .u8) (kd:= .i64) (by kernel_rfl) (by kernel_rfl),jc]
  simp[hcv]
  refine amh (n:=m) S1 h1 (by omega) fun w2 v2 d v3 k3 r2 hd hdl h2 S2=>?_
  rw[bjp (by kernel_rfl) (by kernel_rfl) r2]
  have htx:tx1 o=rdt m (some r1):=by
   rw[hol]
   simp only[tx1,Option.bind_some,if_neg hne,rdt,hr1,hm,Int.toNat_natCast]
   by_cases hml:m<=(l.drop 1).length
   ·rw[if_pos hml,if_pos (by rw[hm] at g1 g2;exact⟨g1,g2,hml⟩)]
   ·rw[if_neg hml,if_neg (fun hh=>hml hh.2.2)]
  refine h w2 _ v3 k3 (fun l' hl' hsome=>?_) (by rw[htx];exact h2) S2
  rw[hol] at hl'
  cases hl'
  have hml:m<=r1.length:=by
   rw[htx] at hsome
   by_cases hml:m<=r1.length
   ·exact hml
   ·simp only[rdt,Option.bind_some,if_neg hml] at hsome
    cases hsome
  rw[hdl r1 rfl hml]
  clear h2 hdl
  unfold txV
  rw[hr1,hm,Int.toNat_natCast]
end
def acf:Spn:=⟨0,0,0,0,0,⟨#[]⟩,⟨#[]⟩,false⟩
section
variable {w0 w : World} {R X : List Asn}
theorem bfu{l r:List Int}(h:alp l=some r):8<=l.length/\8<=(l.drop 8).length/\8<=(l.drop 16).length/\8<=(l.drop 24).length/\8<=(l.drop 32).length/\l.drop 40≠[]:=by
 unfold alp at h
 obtain⟨a1,e1,_,_,_,_,_⟩:=aev h
 obtain⟨a2,e2,_,_,_,_,_⟩:=aev e1
 obtain⟨a3,e3,n3,_,_,_⟩:=alq e2
 obtain⟨b5,f5,g5,q5⟩:=acw e3
 obtain⟨b4,f4,g4,q4⟩:=acw f5
 obtain⟨b3,f3,g3,q3⟩:=acw f4
 obtain⟨b2,f2,g2,q2⟩:=acw f3
 obtain⟨b1,f1,g1,q1⟩:=acw f2
 cases f1
 subst q1 q2 q3 q4 q5
 simp only[List.drop_drop] at *
 exact⟨g1,g2,g3,g4,g5,n3⟩
theorem blz{v:Value}{l:List Int}(S:St w0 w R)(hs:Rdv w0 R v l)(hl:l.length<=1000000){K:KV}
  (h1: ∀s r,zj l=some (s,r)->ahx s->ll s=0->∀w' v',St w0 w' (aaw v' r :: R)->K (.tuple #[lw s,v',.int .i64 0]) w')
  (h0:zj l=none->∀w' k,k≠0->St w0 w' R->K (.tuple #[lw acf,.slice none 0 0,.int .i64 k]) w'):ik P F.gy [v] w K:=by
 rw[M.de.fcall]
 apply M.de.calls
 unfold M.de
 have hb: ∀w' K,jq P T.av #[(0,v)] w' K=K (.agg #[v,.int .i64 0]) w':=fun w' K=>by
  obtain⟨_,_,e,_⟩:=hs w [] S
  rw[e]
  simp
 simp[hb]
 have S1:St w0 (w.alloc (.cells #[.int .u64 0,.int .u64 0,.int .u64 0,.int .u64 0,.int .u64 0,.string ⟨#[]⟩,.string ⟨#[]⟩,.bool false] T.j)) (spB w.heap.size acf :: R):=S.mkB (jz acf).toArray T.j
 have S2:=S1.mkB #[v,.int .i64 0] T.av
 rw[jg] at S2
 generalize w.heap.size=tb at *
 generalize hrb:tb+1=rb at *
 generalize (World.alloc _ (.cells #[v,.int .i64 0] T.av))=w2 at *
 refine abe (X:=[_]) (o:=some l) S2 ⟨rfl,hs⟩ fun w3 x1 v3 k3 g1 y1 r3 S3=>?_
 refine abe (X:=[_]) S3 r3 fun w4 x2 v4 k4 g2 y2 r4 S4=>?_
 refine abe (X:=[_]) S4 r4 fun w5 x3 v5 k5 g3 y3 r5 S5=>?_
 refine abe (X:=[_]) S5 r5 fun w6 x4 v6 k6 g4 y4 r6 S6=>?_
 refine abe (X:=[_]) S6 r6 fun w7 x5 v7 k7 g5 y5 r7 S7=>?_
 simp
 have S7':St w0 w7 (spB tb acf :: xe rb v7 k7 :: R):=S7.swap
 refine St.put (vs:=jz ⟨x1,x2,x3,x4,x5,⟨#[]⟩,⟨#[]⟩,false⟩) (cs':=(jz ⟨x1,x2,x3,x4,x5,⟨#[]⟩,⟨#[]⟩,false⟩).toArray) S7' (qn _) (by simp[jz]) rfl fun w8 S8=>?_
 refine ard (X:=[_]) (lo:=0) (hi:=1) S8.swap r7 fun w9 x6 v9 k9 y6 r9 S9=>?_
 simp
 refine St.oh S9.swap rfl (by simp[jz]) fun w10 S10=>?_
 have S10':St w0 w10 (spB tb ⟨x1,x2,x3,x4,x5,⟨#[]⟩,⟨#[]⟩,decide (x6=1)⟩ :: xe rb v9 k9 :: R):=S10
 refine aus (X:=[_]) S10'.swap r9 fun w11 x7 v11 k11 y7 r11 S11=>?_
 simp
 refine St.oh S11.swap rfl (by simp[jz]) fun w12 S12=>?_
 have S12':St w0 w12 (spB tb ⟨x1,x2,x3,x4,x5,x7,⟨#[]⟩,decide (x6=1)⟩ :: xe rb v11 k11 :: R):=S12
 refine aus (X:=[_]) S12'.swap r11 fun w13 x8 v13 k13 y8 r13 S13=>?_
 simp
 refine St.oh S13.swap rfl (by simp[jz]) fun w14 S14=>?_
 have S14':St w0 w14 (spB tb ⟨x1,x2,x3,x4,x5,x7,x8,decide (x6=1)⟩ :: xe rb v13 k13 :: R):=S14
 have c1:iq w14 rb 1=some (.int .i64 k13):=by rw[S14'.swap.cell];rfl
 have sl: ∀{w':World}{L:List Asn}{s:Spn},St w0 w' (spB tb s :: L)->∀K,ldN P 8 tb 0 w' K=K (lw s) w':=fun{_ _ s} S' K=>S'.ldA (n:=8) (i:=0) (jz s) rfl rfl K
 have hres: ∀w' K,oy P T.j (.pointer (some ⟨tb,0,none⟩)) w' K=ldN P 8 tb 0 w' K:=fun w' K=>kr
 have hst: ∀(s:Spn) w' K,stT P T.j (.pointer (some ⟨tb,0,none⟩)) (lw s) w' K=stN P tb 0 (jz s) w' K:=fun s w' K=>by
  unfold lw
  simp[jz]
 change ahm w0 R v13 k13 (alp l) at r13
 have bad: ∀(s:Spn) w' k,k≠0->zj l=none->St w0 w' (xe rb v13 k :: spB tb s :: R)->M.de.j0 (.pointer (some ⟨rb,0,none⟩)) (.pointer (some ⟨tb,0,none⟩)) w' K:=fun s w' k hk hn S'=>by
  unfold M.de.j0
  have d1: ∀{w':World}{L:List Asn},St w0 w' (xe rb v13 k :: L)->iq w' rb 1=some (.int .i64 k):=fun S'=>by rw[S'.cell];rfl
  have S3:=S'.ju ((Fr.refl _ w').dr 1)
  simp[d1 S',d1 S3,hk]
  refine St.put (vs:=jz acf) (cs':=(jz acf).toArray) S3.swap (qn _) (by simp[jz]) (by simp[jz]) fun w4 S4=>?_
  have S4':St w0 w4 (spB tb acf :: xe rb v13 k :: R):=S4
  simp[d1 S4'.swap,hres,sl S4']
  exact h0 hn w4 k hk S4'.drop.drop
 by_cases hk:k13=0
 ·subst hk
  cases hr:alp l with
  | none=>
   rw[hr] at r13
   exact absurd rfl r13.1
  | some r=>
  rw[hr] at r13
  obtain⟨q1,q2,q3,q4,q5,q6⟩:=bfu hr
  have o1:yc (some l)=some (l.drop 8):=by simp only[yc,Option.bind_some,if_pos q1]
  have o2:yc (some (l.drop 8))=some (l.drop 16):=by simp only[yc,Option.bind_some,if_pos q2,List.drop_drop]
  have o3:yc (some (l.drop 16))=some (l.drop 24):=by simp only[yc,Option.bind_some,if_pos q3,List.drop_drop]
  have o4:yc (some (l.drop 24))=some (l.drop 32):=by simp only[yc,Option.bind_some,if_pos q4,List.drop_drop]
  have o5:yc (some (l.drop 32))=some (l.drop 40):=by simp only[yc,Option.bind_some,if_pos q5,List.drop_drop]
  have hr':=hr
  unfold alp at hr'
  rw[o1] at y2 y3 y4 y5 y6 y7 y8 hr'
  rw[o2] at y3 y4 y5 y6 y7 y8 hr'
  rw[o3] at y4 y5 y6 y7 y8 hr'
  rw[o4] at y5 y6 y7 y8 hr'
  rw[o5] at y6 y7 y8 hr'
  obtain⟨a1,e1,n1,g11,g12,g13,t1⟩:=aev hr'
  obtain⟨a2,e2,n2,g21,g22,g23,t2⟩:=aev e1
  obtain⟨a3,e3,n3,g31,g32,t3⟩:=alq e2
  cases e3
  have o6:sm1 0 1 (some (l.drop 40))=some (l.drop 41):=by
   rw[e2,t3,List.drop_drop]
   try rfl
  rw[o6] at y7 y8 e1 e2 hr'
  cases e2
  rw[e1] at hr'
  have ta1:a1=(l.drop 42).drop ((l.drop 41).headD 0).toNat:=by
   rw[t2,List.drop_drop (j:=41)]
   try rfl
  have z1:=y1 l rfl q1
  have z2:=y2 _ rfl q2
  have z3:=y3 _ rfl q3
  have z4:=y4 _ rfl q4
  have z5:=y5 _ rfl q5
  have z6:=y6 _ rfl q6
  have z7:=y7 _ rfl (by rw[e1];rfl)
  have z8:=y8 a1 e1 (by rw[e1,hr'];rfl)
  rw[ta1] at z8
  have hsv:(⟨x1,x2,x3,x4,x5,x7,x8,decide (x6=1)⟩:Spn)=aea l:=by
   unfold aea
   rw[z1,z2,z3,z4,z5,z6,z7,z8]
  have hR:ahx (aea l):=by
   rw[<-hsv]
   exact⟨g1,g2,g3,g4,g5⟩
  rw[hsv] at S14'
  clear z1 z2 z3 z4 z5 z6 z7 z8 y1 y2 y3 y4 y5 y6 y7 y8
  simp[c1,sl S14']
  rw[M.dw.fcall]
  refine aha _ fun w15 f15=>?_
  have S15:=S14'.ju f15
  simp
  refine St.oh S15.swap rfl (by simp) fun w16 S16=>?_
  have S16':St w0 w16 (xe rb v13 (ll (aea l)) :: spB tb (aea l) :: R):=S16
  by_cases hk:ll (aea l)=0
  ·have hco:zj l=some (aea l,r):=by
    unfold zj
    rw[hr,Option.bind_some,if_pos hk]
   rw[hk] at S16'
   have d1:iq w16 rb 1=some (.int .i64 0):=by rw[S16'.cell];rfl
   unfold M.de.j0
   simp[d1]
   unfold M.de.j1
   have S17:=S16'.ju ((Fr.refl _ w16).dr 1)
   have d0:iq (dr w16 1) rb 0=some v13:=by rw[S17.cell];rfl
   simp[sl S17.swap,d0]
   have hrl:r.length<=100000000:=by
    rw[t1]
    simp only[List.length_drop]
    rw[ta1]
    simp only[List.length_drop]
    omega
   refine arc S17 (r13.2 _ [_,_] S17) hrl fun w18 v18 S18=>?_
   simp[sl S18.up2]
   rw[hst]
   refine St.put (vs:=jz (aea l)) (cs':=(jz (aea l)).toArray) S18.up2 (qn _) (by simp[jz]) (by simp[jz]) fun w19 S19=>?_
   simp[hres,sl S19]
   exact h1 _ r hco hR hk w19 v18 (S19.drop.swap.drop)
  ·have hco:zj l=none:=by
    unfold zj
    rw[hr,Option.bind_some,if_neg hk]
   exact bad _ w16 _ hk hco S16'
 ·have hn:zj l=none:=by
   cases hr:alp l with
   | none=>unfold zj;rw[hr];rfl
   | some r=>
    rw[hr] at r13
    exact absurd r13.1 hk
  simp[c1,hk]
  exact bad _ w14 k13 hk hn S14'.swap
end
section
variable {w0 w : World} {R : List Asn} {p : Nat} {q : Cl} {n : Nd} {g : Cfg} {A : List AE} {c : CT} {a0 : Int} {es : List Evn}
theorem bnh{rv:Value}{l:List Int}{now:Int}(S:St w0 w (aew p q n g A c a0 es ++ R))(hn:qk n)(hv:abk n.v=[1])(hs:Rdv w0 R rv l)(hll:l.length<=1000000)(hbd:0<=q.bad/\q.bad<=1000000)(h0:0<=q.now)(h1:q.now<=18446744073709551615)(h2:0<=now)(h3:now<=18446744073709551615)
  (hA:A.length<=1000) (hl: ∀e∈A,e.l.length<=1000) (hw:0<=g.jx) (he:es.length<=1000000) {K:KV}
  (h: ∀s,zj l=some (s,[])->ahx s->ll s=0->∀w' v',St w0 w' (aew p {q with now:=max q.now now,ev:=v'} n g (uk g A s) (ada g A c s (max q.now now)) a0 (es ++ [uz (rt g A s) (max q.now now) s]) ++ R)->K (.int .i64 (if rt g A s=0 then 0 else 8)) w')
  (hno:(∀s,zj l≠some (s,[]))->∀w' k,k≠0->St w0 w' (aew p {q with now:=max q.now now,bad:=q.bad+1} n g A c a0 es ++ R)->K (.int .i64 k) w'):ik P F.ad [kl p,rv,.int .u64 now] w K:=by
 have S0:St w0 w (clA p q :: ki q.tb n :: ns q.hb g A c :: qf q.kb a0 [] :: nh q.ev es :: R):=S
 rw[M.e.fcall]
 apply M.e.calls
 unfold M.e
 obtain⟨_,_,_,_,_,_,_,_,_,_,_,_,_,_,_,c23,_⟩:=mr S0
 simp only[kl]
 simp
 unfold M.e.j0
 simp[c23,qo]
 refine St.oh S0 rfl (by simp[clC]) fun w1 S1=>?_
 have S1':St w0 w1 (clA p {q with now:=max q.now now} :: ki q.tb n :: ns q.hb g A c :: qf q.kb a0 [] :: nh q.ev es :: R):=S1
 have hn0:0<=max q.now now:=by omega
 have hn1:max q.now now<=18446744073709551615:=by omega
 generalize max q.now now=nw at *
 have hs':Rdv w0 (clA p {q with now:=nw} :: ki q.tb n :: ns q.hb g A c :: qf q.kb a0 [] :: nh q.ev es :: R) rv l:=alt hs [_,_,_,_,_]
 have fin0: ∀(w9:World)(k:Int)(x0:List Value)(t7:Value),k≠0->(∀s,zj l≠some (s,[]))->St w0 w9 (clA p {q with now:=nw} :: ki q.tb n :: ns q.hb g A c :: qf q.kb a0 [] :: nh q.ev es :: R)->M.e.j1 [.int .i64 k] (.pointer (some ⟨p,0,none⟩)) x0 t7 w9 K:=fun w9 k x0 t7 hk hn S'=>by
  have c26:iq w9 p 26=some (.int .u64 q.bad):=by rw[S'.cell];rfl
  have hw:IntKind.u64.wrap (q.bad+1)=q.bad+1:=by rw[mu (by omega) (by omega)]
  unfold M.e.j1
  simp[hk,c26,hw]
  refine St.oh S' rfl (by simp[clC]) fun w10 S10=>?_
  exact hno hn w10 k hk S10
 refine blz S1' hs' hll (fun s r hco hR hr w2 v2 S2=>?_) fun hco w2 k hk S2=>?_
 ·have sp0:True:=trivial
  have S3:=S2.mkB #[.int .u64 0,.int .u64 0,.int .u64 0,.int .u64 0,.int .u64 0,.string ⟨#[]⟩,.string ⟨#[]⟩,.bool false] T.j
  have hln: ∀w' K,biT P .len #[T.t] T.d [false] [v2] w' K=K (.int .i64 r.length) w':=fun w' K=>(S2.row pe).jv (by kernel_rfl) [false]
  unfold lw
  simp
  generalize w2.heap.size=tb at *
  generalize w2.alloc _=w3 at *
  refine St.put (vs:=jz s) (cs':=(jz s).toArray) S3 (qn s) (by simp[jz]) (by simp[jz]) fun w4 S4=>?_
  by_cases hr0:r=[]
  ·subst hr0
   have hr0:True:=trivial
   simp[hln,hr0]
   unfold M.e.j1
   simp
   unfold M.e.j2
   have S5:St w0 w4 (spB tb s :: clA p {q with now:=nw} :: ki q.tb n :: ns q.hb g A c :: qf q.kb a0 [] :: nh q.ev es :: R):=S4.swap.drop
   have sp0: ∀{w':World}{L:List Asn},St w0 w' (spB tb s :: L)->iq w' tb 0=some (.int .u64 s.jj):=fun S'=>by rw[S'.cell];rfl
   have sp8: ∀{w':World}{L:List Asn},St w0 w' (spB tb s :: L)->∀K,ldN P 8 tb 0 w' K=K (lw s) w':=fun S' K=>S'.ldA (n:=8) (i:=0) (jz s) rfl rfl K
   have S6:=S5.mkB (evC ⟨0,0,0,0,jf,0,⟨0,0,0,0,0,⟨#[]⟩,⟨#[]⟩,false⟩,0⟩).toArray T.ar
   unfold evC jf at S6
   dsimp only at S6
   simp[sp0 S5,sp8 S5,lw]
   generalize w4.heap.size=eb at *
   generalize w4.alloc _=w5 at *
   refine St.put (vs:=evC ⟨1,0,0,s.jj,jf,0,s,0⟩) (cs':=(evC ⟨1,0,0,s.jj,jf,0,s,0⟩).toArray) S6 (apr _) (by simp[evC]) (by simp[evC]) fun w6 S7=>?_
   simp[sp0 S7.swap]
   have S8:=S7.perm (List.Perm.append_right R (List.perm_append_comm (l₁:=[_,_]) (l₂:=[_,_,_,_,_])))
   refine aat S8 hn hv ⟨by decide,trivial⟩ (by simp) (by simp) s.jj fun w7 o ho S9=>?_
   obtain rfl:=ho.one
   have S10:=S9.ju ((Fr.refl _ w7).dr 1)
   obtain⟨d0,_,_,_,_,_,_,_,_,_,d16,_⟩:=mr S10
   have x0:=sp0 (S10.perm (List.perm_middle (l₁:=[_,_,_,_,_,_])))
   simp[d16,x0]
   refine apy S10.up3 s.jj ?_
   simp[kh,d0]
   have S11:=S10.ju ((Fr.refl _ (dr w7 1)).dr 1)
   obtain⟨e0,_,_,_,_,_,_,_,_,e15,_,_,_,_,_,e23,_⟩:=mr S11
   have x8:=sp8 (S11.perm (List.perm_middle (l₁:=[_,_,_,_,_,_])))
   simp[e15,e23,x8]
   refine ber S11.up2 hA hl s ⟨hn0,hn1⟩ hw fun w8 S12=>?_
   have hev: ∀{w':World}{L:List Asn},St w0 w' (jd eb (evC ⟨1,0,0,s.jj,jf,0,s,0⟩).toArray T.ar :: L)->∀K,ldN P 16 eb 0 w' K=K (evA ⟨1,0,0,s.jj,jf,0,s,0⟩) w':=fun S' K=>S'.ldA (n:=16) (i:=0) (evC ⟨1,0,0,s.jj,jf,0,s,0⟩) rfl rfl K
   have hfin: ∀w9 v',St w0 w9 (clA p {{q with now:=nw} with ev:=v'} :: nh v' (es ++ [uz (rt g A s) nw s]) :: ns q.hb g (uk g A s) (ada g A c s nw) :: ki q.tb n :: qf q.kb a0 [] :: jd eb (evC ⟨1,0,0,s.jj,jf,0,s,0⟩).toArray T.ar :: spB tb s :: R)->K (.int .i64 (if rt g A s=0 then 0 else 8)) w9:=fun w9 v' S'=>by
    refine h s hco hR hr w9 v' ?_
    exact S'.pick (L:=[_,_,_,_,_,_,_]) [0,3,2,4,1] 7 rfl (by decide)
   by_cases hk:rt g A s=0
   ·have S13:=S12.pick (L:=[_,_,_,_,_,_,_]) [5,0,1,2,3,4,6] 7 rfl (by decide)
    simp[hk,hev S13]
    have S14:=S13.pick (L:=[_,_,_,_,_,_,_]) [2,5,1,3,4,0,6] 7 rfl (by decide)
    refine aei (q:={q with now:=nw}) S14 ⟨1,0,0,s.jj,jf,0,s,0⟩ he fun w9 v9 S15=>?_
    have:=hfin w9 v9 (by
     unfold uz
     rw[if_pos hk]
     exact S15)
    rw[if_pos hk] at this
    exact this
   ·have S13:=S12.pick (L:=[_,_,_,_,_,_,_]) [6,0,1,2,3,4,5] 7 rfl (by decide)
    simp[hk,sp0 S13,sp8 S13,lw]
    have S14:=S13.pick (L:=[_,_,_,_,_,_,_]) [2,5,1,3,4,6,0] 7 rfl (by decide)
    refine aei (q:={q with now:=nw}) S14 ⟨6,0,0,s.jj,jf,0,s,8⟩ he fun w9 v9 S15=>?_
    have:=hfin w9 v9 (by
     unfold uz
     rw[if_neg hk]
     exact S15)
    rw[if_neg hk] at this
    exact this
  ·have hrp:(0:Int) < r.length:=by have:=List.length_pos_iff.2 hr0;omega
   have hlp:0 < r.length:=List.length_pos_iff.2 hr0
   simp[hln,hlp]
   exact fin0 w4 6 _ _ (by decide) (fun s' e=>by rw[hco] at e;cases e;exact hr0 rfl) S4.drop.drop
 ·have S3:=S2.mkB #[.int .u64 0,.int .u64 0,.int .u64 0,.int .u64 0,.int .u64 0,.string ⟨#[]⟩,.string ⟨#[]⟩,.bool false] T.j
  unfold lw
  simp
  generalize w2.heap.size=tb at *
  generalize w2.alloc _=w3 at *
  refine St.put (vs:=jz acf) (cs':=(jz acf).toArray) S3 (qn acf) (by simp[jz]) (by simp[jz]) fun w4 S4=>?_
  simp[hk]
  exact fin0 w4 k _ _ hk (fun s' e=>by rw[hco] at e;cases e) S4.drop
end
theorem zt{F:KL->Prop}{K:KL}(H: ∀K',(∀x w,K x w->K' x w)->F K'):im F K:=H K fun _ _ h=>h
section
variable {w0 w : World} {R : List Asn}
theorem bpq{t elem r:Nat}{k:IntKind}{zero:Value}(ht:ot P t k elem zero)(S:St w0 w (jm r k [] :: R))(x:Int){K:KV}(h: ∀w' (clk:Nat),St w0 w' (zg r (.map #[⟨.int k x,zero,clk⟩] (clk+1)) :: R)->K (.tuple #[zero,.int .i64 (clk:Nat)]) w'):meT P t (.map (some r)) (.int k x) w K:=by
 obtain⟨⟨key,h1,h2⟩,i,h3,h4⟩:=ht
 obtain⟨es,clk,hr,he,hbn⟩:=S.mp
 have hes:es= #[]:=by
  have:=he.length
  simp at this
  exact this
 subst hes
 obtain⟨B,⟨k1,k2⟩,hB,cl⟩:=S.open
 have hlt:r < w.heap.size:=mh hr
 have hf:=fun w=>xl h2 he x (by rfl) w
 simp only[meT,jt,Instr.mapEntry,Sem.run_bind,ji h1,Result.andThen,ri hr,tl h2,hf,afd h3 h4,xj hr,Sem.run_pure]
 exact h _ clk (cl _ [zg r (.map #[⟨.int k x,zero,clk⟩] (clk+1))] ((Fr.refl B w).setObj (.inl k2) _) (Rs.one (B:=B) ⟨by rw[qj _ _ _ _ hlt,if_pos rfl];rfl,k2⟩ fun b hb=> .inl hb))
theorem bnt{t r clk:Nat}{k:IntKind}{x:Int}{z:Value}(S:St w0 w (zg r (.map #[⟨.int k x,z,clk⟩] (clk+1)) :: R))(v:Value){K:KV}(h: ∀w',St w0 w' (jm r k [(x,v)] :: R)->K undef w'):esT P t (.map (some r)) (.int .i64 (clk:Nat)) v w K:=by
 have hr:=aku S
 obtain⟨B,⟨k1,k2⟩,hB,cl⟩:=S.open
 have hlt:r < w.heap.size:=mh hr
 have hfi:(#[(⟨.int k x,z,clk⟩:MapEntry)]).findIdx? (fun e=>(e.born:Int) == ((clk:Nat):Int))=some 0:=by simp
 simp only[esT,vo,Instr.entryStore,Sem.run_bind,Result.andThen,ri hr,asInt,asIntOf,Sem.run_pure,hfi,xj hr]
 refine h _ (cl _ [jm r k [(x,v)]] ((Fr.refl B w).setObj (.inl k2) _) (Rs.one (B:=B) ⟨⟨⟨_,_,by rw[qj _ _ _ _ hlt,if_pos rfl],?_,?_⟩,by simp[jp]⟩,k2⟩ fun b hb=> .inl hb))
 ·simpa using qq.cons (k:=k) (x:=x) (v:=v) (b:=clk) .nil
 ·simp[abn]
end
section
variable {w0 w : World} {R : List Asn} {p : Nat} {q : Cl} {n : Nd}
theorem ba2(x y:Bal)(w':World)(K:KV):bsT P T.bp 2 #[(0,la x),(1,la y)] w' K=K (.slice (some ⟨w'.heap.size,0,none⟩) 2 2) (w'.alloc (.cells #[.int .u64 x.n,.int .u64 x.jr,.int .u64 y.n,.int .u64 y.jr] T.e)):=kr
abbrev nxB(q:Cl)(n:Nd):Bal×Int:=ahg (yl jf [jf,q.kx]) (rq n) (akr q.inc)
theorem bnx{b:Bal}(hb:b.rng):0<=(yl jf [jf,b]).n/\(yl jf [jf,b]).n < 18446744073709551616:=by
 unfold yl jf
 simp only[List.foldl_cons,List.foldl_nil]
 obtain⟨⟨h1,h2⟩,_⟩:=hb
 split <;>(try split) <;>first|omega| (dsimp only;omega)
theorem bqi{jj:Int}{x0:List Value}(S:St w0 w (clA p q :: ki q.tb n :: jm q.se .u64 [] :: R))(hn:qk n)(hi:1<=q.inc)(hb:q.kx.rng)(hv:0<=rq n/\rq n < 18446744073709551616){K:KV}
  (h: ∀w' tb L,gv L 20= .pointer (some ⟨tb,0,none⟩)->gv L 21= .int .i64 (nxB q n).2->St w0 w' (baB tb (nxB q n).1 :: clA p q :: ki q.tb n :: jm q.se .u64 [] :: R)->M.m.j1 L (kl p) (.int .u64 jj) x0 w' K):M.m.j0 (kl p) (.int .u64 jj) x0 w K:=by
 unfold M.m.j0
 have S1:=S.ju ((Fr.refl _ w).dr 1)
 rw[qr]
 generalize dr w 1=w1 at *
 refine zt fun K1 hK=>?_
 have hfin: ∀w' tb L,gv L 20= .pointer (some ⟨tb,0,none⟩)->gv L 21= .int .i64 (nxB q n).2->St w0 w' (baB tb (nxB q n).1 :: clA p q :: ki q.tb n :: jm q.se .u64 [] :: R)->K1 L w':=fun w' tb L h1 h2 S'=>hK L w' (h w' tb L h1 h2 S')
 obtain⟨_,_,_,_,_,_,_,_,_,_,_,_,c18,_,_,_,_,_,_,_,c20⟩:=mr S1
 have lu: ∀{w':World}{L:List Asn},St w0 w' (jm q.se .u64 [] :: L)->∀K,luT P T.x (.map (some q.se)) (.int .u64 jj) false w' K=K (la jf) w':=fun S' K=>by
  rw[tp mt.x S'.mp]
  rfl
 simp only[kl]
 have fin: ∀{w':World}{tb:Nat},St w0 w' (baB tb jf :: clA p q :: ki q.tb n :: jm q.se .u64 [] :: R)->∀L,gv L 20= .pointer (some ⟨tb,0,none⟩)->gv L 21= .int .i64 (nxB q n).2->stT P T.e (.pointer (some ⟨tb,0,none⟩)) (la (nxB q n).1) w' fun _ w2=>K1 L w2:=fun S' L g1 g2=>afg S' fun w3 S3=>hfin w3 _ L g1 g2 S3
 have e18: ∀{w':World}{L:List Asn},St w0 w' (clA p q :: L)->iq w' p 18=some (.map (some q.se)):=fun S'=>by rw[S'.cell];rfl
 have e20: ∀{w':World}{L:List Asn},St w0 w' (clA p q :: L)->∀K,ldN P 2 p 20 w' K=K (la q.kx) w':=fun S'=>by
  obtain⟨_,_,_,_,_,_,_,_,_,_,_,_,_,_,_,_,_,_,_,_,x⟩:=mr S'
  exact x
 have nx: ∀{w':World}{L:List Asn}{K':KV},St w0 w' L->(∀w2,St w0 w2 L->K' (.tuple #[la (nxB q n).1,.int .i64 (nxB q n).2]) w2)->ik P F.cl [la (yl jf [jf,q.kx]),.int .u64 (rq n),.int .u64 (akr q.inc)] w' K':=fun S' h'=>bmm S' _ (bnx hb) hv h'
 have mx: ∀{w':World}{L:List Asn}{v:Value}{K':KV},St w0 w' (qa T.e 2 vz v [jf,q.kx] :: L)->(∀w2,St w0 w2 L->K' (la (yl jf [jf,q.kx])) w2)->ik P F.du [v] w' K':=fun S' h'=>bog S' (fun w2 L S2=>(S2.perm List.perm_middle).row aqq) (by simp) fun w2 S2=>h' w2 S2.drop
 have bs: ∀{w':World}{L:List Asn},St w0 w' L->St w0 (w'.alloc (.cells #[.int .u64 jf.n,.int .u64 jf.jr,.int .u64 q.kx.n,.int .u64 q.kx.jr] T.e)) (qa T.e 2 vz (.slice (some ⟨w'.heap.size,0,none⟩) 2 2) [jf,q.kx] :: L):=fun S'=>St.uh (l:=[jf,q.kx]) S' aqq rfl (by simp[maxLen])
 have ver: ∀{w':World}{L:List Asn}{K':KV},St w0 w' (clA p q :: ki q.tb n :: L)->(∀w2,St w0 w2 (clA p q :: ki q.tb n :: L)->K' (.int .u64 (rq n)) w2)->ik P F.g [.pointer (some ⟨p,0,none⟩)] w' K':=fun S' h'=>ane S' hn h'
 have lif: ∀{w':World}{L:List Asn}{K':KV},St w0 w' (clA p q :: L)->(∀w2,St w0 w2 (clA p q :: L)->K' (.int .u64 (akr q.inc)) w2)->ik P F.ab [.pointer (some ⟨p,0,none⟩)] w' K':=fun S' h'=>blh S' hi h'
 generalize nxB q n=yk at *
 obtain⟨y,k⟩:=yk
 dsimp only at fin nx hfin
 simp[c18,c20,lu S1.up2,ba2]
 have en: ∀{w':World}{tb:Nat},St w0 w' (clA p q :: ki q.tb n :: jm q.se .u64 [] :: baB tb jf :: R)->∀L,gv L 20= .pointer (some ⟨tb,0,none⟩)->gv L 21= .int .i64 k->stT P T.e (.pointer (some ⟨tb,0,none⟩)) (la y) w' fun _ w2=>K1 L w2:=fun S' L g1 g2=>fin (S'.pick (L:=[_,_,_,_]) [3,0,1,2] 4 rfl (by decide)) L g1 g2
 have al: ∀{w':World},St w0 w' (clA p q :: ki q.tb n :: jm q.se .u64 [] :: R)->St w0 (w'.alloc (.cells #[.int .u64 0,.int .u64 0] T.e)) (clA p q :: ki q.tb n :: jm q.se .u64 [] :: baB w'.heap.size jf :: R):=fun S'=>(adp S').pick (L:=[_,_,_,_]) [1,2,3,0] 4 rfl (by decide)
 refine⟨⟨?_,?_⟩,?_⟩
 ·refine mx (bs S1) fun w2 S2=>?_
  refine⟨?_,?_⟩
  ·refine ver S2 fun w3 S3=>?_
   refine⟨?_,?_⟩
   ·refine lif S3 fun w4 S4=>?_
    refine⟨?_,?_⟩
    ·refine nx S4 fun w5 S5=>?_
     have T5:=al S5
     simp[e18 T5,e20 T5,lu T5.up2]
     exact en T5 _ rfl rfl
    ·have T4:=al S4
     simp[e18 T4,e20 T4,lu T4.up2]
     refine nx T4 fun w5 S5=>?_
     simp
     exact en S5 _ rfl rfl
   ·have T3:=al S3
    simp[e18 T3,e20 T3,lu T3.up2]
    refine lif T3 fun w4 S4=>nx S4 fun w5 S5=>?_
    simp
    exact en S5 _ rfl rfl
  ·have T2:=al S2
   simp[e18 T2,e20 T2,lu T2.up2]
   refine ver T2 fun w3 S3=>lif S3 fun w4 S4=>nx S4 fun w5 S5=>?_
   simp
   exact en S5 _ rfl rfl
 ·have T1:=(adp (bs S1)).pick (L:=[_,_,_,_,_]) [1,2,3,4,0] 5 rfl (by decide)
  simp only[jg] at T1
  simp[e18 T1.swap,e20 T1.swap,lu T1.up3]
  refine mx T1 fun w2 S2=>ver S2 fun w3 S3=>lif S3 fun w4 S4=>nx S4 fun w5 S5=>?_
  simp
  exact en S5 _ rfl rfl
 ·have T1:=al S1
  have T2:=bs T1
  simp only[jg] at T2
  simp[e18 T1,e20 T1,lu T1.up2,ba2,e18 T2.swap,e20 T2.swap,lu T2.up3]
  refine mx T2 fun w2 S2=>ver S2 fun w3 S3=>lif S3 fun w4 S4=>nx S4 fun w5 S5=>?_
  simp
  exact en S5 _ rfl rfl
end
section
variable {w0 w : World} {R : List Asn} {p : Nat} {q : Cl} {n : Nd} {g : Cfg} {A : List AE} {c : CT} {a0 : Int} {m rm um : MP} {es : List Evn} {ls : List Ltr}
abbrev ky(p:Nat)(q:Cl)(n:Nd)(g:Cfg)(A:List AE)(c:CT)(a0:Int)(m:MP)(es:List Evn)(ls:List Ltr)(rm um:MP):List Asn:=[clA p q,ki q.tb n,ns q.hb g A c,qf q.kb a0 m,nh q.ev es,nc q.out ls,rdA 1 nk q.rep [101],rdA 4 mf q.rul [ko],jm q.ru .u64 rm,jm q.se .u64 [],jm q.un .u64 um]
def ve(e:AE):Int:=if e.nt then 3 else ary e.l
def acn(now:Int):Int:=now+min 4 (18446744073709551615 - now)
theorem ni{L:List Asn}(S:St w0 w L)(h:clA p q∈L):iq w p 0=some (.int .u64 1)/\iq w p 2=some q.rep/\iq w p 3=some (.int .u64 200)/\iq w p 8=some (.int .u64 4)/\iq w p 13=some q.rul/\iq w p 14=some (.pointer (some ⟨q.tb,0,none⟩))/\iq w p 15=some (.pointer (some ⟨q.hb,0,none⟩))/\iq w p 16=some (.pointer (some ⟨q.kb,0,none⟩))/\iq w p 17=some (.map (some q.ru))/\iq w p 18=some (.map (some q.se))/\iq w p 19=some (.map (some q.un))/\iq w p 22=some (.int .u64 q.qg)/\iq w p 23=some (.int .u64 q.now)/\∀K,ldN P 2 p 20 w K=K (la q.kx) w:=by
 obtain⟨s,t,rfl⟩:=List.append_of_mem h
 have S':=S.perm List.perm_middle
 refine⟨?_,?_,?_,?_,?_,?_,?_,?_,?_,?_,?_,?_,?_,fun K=>S'.ldA (n:=2) (i:=20) (vz q.kx) rfl rfl K⟩ <;>rw[S'.cell] <;>rfl
theorem ayn{now:Int}(h0:0<=now)(h1:now<=18446744073709551615):IntKind.u64.wrap (18446744073709551615 - now)=18446744073709551615 - now/\IntKind.u64.wrap (now+min 4 (18446744073709551615 - now))=acn now:=by
 refine⟨?_,?_⟩ <;>rw[mu (by omega) (by omega)]
 rfl
theorem bee{e:AE}(S:St w0 w (ky p q n g A c a0 m es ls [] um ++ R))(hn:qk n)(hi:1<=q.inc)(hb:q.kx.rng)(hv:0<=rq n/\rq n < 18446744073709551616)(hA:A.length<=1000)(hl: ∀e∈A,e.l.length<=1000)(he:e∈A)(hfi:A.find? (fun x=>decide (x.t=e.t))=some e)(h0:0<=q.now)(h1:q.now<=18446744073709551615)(hls:ls.length<=200)(ht:e.t≠0){K:KV}
  (hno:(nxB q n).2≠0->∀w',St w0 w' (ky p q n g A (px c e.t 18446744073709551615) a0 m es ls [] um ++ R)->K (.tuple #[]) w')
  (hyes:(nxB q n).2=0->(nxB q n).1.n≠0/\(1<=ve e/\ve e<=3)/\∀w' ov rb,St w0 w' (ky p {q with kx:=(nxB q n).1,out:=ov} n g A (px c e.t (acn q.now)) a0 m es (ls ++ pu [101] (uj e.t (nxB q n).1 (ve e) 0) qv) [(e.t,.pointer (some ⟨rb,0,none⟩))] um ++ qm rb e.t (nxB q n).1 (ve e) 0 :: R)->K (.tuple #[]) w'):ik P F.bb [kl p,.int .u64 e.t] w K:=by
 rw[M.m.fcall]
 apply M.m.calls
 unfold M.m
 obtain⟨_,_,_,_,_,_,c15,_⟩:=ni (p:=p) (q:=q) S (by simp)
 simp only[kl]
 simp[c15]
 refine boo (S.pick (L:=[_,_,_,_,_,_,_,_,_,_,_]) [2,0,1,3,4,5,6,7,8,9,10] 11 rfl (by decide)) hl e.t (fun hnone=>by rw[hnone] at hfi;cases hfi) fun e' he' w1 v1 S1=>?_
 rw[hfi] at he'
 injection he' with he'
 subst he'
 obtain⟨_,_,_,_,d13,_⟩:=ni (p:=p) (q:=q) S1 (by simp)
 simp[d13]
 refine bfm (rv:=q.rul) (v:=v1) (l:=e.l) S1 (fun w' L S'=>acs S' (by simp)) (fun w' L S'=>acs S' (by simp)) (by have:=hl e he;omega) fun w2 S2=>?_
 have S2':St w0 w2 (clA p q :: ki q.tb n :: jm q.se .u64 [] :: ns q.hb g A c :: qf q.kb a0 m :: nh q.ev es :: nc q.out ls :: rdA 1 nk q.rep [101] :: rdA 4 mf q.rul [ko] :: jm q.ru .u64 [] :: jm q.un .u64 um :: R):=S2.pick (L:=[_,_,_,_,_,_,_,_,_,_,_,_]) [2,3,10,1,4,5,6,7,8,9,11] 12 rfl (by decide)
 have main: ∀x0,gv x0 0= .int .i64 (ve e)->M.m.j0 (.pointer (some ⟨p,0,none⟩)) (.int .u64 e.t) x0 w2 K:=by
  intro x0 hx0
  refine bqi S2' hn hi hb hv fun w3 tb L g20 g21 S3=>?_
  generalize hyk:nxB q n=yk at *
  obtain⟨y,k⟩:=yk
  dsimp only at hno hyes g20 g21 S3
  unfold M.m.j1
  simp only[ir,g21]
  obtain⟨_,_,_,_,_,_,e15,_⟩:=ni (p:=p) (q:=q) S3 (by simp)
  by_cases hk:k=0
  ·subst hk
   obtain⟨hy,hw,hyes⟩:=hyes rfl
   simp
   unfold M.m.j2
   have S4:=S3.ju ((Fr.refl _ w3).dr 1)
   have lb: ∀{w':World}{L:List Asn},St w0 w' L->baB tb y∈L->∀K,ldN P 2 tb 0 w' K=K (la y) w':=fun S' hm K=>by
    obtain⟨s,t,rfl⟩:=List.append_of_mem hm
    exact (S'.perm List.perm_middle).ldA (n:=2) (i:=0) (vz y) rfl rfl K
   obtain⟨_,f2,_⟩:=ni (p:=p) (q:=q) S4 (by simp)
   simp only[g20,hx0]
   simp[lb S4,f2]
   refine big S4 (fun w' L S'=>acs S' (by simp)) ht hy hw fun w5 rb S5=>?_
   have S6:=S5.ju ((Fr.refl _ w5).dr 1)
   obtain⟨_,_,_,_,_,_,_,_,g17,_⟩:=ni (p:=p) (q:=q) S6 (by simp)
   have S7:St w0 (dr w5 1) (jm q.ru .u64 [] :: qm rb e.t y (ve e) 0 :: baB tb y :: clA p q :: ki q.tb n :: jm q.se .u64 [] :: ns q.hb g A c :: qf q.kb a0 m :: nh q.ev es :: nc q.out ls :: rdA 1 nk q.rep [101] :: rdA 4 mf q.rul [ko] :: jm q.un .u64 um :: R):=S6.pick (L:=[_,_,_,_,_,_,_,_,_,_,_,_,_]) [11,0,1,2,3,4,5,6,7,8,9,10,12] 13 rfl (by decide)
   generalize dr w5 1=w6 at *
   simp[lb S6,g17]
   refine bpq mt.v S7 e.t fun w8 clk S8=>?_
   simp[lb S8]
   refine bnt S8 _ fun w9 S9=>?_
   simp[lb S9,la]
   have S10:St w0 w9 (clA p q :: jm q.ru .u64 [(e.t,.pointer (some ⟨rb,0,none⟩))] :: qm rb e.t y (ve e) 0 :: ki q.tb n :: jm q.se .u64 [] :: ns q.hb g A c :: qf q.kb a0 m :: nh q.ev es :: nc q.out ls :: rdA 1 nk q.rep [101] :: rdA 4 mf q.rul [ko] :: jm q.un .u64 um :: R):=S9.pick (L:=[_,_,_,_,_,_,_,_,_,_,_,_,_]) [3,0,1,4,5,6,7,8,9,10,11,12] 13 rfl (by decide)
   refine St.put (i:=20) (cs':=clC {q with kx:=y}) S10 (by simp[lc]) (by simp[clC]) (by simp[clC]) fun w11 S11=>?_
   refine apl (S11.pick (L:=[_,_,_]) [2,0,1] 3 rfl (by decide)) (.inl rfl) fun w12 S12=>?_
   refine ate S12 (.inl rfl) fun w13 ov S13=>?_
   have S14:St w0 w13 (clA p {q with kx:=y} :: nc {q with kx:=y}.out ls :: tm ov [101] :: qm rb e.t y (ve e) 0 :: jm q.ru .u64 [(e.t,.pointer (some ⟨rb,0,none⟩))] :: ki q.tb n :: jm q.se .u64 [] :: ns q.hb g A c :: qf q.kb a0 m :: nh q.ev es :: rdA 1 nk q.rep [101] :: rdA 4 mf q.rul [ko] :: jm q.un .u64 um :: R):=S13.pick (L:=[_,_,_,_,_,_,_,_,_,_,_,_,_]) [2,9,0,1,3,4,5,6,7,8,10,11,12] 13 rfl (by decide)
   refine ady (to:=[101]) S14 qv (fun w' L S'=>(S'.perm List.perm_middle).row mw) (by simp;omega) fun w15 lv S15=>?_
   have S16:=S15.ju ((Fr.refl _ w15).dr 1)
   obtain⟨_,_,_,k8,_,_,k15,_,_,_,_,_,k23,_⟩:=ni (p:=p) (q:={q with kx:=y,out:=lv}) S16 (by simp)
   obtain⟨u1,u2⟩:=ayn h0 h1
   simp[k8,k15,k23,amb,u1,u2]
   have S17:St w0 (dr w15 1) (ns q.hb g A c :: clA p {q with kx:=y,out:=lv} :: nc lv (ls ++ pu [101] (uj e.t y (ve e) 0) qv) :: qm rb e.t y (ve e) 0 :: jm q.ru .u64 [(e.t,.pointer (some ⟨rb,0,none⟩))] :: ki q.tb n :: jm q.se .u64 [] :: qf q.kb a0 m :: nh q.ev es :: rdA 1 nk q.rep [101] :: rdA 4 mf q.rul [ko] :: jm q.un .u64 um :: R):=S16.pick (L:=[_,_,_,_,_,_,_,_,_,_,_,_,_]) [7,0,1,3,4,5,6,8,9,10,11,12] 13 rfl (by decide)
   refine aum (e:=e) S17 hA he rfl fun w18 S18=>?_
   exact hyes w18 lv rb (S18.pick (L:=[_,_,_,_,_,_,_,_,_,_,_,_]) [1,5,0,7,8,2,9,10,4,6,11,3] 12 rfl (by decide))
  ·simp[hk,e15]
   refine aum (e:=e) (t:=18446744073709551615) (S3.pick (L:=[_,_,_,_,_,_,_,_,_,_,_,_]) [4,1,2,3,5,6,7,8,9,10,11] 12 rfl (by decide)) hA he rfl fun w4 S4=>?_
   exact hno hk w4 (S4.pick (L:=[_,_,_,_,_,_,_,_,_,_,_]) [1,2,0,4,5,6,7,8,9,3,10] 11 rfl (by decide))
 unfold ve at main
 cases ho:e.nt with
 | true=>
  rw[ho] at main
  simp
  exact main _ rfl
 | false=>
  rw[ho] at main
  simp
  exact main _ rfl
end
end Go.Proofs.YtgepcfcicngceaaGreatDoor
set_option maxRecDepth 100000
namespace Go.Proofs.YtgepcfcicngceaaGreatDoor.KeyU
open Go.Eng Go.Sort Go.Proofs.YtgepcfcicngceaaGreatDoor.Suint64
def KI(w W:World)(U:Nat->Prop)(r:Nat)(m:MP)(J:List Int->Asn):KL:=fun x w1=> ∃(done:List Int)(U1:Nat->Prop),x.length=1/\ya w1 W.heap.size r .u64 m done/\(J done.reverse).ok w1 U1/\(∀b,U1 b->w.heap.size<=b/\b < w1.heap.size/\b≠W.heap.size)/\Fr (fun b=>w.heap.size<=b) W w1
theorem yt{w:World}{it r:Nat}{k:IntKind}{m:MP}{done:List Int}(h:ya w it r k m done):done.Nodup/\∀x∈done,x∈jp m:=by
 obtain⟨es,clk,since,c0,ka,_,_,_,_,_,_,_,_,_,h1,h2⟩:=h
 exact⟨h1,h2⟩
theorem aee{w:World}{r Bm:Nat}{m:MP}{e:TypeId}(hm:lj w r .u64 m)(hn:(jp m).Nodup)(hB:w.heap[Bm]? =some (.cells #[.map (some r)] e (0,0)))(hl:m.length < 60000):
  apo P F.c [.pointer (some ⟨Bm,0,none⟩)] amj (fun xs=>xs.Perm (jp m)) 60000 w:=by
 intro l J W U K hf hJ hU hround hend
 apply M.aa.calls
 unfold M.aa
 have hBm:W.heap[Bm]? =some (.cells #[.map (some r)] e (0,0)):=hf.heap hB fun h=>h
 have c0:=iw hBm 0
 simp only[List.size_toArray,List.getElem?_toArray,List.getElem?_cons_zero] at c0
 have hm':lj W r .u64 m:=hm.of_heap (hf.jl r hm.lt fun h=>h)
 have hrw:=hm.lt
 simp[c0]
 refine aol mt.y hm' fun w1 hi f1=>?_
 have hWs:=hf.size
 have hWlt:=(hi.lt).1
 refine⟨KI w W U r m J,fun _ w1=>rk w1 W.heap.size m.length,⟨[],U,rfl,hi,(J []).jl hJ f1 fun _ _ h=>h,fun b hb=>?_,f1.mono fun _ _ h=>h.elim⟩,?_⟩
 ·have:=hU b hb
  have:=f1.size
  exact⟨by omega,by omega,by omega⟩
 rintro x w2 ⟨done,U1,hx1,hi2,hJ2,hU2,f2⟩
 unfold M.aa.j0
 refine anb hi2 hn T.cc (fun hall=>?_) fun y v w3 hy hyd hc3 f3 hlt=>?_
 ·have e0: ∀w K,exT P (.tuple #[.bool false]) 0 w K=K (.bool false) w:=fun _ _=>rfl
  simp[e0]
  obtain⟨h1,h2⟩:=yt hi2
  refine hend _ w2 done.reverse U1 ?_ hJ2 f2
  refine (List.reverse_perm done).trans ?_
  refine (List.perm_ext_iff_of_nodup h1 hn).2 fun z=>⟨h2 z,fun hz=>?_⟩
  obtain⟨p,hp,rfl⟩:=List.mem_map.1 hz
  exact hall p hp
 ·simp
  rw[aof hc3]
  simp
  have hnit: ∀b,U1 b->¬b=W.heap.size:=fun b hb=>(hU2 b hb).2.2
  have hJ3:=(J done.reverse).jl hJ2 f3 hnit
  have hlen:done.length < m.length:=by
   obtain⟨h1,h2⟩:=yt hi2
   have:=xu (l:=y :: done) (l':=jp m) (List.nodup_cons.2 ⟨hyd,h1⟩) fun z hz=>by
    rcases List.mem_cons.1 hz with rfl|hz
    ·exact List.mem_map_of_mem hy
    ·exact h2 z hz
   simp only[jp,List.length_map,List.length_cons] at this
   omega
  have hs3:=f3.size
  refine hround done.reverse y w3 U1 _ hJ3 (fun b hb=>⟨(hU2 b hb).1,by have:=(hU2 b hb).2.1;omega⟩) (by simp;omega) fun w4 U4 hJ4 hU4 f4=>?_
  simp
  have hit: ¬U1 W.heap.size:=fun h=>hnit _ h rfl
  have hr1: ¬U1 r:=fun h=>by have:=(hU2 r h).1;omega
  have hi3:ya w3 W.heap.size r .u64 m (y :: done):=hc3.1
  have hi4:=hi3.jl (f4.jl _ hi3.lt.1 hit) (f4.jl _ hi3.lt.2 hr1)
  refine⟨⟨y :: done,U4,rfl,hi4,by simpa using hJ4,fun b hb=>?_,?_⟩,?_⟩
  ·rcases hU4 b hb with h|h
   ·have:=hU2 b h
    have:=f4.size
    exact⟨by omega,by omega,by omega⟩
   ·have:=hi3.lt.1
    have:=f2.size
    exact⟨by omega,by omega,by omega⟩
  ·refine (f2.jw f3 fun b hb he=>by omega).jw f4 fun b hb he=>(hU2 b he).1
  ·have:rk w4 W.heap.size m.length=rk w3 W.heap.size m.length:=by
    unfold rk
    rw[f4.jl _ hi3.lt.1 hit]
   rw[this];exact hlt
theorem agm{w:World}{r:Nat}{m:MP}(hm:lj w r .u64 m)(hn:(jp m).Nodup)(hl:m.length < 60000){K:KV}
  (h: ∀w' v,OwN w' w.heap.size v (qi (jp m))->Fz w w'->K v w'):
  ik P F.ak [.map (some r)] w fun t w=>ik P F.w [t] w K:=by
 rw[M.am.fcall]
 apply M.am.calls
 unfold M.am
 rw[vd,zm]
 show ik P F.w _ _ K
 rw[M.cp.fcall]
 have f1:Fz w (w.alloc (.cells #[.map (some r)] T.y)):=(Fr.refl _ w).alloc _
 have hB:(w.alloc (.cells #[.map (some r)] T.y)).heap[w.heap.size]? =some (.cells #[.map (some r)] T.y (0,0)):=by rw[ja,if_pos rfl]
 have hsz:w.heap.size<=(w.alloc (.cells #[.map (some r)] T.y)).heap.size:=by simp
 refine ajg (ks:=jp m) FN.c.at (by kernel_rfl) (by kernel_rfl) (by simpa [jp] using hl) (aee (hm.of_heap (f1.jl r hm.lt fun h=>h)) hn hB hl) fun w2 v o2 f2=>?_
 exact h w2 v (o2.mono hsz) (f1.trans f2)
end Go.Proofs.YtgepcfcicngceaaGreatDoor.KeyU
set_option maxRecDepth 100000
namespace Go.Proofs.YtgepcfcicngceaaGreatDoor
open Go.Eng Go.Proofs.YtgepcfcicngceaaGreatDoor.Sint
section
variable {w0 w : World} {R : List Asn} {p : Nat} {q : Cl} {n : Nd} {g : Cfg} {A : List AE} {c : CT} {a0 : Int} {m rm um : MP} {es : List Evn} {ls : List Ltr}
theorem aiq(S:St w0 w (clA p q :: jm q.un .u64 um :: R))(hl:um.length < 60000){K:KV}(h: ∀w' v,St w0 w' (vn v (Suint64.qi (jp um)) :: clA p q :: jm q.un .u64 um :: R)->K v w'):ik P F.bc [kl p] w K:=by
 rw[M.ap.fcall]
 apply M.ap.calls
 unfold M.ap
 obtain⟨_,_,_,_,_,_,_,_,_,_,c19,_⟩:=ni (p:=p) (q:=q) S (by simp)
 simp only[kl]
 simp
 unfold M.ap.j0
 simp[c19]
 refine KeyU.agm S.swap.mp S.swap.bim hl fun w' v o f=>?_
 exact h w' v (S.add (a:=vn v (Suint64.qi (jp um))) f (B:=fun b=>v.ownBlock=some b) ⟨o.mono (Nat.zero_le _),fun b hb=>hb⟩ fun b hb=>⟨(o.lt hb).1,(o.lt hb).2⟩)
theorem bli{t:Int}(S:St w0 w (ky p q n g A c a0 m es ls rm um ++ R))(hr:kh rm t=none){K:KV}(h:ik P F.bb [kl p,.int .u64 t] w fun _ w=>K (.tuple #[]) w):ik P F.cm [kl p,.int .u64 t] w K:=by
 rw[M.az.fcall]
 apply M.az.calls
 unfold M.az
 obtain⟨_,_,_,_,_,_,_,_,c17,_⟩:=ni (p:=p) (q:=q) S (by simp)
 have lu: ∀K,luT P T.v (.map (some q.ru)) (.int .u64 t) false w K=K (.pointer none) w:=fun K=>by
  rw[tp mt.v (S.pick (L:=[_,_,_,_,_,_,_,_,_,_,_]) [8] 11 rfl (by decide)).mp,hr]
  rfl
 simp only[kl] at *
 simp[c17,lu]
 exact h
def adg(n:Nd)(inc:Int):Prop:=n.id=1/\n.v=[⟨1,inc,0⟩]
theorem aqp{inc now pick:Int}(h:adg n inc):adg (n.ro now pick).1 inc/\(n.ro now pick).2=[]:=by
 obtain⟨h1,h2⟩:=h
 unfold Nd.ro
 generalize pc n.now now=t
 have ha:tx 1 t n.jx n.h ⟨1,inc,0⟩=⟨1,inc,0⟩:=by simp[tx]
 split
 ·exact⟨⟨h1,h2⟩,rfl⟩
 ·simp[adg,h1,h2,ha,aan,pq,zq]
theorem aez{inc:Int}(hn:qk n)(h:adg n inc):abk n.v=[1]:=by
 unfold abk
 rw[if_pos ((vt _).2 hn.zl),h.2]
 rfl
theorem ahp{v:Value}{l:List Int}(h:Sl w 1 Suint64.qe v l){w':World}{K:KV}:biT P .len #[T.g] T.d [false] [v] w' K=K (.int .i64 l.length) w':=h.jv (by kernel_rfl) [false]
theorem auw(S:St w0 w (ky p q n g A c a0 m es ls rm [] ++ R))(h0:0<=q.qg/\q.qg<=q.now/\q.now<=18446744073709551615){K:KV}(h: ∀w' ag,(ag=q.qg\/ag=q.now)->St w0 w' (ky p {q with qg:=ag} n g A c a0 m es ls rm [] ++ R)->K (.tuple #[]) w'):M.b.j6 (kl p) w K:=by
 unfold M.b.j6
 have S1:=S.ju ((Fr.refl _ w).dr 1)
 rw[qr]
 generalize dr w 1=w1 at *
 obtain⟨_,_,_,c8,_,_,_,_,_,_,_,c22,c23,_⟩:=ni (p:=p) (q:=q) S1 (by simp)
 have hw:IntKind.u64.wrap (q.now - q.qg)=q.now - q.qg:=by rw[mu (by omega) (by omega)]
 simp only[kl]
 simp[c8,c22,c23,hw]
 by_cases hb:4<=q.now - q.qg
 ·simp[hb]
  refine St.oh S1 rfl (by simp[clC]) fun w2 S2=>?_
  have S3:St w0 w2 (clA p {q with qg:=q.now} :: _):=S2
  refine aiq (S3.pick (L:=[_,_,_,_,_,_,_,_,_,_,_]) [0,10,1,2,3,4,5,6,7,8,9] 11 rfl (by decide)) (by simp) fun w4 v4 S4=>?_
  have hln:=fun w' K=>ahp (w':=w') (K:=K) (S4.row mw)
  have hz:(Suint64.qi (jp ([]:MP))).length=0:=by rw[show jp ([]:MP)=[] from rfl];simp[Suint64.qi]
  rw[hz] at hln
  simp only[hln,ir]
  have S5:St w0 w4 (ky p {q with qg:=q.now} n g A c a0 m es ls rm [] ++ R):=S4.pick (L:=[_,_,_,_,_,_,_,_,_,_,_,_]) [1,3,4,5,6,7,8,9,10,11,2] 12 rfl (by decide)
  refine⟨fun x w'=>x=[undef,.int .i64 0]/\w'=w4,fun _ _=>0,⟨rfl,rfl⟩,?_⟩
  rintro x w' ⟨rfl,rfl⟩
  simp
  exact h _ _ (.inr rfl) S5
 ·simp[hb]
  exact h _ q.qg (.inl rfl) S1
def LoI(w0:World)(L:List Asn)(m:Nat):KL:=fun x w1=> ∃(u1 u2:Value)(i:Nat),x=[u1,u2,.int .i64 (i:Nat)]/\i<=m/\St w0 w1 L
theorem bjh{inc now pick:Int}(S:St w0 w (ky p q n g A c a0 m es ls rm um ++ R))(hn:qk n)(hs:adg n inc)(hA:A.length<=1000)(h0:0<=q.now/\q.now<=18446744073709551615)(h1:0<=now/\now<=18446744073709551615)(hp:0<=pick){K:KV}
  (h: ∀w' v K6 x7,(∀x w,M.b.j6 (kl p) w K->K6 x w)->gv x7 8=v->gv x7 9= .int .i64 (qh c (max q.now now)).length->gv x7 10= .int .i64 0->St w0 w' (rdA 1 nk v (qh c (max q.now now)) :: (ky p {q with now:=max q.now now} (n.ro (max q.now now) pick).1 g A c a0 m es ls rm um ++ R))->M.b.j7 x7 K6 (kl p) w' K):ik P F.au [kl p,.int .u64 now,.int .u64 pick] w K:=by
 rw[M.b.fcall]
 apply M.b.calls
 unfold M.b
 obtain⟨_,_,_,_,_,_,_,_,_,_,_,_,c23,_⟩:=ni (p:=p) (q:=q) S (by simp)
 simp only[kl]
 simp
 unfold M.b.j0
 simp[c23,qo]
 have hn0:0<=max q.now now:=by omega
 have hn1:max q.now now<=18446744073709551615:=by omega
 generalize max q.now now=nw at *
 refine St.oh S rfl (by simp[clC]) fun w1 S1=>?_
 have S2:St w0 w1 (clA p {q with now:=nw} :: _):=S1
 have S3:=S2.ju ((Fr.refl _ w1).dr 1)
 generalize dr w1 1=w2 at *
 obtain⟨_,_,_,_,_,d14,_,_,_,_,_,_,d23,_⟩:=ni (p:=p) (q:={q with now:=nw}) S3 (by simp)
 simp[d14,d23]
 refine awx (S3.pick (L:=[_,_,_,_,_,_,_,_,_,_,_]) [1,0,2,3,4,5,6,7,8,9,10] 11 rfl (by decide)) hn ⟨hn0,by omega⟩ hp fun w4 v4 S4=>?_
 obtain⟨hs',ht⟩:=aqp (now:=nw) (pick:=pick) hs
 have hnk:=agb (pick:=pick) hn ⟨hn0,show nw < 18446744073709551616 by omega⟩
 rw[ht] at S4
 have hln:=fun w' K=>ahp (w':=w') (K:=K) (S4.row mw)
 simp[hln]
 have S5:St w0 w4 (ky p {q with now:=nw} (n.ro nw pick).1 g A c a0 m es ls rm um ++ R):=S4.pick (L:=[_,_,_,_,_,_,_,_,_,_,_,_]) [2,1,3,4,5,6,7,8,9,10,11] 12 rfl (by decide)
 unfold M.b.j1
 refine zt fun K2 hK2=>?_
 obtain⟨_,_,_,_,_,_,e15,_⟩:=ni (p:=p) (q:={q with now:=nw}) S5 (by simp)
 simp[e15]
 refine aki (S5.pick (L:=[_,_,_,_,_,_,_,_,_,_,_]) [2,0,1,3,4,5,6,7,8,9,10] 11 rfl (by decide)) hA fun w6 v6 S6=>?_
 have hln6:=fun w' K=>ahp (w':=w') (K:=K) (S6.row mw)
 simp only[hln6,ir]
 refine⟨LoI w0 (clA p {q with now:=nw} :: ki q.tb (n.ro nw pick).1 :: vn v6 (jk A) :: ns q.hb g A c :: qf q.kb a0 m :: nh q.ev es :: nc q.out ls :: rdA 1 nk q.rep [101] :: rdA 4 mf q.rul [ko] :: jm q.ru .u64 rm :: jm q.se .u64 [] :: jm q.un .u64 um :: R) (jk A).length,fun x _=>(jk A).length - ms x 2,⟨_,_,0,rfl,Nat.zero_le _,S6.pick (L:=[_,_,_,_,_,_,_,_,_,_,_,_]) [2,3,0,1,4,5,6,7,8,9,10,11] 12 rfl (by decide)⟩,?_⟩
 rintro x w7 ⟨u1,u2,i,rfl,hi,S7⟩
 by_cases hil:i < (jk A).length
 ·have hili:(i:Int) < (jk A).length:=by omega
  have hwi:IntKind.i64.wrap ((i:Int)+1)=((i+1:Nat):Int):=by
   have:(jk A).length<=1000:=by
    unfold jk
    rw[(Suint64.ny _).length_eq,List.length_map]
    exact hA
   rw[jc];rfl
  obtain⟨ab,ao,cap,hv,_,_,hc⟩:=(S7.up2.row mw).at hil
  have hia: ∀w' K,iaT P T.g v6 (.int .i64 (i:Nat)) w' K=K (.pointer (some ⟨ab,ao+i,none⟩)) w':=fun w' K=>by rw[hv];simp[hil]
  have hcell:iq w7 ab (ao+i)=some (.int .u64 (jk A)[i]):=by simpa [Suint64.qe] using hc 0 _ rfl
  generalize (jk A)[i]=t at *
  simp[hili]
  unfold M.b.j4
  simp[hia,hcell]
  refine aat S7 hnk (aez hnk hs') ⟨by decide,trivial⟩ (by simp) (by simp) t fun w8 o ho S8=>?_
  obtain rfl:=ho.one
  obtain⟨f0,_⟩:=ni (p:=p) (q:={q with now:=nw}) S8 (by simp)
  simp[f0]
  refine⟨⟨_,_,i+1,by rw[hwi],by omega,S8⟩,by rw[hwi];simp[ms,gv];omega⟩
 ·have hie:i=(jk A).length:=by omega
  subst hie
  simp
  refine hK2 _ _ ?_
  unfold M.b.j2
  refine zt fun K6 hK6=>?_
  have S9:=S7.ju ((Fr.refl _ w7).dr 1)
  rw[qr]
  generalize dr w7 1=w8 at *
  have e15: ∀{w':World}{L:List Asn},St w0 w' L->clA p {q with now:=nw}∈L->iq w' p 15=some (.pointer (some ⟨q.hb,0,none⟩))/\iq w' p 23=some (.int .u64 nw):=fun S' hm=>by
   obtain⟨_,_,_,_,_,_,e15,_,_,_,_,_,e23,_⟩:=ni S' hm
   exact⟨e15,e23⟩
  obtain⟨k15,k23⟩:=e15 S9 (by simp)
  refine zt fun K7 hK7=>?_
  have du: ∀{K':KV},(∀w' v,(∀K,biT P .len #[T.g] T.d [false] [v] w' K=K (.int .i64 (qh c nw).length) w')->(iq w' p 15=some (.pointer (some ⟨q.hb,0,none⟩))/\iq w' p 23=some (.int .u64 nw))->St w0 w' (rdA 1 nk v (qh c nw) :: (ky p {q with now:=nw} (n.ro nw pick).1 g A c a0 m es ls rm um ++ R))->K' v w')->ik P F.bj [.pointer (some ⟨q.hb,0,none⟩),.int .u64 nw] w8 K':=fun h'=>by
   refine bex (S9.pick (L:=[_,_,_,_,_,_,_,_,_,_,_,_]) [3,0,1,4,5,6,7,8,9,10,11] 12 rfl (by decide)) hA nw fun w' v S'=>?_
   refine h' w' v (fun K=>S'.rd.jv (by kernel_rfl) [false]) (e15 S' (by simp)) ?_
   exact S'.pick (L:=[_,_,_,_,_,_,_,_,_,_,_,_]) [0,2,3,1,4,5,6,7,8,9,10,11] 12 rfl (by decide)
  simp[k15,k23]
  refine⟨du fun w' v hl hk S'=>⟨?_,?_⟩,du fun w' v hl hk S'=>?_⟩
  ·rw[hl]
   simp[hk.1,hk.2]
   exact hK7 _ _ (h w' v K6 _ hK6 rfl rfl rfl S')
  ·simp[hk.1,hk.2]
   rw[hl]
   exact hK7 _ _ (h w' v K6 _ hK6 rfl rfl rfl S')
  ·rw[hl]
   exact hK7 _ _ (h w' v K6 _ hK6 rfl rfl rfl S')
theorem bae(hn:qk n):0<=rq n/\rq n < 18446744073709551616:=by
 unfold rq alo
 have hnn:0<=aay n.v:=avv fun m hm=>by
  have:=als hn.zl hn.inc hm
  unfold akm
  omega
 have hv:=(vt _).2 hn.zl
 by_cases hb:18446744073709551616<=aay n.v
 ·simp[hb,hv]
 ·simp[hb,hv]
  omega
def goI(w0:World)(p:Nat)(q:Cl)(n:Nd)(g:Cfg)(A:List AE)(c:CT)(a0:Int)(m:MP)(es:List Evn)(ls:List Ltr)(um:MP)(R:List Asn)(v:Value)(e:AE):KL:=fun x w1=> ∃(u:Value)(i:Nat),x=[u,.int .i64 (i:Nat)]/\i<=1/\(i=0->St w0 w1 (rdA 1 nk v [e.t] :: (ky p q n g A c a0 m es ls [] um ++ R)))/\(i=1->∃ov rb,St w0 w1 (ky p {q with kx:=(nxB q n).1,out:=ov} n g A (px c e.t (acn q.now)) a0 m es (ls ++ pu [101] (uj e.t (nxB q n).1 (ve e) 0) qv) [(e.t,.pointer (some ⟨rb,0,none⟩))] um ++ qm rb e.t (nxB q n).1 (ve e) 0 :: R))
theorem bkr{inc now pick:Int}{e:AE}(S:St w0 w (ky p q n g A c a0 m es ls [] [] ++ R))(hn:qk n)(hs:adg n inc)(hA:A.length<=1000)(h0:0<=q.now/\q.now<=18446744073709551615)(h1:0<=now/\now<=18446744073709551615)(hag:0<=q.qg/\q.qg<=q.now)(hp:0<=pick)(hi:1<=q.inc)(hb:q.kx.rng)(hl: ∀e∈A,e.l.length<=1000)(he:e∈A)(hfi:A.find? (fun x=>decide (x.t=e.t))=some e)(hls:ls.length<=200)(ht:e.t≠0)(hd:qh c (max q.now now)=[e.t])
  (hy: ∀n',n'=(n.ro (max q.now now) pick).1->(nxB q n').2=0/\(nxB q n').1.n≠0/\(1<=ve e/\ve e<=3)) {K:KV}
  (h: ∀w' ov rb ag n',(ag=q.qg\/ag=max q.now now)->n'=(n.ro (max q.now now) pick).1->St w0 w' (ky p {q with now:=max q.now now,kx:=(nxB q n').1,out:=ov,qg:=ag} n' g A (px c e.t (acn (max q.now now))) a0 m es (ls ++ pu [101] (uj e.t (nxB q n').1 (ve e) 0) qv) [(e.t,.pointer (some ⟨rb,0,none⟩))] [] ++ qm rb e.t (nxB q n').1 (ve e) 0 :: R)->K (.tuple #[]) w'):ik P F.au [kl p,.int .u64 now,.int .u64 pick] w K:=by
 refine bjh S hn hs hA h0 h1 hp fun w1 v K6 x7 hK6 g8 g9 g10 S1=>?_
 have hnk:=agb (now:=max q.now now) (pick:=pick) hn ⟨by omega,by omega⟩
 have hy':=hy _ rfl
 have h':=fun w' ov rb ag hag=>h w' ov rb ag _ hag rfl
 have hn0:0<=max q.now now:=by omega
 have hn1:max q.now now<=18446744073709551615:=by omega
 have hag':q.qg<=max q.now now:=by omega
 clear h hy
 generalize max q.now now=nw at *
 generalize (n.ro nw pick).1=n' at *
 rw[hd] at S1 g9
 unfold M.b.j7
 simp only[ir,g8,g9,g10]
 refine⟨goI w0 p {q with now:=nw} n' g A c a0 m es ls [] R v e,fun x _=>1 - ms x 1,⟨_,0,rfl,Nat.zero_le _,fun _=>S1,fun h=>absurd h (by decide)⟩,?_⟩
 rintro x w2 ⟨u,i,rfl,hi1,hz,ho⟩
 by_cases hi0:i=0
 ·subst hi0
  have S2:=hz rfl
  obtain⟨ab,ao,cap,hv,_,_,hc⟩:=S2.rd.at (i:=0) (by simp)
  have hia: ∀w' K,iaT P T.g v (.int .i64 0) w' K=K (.pointer (some ⟨ab,ao,none⟩)) w':=fun w' K=>by rw[hv];simp
  have hcell:iq w2 ab ao=some (.int .u64 e.t):=by simpa [nk] using hc 0 _ rfl
  simp
  unfold M.b.j9
  simp[g8,hia,hcell]
  have S3:=S2.drop
  refine bli S3 rfl ?_
  refine bee S3 hnk hi hb (bae hnk) hA hl he hfi hn0 hn1 hls ht (fun hno=>absurd hy'.1 hno) fun _=>⟨hy'.2.1,hy'.2.2,fun w4 ov rb S4=>?_⟩
  refine⟨⟨_,1,rfl,Nat.le_refl _,?_⟩,by simp[ms,gv,show IntKind.i64.wrap 1=1 from by decide]⟩
  refine And.intro ?_ ?_
  ·intro hx
   exact absurd hx (by decide)
  ·intro _
   exact⟨ov,rb,S4⟩
 ·have hi1:i=1:=by omega
  subst hi1
  obtain⟨ov,rb,S2⟩:=ho rfl
  simp
  refine hK6 _ _ ?_
  refine auw S2 ⟨hag.1,hag',hn1⟩ fun w3 ag hag S3=>?_
  exact h' w3 ov rb ag hag S3
end
end Go.Proofs.YtgepcfcicngceaaGreatDoor
set_option maxRecDepth 100000
namespace Go.Proofs.YtgepcfcicngceaaGreatDoor.CS
open Go.Eng
theorem apq{w:World}{n:Nat}(hn:n<=1000000000){K:KV}(h: ∀w' v,Ow w' w.heap.size T.j 8 jz v []->Fz w w'->K v w'):
  jy P F.br [.slice none 0 0,.int .i64 n] w K:=by
 apply M.au.calls
 unfold M.au
 have hneg: ¬(n:Int) < 0:=by omega
 simp[hneg]
 unfold M.au.j0
 have hsl:nq P T.h=true:=by kernel_rfl
 have w0:IntKind.i64.wrap 0=0:=by decide
 have wn:IntKind.i64.wrap (n:Int)=n:=jc
 rw[ir,amy hsl,vq hsl]
 simp only[ol,wu]
 have e1:IntKind.i64.wrap ((n:Int) - IntKind.i64.wrap (((0:Nat):Int) - ((0:Nat):Int)))=n:=by
  rw[show ((0:Nat):Int) - ((0:Nat):Int)=0 from by omega,w0,Int.sub_zero,wn]
 rw[e1]
 by_cases h0:0 < n
 ·have h0':(0:Int) < n:=by omega
  simp only[h0',decide_true,Eng.cond_true]
  rw[amy hsl,aiy (i:=0) (j:=0) hsl (.inl ⟨rfl,rfl⟩) (.inr ⟨.i64,rfl⟩) (Nat.le_refl _) (Nat.le_refl _)]
  refine bbg (enc:=jz) et.h (kn:= .i64) (by kernel_rfl) h0 hn (by decide) _ fun w' cap hc o f=>?_
  rw[vq hsl,aiy (i:=0) (j:=0) hsl (.inl ⟨rfl,rfl⟩) (.inr ⟨.i64,rfl⟩) (Nat.le_refl _) (Nat.zero_le _)]
  rw[if_neg (by omega)]
  have:=h w' _ o f
  simpa [Addr.add,gv] using this
 ·have h0': ¬(0:Int) < n:=by omega
  simp only[h0',decide_false,Eng.cond_false]
  exact h w _ Ow.none (Fr.refl _ _)
abbrev Sls(w:World)(v:Value)(l:List Spn):Prop:=Sl w 8 jz v l
abbrev Ows(w:World)(base:Nat)(v:Value)(l:List Spn):Prop:=Ow w base T.j 8 jz v l
def tot(L:List (Value×List Spn)):Nat:=(L.map fun p=>p.2.length).sum
theorem aef{L:List (Value×List Spn)}{i:Nat}(hi:i < L.length):tot (L.take (i+1))=tot (L.take i)+L[i].2.length:=by
 unfold tot
 rw[List.take_succ_eq_append_getElem hi,List.map_append,List.sum_append];simp
theorem akh{L:List (Value×List Spn)}(i:Nat):tot (L.take i)<=tot L:=by
 unfold tot
 conv=>rhs;rw[<-List.take_append_drop i L,List.map_append,List.sum_append]
 omega
theorem aly(L:List (Value×List Spn)):(L.flatMap (·.2)).length=tot L:=by
 unfold tot
 induction L with
 | nil=>rfl
 | cons p L ih=>simp[ih]
def CaI(w:World)(L:List (Value×List Spn)):KL:=fun x w1=> ∃(u:Value)(i:Nat),x=[u,.int .i64 (tot (L.take i):Nat),.int .i64 (i:Nat)]/\w1=w/\i<=L.length
def CbI(w:World)(L:List (Value×List Spn)):KL:=fun x w1=> ∃(u v:Value)(i:Nat),x=[u,v,.int .i64 (i:Nat)]/\i<=L.length/\Fz w w1/\Ows w1 w.heap.size v ((L.take i).flatMap (·.2))
theorem aip{w:World}{b cap:Nat}{L:List (Value×List Spn)}{e:TypeId}(hb:w.heap[b]? =some (.cells (L.map (·.1)).toArray e (0,0)))(hs: ∀p∈L,Sls w p.1 p.2)(ht:tot L<=100000000)(hL:L.length<=1000){K:KV}
  (h: ∀w' v,Ows w' w.heap.size v (L.flatMap (·.2))->Fz w w'->K v w'):jy P F.an [.slice (some ⟨b,0,none⟩) L.length cap] w K:=by
 apply M.l.calls
 unfold M.l
 have hss:nq P T.bn=true:=by kernel_rfl
 have hsl:nq P T.h=true:=by kernel_rfl
 have q0: ∀a b c:Value,gv [a,b,c] 0=a:=fun _ _ _=>rfl
 have q1: ∀a b c:Value,gv [a,b,c] 1=b:=fun _ _ _=>rfl
 have q2: ∀a b c:Value,gv [a,b,c] 2=c:=fun _ _ _=>rfl
 have q4: ∀a b c d e:Value,gv [a,b,c,d,e] 4=e:=fun _ _ _ _ _=>rfl
 have cell: ∀(w':World),Fz w w'->∀(i:Nat)(hi:i < L.length),iq w' b i=some L[i].1:=fun w' f i hi=>by
  rw[iw (f.heap hb fun h=>h)]
  simp[hi]
 rw[ir,vq hss]
 refine⟨CaI w L,fun x _=>L.length - ms x 2,⟨_,0,rfl,rfl,Nat.zero_le _⟩,?_⟩
 rintro x w1 ⟨u,i,rfl,rfl,hi⟩
 simp only[q0,q1,q2,na,ir]
 by_cases hil:i < L.length
 ·have hil':(i:Int) < L.length:=by omega
  simp only[hil',decide_true,Eng.cond_true]
  unfold M.l.j2
  have hwi:IntKind.i64.wrap ((i:Int)+1)=((i+1:Nat):Int):=by rw[jc];rfl
  have c0:=cell w1 (Fr.refl _ _) i hil
  have hsi:=hs L[i] (List.getElem_mem hil)
  obtain⟨a',cap',hv',_⟩:=hsi
  have htt:=aef hil
  have hle:=akh (L:=L) (i+1)
  have hwt:IntKind.i64.wrap ((tot (L.take i):Int)+(L[i].2.length:Int))=((tot (L.take (i+1)):Nat):Int):=by rw[jc];omega
  have hng: ¬((tot (L.take (i+1)):Nat):Int) < 0:=by omega
  simp only[q0,q1,q2,ir]
  simp[hil,c0,hv',hwt,hwi,-Int.natCast_add]
  refine⟨⟨_,i+1,rfl,rfl,by omega⟩,?_⟩
  simp[ms,gv];omega
 ·have hie:i=L.length:=by omega
  have hil': ¬(i:Int) < L.length:=by omega
  simp only[hil',decide_false,Eng.cond_false]
  have htk:L.take i=L:=List.take_of_length_le (by omega)
  rw[htk]
  unfold M.l.j0
  simp only[q4]
  rw[M.au.fcall]
  refine apq (by omega) fun w2 v2 o2 f2=>?_
  rw[ir,vq hss]
  refine⟨CbI w1 L,fun x _=>L.length - ms x 2,⟨_,v2,0,rfl,Nat.zero_le _,f2,o2⟩,?_⟩
  rintro x w3 ⟨u',v,j,rfl,hj,f3,o3⟩
  simp only[q0,q1,q2,na,ir]
  by_cases hjl:j < L.length
  ·have hjl':(j:Int) < L.length:=by omega
   simp only[hjl',decide_true,Eng.cond_true]
   unfold M.l.j6
   have hwj:IntKind.i64.wrap ((j:Int)+1)=((j+1:Nat):Int):=by rw[jc];rfl
   have c0:=cell w3 f3 j hjl
   have hsj:=(hs L[j] (List.getElem_mem hjl)).fr f3 fun _ _ _ h=>h
   have hl1:((L.take j).flatMap (·.2)).length=tot (L.take j):=aly _
   have htt:=aef hjl
   have hle:=akh (L:=L) (j+1)
   simp only[q0,q1,q2,ir]
   simp[hjl,c0,-List.length_flatMap]
   have hge:=f3.size
   refine yo et.h pt qn o3 hsj (by rw[hl1];omega) (by decide) hge _ fun v' w4 o4 f4 g4=>?_
   simp only[hwj]
   refine⟨⟨_,v',j+1,rfl,by omega,f3.jw f4 fun x hx he=>by have:=(o3.lt he).1;omega,?_⟩,?_⟩
   ·rw[List.take_succ_eq_append_getElem hjl,List.flatMap_append]
    simpa using o4
   ·simp[ms,gv];omega
  ·have hjl': ¬(j:Int) < L.length:=by omega
   simp only[hjl',decide_false,Eng.cond_false,q4]
   have htj:L.take j=L:=List.take_of_length_le (by omega)
   rw[htj] at o3
   exact h w3 v o3 f3
end Go.Proofs.YtgepcfcicngceaaGreatDoor.CS
set_option maxRecDepth 100000
namespace Go.Proofs.YtgepcfcicngceaaGreatDoor
open Go.Eng Go.Proofs.YtgepcfcicngceaaGreatDoor.Sint
section
variable {w0 w : World} {R : List Asn} {p : Nat} {q : Cl} {n : Nd} {g : Cfg} {A : List AE} {c : CT} {a0 : Int} {m rm um : MP} {es : List Evn} {ls : List Ltr}
def zo(t ver:Int)(sv:Value):Pk:=⟨9,t,⟨max ver 1,1⟩,jf,0,false,sv,.slice none 0 0,.slice none 0 0⟩
theorem ayy(t ver:Int)(aa:Option Addr)(c d:Nat): ∀u∈pkC (zo t ver (.slice aa c d)),lc u=true:=fun u hu=>by
 simp only[pkC,zo,List.mem_cons,List.not_mem_nil,or_false] at hu
 rcases hu with rfl|rfl|rfl|rfl|rfl|rfl|rfl|rfl|rfl|rfl|rfl <;>rfl
theorem ani{v:Value}{l:List Spn}(S:St w0 w R)(hs:SlS w v l)(hlen:l.length<=1000000){K:KV}(h: ∀w' v',St w0 w' (rdA 8 jz v' l :: R)->K v' w'):ik P F.e [v] w K:=by
 rw[M.y.fcall]
 exact aal hs hlen fun w' v' s n f=>h w' v' (S.add (a:=rdA 8 jz v' l) f (B:=fun x=>v'.ownBlock=some x) ⟨s,fun b hb=>hb⟩ n)
theorem bmz{t:Int}{lv:Value}{l:List Spn}(S:St w0 w (clA p q :: ki q.tb n :: nc q.out ls :: R))(hn:qk n)(hs: ∀w' L,St w0 w' (L ++ R)->SlS w' lv l)(hl:l.length<=1000000)(hls:ls.length<=200){K:KV}
  (h: ∀w' ov sv hh,St w0 w' (clA p {q with out:=ov} :: nc ov (ls ++ pu [200] (zo t (rq n) sv) hh) :: ki q.tb n :: R)->K (.tuple #[]) w'):ik P F.bo [kl p,.int .u64 t,lv] w K:=by
 rw[M.bi.fcall]
 apply M.bi.calls
 unfold M.bi
 have S1:=S.ju ((Fr.refl _ w).dr 1)
 rw[qr]
 generalize dr w 1=w1 at *
 refine zt fun K0 hK0=>?_
 have e0: ∀{w':World}{L:List Asn},St w0 w' L->clA p q∈L->iq w' p 0=some (.int .u64 1):=fun S' hm=>(ni S' hm).1
 have fin: ∀{w':World}{tb:Nat},St w0 w' (baB tb ⟨max (rq n) 1,1⟩ :: clA p q :: ki q.tb n :: nc q.out ls :: R)->∀x,gv x 9= .pointer (some ⟨tb,0,none⟩)->K0 x w':=fun{w' tb} S' x hx=>by
  refine hK0 _ _ ?_
  unfold M.bi.j0
  have S2:=S'.ju ((Fr.refl _ w').dr 1)
  rw[qr]
  generalize dr w' 1=w2 at *
  refine zt fun K1 hK1=>?_
  have lb: ∀{w':World}{L:List Asn},St w0 w' L->baB tb ⟨max (rq n) 1,1⟩∈L->∀K,ldN P 2 tb 0 w' K=K (la ⟨max (rq n) 1,1⟩) w':=fun S' hm K=>by
   obtain⟨s,t,rfl⟩:=List.append_of_mem hm
   exact (S'.perm List.perm_middle).ldA (n:=2) (i:=0) (vz ⟨max (rq n) 1,1⟩) rfl rfl K
  have e3: ∀{w':World}{L:List Asn},St w0 w' L->clA p q∈L->iq w' p 3=some (.int .u64 200):=fun S' hm=>by
   obtain⟨_,_,e,_⟩:=ni S' hm
   exact e
  have bld: ∀(aa:Option Addr)(c d:Nat) w' K,jq P T.c #[(0,.int .i64 9),(1,.int .u64 t),(2,la ⟨max (rq n) 1,1⟩),(6,.slice aa c d)] w' K=K (pkA (zo t (rq n) (.slice aa c d))) w':=fun aa c d w' K=>by
   simp[la,pkA,pkC,zo,jf]
  simp only[kl]
  simp[hx,lb S2,e3 S2]
  have sd: ∀{w':World}{uv:Value}{aa:Option Addr}{c d:Nat}{K':KV},St w0 w' (vn uv [200] :: clA p q :: ki q.tb n :: nc q.out ls :: R)->(∀w2,(∃ov sv hh,St w0 w2 (clA p {q with out:=ov} :: nc ov (ls ++ pu [200] (zo t (rq n) sv) hh) :: ki q.tb n :: R))->K' (.tuple #[]) w2)->ik P F.f [kl p,pkA (zo t (rq n) (.slice aa c d)),uv] w' K':=fun S3 h3=>by
   refine ady (to:=[200]) (S3.pick (L:=[_,_,_,_]) [1,3,0,2] 4 rfl (by decide)) (ayy _ _ _ _ _) (fun w' L S'=>(S'.perm List.perm_middle).row mw) (by simp;omega) fun w4 ov S4=>h3 w4 ?_
   exact⟨ov,_,_,S4.pick (L:=[_,_,_,_]) [0,1,3] 4 rfl (by decide)⟩
  have nu: ∀{w':World}{L:List Asn},St w0 w' L->St w0 (w'.alloc (.cells #[.int .u64 200] T.a)) (vn (.slice (some ⟨w'.heap.size,0,none⟩) 1 1) [200] :: L):=fun S'=>St.uh (l:=[(200:Int)]) S' mw rfl (by simp[maxLen])
  have ed: ∀{w':World} x,(∃ov sv hh,St w0 w' (clA p {q with out:=ov} :: nc ov (ls ++ pu [200] (zo t (rq n) sv) hh) :: ki q.tb n :: R))->K1 x w':=fun x ⟨ov,sv,hh,S'⟩=>hK1 _ _ (h _ ov sv hh S')
  have hs2: ∀w' L,St w0 w' (L ++ (baB tb ⟨max (rq n) 1,1⟩ :: clA p q :: ki q.tb n :: nc q.out ls :: R))->SlS w' lv l:=fun w' L S'=>hs w' (L ++ [_,_,_,_]) (by simpa using S')
  refine⟨?_,?_⟩
  ·refine ani S2 (hs2 w2 [] S2) hl fun w3 v3 S3=>?_
   obtain⟨aa,cc,rfl,_⟩:=S3.rd
   have S4:=nu S3
   simp[e3 S3,lb S3,bld,lb S4]
   exact sd (S4.pick (L:=[_,_,_,_,_,_]) [0,3,4,5] 6 rfl (by decide)) fun w5 h5=>ed _ h5
  ·have S3:=nu S2
   simp[lb S3]
   refine ani S3 (hs2 _ [_] S3) hl fun w4 v4 S4=>?_
   obtain⟨aa,cc,rfl,_⟩:=S4.rd
   simp[e3 S4,lb S4,bld]
   exact sd (S4.pick (L:=[_,_,_,_,_,_]) [1,3,4,5] 6 rfl (by decide)) fun w5 h5=>ed _ h5
 have vr: ∀{w':World}{L:List Asn}{K':KV},St w0 w' (clA p q :: ki q.tb n :: L)->(∀w2,St w0 w2 (clA p q :: ki q.tb n :: L)->K' (.int .u64 (rq n)) w2)->ik P F.g [.pointer (some ⟨p,0,none⟩)] w' K':=fun S' h'=>ane S' hn h'
 have bb: ∀w' K,jq P T.e #[(0,.int .u64 (max (rq n) 1)),(1,.int .u64 1)] w' K=K (la ⟨max (rq n) 1,1⟩) w':=fun w' K=>by simp[la]
 simp only[kl]
 simp[e0 S1]
 refine⟨?_,?_⟩
 ·refine vr S1 fun w2 S2=>?_
  have S3:=adp S2
  simp[e0 S2,e0 S3,qo,bb]
  exact afg S3 fun w4 S4=>fin S4 _ rfl
 ·have S2:=(adp S1).pick (L:=[_,_,_,_]) [1,2,3,0] 4 rfl (by decide)
  simp[e0 S2 (by simp)]
  refine vr S2 fun w3 S3=>?_
  simp[e0 S3 (by simp),qo,bb]
  exact afg (S3.pick (L:=[_,_,_,_]) [3,0,1,2] 4 rfl (by decide)) fun w4 S4=>fin S4 _ rfl
end
set_option maxRecDepth 100000
section
variable {w0 w : World} {R : List Asn} {p : Nat} {q : Cl} {n : Nd} {g : Cfg} {A : List AE} {c : CT} {a0 : Int} {m rm um : MP} {es : List Evn} {ls : List Ltr}
theorem aqy{cb:Nat}{v1 v2:Value}{l1 l2:List Spn}(S:St w0 w (jd cb #[v1,v2] T.h :: R))(h1:SlS w v1 l1)(h2:SlS w v2 l2)(hl1:l1.length<=1000000)(hl2:l2.length<=1000000){K:KV}(h: ∀w' v',St w0 w' (yd v' (l1 ++ l2) :: R)->K v' w'):ik P F.an [.slice (some ⟨cb,0,none⟩) 2 2] w K:=by
 rw[M.l.fcall]
 refine CS.aip (b:=cb) (cap:=2) (L:=[(v1,l1),(v2,l2)]) (e:=T.h) S.blk (by
  intro p hp
  simp only[List.mem_cons,List.not_mem_nil,or_false] at hp
  rcases hp with rfl|rfl
  ·exact h1
  ·exact h2) (by simp[CS.tot];omega) (by simp) fun w' v o f=>?_
 have e:[(v1,l1),(v2,l2)].flatMap (·.2)=l1 ++ l2:=by simp
 rw[e] at o
 exact h w' v (S.drop.add (a:=yd v (l1 ++ l2)) f (B:=fun b=>v.ownBlock=some b) ⟨o.mono (Nat.zero_le _),fun b hb=>hb⟩ fun b hb=>⟨(o.lt hb).1,(o.lt hb).2⟩)
theorem bff{x1:Value}{tb:Nat}{s:Spn}{L0:List Asn}(hx:x1= .pointer (some ⟨tb,0,none⟩)):azh w0 (jd tb (jz s).toArray T.j :: L0) (.func (.func F.bu) #[] #[x1]) fun x=>decide (x.id=s.id):=fun w' L x K S' hK=>by
 subst hx
 rw[M.cg.rcall]
 apply M.cg.calls
 unfold M.cg lw
 have S0:=St.km w'
 refine St.uf S0 fun b w1 S1=>?_
 have c1:iq w1 b 1=some (.int .u64 x.id):=by rw[S1.cell];rfl
 have f1:Fz w' w1:=S1.fr
 have ct:iq w1 tb 1=some (.int .u64 s.id):=by
  rw[((S'.perm List.perm_middle).ju f1).cell]
  rfl
 simp[c1,ct]
 exact hK w1 f1
theorem ut{α:Type}{e:TypeId}{sz:Nat}{enc:α->List Value}{v:Value}{l:List α}{L:List Asn}(S:St w0 w L)(h:qa e sz enc v l∈L)(he: ∀x,(enc x).length=sz):Sl w sz enc v l:=by
 obtain⟨s,t,rfl⟩:=List.append_of_mem h
 exact (S.perm List.perm_middle).row he
def afz(now t:Int)(s:Spn):Evn:=⟨4,now,1,t,jf,1,s,0⟩
def WoI(w0:World)(L:List Asn)(s:Spn):KL:=fun x w1=> ∃(u0 u1 u2 fv:Value)(i:Nat),x=[u0,u1,u2,fv,.int .i64 (i:Nat)]/\i<=1/\(i=0->fv= .slice none 0 0)/\St w0 w1 (yd fv ([s].take i) :: L)
def WeI(w0:World)(p:Nat)(q:Cl)(s:Spn)(t:Int)(L:List Asn)(es:List Evn):KL:=fun x w1=> ∃(i:Nat),x=[.int .i64 (i:Nat)]/\i<=1/\∃ev,St w0 w1 (clA p {q with ev:=ev} :: nh ev (es ++ [afz q.now t s].take i) :: L)
theorem bbh{t:Int}{lv:Value}{s:Spn}(S:St w0 w (ky p q n g A c a0 m es ls rm [] ++ R))(hn:qk n)(htr:0 < q.tr)(hs: ∀w' L,St w0 w' (L ++ R)->SlS w' lv [s])(hes:es.length<=1000)(hls:ls.length<=200){K:KV}
  (h: ∀w' ov ev uv sv hh,St w0 w' (ky p {q with out:=ov,ev:=ev} n g A c a0 m (es ++ [afz q.now t s]) (ls ++ pu [200] (zo t (rq n) sv) hh) rm [(t,uv)] ++ R)->K (.tuple #[]) w'):ik P F.cf [kl p,.int .u64 t,lv] w K:=by
 rw[M.g.fcall]
 apply M.g.calls
 unfold M.g
 obtain⟨_,_,_,_,_,_,_,_,_,_,c19,_⟩:=ni (p:=p) (q:=q) S (by simp)
 have hmp:=(S.pick (L:=[_,_,_,_,_,_,_,_,_,_,_]) [10] 11 rfl (by decide)).mp
 have hlu: ∀K,luT P T.y (.map (some q.un)) (.int .u64 t) true w K=K (.tuple #[.slice none 0 0,.bool false]) w:=fun K=>by
  rw[akp mt.y hmp]
  rfl
 simp only[kl]
 simp[c19,hlu]
 have S1:=S.ju ((Fr.refl _ w).dr 1)
 generalize dr w 1=w1 at *
 obtain⟨_,_,_,_,_,_,_,_,_,_,d19,_⟩:=ni (p:=p) (q:=q) S1 (by simp)
 have d9:iq w1 p 9=some (.int .i64 q.tr):=by
  obtain⟨_,_,_,_,_,_,e,_⟩:=mr S1
  exact e
 have hmp1:=(S1.pick (L:=[_,_,_,_,_,_,_,_,_,_,_]) [10] 11 rfl (by decide)).mp
 have hl:=fun cs K=>ack (ty:=T.d) mt.y hmp1 cs K
 have hnt: ¬q.tr<=0:=by omega
 simp[d19,d9,hl,hnt]
 unfold M.g.j0
 have hln: ∀w' K,biT P .len #[T.h] T.d [false] [lv] w' K=K (.int .i64 1) w':=fun w' K=>(hs w1 _ S1).jv (by kernel_rfl) [false]
 have hs2: ∀w' L,St w0 w' (L ++ (ky p q n g A c a0 m es ls rm [] ++ R))->SlS w' lv [s]:=fun w' L S'=>hs w' (L ++ _) (by rw[List.append_assoc];exact S')
 generalize hG:ky p q n g A c a0 m es ls rm [] ++ R=G at *
 refine zt fun K1 hK1=>?_
 simp only[hln,ir]
 refine⟨WoI w0 G s,fun x _=>1 - ms x 4,⟨_,_,_,_,0,rfl,Nat.zero_le _,fun _=>rfl,Go.Eng.ye S1⟩,?_⟩
 rintro x w2 ⟨u0,u1,u2,fv,i,rfl,hi,hfv,S2⟩
 by_cases hi0:i=0
 ·subst hi0
  obtain rfl:=hfv rfl
  simp
  unfold M.g.j3
  obtain⟨ab,ao,cap,hv,_,_,hc⟩:=(hs2 w2 [_] S2).at (i:=0) (by simp)
  have hia: ∀w' K,iaT P T.h lv (.int .i64 0) w' K=K (.pointer (some ⟨ab,ao,none⟩)) w':=fun w' K=>by rw[hv];simp
  have hld: ∀K,ldN P 8 ab ao w2 K=K (lw s) w2:=fun K=>tk (jz s) 8 rfl (fun k u hk=>by have:=hc k u hk;simpa using this) K
  simp[hia,hld]
  have S3:=S2.mkB #[.int .u64 0,.int .u64 0,.int .u64 0,.int .u64 0,.int .u64 0,.string ⟨#[]⟩,.string ⟨#[]⟩,.bool false] T.j
  generalize w2.heap.size=tb at *
  generalize w2.alloc _=w3 at *
  unfold lw
  simp
  refine St.put (vs:=jz s) (cs':=(jz s).toArray) S3 (qn s) (by simp[jz]) (by simp[jz]) fun w4 S4=>?_
  have S5:=S4.mkB #[.slice none 0 0,.slice none 0 0] T.h
  refine aqy (l1:=[]) (l2:=[]) S5 Sl.nil Sl.nil (by simp) (by simp) fun w6 v6 S6=>?_
  rw[zm]
  have S6':St w0 w6 (spB tb s :: yd v6 [] :: yd (.slice none 0 0) [] :: G):=S6.swap
  refine auc (l:=[]) S6' (fun w' L S'=>ut S' (e:=T.j) (v:=v6) (by simp) pt) (bff rfl) (by simp) fun w7 S7=>?_
  have ld8: ∀K,ldN P 8 tb 0 w7 K=K (lw s) w7:=fun K=>S7.ldA (n:=8) (i:=0) (jz s) rfl rfl K
  simp only[List.any_nil,il,show IntKind.i64.wrap 0=0 from by decide,show IntKind.i64.wrap 1=1 from by decide,ld8,bez]
  simp
  have S8:St w0 (w7.alloc (.cells #[.int .u64 s.jj,.int .u64 s.id,.int .u64 s.nn,.int .u64 s.km,.int .u64 s.len,.string s.kz,.string s.name,.bool s.pp] T.j)) (yd (.slice (some ⟨w7.heap.size,0,none⟩) 1 1) [s] :: _):=St.uh (l:=[s]) S7 pt (by simp[jz]) (by simp[maxLen])
  generalize w7.heap.size=nb at *
  generalize w7.alloc _=w8 at *
  have S9:St w0 w8 (yd (.slice none 0 0) [] :: yd (.slice (some ⟨nb,0,none⟩) 1 1) [s] :: G):=S8.pick (L:=[_,_,_,_]) [3,0] 4 rfl (by decide)
  refine Go.Eng.wt et.h pt qn S9 (S9.swap.row pt) (by simp) (by decide) fun w10 v10 S10=>?_
  exact⟨⟨_,_,_,v10,1,rfl,Nat.le_refl _,fun h=>absurd h (by decide),S10.swap.drop⟩,by simp[ms,gv]⟩
 ·have hi1:i=1:=by omega
  subst hi1
  simp
  refine hK1 _ _ ?_
  unfold M.g.j1
  have S3:St w0 w2 (yd fv [s] :: G):=S2
  obtain⟨fa,fc,rfl,_⟩:=S3.row pt
  have hlf: ∀{w':World}{L:List Asn},St w0 w' L->yd (.slice fa 1 fc) [s]∈L->∀K,biT P .len #[T.h] T.d [false] [.slice fa 1 fc] w' K=K (.int .i64 1) w':=fun S' hm K=>(ut S' hm pt).jv (by kernel_rfl) [false]
  simp[hlf S3]
  unfold M.g.j6
  have S4:=S3.ju ((Fr.refl _ w2).dr 1)
  rw[qr]
  generalize dr w2 1=w4 at *
  subst hG
  obtain⟨_,_,_,_,_,_,_,_,_,_,e19,_⟩:=ni (p:=p) (q:=q) S4 (by simp)
  have S5:=S4.mkB #[.slice none 0 0,.slice fa 1 fc] T.h
  obtain⟨_,_,_,_,_,_,_,_,_,_,f19,_⟩:=ni (p:=p) (q:=q) S5 (by simp)
  simp[e19,f19]
  refine aqy (l1:=[]) (l2:=[s]) S5 Sl.nil (S5.swap.row pt) (by simp) (by simp) fun w6 v6 S6=>?_
  obtain⟨_,_,_,_,_,_,_,_,_,_,g19,_⟩:=ni (p:=p) (q:=q) S6 (by simp)
  simp[g19]
  have S7:St w0 w6 (jm q.un .u64 [] :: yd (.slice fa 1 fc) [s] :: clA p q :: ki q.tb n :: ns q.hb g A c :: qf q.kb a0 m :: nh q.ev es :: nc q.out ls :: rdA 1 nk q.rep [101] :: rdA 4 mf q.rul [ko] :: jm q.ru .u64 rm :: jm q.se .u64 [] :: R):=S6.pick (L:=[_,_,_,_,_,_,_,_,_,_,_,_,_]) [12,1,2,3,4,5,6,7,8,9,10,11] 13 rfl (by decide)
  refine S7.azu mt.y t v6 fun w8 S8=>?_
  rw[show tz ([]:MP) t v6=[(t,v6)] from rfl] at S8
  have S9:St w0 w8 (clA p q :: nh q.ev es :: yd (.slice fa 1 fc) [s] :: ki q.tb n :: ns q.hb g A c :: qf q.kb a0 m :: nc q.out ls :: rdA 1 nk q.rep [101] :: rdA 4 mf q.rul [ko] :: jm q.ru .u64 rm :: jm q.se .u64 [] :: jm q.un .u64 [(t,v6)] :: R):=S8.pick (L:=[_,_,_,_,_,_,_,_,_,_,_,_]) [2,6,1,3,4,5,7,8,9,10,11,0] 12 rfl (by decide)
  refine⟨WeI w0 p q s t (yd (.slice fa 1 fc) [s] :: ki q.tb n :: ns q.hb g A c :: qf q.kb a0 m :: nc q.out ls :: rdA 1 nk q.rep [101] :: rdA 4 mf q.rul [ko] :: jm q.ru .u64 rm :: jm q.se .u64 [] :: jm q.un .u64 [(t,v6)] :: R) es,fun x _=>1 - ms x 0,⟨0,rfl,Nat.zero_le _,q.ev,by simpa using S9⟩,?_⟩
  rintro x w10 ⟨j,rfl,hj,evv,S10⟩
  by_cases hj0:j=0
  ·subst hj0
   simp
   unfold M.g.j9
   have S11:=S10
   simp only[List.take_zero,List.append_nil] at S11
   obtain⟨ab,ao,cap,hv,_,_,hc⟩:=(ut S11 (e:=T.j) (v:= .slice fa 1 fc) (l:=[s]) (by simp) pt).at (i:=0) (by simp)
   have hia: ∀w' K,iaT P T.h (.slice fa 1 fc) (.int .i64 0) w' K=K (.pointer (some ⟨ab,ao,none⟩)) w':=fun w' K=>by rw[hv];simp
   have hld: ∀K,ldN P 8 ab ao w10 K=K (lw s) w10:=fun K=>tk (jz s) 8 rfl (fun k u hk=>by have:=hc k u hk;simpa using this) K
   simp[hia,hld]
   have S12:=S11.mkB #[.int .u64 0,.int .u64 0,.int .u64 0,.int .u64 0,.int .u64 0,.string ⟨#[]⟩,.string ⟨#[]⟩,.bool false] T.j
   generalize w10.heap.size=tb at *
   generalize w10.alloc _=w11 at *
   unfold lw
   simp
   refine St.put (vs:=jz s) (cs':=(jz s).toArray) S12 (qn s) (by simp[jz]) (by simp[jz]) fun w13 S13=>?_
   have ld8: ∀K,ldN P 8 tb 0 w13 K=K (lw s) w13:=fun K=>S13.ldA (n:=8) (i:=0) (jz s) rfl rfl K
   have be: ∀K,jq P T.ar #[(0,.int .i64 4),(3,.int .u64 t),(5,.int .i64 1),(6,lw s)] w13 K=K (evA ⟨4,0,0,t,jf,1,s,0⟩) w13:=fun K=>by simp[lw,evA,evC,jf]
   simp[ld8,be]
   refine aei (S13.pick (L:=[_,_,_]) [1,2] 3 rfl (by decide)) ⟨4,0,0,t,jf,1,s,0⟩ (by omega) fun w14 v14 S14=>?_
   exact⟨⟨1,rfl,Nat.le_refl _,v14,S14⟩,by simp[ms,gv,show IntKind.i64.wrap 1=1 from by decide]⟩
  ·have hj1:j=1:=by omega
   subst hj1
   simp
   have S11:St w0 w10 (clA p {q with ev:=evv} :: ki q.tb n :: nc q.out ls :: yd (.slice fa 1 fc) [s] :: nh evv (es ++ [afz q.now t s]) :: ns q.hb g A c :: qf q.kb a0 m :: rdA 1 nk q.rep [101] :: rdA 4 mf q.rul [ko] :: jm q.ru .u64 rm :: jm q.se .u64 [] :: jm q.un .u64 [(t,v6)] :: R):=S10.pick (L:=[_,_,_,_,_,_,_,_,_,_,_,_]) [0,3,6,2,1,4,5,7,8,9,10,11] 12 rfl (by decide)
   refine bmz (q:={q with ev:=evv}) (l:=[s]) S11 hn (fun w' L S'=>ut S' (e:=T.j) (by simp) pt) (by simp) hls fun w12 ov sv hh S12=>?_
   exact h w12 ov evv v6 sv hh (S12.pick (L:=[_,_,_,_,_,_,_,_,_,_,_,_]) [0,2,5,6,4,1,7,8,9,10,11] 12 rfl (by decide))
end
section
variable {w0 w : World} {R : List Asn} {p : Nat} {q : Cl} {n : Nd} {g : Cfg} {A : List AE} {c : CT} {a0 : Int} {m rm um : MP} {es : List Evn} {ls : List Ltr}
theorem bav{inc:Int}(S:St w0 w (clA p q :: ki q.tb n :: R))(hn:qk n)(hs:adg n inc){K:KV}(h: ∀w' v,St w0 w' (rdA 1 nk v [] :: clA p q :: ki q.tb n :: R)->K v w'):ik P F.cb [kl p] w K:=by
 rw[M.cl.fcall]
 apply M.cl.calls
 unfold M.cl
 rw[vd]
 have hc1:(kl p).cells= #[kl p]:=rfl
 rw[hc1]
 have S1:=S.mkB #[kl p] T.ao
 generalize w.heap.size=tb at *
 generalize w.alloc _=w1 at *
 have ct: ∀{w':World}{L:List Asn},St w0 w' L->jd tb #[kl p] T.ao∈L->iq w' tb 0=some (kl p):=fun S' hm=>by
  obtain⟨s,t,rfl⟩:=List.append_of_mem hm
  rw[(S'.perm List.perm_middle).cell]
  rfl
 obtain⟨_,_,_,_,_,c14,_⟩:=ni (p:=p) (q:=q) S1 (by simp)
 simp[ct S1,c14]
 refine ald (S1.pick (L:=[_,_,_]) [2,0,1] 3 rfl (by decide)) hn fun w2 v2 S2=>?_
 refine axk (l:=n.v) S2 (fun w' L S'=>acs S' (by simp)) (by have:=hn.zl.few;omega) fun w3 v3 S3=>?_
 rw[aez hn hs] at S3
 obtain⟨g,cap,cur,rfl,_,n1,_⟩:=S3.akx (k:=0) (by simp)
 have e1:([1]:List Int).length=1:=rfl
 rw[e1] at S3 n1⊢
 rw[zm,M.p.fcall]
 apply M.p.calls
 unfold M.p
 rw[M.aq.fcall]
 apply M.aq.calls
 unfold M.aq
 simp only[ir,vq (show nq P T.g=true from by kernel_rfl)]
 refine⟨fun x w'=>x=[undef,.int .i64 0,.int .i64 0]/\w'=w3,fun _ _=>0,⟨rfl,rfl⟩,?_⟩
 rintro x w' ⟨rfl,rfl⟩
 obtain⟨_,ao,_,hv,_,_,hc⟩:=(S3.row (fun _=>rfl)).at (i:=0) (by simp)
 have hcell:iq w' g 0=some (.int .u64 1):=by
  injection hv with h1 _ _
  injection h1 with h1
  injection h1 with h1 h2 _
  subst h1 h2
  simpa [Suint64.qe] using hc 0 _ rfl
 simp
 unfold M.aq.j2
 simp[hcell]
 have hcl:=M.cb.rcall [] [.pointer (some ⟨tb,0,none⟩)] [.int .u64 1] w'
 simp only[List.nil_append,List.cons_append] at hcl
 rw[show (#[Value.pointer (some ⟨tb,0,none⟩)]:Array Value)=[Value.pointer (some ⟨tb,0,none⟩)].toArray from rfl,show (#[]:Array Value)=([]:List Value).toArray from rfl,hcl]
 apply M.cb.calls
 unfold M.cb
 obtain⟨c0,_⟩:=ni (p:=p) (q:=q) S3 (by simp)
 simp[ct S3 (by simp),c0]
 unfold M.p.j0
 simp only[ir]
 simp
 refine⟨fun x w1=>x=[undef,.int .i64 0,.int .i64 1]/\w1=w',fun _ _=>0,⟨by rw[show IntKind.i64.wrap 1=1 from by decide],rfl⟩,?_⟩
 rintro x w1 ⟨rfl,rfl⟩
 unfold M.p.j2
 simp only[ir]
 have e2: ∀w' K,slT P T.g (.slice (some ⟨g,0,none⟩) 1 cap) (some (.int .i64 0)) none none w' K=K (.slice (some ⟨g,0 * 1,none⟩) (1 - 0) cap) w':=fun w' K=>by
  rw[bqo (by kernel_rfl) (by omega) (by omega),show szE P T.g=1 from by kernel_rfl]
  simp
 have e3: ∀w' K,slT P T.g (.slice (some ⟨g,0,none⟩) 1 cap) none (some (.int .i64 0)) none w' K=K (.slice (some ⟨g,0,none⟩) 0 cap) w':=fun w' K=>by
  rw[baj (by kernel_rfl) (by omega) (by omega)]
  simp
 simp only[vq (show nq P T.g=true from by kernel_rfl)]
 simp only[na,gv,List.getD_cons_succ,List.getD_cons_zero,il]
 simp
 rw[e2]
 refine bgx (by':=8) et.g (by kernel_rfl) (fun _=>rfl) S3 (by decide) fun w4 S4=>?_
 exact h w4 _ (S4.pick (L:=[_,_,_,_,_]) [0,4,2] 5 rfl (by decide))
theorem ayx{t:Int}{s:Spn}{rb:Nat}(S:St w0 w (ky p q n g A c 0 [] es ls [(t,.pointer (some ⟨rb,0,none⟩))] [] ++ R))(hn:qk n)(htr:0 < q.tr)(hA:A.length<=1000)(hu: ∀x∈A,x.t=t->x.l=[s])(he: ∃x∈A,x.t=t)(ht:t≠0)(hes:es.length<=1000)(hls:ls.length<=200){K:KV}
  (h: ∀w' ov ev uv sv hh,St w0 w' (ky p {q with out:=ov,ev:=ev} n g (tq A t) (rj c t) t [(t,.int .i64 1)] (es ++ [afz q.now t s]) (ls ++ pu [200] (zo t (rq n) sv) hh) [] [(t,uv)] ++ R)->K (.tuple #[]) w'):ik P F.bk [kl p,.int .u64 t,.int .i64 1] w K:=by
 rw[M.ck.fcall]
 apply M.ck.calls
 unfold M.ck
 obtain⟨_,_,_,_,_,_,_,c16,_⟩:=ni (p:=p) (q:=q) S (by simp)
 simp only[kl]
 simp[c16]
 refine blx (S.pick (L:=[_,_,_,_,_,_,_,_,_,_,_]) [3,0,1,2,4,5,6,7,8,9,10] 11 rfl (by decide)) ht (by omega) fun w1 S1=>?_
 obtain⟨_,_,_,_,_,_,_,_,c17,_⟩:=ni (p:=p) (q:=q) S1 (by simp)
 simp[c17]
 have S2:St w0 w1 (jm q.ru .u64 [(t,.pointer (some ⟨rb,0,none⟩))] :: jm q.se .u64 [] :: clA p q :: ki q.tb n :: ns q.hb g A c :: qf q.kb t [(t,.int .i64 1)] :: nh q.ev es :: nc q.out ls :: rdA 1 nk q.rep [101] :: rdA 4 mf q.rul [ko] :: jm q.un .u64 [] :: R):=S1.pick (L:=[_,_,_,_,_,_,_,_,_,_,_]) [8,9,1,2,3,0,4,5,6,7,10] 11 rfl (by decide)
 refine S2.bkc mt.v t fun w3 S3=>?_
 rw[show xp ([(t,.pointer (some ⟨rb,0,none⟩))]:MP) t=[] from by simp[xp]] at S3
 obtain⟨_,_,_,_,_,_,_,_,_,d18,_⟩:=ni (p:=p) (q:=q) S3 (by simp)
 simp[d18]
 refine S3.swap.bkc mt.x t fun w4 S4=>?_
 rw[show xp ([]:MP) t=[] from rfl] at S4
 obtain⟨_,_,_,_,_,_,e15,_⟩:=ni (p:=p) (q:=q) S4 (by simp)
 simp[e15]
 have S5:St w0 w4 (ns q.hb g A c :: clA p q :: ki q.tb n :: qf q.kb t [(t,.int .i64 1)] :: nh q.ev es :: nc q.out ls :: rdA 1 nk q.rep [101] :: rdA 4 mf q.rul [ko] :: jm q.ru .u64 [] :: jm q.se .u64 [] :: jm q.un .u64 [] :: R):=S4.pick (L:=[_,_,_,_,_,_,_,_,_,_,_]) [4,2,3,5,6,7,8,9,1,0,10] 11 rfl (by decide)
 refine asq S5 hA t (fun hno=>by
  obtain⟨x,hx,hxt⟩:=he
  exact absurd hxt (hno x hx)) fun x hx hxt w5 v5 S6=>?_
 rw[hu x hx hxt] at S6
 have hln: ∀w' K,biT P .len #[T.h] T.d [false] [v5] w' K=K (.int .i64 1) w':=fun w' K=>S6.rd.jv (by kernel_rfl) [false]
 simp[hln]
 refine bbh (a0:=t) (rm:=[]) (s:=s) (S6.pick (L:=[_,_,_,_,_,_,_,_,_,_,_,_]) [2,3,1,4,5,6,7,8,9,10,11,0] 12 rfl (by decide)) hn htr (fun w' L S'=>acs S' (by simp)) hes hls fun w7 ov ev uv sv hh S7=>?_
 exact h w7 ov ev uv sv hh (S7.pick (L:=[_,_,_,_,_,_,_,_,_,_,_,_]) [0,1,2,3,4,5,6,7,8,9,10] 12 rfl (by decide))
end
section
variable {w0 w : World} {R : List Asn} {p : Nat} {q : Cl} {n : Nd} {g : Cfg} {A : List AE} {c : CT} {a0 : Int} {m rm um : MP} {es : List Evn} {ls : List Ltr}
theorem aoi{t v half:Int}{b:Bal}{rb:Nat}(S:St w0 w (ky p q n g A c 0 [] es ls [(t,.pointer (some ⟨rb,0,none⟩))] [] ++ qm rb t b v half :: R))(hh:half=0\/half=1)(ht:0 < t/\t < 18446744073709551616)(hb:b.rng)(hb0:0 < b.n){K:KV}
  (h: ∀w' pb,St w0 w' (jd pb (pkC (rh t b half)).toArray T.c :: qm rb t b v (half+1) :: (ky p q n g A c 0 [] es ls [(t,.pointer (some ⟨rb,0,none⟩))] [] ++ R))->M.o.j1 (.pointer (some ⟨rb,0,none⟩)) (.pointer (some ⟨pb,0,none⟩)) (kl p) (.int .i64 (if half=1 then 6 else 4)) w' K):ik P F.aq [kl p,.int .u64 101,pkA (rh t b half)] w K:=by
 rw[M.o.fcall]
 apply M.o.calls
 unfold M.o pkA
 refine St.uf S fun pb w1 S1=>?_
 have S2:St w0 (dr w1 1) (jd pb (pkC (rh t b half)).toArray T.c :: _):=S1.ju ((Fr.refl _ w1).dr 1)
 obtain⟨_,_,_,_,_,_,_,_,c17,_⟩:=ni (p:=p) (q:=q) S2 (by simp)
 have k1:iq (dr w1 1) pb 1=some (.int .u64 t):=by rw[S2.cell];rfl
 have hmp:=(S2.pick (L:=[_,_,_,_,_,_,_,_,_,_,_,_]) [9] 12 rfl (by decide)).mp
 have lu: ∀K,luT P T.v (.map (some q.ru)) (.int .u64 t) false (dr w1 1) K=K (.pointer (some ⟨rb,0,none⟩)) (dr w1 1):=fun K=>by
  rw[tp mt.v hmp]
  simp[kh]
 simp only[kl]
 simp[c17,k1,lu]
 unfold M.o.j0
 have S3:St w0 (dr w1 1) (qm rb t b v half :: jd pb (pkC (rh t b half)).toArray T.c :: (ky p q n g A c 0 [] es ls [(t,.pointer (some ⟨rb,0,none⟩))] [] ++ R)):=S2.pick (L:=[_,_,_,_,_,_,_,_,_,_,_,_,_]) [12,0,1,2,3,4,5,6,7,8,9,10,11] 13 rfl (by decide)
 generalize dr w1 1=w2 at *
 refine apl S3 hh fun w4 S4=>?_
 have fd: ∀w' K,fdT P T.c (pkA (uj t b v half)) 0 w' K=K (.int .i64 (if half=1 then 6 else 4)) w':=fun w' K=>by
  refine Eq.trans ?_ rfl
  kernel_rfl
 simp[fd,vw S4.swap]
 refine bfr S4 hh ht hb hb0 fun w5 S5=>?_
 simp
 exact h w5 pb S5.swap
theorem ayb{t v:Int}{b:Bal}{rb:Nat}(S:St w0 w (ky p q n g A c 0 [] es ls [(t,.pointer (some ⟨rb,0,none⟩))] [] ++ qm rb t b v 0 :: R))(ht:0 < t/\t < 18446744073709551616)(hb:b.rng)(hb0:0 < b.n)(hls:ls.length<=200){K:KV}
  (h: ∀w' ov,St w0 w' (ky p {q with out:=ov} n g A c 0 [] es (ls ++ pu [101] (uj t b v 1) qv) [(t,.pointer (some ⟨rb,0,none⟩))] [] ++ qm rb t b v 1 :: R)->K (.tuple #[]) w'):ik P F.aq [kl p,.int .u64 101,pkA (rh t b 0)] w K:=by
 refine aoi S (.inl rfl) ht hb hb0 fun w1 pb S1=>?_
 unfold M.o.j1
 simp only[ir]
 refine aqe S1.swap (fun h=>absurd h (by decide)) fun _=>?_
 simp
 unfold M.o.j2
 refine apl S1.swap (.inr rfl) fun w2 S2=>?_
 have S3:=axv S2
 simp
 generalize w2.heap.size=qb at *
 generalize w2.alloc _=w3 at *
 rw[bpp]
 refine ayh (q:=uj t b v 1) S3 rfl qv fun w4 S4=>?_
 have k0:iq w4 qb 0=some (.int .i64 6):=by rw[S4.cell];rfl
 have S5:=S4.ju ((Fr.refl _ w4).dr 1)
 simp[k0,vw S5]
 refine ate S5.swap (.inr rfl) fun w6 ov S6=>?_
 have S7:St w0 w6 (jd qb (pkC (uj t b v 1)).toArray T.c :: tm ov [101] :: qm rb t b v 1 :: jd pb (pkC (rh t b 0)).toArray T.c :: (ky p q n g A c 0 [] es ls [(t,.pointer (some ⟨rb,0,none⟩))] [] ++ R)):=S6.pick (L:=[_,_,_,_]) [2,0,1,3] 4 rfl (by decide)
 simp[vw S7]
 refine ady (to:=[101]) (S7.pick (L:=[_,_,_,_,_,_,_,_,_,_,_,_,_,_,_]) [4,9,1,2,5,6,7,8,10,11,12,13,14] 15 rfl (by decide)) qv (fun w' L S'=>ut S' (e:=T.a) (v:=ov) (by simp) mw) (by simp;omega) fun w8 lv S8=>?_
 exact h w8 lv (S8.pick (L:=[_,_,_,_,_,_,_,_,_,_,_,_,_]) [0,4,5,6,7,1,8,9,10,11,12,3] 13 rfl (by decide))
theorem bcg{t:Int}{b:Bal}{rb:Nat}{s:Spn}{inc:Int}(S:St w0 w (ky p q n g A c 0 [] es ls [(t,.pointer (some ⟨rb,0,none⟩))] [] ++ qm rb t b 1 1 :: R))(hn:qk n)(hs:adg n inc)(htr:0 < q.tr)(hA:A.length<=1000)(hu: ∀x∈A,x.t=t->x.l=[s])(he: ∃x∈A,x.t=t)(hes:es.length<=1000)(ht:0 < t/\t < 18446744073709551616)(hb:b.rng)(hb0:0 < b.n)(hls:ls.length<=200){K:KV}
  (h: ∀w' ov ev uv ls',St w0 w' (ky p {q with out:=ov,ev:=ev} n g (tq A t) (rj c t) t [(t,.int .i64 1)] (es ++ [afz q.now t s]) ls' [] [(t,uv)] ++ R)->K (.tuple #[]) w'):ik P F.aq [kl p,.int .u64 101,pkA (rh t b 1)] w K:=by
 refine aoi S (.inr rfl) ht hb hb0 fun w1 pb S1=>?_
 unfold M.o.j1
 simp only[ir]
 refine aqe S1.swap (fun _=>?_) fun h=>absurd rfl h
 have k1:iq w1 pb 1=some (.int .u64 t):=by rw[S1.cell];rfl
 simp[k1]
 refine ayx (rb:=rb) (s:=s) (S1.pick (L:=[_,_,_,_,_,_,_,_,_,_,_,_,_]) [2,3,4,5,6,7,8,9,10,11,12,0] 13 rfl (by decide)) hn htr hA hu he (by omega) hes hls fun w2 ov ev uv sv hh S2=>?_
 have S3:=S2.ju ((Fr.refl _ w2).dr 1)
 generalize dr w2 1=w3 at *
 have k1': ∀{w':World}{L:List Asn},St w0 w' L->jd pb (pkC (rh t b 1)).toArray T.c∈L->iq w' pb 1=some (.int .u64 t):=fun S' hm=>by
  obtain⟨s,t,rfl⟩:=List.append_of_mem hm
  rw[(S'.perm List.perm_middle).cell]
  rfl
 have bld: ∀w' K,jq P T.c #[(0,.int .i64 8),(1,.int .u64 t),(4,.int .i64 1)] w' K=K (pkA ⟨8,t,jf,jf,1,false,.slice none 0 0,.slice none 0 0,.slice none 0 0⟩) w':=fun w' K=>by simp[pkA,pkC,jf]
 simp[k1' S3 (by simp),bld]
 refine bav (q:={q with out:=ov,ev:=ev}) S3 hn hs fun w4 v4 S4=>?_
 simp[k1' S4 (by simp)]
 refine ady (q:={q with out:=ov,ev:=ev}) (to:=[]) (pk:=⟨8,t,jf,jf,1,false,.slice none 0 0,.slice none 0 0,.slice none 0 0⟩) (S4.pick (L:=[_,_,_,_,_,_,_,_,_,_,_,_]) [1,6,0,2,3,4,5,7,8,9,10,11] 12 rfl (by decide)) (awy _ _ _ _ _ _) (fun w' L S'=>acs (sz:=1) (enc:=nk) (v:=v4) (l:=[]) S' (by simp)) (by simp[pu];omega) fun w5 ov2 S5=>?_
 exact h w5 ov2 ev uv _ (S5.pick (L:=[_,_,_,_,_,_,_,_,_,_,_,_,_]) [0,3,4,5,6,1,7,8,9,10,11] 13 rfl (by decide))
theorem bmy{t half:Int}{b:Bal}(ht:0 < t/\t < 18446744073709551616)(hb:b.rng):ahl (rh t b half):=⟨⟨by show 0<=t;omega,ht.2⟩,hb,show jf.rng from⟨⟨by decide,by decide⟩,⟨by decide,by decide⟩⟩⟩
theorem anc{t half now:Int}{b:Bal}(S:St w0 w (ky p q n g A c a0 m es ls rm um ++ R))(hh:half=0\/half=1)(ht:0 < t/\t < 18446744073709551616)(hb:b.rng)(hb0:0 < b.n){K:KV}
  (h: ∀w',St w0 w' (ky p {q with now:=max q.now now} n g A c a0 m es ls rm um ++ R)->ik P F.aq [kl p,.int .u64 101,pkA (rh t b half)] w' fun _ w=>K (.int .i64 0) w):ik P F.ao [kl p,.int .u64 101,pkA (rh t b half),.int .u64 now] w K:=by
 rw[M.i.fcall]
 apply M.i.calls
 unfold M.i pkA
 refine St.uf S fun pb w1 S1=>?_
 have S1':St w0 w1 (jd pb (pkC (rh t b half)).toArray T.c :: _):=S1
 simp only[kl]
 simp
 unfold M.i.j0
 simp[vw S1']
 refine asj (p:=rh t b half) (ls:=[]) (lm:=[]) (lu:=[]) (bdf _ _ _ _ _ _ _) (bmy ht hb) (fun hr w2 t2 hth _ f2=>?_) fun hr=>absurd (aqz ht.1 hb0) (by rw[hr];simp)
 have S2:=S1'.ju f2
 rw[aqb hth]
 obtain⟨_,_,_,_,_,_,_,_,_,_,_,_,c23,_⟩:=ni (p:=p) (q:=q) S2 (by simp)
 simp
 unfold M.i.j1
 simp[c23,qo]
 refine St.oh S2.swap rfl (by simp[clC]) fun w3 S3=>?_
 have S4:St w0 w3 (clA p {q with now:=max q.now now} :: jd pb (pkC (rh t b half)).toArray T.c :: _):=S3
 simp[abv,aaj]
 have S5:=S4.mkB #[.int .u64 0,.int .u64 0,.int .u64 0,.bool false,.int .u64 0,.int .u64 0,.int .i64 0,.bool false] T.m
 unfold xz
 simp
 generalize w3.heap.size=ab at *
 generalize w3.alloc _=w5 at *
 refine St.put (vs:=xz t b half) (cs':=(xz t b half).toArray) S5 (by simp[xz,lc]) (by simp[xz]) (by simp[xz]) fun w6 S6=>?_
 have S7:=S6.pick (L:=[_,_,_]) [2,1] 3 rfl (by decide)
 simp[vw S7]
 exact h w6 S7.drop
end
def cfC(inc tr:Int)(rv:Value):List Value:=[.int .u64 1,.int .u64 inc,rv,.int .u64 200,.int .i64 3,.int .u64 5,.int .u64 20,.int .u64 10,.int .u64 4,.int .i64 tr,.int .i64 4,.int .i64 4,.string lq]
def cfA(inc tr:Int)(rv:Value):Value:= .agg (cfC inc tr rv).toArray
def cfZ:Array Value:= #[.int .u64 0,.int .u64 0,.slice none 0 0,.int .u64 0,.int .i64 0,.int .u64 0,.int .u64 0,.int .u64 0,.int .u64 0,.int .i64 0,.int .i64 0,.int .i64 0,.string ⟨#[]⟩]
section
variable {w0 w : World} {R : List Asn}
theorem bfh{ty a b c:TypeId}{k:IntKind}{x y z:Int}{w:World}{K:KV}(cs:List Bool):biT P .min #[a,b,c] ty cs [.int k x,.int k y,.int k z] w K=K (.int k (min (min x y) z)) w:=by
 simp[biT,lz,builtin,Builtin.min_,Builtin.min2,Sem.run_bind,Result.andThen,Sem.run_pure]
 rw[show (if z < if y < x then y else x then z else if y < x then y else x)=min x (min y z) from by (repeat' split) <;>omega]
theorem bhq(w:World)(K:KV):biT P .min #[T.a,T.a,T.a,T.a] T.a [false,false,false,false] [.int .u64 5,.int .u64 20,.int .u64 10,.int .u64 4] w K=K (.int .u64 4) w:=by
 refine Eq.trans ?_ rfl
 kernel_rfl
theorem bja(w:World)(K:KV):biT P .max #[T.a,T.a,T.a,T.a] T.a [false,false,false,false] [.int .u64 5,.int .u64 20,.int .u64 10,.int .u64 4] w K=K (.int .u64 20) w:=by
 refine Eq.trans ?_ rfl
 kernel_rfl
theorem bpv(inc tr:Int)(a:Option Addr)(n c:Nat): ∀u∈cfC inc tr (.slice a n c),lc u=true:=fun u hu=>by
 simp only[cfC,List.mem_cons,List.not_mem_nil,or_false] at hu
 rcases hu with rfl|rfl|rfl|rfl|rfl|rfl|rfl|rfl|rfl|rfl|rfl|rfl|rfl <;>rfl
theorem bju{t:TypeId}(ht: ∀b w K,oy P t (.pointer (some ⟨b,0,none⟩)) w K=ldN P 13 b 0 w K){b:Nat}{inc tr:Int}{a:Option Addr}{n c:Nat}{cs:Array Value}{e:TypeId}(hs:cs.size=13)(S:St w0 w (jd b cs e :: R)){K:KV}(h: ∀w',St w0 w' (jd b (cfC inc tr (.slice a n c)).toArray e :: R)->K (cfA inc tr (.slice a n c)) w'):
  stN P b 0 (cfC inc tr (.slice a n c)) w fun _ w=>oy P t (.pointer (some ⟨b,0,none⟩)) w fun r w'=>w'=w/\K r w:=by
 refine St.put (cs':=(cfC inc tr (.slice a n c)).toArray) S (bpv inc tr a n c) (by simp[cfC,hs]) (by
  have hl:cs.toList.length=13:=by simpa using hs
  simp[cfC,hl]) fun w' S'=>?_
 rw[ht,S'.ldA (n:=13) (i:=0) (cfC inc tr (.slice a n c)) rfl rfl]
 exact⟨rfl,h w' S'⟩
theorem brr(b:Nat)(w:World)(K:KV):oy P T.p (.pointer (some ⟨b,0,none⟩)) w K=ldN P 13 b 0 w K:=kr
theorem bqy(b:Nat)(w:World)(K:KV):oy P T.f (.pointer (some ⟨b,0,none⟩)) w K=ldN P 13 b 0 w K:=kr
theorem avc(S:St w0 w R){K:KV}(h: ∀w' a c,St w0 w' (vn (.slice a 1 c) [101] :: R)->K (cfA 1 4 (.slice a 1 c)) w'):ik P F.dg [] w K:=by
 rw[M.ee.fcall]
 apply M.ee.calls
 unfold M.ee
 have S1:=S.mkB cfZ T.p
 have S2:St w0 ((w.alloc (.cells cfZ T.p)).alloc (.cells #[.int .u64 101] T.a)) (vn (.slice (some ⟨(w.alloc (.cells cfZ T.p)).heap.size,0,none⟩) 1 1) [101] :: _):=St.uh (l:=[(101:Int)]) S1 mw rfl (by simp[maxLen])
 simp only[jg] at S2
 unfold cfZ at S2
 simp
 generalize World.alloc (w.alloc _) _=w2 at *
 generalize w.heap.size+1=rb at *
 generalize w.heap.size=cb at *
 exact bju (inc:=1) (tr:=4) (t:=T.p) brr rfl S2.swap fun w3 S3=>h w3 _ _ S3.drop
theorem bbx{inc tr:Int}{a:Option Addr}{n c:Nat}(S:St w0 w R){K:KV}(h: ∀w',St w0 w' R->K (cfA inc tr (.slice a n c)) w'):ik P F.dt [cfA inc tr (.slice a n c)] w K:=by
 rw[M.ey.fcall]
 apply M.ey.calls
 unfold M.ey cfA
 refine St.uf S fun tb w1 S1=>?_
 have S2:=S1.mkB cfZ T.f
 have cc: ∀{w':World}{L:List Asn},St w0 w' (jd tb (cfC inc tr (.slice a n c)).toArray T.p :: L)->∀i v,(cfC inc tr (.slice a n c))[i]? =some v->iq w' tb i=some v:=fun S' i v hv=>by
  rw[S'.cell]
  simpa using hv
 have c':=cc S2.swap
 have c0:=c' 0 _ rfl
 have c1:=c' 1 _ rfl
 have c2:=c' 2 _ rfl
 have c3:=c' 3 _ rfl
 have c4:=c' 4 _ rfl
 have c5:=c' 5 _ rfl
 have c6:=c' 6 _ rfl
 have c7:=c' 7 _ rfl
 have c8:=c' 8 _ rfl
 have c9:=c' 9 _ rfl
 have c10:=c' 10 _ rfl
 have c11:=c' 11 _ rfl
 have c12:=c' 12 _ rfl
 unfold cfZ at S2 c0 c1 c2 c3 c4 c5 c6 c7 c8 c9 c10 c11 c12
 simp
 generalize w1.heap.size=cb at *
 generalize w1.alloc _=w2 at *
 simp[c0,c1,c2,c3,c4,c5,c6,c7,c8,c9,c10,c11,c12]
 exact bju (inc:=inc) (tr:=tr) (t:=T.f) bqy rfl S2 fun w3 S3=>h w3 S3.drop.drop
def bsk(w0:World)(L:List Asn):KL:=fun x w1=> ∃(u0 u1:Value)(i:Nat),x=[u0,u1,.int .u64 (if i=0 then 0 else 101),.int .i64 (i:Nat)]/\i<=1/\St w0 w1 L
theorem bdr{inc tr:Int}{a:Option Addr}{c:Nat}(S:St w0 w R)(hs: ∀w' L,St w0 w' (L ++ R)->SlU w' (.slice a 1 c) [101])(hi:1<=inc)(htr:1<=tr/\tr<=64){K:KV}(h: ∀w',St w0 w' R->K (.int .i64 0) w'):ik P F.fj [cfA inc tr (.slice a 1 c)] w K:=by
 rw[M.bl.fcall]
 apply M.bl.calls
 unfold M.bl cfA
 refine St.uf S fun tb w1 S1=>?_
 have cc: ∀{w':World}{L:List Asn},St w0 w' L->jd tb (cfC inc tr (.slice a 1 c)).toArray T.f∈L->∀i v,(cfC inc tr (.slice a 1 c))[i]? =some v->iq w' tb i=some v:=fun S' hm i v hv=>by
  obtain⟨s,t,rfl⟩:=List.append_of_mem hm
  rw[(S'.perm List.perm_middle).cell]
  simpa using hv
 have c2:=cc S1 (by simp) 2 _ rfl
 have hln: ∀w' K,biT P .len #[T.g] T.d [false] [.slice a 1 c] w' K=K (.int .i64 1) w':=fun w' K=>(hs w [] S).jv (by kernel_rfl) [false]
 have hs1: ∀w' L,St w0 w' (L ++ (jd tb (cfC inc tr (.slice a 1 c)).toArray T.f :: R))->SlU w' (.slice a 1 c) [101]:=fun w' L S'=>hs w' (L ++ [_]) (by simpa using S')
 simp[c2,hln]
 refine⟨bsk w0 (jd tb (cfC inc tr (.slice a 1 c)).toArray T.f :: R),fun x _=>1 - ms x 3,⟨_,_,0,rfl,Nat.zero_le _,S1⟩,?_⟩
 rintro x w2 ⟨u0,u1,i,rfl,hi1,S2⟩
 have d0:=cc S2 (by simp) 0 _ rfl
 have d1:=cc S2 (by simp) 1 _ rfl
 have d2:=cc S2 (by simp) 2 _ rfl
 have d3:=cc S2 (by simp) 3 _ rfl
 by_cases hi0:i=0
 ·subst hi0
  obtain⟨ab,ao,cap,hv,_,_,hc⟩:=(hs1 w2 [] S2).at (i:=0) (by simp)
  have hia: ∀w' K,iaT P T.g (.slice a 1 c) (.int .i64 0) w' K=K (.pointer (some ⟨ab,ao,none⟩)) w':=fun w' K=>by rw[hv];simp
  have hcell:iq w2 ab ao=some (.int .u64 101):=by simpa [nk] using hc 0 _ rfl
  simp
  unfold M.bl.j2
  simp[hia,hcell,d0,d3]
  exact⟨⟨_,_,1,rfl,Nat.le_refl _,S2⟩,by simp[ms,gv,show IntKind.i64.wrap 1=1 from by decide]⟩
 ·have hi2:i=1:=by omega
  subst hi2
  have d4:=cc S2 (by simp) 4 _ rfl
  have d7:=cc S2 (by simp) 7 _ rfl
  have d9:=cc S2 (by simp) 9 _ rfl
  have d10:=cc S2 (by simp) 10 _ rfl
  simp
  unfold M.bl.j0
  simp[d7,d9,d10]
  refine beo S2 tr 4 10 (fun hb=>by omega) fun g w3 hb e1 e2 e3 _ _ _ _ _ S3=>?_
  have f11:=cc S3 (by simp) 11 _ rfl
  simp[f11]
  refine axo S3 fun w4 kb S4=>?_
  have g0:=cc S4 (by simp) 0 _ rfl
  have g1:=cc S4 (by simp) 1 _ rfl
  have g2:=cc S4 (by simp) 2 _ rfl
  have g3:=cc S4 (by simp) 3 _ rfl
  have g4:=cc S4 (by simp) 4 _ rfl
  have g5:=cc S4 (by simp) 5 _ rfl
  have g6:=cc S4 (by simp) 6 _ rfl
  have g7:=cc S4 (by simp) 7 _ rfl
  have g8:=cc S4 (by simp) 8 _ rfl
  have g12:=cc S4 (by simp) 12 _ rfl
  have hm:min (min 1 inc) 200=1:=by omega
  simp[g0,g1,g2,g3,g4,hln,bfh,hm]
  unfold M.bl.j6
  simp[g5,g6,g7,g8,bhq,bja,g12]
  refine aqx S4 fun w5 v5 S5=>?_
  simp
  exact h w5 S5.drop.drop.drop.drop
end
section
variable {w0 w : World} {R : List Asn}
def afq(inc tr:Int)(rv:Value)(ru se un:Nat):Array Value:= #[.int .u64 1,.int .u64 inc,rv,.int .u64 200,.int .i64 3,.int .u64 5,.int .u64 20,.int .u64 10,.int .u64 4,.int .i64 tr,.int .i64 4,.int .i64 4,.string lq,.slice none 0 0,.pointer none,.pointer none,.pointer none,.map (some ru),.map (some se),.map (some un),.int .u64 0,.int .u64 0,.int .u64 0,.int .u64 0,.slice none 0 0,.slice none 0 0,.int .u64 0,.int .u64 0]
def afh(inc tr:Int)(rep rul:Value)(tb hb kb ru se un:Nat):Cl:=⟨inc,tr,4,lq,rep,rul,tb,hb,kb,ru,se,un,jf,0,0,.slice none 0 0,.slice none 0 0,0,0⟩
theorem bnj{α:Type}{e:TypeId}{sz:Nat}{enc:α->List Value}{v:Value}{l:List α}(he: ∀x,(enc x).length=sz)(S:St w0 w (qa e sz enc v l :: R)):St w0 w (rdA sz enc v l :: R):=by
 obtain⟨B,⟨k1,k2⟩,hB,cl⟩:=S.open
 exact cl w [rdA sz enc v l] (Fr.refl _ _) (Rs.one (B:=B) ⟨k1.sl he,k2⟩ fun x hx=> .inl hx)
theorem bhc{v:Value}(S:St w0 w R)(hs:SlU w v [101]): ∀{K:KV},(∀w' v',St w0 w' (rdA 1 nk v' [101] :: R)->K v' w')->ik P F.x [v] w K:=fun{K} h=>by
 refine acq hs (by simp) fun w4 rv s4 n4 f4=>h w4 rv (S.add f4 (a:=rdA 1 nk rv [101]) (B:=fun x=>rv.ownBlock=some x) ⟨s4,fun b hb=>hb⟩ fun x hx=>⟨n4 x hx,by
  obtain⟨g,hg,hlt⟩:=s4.lt (x:=101) (by simp)
  rw[hx] at hg;cases hg;exact hlt⟩)
theorem ark{inc tr:Int}{a:Option Addr}{c:Nat}(S:St w0 w R)(hs: ∀w' L,St w0 w' (L ++ R)->SlU w' (.slice a 1 c) [101])(hi:1<=inc)(htr:1<=tr/\tr<=64){K:KV}
  (h: ∀w' p (g:Cfg) rep rul tb hb kb ru se un,tr=g.li->(4:Int)=g.kt->10=g.jx->St w0 w' (ky p (afh inc tr rep rul tb hb kb ru se un) (Nd.new 1 inc 5 20 0) g [] [] 0 [] [] [] [] [] ++ R)->K (.tuple #[kl p,.int .i64 0]) w'):ik P F.fa [cfA inc tr (.slice a 1 c),.int .u64 0] w K:=by
 rw[M.dv.fcall]
 apply M.dv.calls
 unfold M.dv cfA
 refine St.uf S fun tb w1 S1=>?_
 have cc: ∀{w':World}{L:List Asn},St w0 w' L->jd tb (cfC inc tr (.slice a 1 c)).toArray T.f∈L->∀i v,(cfC inc tr (.slice a 1 c))[i]? =some v->iq w' tb i=some v:=fun S' hm i v hv=>by
  obtain⟨s,t,rfl⟩:=List.append_of_mem hm
  rw[(S'.perm List.perm_middle).cell]
  simpa using hv
 have ld: ∀{w':World}{L:List Asn},St w0 w' L->jd tb (cfC inc tr (.slice a 1 c)).toArray T.f∈L->∀K,ldN P 13 tb 0 w' K=K (cfA inc tr (.slice a 1 c)) w':=fun S' hm K=>by
  obtain⟨s,t,rfl⟩:=List.append_of_mem hm
  exact (S'.perm List.perm_middle).ldA (n:=13) (i:=0) (cfC inc tr (.slice a 1 c)) rfl rfl K
 have hs1: ∀w' L,St w0 w' (L ++ (jd tb (cfC inc tr (.slice a 1 c)).toArray T.f :: R))->SlU w' (.slice a 1 c) [101]:=fun w' L S'=>hs w' (L ++ [_]) (by simpa using S')
 simp only[ir]
 simp[ld S1]
 refine bdr S1 hs1 hi htr fun w2 S2=>?_
 simp
 unfold M.dv.j0
 have S3:=((S2.akk .u64).akk .u64).akk .u64
 simp[ld S2,zu]
 have S4:=S3.mkB (afq inc tr (.slice a 1 c) w2.heap.size (w2.heap.size+1) (w2.heap.size+1+1)) T.b
 simp only[jg] at S4 S3
 have bld: ∀(x1 x2 x3:Nat) w K,jq P T.b #[(0,cfA inc tr (.slice a 1 c)),(10,.int .u64 0),(9,.int .u64 0),(5,.map (some x1)),(6,.map (some x2)),(7,.map (some x3))] w K=K (.agg (afq inc tr (.slice a 1 c) x1 x2 x3)) w:=fun x1 x2 x3 w K=>by simp[cfA,cfC,afq]
 rw[bld]
 have hcl: ∀x1 x2 x3,(Value.agg (afq inc tr (.slice a 1 c) x1 x2 x3)).cells=afq inc tr (.slice a 1 c) x1 x2 x3:=fun _ _ _=>rfl
 simp only[hcl,jg]
 generalize w2.heap.size+1+1+1=p at *
 generalize w2.heap.size+1+1=un at *
 generalize w2.heap.size+1=se at *
 generalize w2.heap.size=ru at *
 generalize World.alloc (World.alloc (World.alloc (w2.alloc _) _) _) _=w4 at *
 have d2:=cc S4 (by simp) 2 _ rfl
 simp[d2]
 refine bhc S4 (hs1 _ [_,_,_,_] S4) fun w5 rep S5=>?_
 obtain⟨ra,rc,hrep,_⟩:=S5.rd
 subst hrep
 simp
 refine St.oh S5.swap rfl (by simp[afq]) fun w6 S6=>?_
 have d12:=cc S6 (.tail _ (.tail _ (.tail _ (.tail _ (.tail _ (.head _)))))) 12 _ rfl
 simp[d12]
 refine aqx S6 fun w7 rul S7=>?_
 obtain⟨ua,uc,hrul,_⟩:=S7.row yj
 subst hrul
 simp
 refine St.oh S7.swap rfl (by simp[afq]) fun w8 S8=>?_
 have e0:=cc S8 (.tail _ (.tail _ (.tail _ (.tail _ (.tail _ (.tail _ (.head _))))))) 0 _ rfl
 have e1:=cc S8 (.tail _ (.tail _ (.tail _ (.tail _ (.tail _ (.tail _ (.head _))))))) 1 _ rfl
 have e5:=cc S8 (.tail _ (.tail _ (.tail _ (.tail _ (.tail _ (.tail _ (.head _))))))) 5 _ rfl
 have e6:=cc S8 (.tail _ (.tail _ (.tail _ (.tail _ (.tail _ (.tail _ (.head _))))))) 6 _ rfl
 simp[e0,e1,e5,e6]
 refine bml S8 (by decide) (show 0<=inc by omega) (by decide) (by decide) (fun hb=>by omega) fun _ _ _ _ w9 nb S9=>?_
 simp[zi]
 refine St.oh S9.swap rfl (by simp[afq]) fun w10 S10=>?_
 have f9:=cc S10 (.tail _ (.tail _ (.tail _ (.tail _ (.tail _ (.tail _ (.tail _ (.head _)))))))) 9 _ rfl
 have f10:=cc S10 (.tail _ (.tail _ (.tail _ (.tail _ (.tail _ (.tail _ (.tail _ (.head _)))))))) 10 _ rfl
 have f7:=cc S10 (.tail _ (.tail _ (.tail _ (.tail _ (.tail _ (.tail _ (.tail _ (.head _)))))))) 7 _ rfl
 simp[f9,f10,f7]
 refine beo S10 tr 4 10 (fun hb=>by omega) fun g w11 hb g1 g2 g3 _ _ _ _ _ S11=>?_
 simp
 refine St.oh S11.swap rfl (by simp[afq]) fun w12 S12=>?_
 have f11:=cc S12 (.tail _ (.tail _ (.tail _ (.tail _ (.tail _ (.tail _ (.tail _ (.tail _ (.head _))))))))) 11 _ rfl
 simp[f11]
 refine axo S12 fun w13 kb S13=>?_
 simp
 refine St.oh S13.swap rfl (by simp[afq]) fun w14 S14=>?_
 refine h w14 p g (.slice ra 1 rc) (.slice ua 1 uc) nb hb kb ru se un g1 g2 g3 ?_
 have S15:St w0 w14 (clA p (afh inc tr (.slice ra 1 rc) (.slice ua 1 uc) nb hb kb ru se un) :: _):=S14
 have S16:=bnj yj (S15.pick (L:=[_,_,_,_,_,_,_,_,_,_]) [4,0,1,2,3,5,6,7,8] 10 rfl (by decide))
 have S17:St w0 w14 (nh (.slice none 0 0) [] :: nc (.slice none 0 0) [] :: _):=Go.Eng.ye (Go.Eng.ye S16)
 exact S17.pick (L:=[_,_,_,_,_,_,_,_,_,_,_]) [3,6,5,4,0,1,7,2,10,9,8] 11 rfl (by decide)
end
def s7:Spn:=⟨7,1,0,0,0,⟨#[97]⟩,⟨#[98]⟩,true⟩
def g4:Cfg:=⟨4,4,10⟩
theorem amp:ll s7=0:=by decide+kernel
theorem bpj:uk g4 [] s7=[⟨7,[s7],false⟩]/\rt g4 [] s7=0/\ada g4 [] [] s7 0=[(7,10)]:=by
 unfold uk rt ada
 rw[amp]
 refine⟨rfl,rfl,rfl⟩
theorem bok:qh [(7,10)] 10=[7]:=by decide+kernel
theorem bpl:rq ((Nd.new 1 1 5 20 0).ro 10 0).1=1:=by decide+kernel
theorem awl:ve ⟨7,[s7],false⟩=1:=by decide+kernel
theorem bpc{x:Int}(h0:0<=x)(h1:x < 18446744073709551616):IntKind.u8.wrap (IntKind.u64.wrap ((BitVec.ofInt IntKind.u64.bits x &&& BitVec.ofInt IntKind.u64.bits 255).toNat:Nat))=b8 x:=by
 obtain⟨n,rfl⟩:=Int.eq_ofNat_of_zero_le h0
 have hn:n < 18446744073709551616:=by omega
 have h2:(BitVec.ofInt IntKind.u64.bits ((n:Nat):Int) &&& BitVec.ofInt IntKind.u64.bits 255).toNat=n % 256:=by
  rw[BitVec.toNat_and]
  have e1:(BitVec.ofInt IntKind.u64.bits ((n:Nat):Int)).toNat=n:=acx hn
  have e2:(BitVec.ofInt IntKind.u64.bits 255).toNat=2 ^ 8 - 1:=by decide
  rw[e1,e2,Nat.and_two_pow_sub_one_eq_mod]
 rw[h2,za (by omega)]
 unfold b8 IntKind.wrap
 simp[IntKind.bits,IntKind.signed]
section
variable {w0 w : World} {R : List Asn}
def E8I(w0:World)(n:Int)(R:List Asn):KL:=fun x w1=> ∃(v:Value)(k:Nat),x=[v,.int .i64 (7 - (k:Int))]/\k<=8/\St w0 w1 (aaw v ((og n).take k) :: R)
theorem bgm(S:St w0 w R){n:Int}(hn:aao n){K:KV}(h: ∀w' v',St w0 w' (aaw v' (og n) :: R)->K v' w'):ik P F.ei [.int .u64 n] w K:=by
 obtain⟨n0,n1⟩:=hn
 rw[M.cu.fcall]
 apply M.cu.calls
 unfold M.cu
 simp only[ir]
 refine⟨E8I w0 n R,fun x _=>bns x,⟨_,0,rfl,by omega,by simpa using Go.Eng.ye S⟩,?_⟩
 rintro x w1 ⟨v,k,rfl,hk,S⟩
 have q0:gv [v,.int .i64 (7 - (k:Int))] 0=v:=rfl
 have q1:gv [v,.int .i64 (7 - (k:Int))] 1= .int .i64 (7 - (k:Int)):=rfl
 simp only[q1]
 by_cases hil:k < 8
 ·have hil':(0:Int)<=7 - (k:Int):=by omega
  have hw8:IntKind.i64.wrap (8 * (7 - (k:Int)))=56 - 8 * (k:Int):=by rw[jc];omega
  have hwu:IntKind.u64.wrap (56 - 8 * (k:Int))=56 - 8 * (k:Int):=mu (by omega) (by omega)
  have hwi:IntKind.i64.wrap (7 - (k:Int) - 1)=7 - ((k+1:Nat):Int):=by rw[jc];omega
  have htn:(56 - 8 * (k:Int)).toNat=56 - 8 * k:=by omega
  simp only[su]
  rw[decide_eq_true hil']
  simp only[il]
  unfold M.cu.j2
  have hp:(0:Int) < 2 ^ min (56 - 8 * k) IntKind.u64.bits:=Int.pow_pos (by decide)
  have g0:0<=n.fdiv (2 ^ min (56 - 8 * k) IntKind.u64.bits):=Int.fdiv_nonneg n0 (by omega)
  have g1:n.fdiv (2 ^ min (56 - 8 * k) IntKind.u64.bits) < 18446744073709551616:=by
   rw[Int.fdiv_eq_ediv_of_nonneg _ (by omega)]
   exact Int.lt_of_le_of_lt (Int.ediv_le_self _ n0) n1
  have hsh: ∀(rx ry:Operand)(w:World)(K:KV),iy P .shr T.a rx ry (.int .u64 n) (.int .u64 (56 - 8 * (k:Int))) w K=K (.int .u64 (n.fdiv (2 ^ min (56 - 8 * k) IntKind.u64.bits))) w:=fun rx ry w K=>by rw[adx (by omega),htn]
  have hcu: ∀w K,cvT P T.d T.bu (.int .i64 (56 - 8 * (k:Int))) w K=K (.int .u64 (56 - 8 * (k:Int))) w:=fun w K=>by rw[pw (ks:= .i64) (kd:= .u64) (by kernel_rfl) (by kernel_rfl),hwu]
  have hcb: ∀w K,cvT P T.a T.be (.int .u64 (IntKind.u64.wrap ((BitVec.ofInt IntKind.u64.bits (n.fdiv (2 ^ min (56 - 8 * k) IntKind.u64.bits)) &&& BitVec.ofInt IntKind.u64.bits 255).toNat:Nat))) w K=K (.int .u8 (b8 (n.fdiv (2 ^ min (56 - 8 * k) IntKind.u64.bits)))) w:=fun w K=>by rw[pw (ks:= .u64) (kd:= .u8) (by kernel_rfl) (by kernel_rfl),bpc g0 g1]
  simp only[q0,q1,ir,xy,hw8,hcu,hsh,ape,hcb]
  simp
  have S1:=bgz S (b8 (n.fdiv (2 ^ min (56 - 8 * k) IntKind.u64.bits)))
  refine Go.Eng.wt et.t pe abw S1.swap (l2:=[b8 (n.fdiv (2 ^ min (56 - 8 * k) IntKind.u64.bits))]) (S1.row pe) (by simp[ur];omega) (by decide) fun w2 v2 S2=>?_
  rw[hwi]
  refine⟨⟨v2,k+1,rfl,by omega,?_⟩,by simp[bns,gv];omega⟩
  rw[axu n hil]
  exact S2.swap.drop
 ·have hk8:k=8:=by omega
  subst hk8
  have hil': ¬(0:Int)<=7 - ((8:Nat):Int):=by omega
  simp only[su]
  rw[decide_eq_false hil']
  simp only[il]
  rw[List.take_of_length_le (by rw[ur];omega)] at S
  exact h w1 v S
theorem aqj{v:Value}{l:List Int}(S:St w0 w (aaw v l :: R))(s:ByteArray)(hs:s.size<=32)(hl:l.length<=1000000){K:KV}(h: ∀w' v',St w0 w' (aaw v' (l ++ aem s) :: R)->K v' w'):ik P F.dk [v,.string s] w K:=by
 rw[M.em.fcall]
 apply M.em.calls
 unfold M.em
 have hw8:IntKind.u8.wrap (s.size:Int)=(s.size:Int):=by
  unfold IntKind.wrap
  simp[IntKind.bits,IntKind.signed]
  omega
 have hcv: ∀w' K',cvT P T.d T.be (.int .i64 (s.size:Int)) w' K'=K' (.int .u8 (s.size:Int)) w':=fun w' K'=>by
  rw[pw (ks:= .i64) (kd:= .u8) (by kernel_rfl) (by kernel_rfl),hw8]
 simp[hcv]
 have S8:=bgz S (s.size:Int)
 refine Go.Eng.wt et.t pe abw S8.swap (l2:=[(s.size:Int)]) (S8.row pe) (by simp;omega) (by decide) fun w9 v9 S9=>?_
 refine bne et.t (by kernel_rfl) (by kernel_rfl) (fun _=>rfl) S9 s (by simp;omega) fun w10 v10 S10=>?_
 refine h w10 v10 ?_
 have:=S10.swap.drop
 rw[List.append_assoc] at this
 exact this
def RpI(w0:World)(s:Spn)(R:List Asn):KL:=fun x w1=> ∃(v:Value)(i:Nat),x=[v,.int .i64 (i:Nat)]/\i<=5/\St w0 w1 (aaw v (((tw s).take i).flatMap og) :: R)
theorem bdb(S:St w0 w R){s:Spn}(hr:ll s=0)(hR:ahx s){K:KV}(h: ∀w' v',St w0 w' (aaw v' (ahj s) :: R)->K (.tuple #[v',.int .i64 0]) w'):ik P F.fi [.slice none 0 0,lw s] w K:=by
 obtain⟨n1,n2⟩:=aql hr
 rw[M.bf.fcall]
 apply M.bf.calls
 unfold M.bf
 refine St.uf S fun b w1 S1=>?_
 have S1':St w0 w1 (jd b (jz s).toArray T.j :: R):=S1
 have cl: ∀{w':World}{L:List Asn},St w0 w' (jd b (jz s).toArray T.j :: L)->iq w' b 0=some (.int .u64 s.jj)/\iq w' b 1=some (.int .u64 s.id)/\iq w' b 2=some (.int .u64 s.nn)/\iq w' b 3=some (.int .u64 s.km)/\iq w' b 4=some (.int .u64 s.len)/\iq w' b 5=some (.string s.kz)/\iq w' b 6=some (.string s.name)/\iq w' b 7=some (.bool s.pp):=fun S'=>by
  refine⟨?_,?_,?_,?_,?_,?_,?_,?_⟩ <;>rw[S'.cell] <;>rfl
 have sl: ∀K,ldN P 8 b 0 w1 K=K (lw s) w1:=fun K=>S1'.ldA (n:=8) (i:=0) (jz s) rfl rfl K
 simp[sl]
 rw[M.ct.fcall]
 refine avs s fun w2 f2=>?_
 rw[hr]
 have S2:=S1'.ju f2
 simp
 unfold M.bf.j0
 have hb0: ∀w' K,bsT P T.t 0 #[] w' K=K (.slice (some ⟨w'.heap.size,0,none⟩) 0 0) (w'.alloc (.cells #[] T.be)):=fun w' K=>kr
 have S3:St w0 (w2.alloc (.cells #[] T.be)) (aaw (.slice (some ⟨w2.heap.size,0,none⟩) 0 0) [] :: _):=St.uh (l:=[]) S2 pe rfl (by simp)
 simp only[hb0]
 generalize w2.heap.size=eb at *
 generalize w2.alloc _=w3 at *
 refine Go.Eng.wt et.t pe abw S3 (l2:=[]) Sl.nil (by simp) (by decide) fun w4 v4 S4=>?_
 simp only[List.append_nil] at S4
 obtain⟨c0,c1,c2,c3,c4,_⟩:=cl S4.swap
 simp[c0,c1,c2,c3,c4]
 have S5:St w0 (w4.alloc (.cells #[.int .u64 s.jj,.int .u64 s.id,.int .u64 s.nn,.int .u64 s.km,.int .u64 s.len] T.a)) (tm (.slice (some ⟨w4.heap.size,0,none⟩) 5 5) (tw s) :: _):=St.uh (l:=tw s) S4 (fun _=>rfl) rfl (by simp[maxLen,tw])
 generalize w4.heap.size=fb at *
 generalize w4.alloc _=w5 at *
 have hl5: ∀i,(((tw s).take i).flatMap og).length<=40:=fun i=>by
  rw[aoj,List.length_take]
  have:(tw s).length=5:=rfl
  omega
 refine⟨RpI w0 s (tm (.slice (some ⟨fb,0,none⟩) 5 5) (tw s) :: jd b (jz s).toArray T.j :: R),fun x _=>5 - ms x 1,⟨_,0,rfl,Nat.zero_le _,by simpa using S5.swap⟩,?_⟩
 rintro x w6 ⟨v6,i,rfl,hi,S6⟩
 by_cases hil:i < 5
 ·have hili:(i:Int) < 5:=by omega
  have hwi:IntKind.i64.wrap ((i:Int)+1)=((i+1:Nat):Int):=by rw[jc];rfl
  have hil5:i < (tw s).length:=hil
  obtain⟨gb,go,gc,ge,_,_,hc⟩:=(S6.swap.row (fun _=>rfl):Sl w6 1 Suint64.qe (.slice (some ⟨fb,0,none⟩) 5 5) (tw s)).at hil5
  injection ge with ge _ _
  injection ge with ge
  injection ge with ge1 ge2 _
  subst ge1 ge2
  have hcell:iq w6 fb i=some (.int .u64 ((tw s)[i]'hil5)):=by simpa [Suint64.qe] using hc 0 _ rfl
  simp[hili]
  unfold M.bf.j3
  simp[hcell,hili]
  have hu:aao ((tw s)[i]'hil5):=by
   match i,hil5 with
   | 0,_=>exact hR.tr
   | 1,_=>exact hR.id
   | 2,_=>exact hR.par
   | 3,_=>exact hR.st
   | 4,_=>exact hR.ln
   | k+5,h=>exact absurd h (by simp[tw])
  refine bgm S6 hu fun w7 v7 S7=>?_
  refine Go.Eng.wt et.t pe abw S7.swap (S7.row pe) (by have:=hl5 i;rw[ur];omega) (by decide) fun w8 v8 S8=>?_
  simp[hwi]
  refine⟨⟨_,i+1,rfl,by omega,?_⟩,by simp[ms,gv];omega⟩
  have e:(((tw s).take (i+1)).flatMap og)=(((tw s).take i).flatMap og) ++ og ((tw s)[i]'hil5):=by
   rw[List.take_add_one,List.getElem?_eq_getElem hil5,List.flatMap_append]
   simp
  rw[e]
  exact S8.swap.drop
 have hi5:i=5:=by omega
 subst hi5
 have e5:(tw s).take 5=tw s:=rfl
 rw[e5] at S6
 have hl6:=hl5 5
 rw[e5] at hl6
 obtain⟨_,_,_,_,_,d5,d6,d7⟩:=cl S6.up2
 have po: ∀(fb':Int)(y z:List Value),fb'=afl s.pp->gv y 0= .int .u8 fb'->gv z 1=v6->M.bf.j5 (.pointer (some ⟨b,0,none⟩)) y z w6 K:=fun fb' y z hfb y0 z1=>by
  unfold M.bf.j5
  rw[y0,z1]
  have S7:=S6.ju ((Fr.refl _ w6).dr 1)
  obtain⟨_,_,_,_,_,g5,g6,_⟩:=cl S7.up2
  simp[g5,g6]
  have S8:=bgz S7 fb'
  have hsz:(dr w6 1).heap.size=w6.heap.size:=rfl
  rw[hsz] at S8
  generalize w6.heap.size=ob at *
  generalize World.alloc _ _=w8 at *
  obtain⟨_,_,_,_,_,g5,g6,_⟩:=cl S8.up3
  simp[g5,g6]
  refine Go.Eng.wt et.t pe abw S8.swap (S8.row pe) (by simp only[List.length_cons,List.length_nil];omega) (by decide) fun w9 v9 S9=>?_
  obtain⟨_,_,_,_,_,g5,g6,_⟩:=cl S9.up3
  simp[g5,g6]
  refine aqj S9 s.kz n1 (by simp only[List.length_append,List.length_cons,List.length_nil];omega) fun w10 v10 S10=>?_
  obtain⟨_,_,_,_,_,_,g6,_⟩:=cl S10.up3
  simp[g6]
  refine aqj S10 s.name n2 (by simp only[aem,List.length_append,List.length_cons,List.length_nil,aet];omega) fun w11 v11 S11=>?_
  refine h w11 v11 ?_
  have e2:(tw s).flatMap og ++ [fb'] ++ aem s.kz ++ aem s.name=ahj s:=by rw[hfb];rfl
  rw[e2] at S11
  exact S11.swap.drop.swap.drop.swap.drop
 cases hf:s.pp with
 | true=>
  rw[hf] at d7
  simp[d7]
  exact po 1 _ _ (by rw[hf];rfl) rfl rfl
 | false=>
  rw[hf] at d7
  simp[d7]
  exact po 0 _ _ (by rw[hf];rfl) rfl rfl
end
section
variable {w0 w : World} {R : List Asn} {p : Nat} {q : Cl} {n : Nd} {g : Cfg} {A : List AE} {c : CT} {a0 : Int} {m rm um : MP} {es : List Evn} {ls : List Ltr}
theorem ahi(S:St w0 w (ky p q n g A c a0 m es ls rm um ++ R))(hA:A.length<=1000){K:KV}(h: ∀w' v,St w0 w' (vn v (jk A) :: (ky p q n g A c a0 m es ls rm um ++ R))->K v w'):ik P F.aw [kl p] w K:=by
 rw[M.cd.fcall]
 apply M.cd.calls
 unfold M.cd
 obtain⟨_,_,_,_,_,_,c15,_⟩:=ni (p:=p) (q:=q) S (by simp)
 simp only[kl]
 simp[c15]
 refine aki (S.pick (L:=[_,_,_,_,_,_,_,_,_,_,_]) [2,0,1,3,4,5,6,7,8,9,10] 11 rfl (by decide)) hA fun w2 v2 S2=>?_
 exact h w2 v2 (S2.pick (L:=[_,_,_,_,_,_,_,_,_,_,_,_]) [0,2,3,1,4,5,6,7,8,9,10,11] 12 rfl (by decide))
theorem baz:ahx s7:=by
 constructor <;>(unfold s7;first|decide|exact⟨by decide,by decide⟩)
def ul:Bal:=⟨1,4294967297⟩
theorem ayv{tb hb kb ru se un:Nat}{rep rul:Value}(S:St w0 w (ky p (afh 1 4 rep rul tb hb kb ru se un) (Nd.new 1 1 5 20 0) g4 [] [] 0 [] [] [] [] [] ++ R)){x0:List Value}{K:KV}(h: ∀w',St w0 w' R->K (.bool true) w'):M.bn.j0 (kl p) x0 w K:=by
 unfold M.bn.j0
 have hs7: ∀w K,jq P T.j #[(0,.int .u64 7),(1,.int .u64 1),(5,.string ⟨#[97]⟩),(6,.string ⟨#[98]⟩),(7,.bool true)] w K=K (lw s7) w:=fun w K=>by simp[lw,s7]
 rw[hs7]
 refine bdb S amp baz fun w1 rv S1=>?_
 simp
 have hnok:qk (Nd.new 1 1 5 20 0):=awm (by omega) (by omega) (by omega) (by omega) (by omega)
 have hsol:adg (Nd.new 1 1 5 20 0) 1:=⟨rfl,rfl⟩
 have S2:St w0 w1 (aew p (afh 1 4 rep rul tb hb kb ru se un) (Nd.new 1 1 5 20 0) g4 [] [] 0 [] ++ (aaw rv (ahj s7) :: nc (.slice none 0 0) [] :: rdA 1 nk rep [101] :: rdA 4 mf rul [ko] :: jm ru .u64 [] :: jm se .u64 [] :: jm un .u64 [] :: R)):=S1.pick (L:=[_,_,_,_,_,_,_,_,_,_,_,_]) [1,2,3,4,5,0,6,7,8,9,10,11] 12 rfl (by decide)
 refine bbn S2 hnok (aez hnok hsol) (fun w' L S'=>ut S' (e:=T.be) (v:=rv) (by simp) pe) amp baz (show (0:Int)<=0 by decide) (show (0:Int)<=18446744073709551615 by decide) (by decide) (by decide) (by simp) (by simp) (by decide) (by simp) fun w2 ev S3=>?_
 obtain⟨p1,p2,p3⟩:=bpj
 simp only[show max (afh 1 4 rep rul tb hb kb ru se un).now 0=0 from rfl,p1,p2,p3] at S3⊢
 simp
 have S4:St w0 w2 (ky p {afh 1 4 rep rul tb hb kb ru se un with ev:=ev} (Nd.new 1 1 5 20 0) g4 [⟨7,[s7],false⟩] [(7,10)] 0 [] [uz 0 0 s7] [] [] [] ++ R):=S3.pick (L:=[_,_,_,_,_,_,_,_,_,_,_,_]) [0,1,2,3,4,6,7,8,9,10,11] 12 rfl (by decide)
 have hy: ∀n',n'=((Nd.new 1 1 5 20 0).ro 10 0).1->nxB {afh 1 4 rep rul tb hb kb ru se un with ev:=ev} n'=(ul,0):=fun n' e=>by
  subst e
  unfold nxB
  rw[bpl]
  rfl
 refine bkr (e:=⟨7,[s7],false⟩) (inc:=1) S4 hnok hsol (by simp) ⟨show (0:Int)<=0 by decide,show (0:Int)<=18446744073709551615 by decide⟩ (by decide) ⟨show (0:Int)<=0 by decide,show (0:Int)<=0 by decide⟩ (by decide) (show (1:Int)<=1 by decide) (show jf.rng from⟨⟨by decide,by decide⟩,⟨by decide,by decide⟩⟩) (fun e he=>by simp at he;subst he;simp) (by simp) (by simp) (by simp) (by decide) bok (fun n' e=>by rw[hy n' e,awl];exact⟨rfl,by decide,by decide⟩) fun w3 ov rb ag n' hag hn' S5=>?_
 rw[hy n' hn',awl] at S5
 have hn7:qk n':=by rw[hn'];exact agb hnok ⟨show (0:Int)<=10 by decide,show (10:Int) < 18446744073709551616 by decide⟩
 have hs7':adg n' 1:=by rw[hn'];exact (aqp hsol).1
 clear hn' hy hag
 have S6:St w0 w3 (clA p ⟨1,4,4,lq,rep,rul,tb,hb,kb,ru,se,un,ul,ag,10,ov,ev,0,0⟩ :: nc ov (pu [101] (uj 7 ul 1 0) qv) :: ki tb n' :: ns hb g4 [⟨7,[s7],false⟩] (px [(7,10)] 7 (acn 10)) :: qf kb 0 [] :: nh ev [uz 0 0 s7] :: rdA 1 nk rep [101] :: rdA 4 mf rul [ko] :: jm ru .u64 [(7,.pointer (some ⟨rb,0,none⟩))] :: jm se .u64 [] :: jm un .u64 [] :: qm rb 7 ul 1 0 :: R):=S5.pick (L:=[_,_,_,_,_,_,_,_,_,_,_]) [0,5,1,2,3,4,6,7,8,9,10] 11 rfl (by decide)
 refine bbr S6 fun w4 S7=>?_
 have S8:St w0 w4 (ky p ⟨1,4,4,lq,rep,rul,tb,hb,kb,ru,se,un,ul,ag,10,.slice none 0 0,ev,0,0⟩ n' g4 [⟨7,[s7],false⟩] (px [(7,10)] 7 (acn 10)) 0 [] [uz 0 0 s7] [] [(7,.pointer (some ⟨rb,0,none⟩))] [] ++ (qm rb 7 ul 1 0 :: nc ov (pu [101] (uj 7 ul 1 0) qv) :: R)):=(Go.Eng.ye S7:St w0 w4 (nc (.slice none 0 0) [] :: _)).pick (L:=[_,_,_,_,_,_,_,_,_,_,_,_,_]) [1,3,4,5,6,0,7,8,9,10,11,12,2] 13 rfl (by decide)
 have hlt:Sl w4 13 ltC ov (pu [101] (uj 7 ul 1 0) qv):=ut S8 (e:=T.bj) (by simp) abq
 obtain⟨ab,ao,cap,hv,_,_,hc⟩:=hlt.at (i:=0) (by simp[pu])
 have hia: ∀w' K,iaT P T.ah ov (.int .i64 0) w' K=K (.pointer (some ⟨ab,ao,none⟩)) w':=fun w' K=>by rw[hv];simp[pu]
 have hln: ∀w' K,biT P .len #[T.ah] T.d [false] [ov] w' K=K (.int .i64 1) w':=fun w' K=>hlt.jv (by kernel_rfl) [false]
 have k1:iq w4 ab (ao+1)=some (.int .u64 101):=by simpa [ltC,pu] using hc 1 _ rfl
 have k2:iq w4 ab (ao+2)=some (.int .i64 4):=by simpa [ltC,pu,pkC,uj] using hc 2 _ rfl
 have k4:iq w4 ab (ao+4)=some (.int .u64 1):=by simpa [ltC,pu,pkC,uj,ul] using hc 4 _ rfl
 have k5:iq w4 ab (ao+5)=some (.int .u64 4294967297):=by simpa [ltC,pu,pkC,uj,ul] using hc 5 _ rfl
 have kb2: ∀K,ldN P 2 ab (ao+4) w4 K=K (la ul) w4:=fun K=>tk (vz ul) 2 rfl (fun k u hk=>by
  match k,hk with
  | 0,hk=>injection hk with hk;subst hk;exact k4
  | 1,hk=>injection hk with hk;subst hk;exact k5
  | k+2,hk=>simp[vz] at hk) K
 simp[hln,hia,k1,k2]
 unfold M.bn.j1
 simp[hia,kb2]
 have S9:=(adp S8).pick (L:=[_,_,_,_,_,_,_,_,_,_,_,_,_,_]) [1,2,3,4,5,6,7,8,9,10,11,12,0,13] 14 rfl (by decide)
 generalize w4.heap.size=tb2 at *
 generalize w4.alloc _=w5 at *
 have lb: ∀{w':World}{L:List Asn},St w0 w' L->baB tb2 ul∈L->∀K,ldN P 2 tb2 0 w' K=K (la ul) w':=fun S' hm K=>by
  obtain⟨s,t,rfl⟩:=List.append_of_mem hm
  exact (S'.perm List.perm_middle).ldA (n:=2) (i:=0) (vz ul) rfl rfl K
 have hb7:ul.rng:=⟨⟨by decide,by decide⟩,⟨by decide,by decide⟩⟩
 have bld: ∀(half:Int)(k:Int),k=(if half=1 then 7 else 5)->∀w' K,jq P T.c #[(0,.int .i64 k),(1,.int .u64 7),(2,la ul),(5,.bool true)] w' K=K (pkA (rh 7 ul half)) w':=fun half k hk w' K=>by
  subst hk
  simp[la,pkA,pkC,rh,pk0,jf]
 refine afg (b:=tb2) (x:=jf) (y:=ul) (S9.pick (L:=[_,_,_,_,_,_,_,_,_,_,_,_,_,_]) [12,0,1,2,3,4,5,6,7,8,9,10,11] 14 rfl (by decide)) fun w6 S10=>?_
 have S11:St w0 w6 (ky p ⟨1,4,4,lq,rep,rul,tb,hb,kb,ru,se,un,ul,ag,10,.slice none 0 0,ev,0,0⟩ n' g4 [⟨7,[s7],false⟩] (px [(7,10)] 7 (acn 10)) 0 [] [uz 0 0 s7] [] [(7,.pointer (some ⟨rb,0,none⟩))] [] ++ (qm rb 7 ul 1 0 :: baB tb2 ul :: R)):=S10.pick (L:=[_,_,_,_,_,_,_,_,_,_,_,_,_]) [1,2,3,4,5,6,7,8,9,10,11,12,0] 13 rfl (by decide)
 simp[lb S10 (.head _),bld 0 5 rfl]
 refine anc S11 (.inl rfl) (by decide) hb7 (by decide) fun w7 S12=>?_
 refine ayb S12 (by decide) hb7 (by decide) (by simp) fun w8 ov2 S13=>?_
 simp[lb S13 (by simp),bld 1 7 rfl]
 refine anc S13 (.inr rfl) (by decide) hb7 (by decide) fun w9 S14=>?_
 refine bcg (s:=s7) S14 hn7 hs7' (show (0:Int) < 4 by decide) (by simp) (by simp) (by simp) (by simp) (by decide) hb7 (by decide) (by simp[pu]) fun w10 ov3 ev3 uv ls' S15=>?_
 refine azb (S15.pick (L:=[_,_,_,_,_,_,_,_,_,_,_]) [0,3] 11 rfl (by decide)) 7 ?_
 simp[kh]
 refine aiq (S15.pick (L:=[_,_,_,_,_,_,_,_,_,_,_]) [0,10,1,2,3,4,5,6,7,8,9] 11 rfl (by decide)) (by simp) fun w11 v11 S16=>?_
 have hl1:(Suint64.qi (jp [((7:Int),uv)])).length=1:=by rw[(Suint64.ny _).length_eq];rfl
 have hln1:=fun w' K=>ahp (w':=w') (K:=K) (S16.row mw)
 rw[hl1] at hln1
 simp[hln1]
 have S17:St w0 w11 (ky p ⟨1,4,4,lq,rep,rul,tb,hb,kb,ru,se,un,ul,ag,12,ov3,ev3,0,0⟩ n' g4 (tq [⟨7,[s7],false⟩] 7) (rj (px [(7,10)] 7 (acn 10)) 7) 7 [(7,.int .i64 1)] ([uz 0 0 s7] ++ [afz 12 7 s7]) ls' [] [(7,uv)] ++ (baB tb2 ul :: R)):=S16.pick (L:=[_,_,_,_,_,_,_,_,_,_,_,_]) [1,3,4,5,6,7,8,9,10,11,2] 12 rfl (by decide)
 refine ahi S17 (by simp[tq]) fun w12 v12 S18=>?_
 have hl0:(jk (tq [⟨7,[s7],false⟩] 7)).length=0:=by
  unfold jk
  rw[(Suint64.ny _).length_eq]
  simp[tq]
 have hln0:=fun w' K=>ahp (w':=w') (K:=K) (S18.row mw)
 rw[hl0] at hln0
 simp[hln0]
 exact h w12 ((S18.pick (L:=[_,_,_,_,_,_,_,_,_,_,_,_,_]) [] 13 rfl (by decide)))
theorem aom(S:St w0 w R){K:KV}(h: ∀w',St w0 w' R->K (.bool true) w'):ik P F.bv [] w K:=by
 rw[M.bn.fcall]
 apply M.bn.calls
 unfold M.bn
 refine avc S fun w1 a c S1=>?_
 refine bbx S1 fun w2 S2=>?_
 refine ark S2 (fun w' L S'=>ut S' (e:=T.a) (sz:=1) (enc:=Suint64.qe) (v:= .slice a 1 c) (l:=[101]) (by simp) mw) (by decide) (by decide) fun w3 p g rep rul tb hb kb ru se un g1 g2 g3 S3=>?_
 have hg:g=g4:=by
  obtain⟨a,b,c⟩:=g
  have h1:(4:Int)=a:=g1
  have h2:(4:Int)=b:=g2
  have h3:(10:Int)=c:=g3
  unfold g4
  rw[show a=4 by omega,show b=4 by omega,<-h3]
 subst hg
 simp only[ir]
 simp
 exact ayv S3 fun w4 S4=>h w4 S4.drop
end
structure SV where
 a:Option Addr
 n:Nat
 c:Nat
def SV.v(s:SV):Value:= .slice s.a s.n s.c
abbrev PB:=SV×List Int
def bfs(x:PB):List Value:=[x.1.v]
def SlP(w:World)(v:Value)(l:List PB):Prop:=Sl w 1 bfs v l/\∀x∈l,SlB w x.1.v x.2
section
variable {w0 w w' : World} {R : List Asn} {v : Value} {l : List PB} {ls : List (List Int)}
theorem SlP.fr(h:SlP w v l)(hf:Fz w w'):SlP w' v l:=⟨h.1.fr hf fun _ _ _ h=>h,fun x hx=>(h.2 x hx).fr hf fun _ _ _ h=>h⟩
theorem SlP.len(h:SlP w v l)(w':World)(K:KV):biT P .len #[T.br] T.d [false] [v] w' K=K (.int .i64 l.length) w':=h.1.jv (by kernel_rfl) [false]
theorem SlP.at(h:SlP w v l){i:Nat}(hi:i < l.length): ∃b o s,(∀w' K,iaT P T.br v (.int .i64 (i:Nat)) w' K=K (.pointer (some ⟨b,o,none⟩)) w')/\(∀{w1},SlP w1 v l->iq w1 b o=some (SV.v s))/\∀{w1},SlP w1 v l->SlB w1 (SV.v s) l[i].2:=by
 obtain⟨b,o,cap,hv,_,_,hc⟩:=h.1.at hi
 refine⟨b,o+i,l[i].1,fun w' K=>by rw[hv];simp[hi],fun{w1} h1=>?_,fun{w1} h1=>h1.2 _ (List.getElem_mem hi)⟩
 obtain⟨b',o',cap',hv',_,_,hc'⟩:=h1.1.at hi
 have hx:=hv.symm.trans hv'
 cases hx
 have c0:=hc' 0 _ rfl
 simp only[Nat.mul_one,Nat.add_zero] at c0
 exact c0
theorem bej{n:Nat}(h:TV P w n T.t [v]): ∃l,SlB w v l:=by
 refine asl (sz:=1) (rd:=rdE aej) (e:=T.be) (by kernel_rfl) (by kernel_rfl) (by decide) (fun n b o cs ht hl hc=>?_) h
 obtain⟨x,hx,_⟩:=boz (k:= .u8) (by kernel_rfl) ht
 subst hx
 exact⟨x,fun j u hj=>hc j u hj⟩
theorem bhb{n:Nat}(h:TV P w n T.br [v]): ∃l,SlP w v l:=by
 have: ∃l:List PB,ajf w 1 (fun w b o x=>rdE bfs w b o x/\SlB w x.1.v x.2) v l:=by
  refine asl (sz:=1) (rd:=fun w b o (x:PB)=>rdE bfs w b o x/\SlB w x.1.v x.2) (e:=T.t) (by kernel_rfl) (by kernel_rfl) (by decide) (fun n b o cs ht hl hc=>?_) h
  match cs,hl with
  | [u],_=>
   obtain⟨d,hd⟩:=bej ht
   obtain⟨a,c,hu,_⟩:=id hd
   exact⟨(⟨a,d.length,c⟩,d),fun j y hj=>hc j y (by rw[hu];exact hj),by simpa [SV.v,<-hu] using hd⟩
 obtain⟨l,hl⟩:=this
 refine⟨l,hl.mono fun b o x hx=>hx.1,fun x hx=>?_⟩
 obtain⟨i,hi,rfl⟩:=List.getElem_of_mem hx
 obtain⟨a,cap,hv,_,_,h3⟩:=hl
 obtain⟨b,o,_,_,hr⟩:=h3 i _ (List.getElem?_eq_getElem hi)
 exact hr.2
end
end Go.Proofs.YtgepcfcicngceaaGreatDoor
