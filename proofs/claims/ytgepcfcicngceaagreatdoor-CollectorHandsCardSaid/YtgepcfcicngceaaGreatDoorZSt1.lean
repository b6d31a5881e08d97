/-
  A span's bytes are read: the reader, span.Cut. No condition.
-/
import Derived.Test.YtgepcfcicngceaaGreatDoorZWl0
import Derived.Test.YtgepcfcicngceaaGreatDoorZEngSl
import Derived.Test.YtgepcfcicngceaaGreatDoorZSgE
import Derived.Test.YtgepcfcicngceaaGreatDoorZSpn0
import Derived.Lib.Bytealg
import Derived.Laws.Externs
import Derived.Test.YtgepcfcicngceaaGreatDoorZTim0
set_option maxRecDepth 100000
namespace Go.Proofs.YtgepcfcicngceaaGreatDoor
open Go.Eng Go.Proofs.YtgepcfcicngceaaGreatDoor.Sint
theorem bbp(l:List UInt8)(a:ByteArray):((l.map fun b=>(b.toNat:Int)).foldl (fun r n=>r.push (UInt8.ofNat n.toNat)) a).data.toList=a.data.toList ++ l:=by
 induction l generalizing a with
 | nil=>simp
 | cons x t ih=>
  rw[List.map_cons,List.foldl_cons,ih]
  simp[ByteArray.push]
theorem bbe(s:ByteArray):akb (aar s)=s:=by
 have h:=bbp s.data.toList ByteArray.empty
 have h2:(akb (aar s)).data.toList=s.data.toList:=by
  unfold akb aar
  rw[h]
  rfl
 cases s with
 | mk d=>
  have h3:(akb (aar ⟨d⟩)).data=d:=Array.toList_inj.1 h2
  generalize akb (aar ⟨d⟩)=z at *
  cases z with
  | mk e=>simp only at h3;rw[h3]
section
variable {w0 w : World} {R X : List Asn}
def Rdv(w0:World)(R:List Asn)(v:Value)(l:List Int):Prop:= ∀w' L,St w0 w' (L ++ R)->SlB w' v l
theorem akl{v:Value}{l:List Int}{L0:List Asn}(S:St w0 w (L0 ++ R))(hs:Rdv w0 R v l){lo hi:Option Value}{i j:Nat}(hlo:lo=none/\i=0\/∃k,lo=some (.int k (i:Int)))(hhi:hi=none/\j=l.length\/∃k,hi=some (.int k (j:Int)))(h0:i<=j)(h1:j<=l.length):
  ∃v',(∀w1 K,slT P T.t v lo hi none w1 K=K v' w1)/\Rdv w0 R v' ((l.drop i).take (j - i)):=by
 obtain⟨v',_,_,e1⟩:=(hs w L0 S).sub (P:=P) (t:=T.t) (by kernel_rfl) (by kernel_rfl) hlo hhi h0 h1
 refine⟨v',e1,fun w' L S'=>?_⟩
 obtain⟨v2,s2,_,e2⟩:=(hs w' L S').sub (P:=P) (t:=T.t) (by kernel_rfl) (by kernel_rfl) hlo hhi h0 h1
 have h3:=e1 w' fun v _=>v=v2
 rw[e2 w'] at h3
 have h4:v'=v2:=by
  have:(v2=v2)=(v'=v2):=h3
  rw[<-this]
 rw[h4]
 exact s2
abbrev rdr(b:Nat)(v:Value):Asn:=jd b #[v,.int .i64 0] T.av
theorem alz{b n:Nat}{v:Value}{l:List Int}(S:St w0 w (rdr b v :: (X ++ R)))(hs:Rdv w0 R v l)(hn:n<=l.length){K:KV}
  (h: ∀w' v1 v2,Rdv w0 R v1 (l.take n)->Rdv w0 R v2 (l.drop n)->St w0 w' (rdr b v2 :: (X ++ R))->K v1 w'):ik P F.bz [.pointer (some ⟨b,0,none⟩),.int .i64 (n:Nat)] w K:=by
 rw[M.aj.fcall]
 apply M.aj.calls
 unfold M.aj
 have c0:iq w b 0=some v:=by rw[S.cell];rfl
 have c1:iq w b 1=some (.int .i64 0):=by rw[S.cell];rfl
 have hlen: ∀w' K,biT P .len #[T.t] T.d [false] [v] w' K=K (.int .i64 l.length) w':=fun w' K=>(hs w (_ :: X) S).jv (by kernel_rfl) [false]
 have hlt: ¬(l.length:Int) < (n:Int):=by omega
 simp[c0,c1,hlen,hlt]
 unfold M.aj.j0
 simp[c1]
 unfold M.aj.j1
 obtain⟨v1,e1,r1⟩:=akl (L0:=rdr b v :: X) S hs (lo:=none) (hi:=some (.int .i64 (n:Nat))) (i:=0) (j:=n) (.inl ⟨rfl,rfl⟩) (.inr ⟨_,rfl⟩) (Nat.zero_le _) hn
 obtain⟨v2,e2,r2⟩:=akl (L0:=rdr b v :: X) S hs (lo:=some (.int .i64 (n:Nat))) (hi:=none) (i:=n) (j:=l.length) (.inr ⟨_,rfl⟩) (.inl ⟨rfl,rfl⟩) hn (Nat.le_refl _)
 rw[List.drop_zero,Nat.sub_zero] at r1
 rw[List.take_of_length_le (by simp)] at r2
 have hv2:lc v2=true:=by
  obtain⟨_,_,e,_⟩:=r2 w (_ :: X) S
  rw[e];rfl
 have hst: ∀w' K,stT P T.t (.pointer (some ⟨b,0,none⟩)) v2 w' K=st1 P b 0 v2 w' K:=fun w' K=>by
  obtain⟨a,c,e,_⟩:=r2 w (_ :: X) S
  rw[e]
  simp
 simp[c0,e1,e2,hst]
 exact St.oh S hv2 (by simp) fun w3 S3=>h w3 v1 v2 r1 r2 S3
theorem acz{b:Nat}{v:Value}{x:Int}{r:List Int}(S:St w0 w (rdr b v :: (X ++ R)))(hx:aao x)(hs:Rdv w0 R v (og x ++ r)){K:KV}
  (h: ∀w' v2,Rdv w0 R v2 r->St w0 w' (rdr b v2 :: (X ++ R))->K (.int .u64 x) w'):ik P F.az [.pointer (some ⟨b,0,none⟩)] w K:=by
 rw[M.ci.fcall]
 apply M.ci.calls
 unfold M.ci
 refine alz (n:=8) S hs (by rw[List.length_append,ur];omega) fun w1 v1 v2 r1 r2 S1=>?_
 rw[List.take_left' (ur x)] at r1
 rw[List.drop_left' (ur x)] at r2
 refine bcn (r1 w1 (_ :: X) S1) (by rw[ur];omega) ?_
 have:=bib hx []
 rw[List.append_nil] at this
 rw[this]
 exact h w1 v2 r2 S1
theorem aux{b:Nat}{v:Value}{x lo hi:Int}{r:List Int}(S:St w0 w (rdr b v :: (X ++ R)))(h0:lo<=x)(h1:x<=hi)(hs:Rdv w0 R v (x :: r)){K:KV}
  (h: ∀w' v2,Rdv w0 R v2 r->St w0 w' (rdr b v2 :: (X ++ R))->K (.int .u8 x) w'):ik P F.cj [.pointer (some ⟨b,0,none⟩),.int .u8 lo,.int .u8 hi] w K:=by
 rw[M.cq.fcall]
 apply M.cq.calls
 unfold M.cq
 refine alz (n:=1) S hs (by simp) fun w1 v1 v2 r1 r2 S1=>?_
 have c1:iq w1 b 1=some (.int .i64 0):=by rw[S1.cell];rfl
 obtain⟨ab,ao,ac,e1,_,_,hc⟩:=(r1 w1 (_ :: X) S1).at (i:=0) (by simp)
 have hcell:iq w1 ab ao=some (.int .u8 x):=by simpa using hc 0 _ rfl
 have hia: ∀w' K,iaT P T.t v1 (.int .i64 0) w' K=K (.pointer (some ⟨ab,ao,none⟩)) w':=fun w' K=>by rw[e1];simp
 have n0: ¬x < lo:=by omega
 have n1: ¬hi < x:=by omega
 simp[hia,hcell,c1,n0,n1]
 exact h w1 v2 (by simpa using r2) S1
theorem axg{b:Nat}{v:Value}{s:ByteArray}{r:List Int}(S:St w0 w (rdr b v :: (X ++ R)))(h0:1<=s.size)(h1:s.size<=32)(hs:Rdv w0 R v (aem s ++ r)){K:KV}
  (h: ∀w' v2,Rdv w0 R v2 r->St w0 w' (rdr b v2 :: (X ++ R))->K (.string s) w'):ik P F.cq [.pointer (some ⟨b,0,none⟩)] w K:=by
 rw[M.cw.fcall]
 apply M.cw.calls
 unfold M.cw
 refine aux (lo:=1) (hi:=32) (x:=(s.size:Int)) (r:=aar s ++ r) S (by omega) (by omega) hs fun w1 v1 r1 S1=>?_
 have c1:iq w1 b 1=some (.int .i64 0):=by rw[S1.cell];rfl
 simp[c1]
 have hcv: ∀w' K',cvT P T.be T.d (.int .u8 (s.size:Int)) w' K'=K' (.int .i64 (s.size:Int)) w':=fun w' K'=>by
  rw[pw (ks:= .u8) (kd:= .i64) (by kernel_rfl) (by kernel_rfl),jc]
 simp[hcv]
 refine alz (n:=s.size) S1 r1 (by rw[List.length_append,aet];omega) fun w2 v2 v3 r2 r3 S2=>?_
 rw[List.take_left' (aet s)] at r2
 rw[List.drop_left' (aet s)] at r3
 rw[bjp (by kernel_rfl) (by kernel_rfl) (r2 w2 (_ :: X) S2),bbe]
 exact h w2 v3 r3 S2
end
set_option maxRecDepth 100000
theorem bcp{s:Spn}(h:ll s=0):1<=s.kz.size/\1<=s.name.size:=by
 unfold ll at h
 split at h
 ·cases h
 ·unfold orK at h
  have hn: ∀b:ByteArray,rz b=0->1<=b.size:=fun b hb=>by
   unfold rz at hb
   split at hb
   ·cases hb
   ·rename_i hh
    have:=not_or.1 hh
    omega
  by_cases ha:rz s.kz=0
  ·by_cases hb:rz s.name=0
   ·exact⟨hn _ ha,hn _ hb⟩
   ·simp[ha,hb] at h
  ·simp[ha] at h
section
variable {w0 w : World} {R : List Asn}
abbrev spB(b:Nat)(s:Spn):Asn:=jd b (jz s).toArray T.j
theorem bap{v:Value}{s:Spn}{r:List Int}(S:St w0 w R)(hs:Rdv w0 R v (ahj s ++ r))(hr:ll s=0)(hR:ahx s)(hl:r.length<=10000000){K:KV}
  (h: ∀w' v',St w0 w' (aaw v' r :: R)->K (.tuple #[lw s,v',.int .i64 0]) w'):ik P F.gy [v] w K:=by
 obtain⟨n1,n2⟩:=aql hr
 obtain⟨m1,m2⟩:=bcp hr
 obtain⟨s0,s1,s2,s3,s4,sv,nm,fl⟩:=s
 simp only at n1 n2 m1 m2
 rw[M.de.fcall]
 apply M.de.calls
 unfold M.de
 have hb: ∀w' K,jq P T.av #[(0,v)] w' K=K (.agg #[v,.int .i64 0]) w':=fun w' K=>by
  obtain⟨_,_,e,_⟩:=hs w [] S
  rw[e]
  simp
 simp[hb]
 have S1:St w0 (w.alloc (.cells #[.int .u64 0,.int .u64 0,.int .u64 0,.int .u64 0,.int .u64 0,.string ⟨#[]⟩,.string ⟨#[]⟩,.bool false] T.j)) (spB w.heap.size ⟨0,0,0,0,0,⟨#[]⟩,⟨#[]⟩,false⟩ :: R):=S.mkB (jz ⟨0,0,0,0,0,⟨#[]⟩,⟨#[]⟩,false⟩).toArray T.j
 have S2:=S1.mkB #[v,.int .i64 0] T.av
 rw[jg] at S2
 generalize w.heap.size=tb at *
 generalize hrb:tb+1=rb at *
 generalize (World.alloc _ (.cells #[v,.int .i64 0] T.av))=w2 at *
 have hs0:Rdv w0 R v (og s0 ++ (og s1 ++ (og s2 ++ (og s3 ++ (og s4 ++ (afl fl :: (aem sv ++ (aem nm ++ r)))))))):=by
  have e:ahj ⟨s0,s1,s2,s3,s4,sv,nm,fl⟩ ++ r=og s0 ++ (og s1 ++ (og s2 ++ (og s3 ++ (og s4 ++ (afl fl :: (aem sv ++ (aem nm ++ r))))))):=by
   simp[ahj,tw]
  rw[<-e]
  exact hs
 refine acz (X:=[_]) S2 hR.tr hs0 fun w3 v3 r3 S3=>?_
 refine acz (X:=[_]) S3 hR.id r3 fun w4 v4 r4 S4=>?_
 refine acz (X:=[_]) S4 hR.par r4 fun w5 v5 r5 S5=>?_
 refine acz (X:=[_]) S5 hR.st r5 fun w6 v6 r6 S6=>?_
 refine acz (X:=[_]) S6 hR.ln r6 fun w7 v7 r7 S7=>?_
 simp
 have S7':St w0 w7 (spB tb ⟨0,0,0,0,0,⟨#[]⟩,⟨#[]⟩,false⟩ :: rdr rb v7 :: R):=S7.swap
 refine St.put (vs:=jz ⟨s0,s1,s2,s3,s4,⟨#[]⟩,⟨#[]⟩,false⟩) (cs':=(jz ⟨s0,s1,s2,s3,s4,⟨#[]⟩,⟨#[]⟩,false⟩).toArray) S7' (qn _) (by simp[jz]) rfl fun w8 S8=>?_
 refine aux (X:=[_]) S8.swap (x:=afl fl) (by unfold afl;split <;>omega) (by unfold afl;split <;>omega) r7 fun w9 v9 r9 S9=>?_
 have hfl:decide (afl fl=1)=fl:=by cases fl <;>rfl
 simp[hfl]
 refine St.oh S9.swap rfl (by simp[jz]) fun w10 S10=>?_
 have S10':St w0 w10 (spB tb ⟨s0,s1,s2,s3,s4,⟨#[]⟩,⟨#[]⟩,fl⟩ :: rdr rb v9 :: R):=S10
 refine axg (X:=[_]) S10'.swap m1 n1 r9 fun w11 v11 r11 S11=>?_
 simp
 refine St.oh S11.swap rfl (by simp[jz]) fun w12 S12=>?_
 have S12':St w0 w12 (spB tb ⟨s0,s1,s2,s3,s4,sv,⟨#[]⟩,fl⟩ :: rdr rb v11 :: R):=S12
 refine axg (X:=[_]) S12'.swap m2 n2 r11 fun w13 v13 r13 S13=>?_
 simp
 refine St.oh S13.swap rfl (by simp[jz]) fun w14 S14=>?_
 have S14':St w0 w14 (spB tb ⟨s0,s1,s2,s3,s4,sv,nm,fl⟩ :: rdr rb v13 :: R):=S14
 have c1:iq w14 rb 1=some (.int .i64 0):=by rw[S14'.swap.cell];rfl
 have sl: ∀{w':World}{L:List Asn},St w0 w' (spB tb ⟨s0,s1,s2,s3,s4,sv,nm,fl⟩ :: L)->∀K,ldN P 8 tb 0 w' K=K (lw ⟨s0,s1,s2,s3,s4,sv,nm,fl⟩) w':=fun S' K=>S'.ldA (n:=8) (i:=0) (jz ⟨s0,s1,s2,s3,s4,sv,nm,fl⟩) rfl rfl K
 simp[c1,sl S14']
 rw[M.dw.fcall]
 refine aha _ fun w15 f15=>?_
 rw[hr]
 have S15:=S14'.ju f15
 simp
 refine St.oh S15.swap rfl (by simp) fun w16 S16=>?_
 have S16':St w0 w16 (rdr rb v13 :: spB tb ⟨s0,s1,s2,s3,s4,sv,nm,fl⟩ :: R):=S16
 have d1:iq w16 rb 1=some (.int .i64 0):=by rw[S16'.cell];rfl
 unfold M.de.j0
 simp[d1]
 unfold M.de.j1
 have S17:=S16'.ju ((Fr.refl _ w16).dr 1)
 have d0:iq (dr w16 1) rb 0=some v13:=by rw[S17.cell];rfl
 simp[sl S17.swap,d0]
 refine arc S17 (r13 _ [_,_] S17) (by omega) fun w18 v18 S18=>?_
 simp[sl S18.up2]
 have hst: ∀w' K,stT P T.j (.pointer (some ⟨tb,0,none⟩)) (lw ⟨s0,s1,s2,s3,s4,sv,nm,fl⟩) w' K=stN P tb 0 (jz ⟨s0,s1,s2,s3,s4,sv,nm,fl⟩) w' K:=fun w' K=>by
  unfold lw
  simp[jz]
 rw[hst]
 refine St.put (vs:=jz ⟨s0,s1,s2,s3,s4,sv,nm,fl⟩) (cs':=(jz ⟨s0,s1,s2,s3,s4,sv,nm,fl⟩).toArray) S18.up2 (qn _) (by simp[jz]) rfl fun w19 S19=>?_
 have hres: ∀w' K,oy P T.j (.pointer (some ⟨tb,0,none⟩)) w' K=ldN P 8 tb 0 w' K:=fun w' K=>kr
 simp[hres,sl S19]
 exact h w19 v18 (S19.drop.swap.drop)
end
def vz(b:Bal):List Value:=[.int .u64 b.n,.int .u64 b.jr]
theorem aqq(b:Bal):(vz b).length=2:=rfl
def yl(a:Bal)(l:List Bal):Bal:=l.foldl (fun a x=>if a.avb x=true then x else a) a
section
variable {w0 w : World} {R : List Asn}
abbrev baB(b:Nat)(x:Bal):Asn:=jd b #[.int .u64 x.n,.int .u64 x.jr] T.e
theorem afg{b:Nat}{x y:Bal}(S:St w0 w (baB b x :: R)){K:KV}(h: ∀w',St w0 w' (baB b y :: R)->K undef w'):stT P T.e (.pointer (some ⟨b,0,none⟩)) (la y) w K:=by
 unfold la
 simp
 exact St.put (vs:=[.int .u64 y.n,.int .u64 y.jr]) (cs':= #[.int .u64 y.n,.int .u64 y.jr]) S (by simp[lc]) (by simp) rfl h
theorem adp(S:St w0 w R):St w0 (w.alloc (.cells #[.int .u64 0,.int .u64 0] T.e)) (baB w.heap.size jf :: R):=S.mkB #[.int .u64 0,.int .u64 0] T.e
def GrI(w0:World)(a:Bal)(l:List Bal)(tb:Nat)(R:List Asn):KL:=fun x w1=> ∃(i:Nat),x=[.int .i64 (i:Nat)]/\i<=l.length/\St w0 w1 (baB tb (yl a (l.take i)) :: R)
theorem awa(S:St w0 w R){v:Value}{l:List Bal}(hs: ∀w' L,St w0 w' (L ++ R)->Sl w' 2 vz v l)(hl:l.length<=1000000)(a:Bal){K:KV}(h: ∀w',St w0 w' R->K (la (yl a l)) w'):ik P F.fm [la a,v] w K:=by
 rw[M.dj.fcall]
 apply M.dj.calls
 unfold M.dj
 refine St.uf S fun tb w1 S1=>?_
 have S1':St w0 w1 (baB tb a :: R):=S1
 simp
 have S2:=adp S1'
 generalize w1.heap.size=rb at *
 generalize w1.alloc _=w2 at *
 have hlen: ∀w' K,biT P .len #[T.bp] T.d [false] [v] w' K=K (.int .i64 l.length) w':=fun w' K=>(hs w2 [_,_] S2).jv (by kernel_rfl) [false]
 simp[hlen]
 refine⟨GrI w0 a l tb (baB rb jf :: R),fun x _=>l.length - ms x 0,⟨0,rfl,Nat.zero_le _,S2.swap⟩,?_⟩
 rintro x w3 ⟨i,rfl,hi,S3⟩
 by_cases hil:i < l.length
 ·have hwi:IntKind.i64.wrap ((i:Int)+1)=((i+1:Nat):Int):=by rw[jc];rfl
  simp[hil]
  unfold M.dj.j2
  obtain⟨ab,ao,cap,hv,_,_,hc⟩:=(hs w3 [_,_] S3).at hil
  have hia: ∀w' K,iaT P T.bp v (.int .i64 (i:Nat)) w' K=K (.pointer (some ⟨ab,ao+i * 2,none⟩)) w':=fun w' K=>by
   rw[hv,ash (by kernel_rfl) (by omega) (by omega),show szE P T.bp=2 from by kernel_rfl]
   simp
  have hld: ∀K,ldN P 2 ab (ao+i * 2) w3 K=K (la l[i]) w3:=fun K=>tk (vz l[i]) 2 rfl hc K
  have e:yl a (l.take (i+1))=if (yl a (l.take i)).avb l[i]=true then l[i] else yl a (l.take i):=by
   rw[List.take_add_one,List.getElem?_eq_getElem hil]
   unfold yl
   rw[List.foldl_append]
   rfl
  simp[hia,hld]
  have S4:=adp S3
  generalize w3.heap.size=qb at *
  generalize w3.alloc _=w4 at *
  refine afg (y:=l[i]) S4 fun w5 S5=>?_
  obtain⟨_,_,b1⟩:=aad S5
  obtain⟨_,_,b2⟩:=aad S5.swap
  simp[b1,b2]
  refine bbv _ _ fun w6 f6=>?_
  have S6:=S5.ju f6
  obtain⟨_,_,d1⟩:=aad S6
  simp
  rw[bgg]
  have fin: ∀w',St w0 w' (baB tb (yl a (l.take (i+1))) :: baB rb jf :: R)->GrI w0 a l tb (baB rb jf :: R) [.int .i64 ((i+1:Nat):Int)] w'/\l.length - ms [.int .i64 ((i+1:Nat):Int)] 0 < l.length - ms [.int .i64 (i:Nat)] 0:=fun w' S'=>⟨⟨i+1,rfl,by omega,S'⟩,by simp[ms,gv];omega⟩
  cases hb:(yl a (l.take i)).avb l[i] with
  | true=>
   rw[hb] at e
   simp only[if_true] at e
   simp[d1]
   refine afg (y:=l[i]) S6.swap fun w7 S7=>?_
   rw[hwi]
   refine fin w7 ?_
   rw[e]
   exact S7.swap.drop
  | false=>
   rw[hb] at e
   simp only[Bool.false_eq_true,if_false] at e
   simp
   rw[hwi]
   refine fin w6 ?_
   rw[e]
   exact S6.drop
 ·have hie:i=l.length:=by omega
  subst hie
  rw[List.take_length] at S3
  obtain⟨_,_,b1⟩:=aad S3
  simp[b1]
  refine afg (y:=yl a l) S3.swap fun w5 S5=>?_
  obtain⟨_,_,b2⟩:=aad S5
  have hres: ∀w' K,oy P T.e (.pointer (some ⟨rb,0,none⟩)) w' K=ldN P 2 rb 0 w' K:=fun w' K=>kr
  simp[hres,b2]
  exact h w5 S5.drop.drop
theorem bog(S:St w0 w R){v:Value}{l:List Bal}(hs: ∀w' L,St w0 w' (L ++ R)->Sl w' 2 vz v l)(hl:l.length<=1000000){K:KV}(h: ∀w',St w0 w' R->K (la (yl jf l)) w'):ik P F.du [v] w K:=by
 rw[M.fx.fcall]
 apply M.fx.calls
 unfold M.fx
 simp
 have S2:=adp S
 generalize w.heap.size=rb at *
 generalize w.alloc _=w2 at *
 refine awa (a:=jf) S2 (fun w' L S'=>hs w' (L ++ [_]) (by simpa using S')) hl fun w3 S3=>?_
 refine afg (y:=yl jf l) S3 fun w5 S5=>?_
 obtain⟨_,_,b2⟩:=aad S5
 have hres: ∀w' K,oy P T.e (.pointer (some ⟨rb,0,none⟩)) w' K=ldN P 2 rb 0 w' K:=fun w' K=>kr
 simp[hres,b2]
 exact h w5 S5.drop
end
def ade(tr:Int)(b:Bal)(v:Int)(rv:Value)(half:Int)(hm:Nat):Array Value:= #[.int .u64 tr,.int .u64 b.n,.int .u64 b.jr,.int .i64 v,rv,.int .i64 half,.map (some hm),.int .u64 0,.int .u64 0,.int .u64 0,.int .u64 0]
def qm(rb:Nat)(tr:Int)(b:Bal)(v half:Int):Asn where
 ok w B:= ∃rv hm,Rs [jd rb (ade tr b v rv half hm) T.u,rdA 1 nk rv [101],jm hm .u64 []] w B
 jl:=by
  rintro w w' B S ⟨rv,hm,h⟩ hf hn
  exact⟨rv,hm,h.jl hf hn⟩
section
variable {w0 w : World} {R : List Asn} {rb : Nat} {tr v half : Int} {b : Bal}
theorem akj(S:St w0 w (qm rb tr b v half :: R)): ∃rv hm,St w0 w (jd rb (ade tr b v rv half hm) T.u :: rdA 1 nk rv [101] :: jm hm .u64 [] :: R):=by
 obtain⟨B,⟨rv,hm,h⟩,_,cl⟩:=S.open
 exact⟨rv,hm,cl w [jd rb (ade tr b v rv half hm) T.u,rdA 1 nk rv [101],jm hm .u64 []] (Fr.refl _ _) (h.mono fun b hb=> .inl hb)⟩
theorem ang{rv:Value}{hm:Nat}(S:St w0 w (jd rb (ade tr b v rv half hm) T.u :: rdA 1 nk rv [101] :: jm hm .u64 [] :: R)):St w0 w (qm rb tr b v half :: R):=by
 obtain⟨U,h1,_,g⟩:=St.akw (L:=[jd rb (ade tr b v rv half hm) T.u,rdA 1 nk rv [101],jm hm .u64 []]) (R:=R) S
 exact g w [qm rb tr b v half] (Fr.refl _ _) ⟨U,⟨rv,hm,h1⟩,fun b hb=> .inl hb,trivial⟩
theorem yq{rv:Value}(h:SlU w rv [101]): ∃g o c,rv= .slice (some ⟨g,o,none⟩) 1 c/\iq w g o=some (.int .u64 101):=by
 obtain⟨g,o,c,e,_,_,hc⟩:=h.at (i:=0) (by simp)
 exact⟨g,o,c,e,by simpa [nk] using hc 0 _ rfl⟩
def PsI(w0:World)(R:List Asn)(v1 v2:Value):KL:=fun x w1=> ∃(u:Value)(i:Nat),x=[u,v1,v2,.int .u64 (if i=0 then 0 else 101),.int .i64 (i:Nat)]/\i<=1/\St w0 w1 R
theorem big{av:Value}(S:St w0 w R)(hs: ∀w' L,St w0 w' (L ++ R)->SlU w' av [101])(h1:tr≠0)(h2:b.n≠0)(h3:1<=v/\v<=3){K:KV}(h: ∀w' rb,St w0 w' (qm rb tr b v 0 :: R)->K (.tuple #[.pointer (some ⟨rb,0,none⟩),.int .i64 0]) w'):ik P F.fx [.int .u64 tr,la b,.int .i64 v,av] w K:=by
 rw[M.bu.fcall]
 apply M.bu.calls
 unfold M.bu la
 refine St.uf S fun bb w1 S1=>?_
 have S1':St w0 w1 (baB bb b :: R):=S1
 have hsl: ∀w' L,St w0 w' (L ++ (baB bb b :: R))->SlU w' av [101]:=fun w' L S=>hs w' (L ++ [baB bb b]) (by simpa using S)
 have hlen: ∀w' K,biT P .len #[T.g] T.d [false] [av] w' K=K (.int .i64 1) w':=fun w' K=>(hs w [] S).jv (by kernel_rfl) [false]
 obtain⟨g,o,c,e,_⟩:=yq (hs w [] S)
 have hia: ∀w' K,iaT P T.g av (.int .i64 0) w' K=K (.pointer (some ⟨g,o,none⟩)) w':=fun w' K=>by rw[e];simp
 simp only[ir,hlen]
 refine⟨PsI w0 (baB bb b :: R) (.pointer none) (.int .i64 0),fun x _=>1 - ms x 4,⟨_,0,rfl,Nat.zero_le _,S1'⟩,?_⟩
 rintro x w2 ⟨u,i,rfl,hi,S2⟩
 by_cases hi0:i=0
 ·subst hi0
  obtain⟨g2,o2,c2,e2,hc2⟩:=yq (hsl w2 [] S2)
  rw[e] at e2
  injection e2 with e2 _ _
  injection e2 with e2
  injection e2 with e2 e3 _
  subst e2 e3
  simp
  unfold M.bu.j2
  simp[hia,hc2]
  exact⟨⟨_,1,rfl,Nat.le_refl _,S2⟩,by simp[ms,gv,show IntKind.i64.wrap 1=1 from by decide]⟩
 ·have hi1:i=1:=by omega
  subst hi1
  simp
  unfold M.bu.j0
  have c0:iq w2 bb 0=some (.int .u64 b.n):=by rw[S2.cell];rfl
  have n1: ¬v < 1:=by omega
  have n2: ¬3 < v:=by omega
  simp[h1,c0,h2,n1,n2,hlen]
  unfold M.bu.j5
  have S3:=S2.ju ((Fr.refl _ w2).dr 1)
  have lb: ∀{w':World}{L:List Asn},St w0 w' (baB bb b :: L)->∀K,ldN P 2 bb 0 w' K=K (la b) w':=fun S' K=>S'.ldA (n:=2) (i:=0) (vz b) rfl rfl K
  simp[lb S3,la]
  have fin: ∀(rv:Value)(hm:Nat) w',St w0 w' (rdA 1 nk rv [101] :: jm hm .u64 [] :: R)->K (.tuple #[.pointer (some ⟨w'.heap.size,0,none⟩),.int .i64 0]) (w'.alloc (.cells (ade tr b v rv 0 hm) T.u)):=fun rv hm w' S'=>h _ _ (ang (S'.mkB _ _))
  refine⟨?_,?_⟩
  ·refine acq (hsl _ [] S3) (by simp) fun w4 rv s4 n4 f4=>?_
   obtain⟨g4,o4,c4,rfl,_⟩:=yq s4
   have S4:St w0 w4 (rdA 1 nk (.slice (some ⟨g4,o4,none⟩) 1 c4) [101] :: baB bb b :: R):=S3.add f4 (a:=rdA 1 nk (.slice (some ⟨g4,o4,none⟩) 1 c4) [101]) (B:=fun x=>(Value.slice (some ⟨g4,o4,none⟩) 1 c4).ownBlock=some x) ⟨s4,fun b hb=>hb⟩ fun x hx=>⟨n4 x hx,by
    obtain⟨g,hg,hlt⟩:=s4.lt (x:=101) (by simp)
    rw[hx] at hg;cases hg;exact hlt⟩
   have S5:=S4.akk .u64
   simp[lb S4.swap,lb S5.up2,la,zu]
   have hf:=fin _ w4.heap.size _ (S5.swap.up2.drop)
   simp only[jg] at hf
   exact hf
  ·have S4:=S3.akk .u64
   rw[zu]
   generalize (dr w2 1).heap.size=hm at *
   generalize (dr w2 1).alloc (.map #[] 0)=w4 at *
   simp[lb S4.swap,la]
   refine acq (hsl _ [_] S4) (by simp) fun w5 rv s5 n5 f5=>?_
   obtain⟨g5,o5,c5,rfl,_⟩:=yq s5
   have S5:St w0 w5 (rdA 1 nk (.slice (some ⟨g5,o5,none⟩) 1 c5) [101] :: jm hm .u64 [] :: baB bb b :: R):=S4.add f5 (a:=rdA 1 nk (.slice (some ⟨g5,o5,none⟩) 1 c5) [101]) (B:=fun x=>(Value.slice (some ⟨g5,o5,none⟩) 1 c5).ownBlock=some x) ⟨s5,fun b hb=>hb⟩ fun x hx=>⟨n5 x hx,by
    obtain⟨g,hg,hlt⟩:=s5.lt (x:=101) (by simp)
    rw[hx] at hg;cases hg;exact hlt⟩
   simp[lb S5.up2,la]
   exact fin _ hm w5 (S5.up2.drop)
def uj(tr:Int)(b:Bal)(v half:Int):Pk:=⟨if half=1 then 6 else 4,tr,b,jf,if half=1 then v else 0,false,.slice none 0 0,.slice none 0 0,.slice none 0 0⟩
theorem pa{rv:Value}{hm:Nat}{L:List Asn}(S':St w0 w (jd rb (ade tr b v rv half hm) T.u :: L)):iq w rb 0=some (.int .u64 tr)/\iq w rb 3=some (.int .i64 v)/\iq w rb 4=some rv/\iq w rb 5=some (.int .i64 half)/\iq w rb 6=some (.map (some hm))/\(∀K,ldN P 2 rb 1 w K=K (la b) w)/\∀K,ldN P 2 rb 7 w K=K (la jf) w:=by
 refine⟨?_,?_,?_,?_,?_,fun K=>S'.ldA (n:=2) (i:=1) (vz b) rfl rfl K,fun K=>S'.ldA (n:=2) (i:=7) (vz jf) rfl rfl K⟩ <;>rw[S'.cell] <;>rfl
theorem qv: ∀u∈pkC (uj tr b v half),lc u=true:=awy _ _ _ _ _ _
theorem apl(S:St w0 w (qm rb tr b v half :: R))(hh:half=0\/half=1){K:KV}(h: ∀w',St w0 w' (qm rb tr b v half :: R)->K (pkA (uj tr b v half)) w'):ik P F.bx [.pointer (some ⟨rb,0,none⟩)] w K:=by
 obtain⟨rv,hm,S1⟩:=akj S
 rw[M.cv.fcall]
 apply M.cv.calls
 unfold M.cv
 obtain⟨_,_,_,c5,_,_⟩:=pa S1
 have hgt: ¬1 < half:=by omega
 have S2:=axv S1
 simp
 generalize w.heap.size=q at *
 generalize w.alloc _=w2 at *
 obtain⟨_,_,_,d5,_,_⟩:=pa S2.swap
 simp[d5,hgt]
 unfold M.cv.j0
 have S3:=S2.ju ((Fr.refl _ w2).dr 1)
 obtain⟨e0,e3,_,e5,_,e1,_⟩:=pa S3.swap
 simp[e0,e1,la]
 have S4:=axv S3
 have hz:(dr w2 1).heap.size=w2.heap.size:=rfl
 rw[hz] at S4
 generalize w2.heap.size=pb at *
 generalize World.alloc _ _=w4 at *
 obtain⟨f0,f3,_,f5,_,f1,_⟩:=pa S4.up2
 simp[f0,f1,la]
 refine ayh (q:=uj tr b v 0) S4 rfl qv fun w5 S5=>?_
 obtain⟨g0,g3,_,g5,_,g1,_⟩:=pa S5.up2
 have fin: ∀w',St w0 w' (jd pb (pkC (uj tr b v half)).toArray T.c :: jd q (pkC pkZ).toArray T.c :: jd rb (ade tr b v rv half hm) T.u :: rdA 1 nk rv [101] :: jm hm .u64 [] :: R)->ldT P T.c (.pointer (some ⟨pb,0,none⟩)) w' fun t34 w=>stT P T.c (.pointer (some ⟨q,0,none⟩)) t34 w fun _ w=>ii (fun K'=>oy P T.c (.pointer (some ⟨q,0,none⟩)) w K') w fun r0=>K r0 w:=fun w' S'=>by
  simp[vw S']
  exact bpr (q:=uj tr b v half) S'.swap rfl qv fun w'' S''=>h w'' (ang (S''.drop.drop))
 rcases hh with rfl|rfl
 ·simp[g5]
  have:=fin w5 S5
  simpa using this
 ·have S6:=S5.ju ((Fr.refl _ w5).dr 1)
  obtain⟨_,i3,_,_,_,_,_⟩:=pa S6.up2
  simp[g5,i3]
  refine St.oh S6 rfl (by simp[pkC]) fun w7 S7=>?_
  obtain⟨_,k3,_,_,_,_,_⟩:=pa S7.up2
  simp[k3]
  refine St.oh S7 rfl (by simp[pkC]) fun w8 S8=>?_
  have:=fin w8 S8
  simpa using this
def OpI(w0:World)(R:List Asn):KL:=fun x w1=> ∃(u ov:Value)(i:Nat),x=[u,ov,.int .i64 (i:Nat)]/\i<=1/\St w0 w1 (tm ov ((List.replicate i 101)) :: R)
theorem ate(S:St w0 w (qm rb tr b v half :: R))(hh:half=0\/half=1){K:KV}(h: ∀w' ov,St w0 w' (tm ov [101] :: qm rb tr b v half :: R)->K ov w'):ik P F.ci [.pointer (some ⟨rb,0,none⟩)] w K:=by
 obtain⟨rv,hm,S1⟩:=akj S
 rw[M.bp.fcall]
 apply M.bp.calls
 unfold M.bp
 obtain⟨_,_,_,c5,_,_⟩:=pa S1
 have hgt: ¬1 < half:=by omega
 simp[c5,hgt]
 unfold M.bp.j0
 obtain⟨_,_,c4,_,c6,_⟩:=pa S1
 obtain⟨g,o,c,e,_⟩:=yq S1.swap.rd
 have hln: ∀w' K,biT P .len #[T.g] T.d [false] [rv] w' K=K (.int .i64 1) w':=fun w' K=>(S1.swap.rd:SlU w rv [101]).jv (by kernel_rfl) [false]
 have hia: ∀w' K,iaT P T.g rv (.int .i64 0) w' K=K (.pointer (some ⟨g,o,none⟩)) w':=fun w' K=>by rw[e];simp
 simp[c4,hln]
 refine⟨OpI w0 (jd rb (ade tr b v rv half hm) T.u :: rdA 1 nk rv [101] :: jm hm .u64 [] :: R),fun x _=>1 - ms x 2,⟨_,_,0,rfl,Nat.zero_le _,by simpa using Go.Eng.ye S1⟩,?_⟩
 rintro x w2 ⟨u,ov,i,rfl,hi,S2⟩
 by_cases hi0:i=0
 ·subst hi0
  obtain⟨g2,o2,c2,e2,hc2⟩:=yq S2.up2.rd
  rw[e] at e2
  injection e2 with e2 _ _
  injection e2 with e2
  injection e2 with e2 e3 _
  subst e2 e3
  obtain⟨_,_,_,_,d6,_⟩:=pa S2.swap
  simp
  unfold M.bp.j3
  simp[hia,hc2,d6]
  rw[tp mt.am S2.up3.mp]
  simp[kh]
  have S3:St w0 (w2.alloc (.cells #[.int .u64 101] T.a)) (tm (.slice (some ⟨w2.heap.size,0,none⟩) 1 1) [101] :: _):=St.uh (l:=[(101:Int)]) S2 (fun _=>rfl) rfl (by simp[maxLen])
  refine aeg S3.swap (S3.row (fun _=>rfl)) (by simp) fun w5 v5 S5=>?_
  exact⟨⟨_,_,1,rfl,Nat.le_refl _,by simpa using S5.swap.drop⟩,by simp[ms,gv,show IntKind.i64.wrap 1=1 from by decide]⟩
 ·have hi1:i=1:=by omega
  subst hi1
  simp
  exact h w2 ov (ang S2.dn3).swap
end
def ahg(s:Bal)(ver jr:Int):Bal×Int:=if jr=0 then (jf,1) else if max s.n ver=18446744073709551615 then (jf,12) else (⟨max (s.n+1) ver,jr⟩,0)
section
variable {w0 w : World} {R : List Asn}
theorem brt(rb:Nat)(w':World)(K:KV):oy P T.e (.pointer (some ⟨rb,0,none⟩)) w' K=ldN P 2 rb 0 w' K:=kr
theorem bob{b:Nat}{cs:Array Value}{y:Bal}(S:St w0 w (jd b cs T.e :: R))(hs:cs.size=2){K:KV}(h: ∀w',St w0 w' (baB b y :: R)->K (la y) w'):
  stN P b 0 [.int .u64 y.n,.int .u64 y.jr] w fun _ w=>oy P T.e (.pointer (some ⟨b,0,none⟩)) w fun r w'=>w'=w/\K r w:=by
 refine St.put (vs:=[.int .u64 y.n,.int .u64 y.jr]) (cs':= #[.int .u64 y.n,.int .u64 y.jr]) S (by simp[lc]) (by simp[hs]) (by
  have hl:cs.toList.length=2:=by simpa using hs
  simp[hl]) fun w' S'=>?_
 rw[brt]
 obtain⟨_,_,b2⟩:=aad S'
 rw[b2]
 exact⟨rfl,h w' S'⟩
theorem bmm(S:St w0 w R)(s:Bal){ver jr:Int}(hs:0<=s.n/\s.n < 18446744073709551616)(hv:0<=ver/\ver < 18446744073709551616){K:KV}(h: ∀w',St w0 w' R->K (.tuple #[la (ahg s ver jr).1,.int .i64 (ahg s ver jr).2]) w'):ik P F.cl [la s,.int .u64 ver,.int .u64 jr] w K:=by
 rw[M.ew.fcall]
 apply M.ew.calls
 unfold M.ew la
 refine St.uf S fun tb w1 S1=>?_
 have S1':St w0 w1 (baB tb s :: R):=S1
 simp
 have S2:=adp S1'
 generalize w1.heap.size=rb at *
 generalize w1.alloc _=w2 at *
 have c0:iq w2 tb 0=some (.int .u64 s.n):=by rw[S2.swap.cell];rfl
 have fin: ∀(y:Bal)(k:Int),ahg s ver jr=(y,k)->stN P rb 0 [.int .u64 y.n,.int .u64 y.jr] w2 fun _ w=>oy P T.e (.pointer (some ⟨rb,0,none⟩)) w fun r w'=>w'=w/\K (.tuple #[r,.int .i64 k]) w:=fun y k e=>bob (K:=fun r w=>K (.tuple #[r,.int .i64 k]) w) S2 rfl fun w' S'=>by
  have:=h w' S'.drop.drop
  rw[e] at this
  exact this
 by_cases hn:jr=0
 ·simp[hn]
  exact fin jf 1 (by unfold ahg;rw[if_pos hn])
 ·by_cases hm:max s.n ver=18446744073709551615
  ·simp[hn,c0,qo,hm]
   exact fin jf 12 (by unfold ahg;rw[if_neg hn,if_pos hm])
  ·have hw:IntKind.u64.wrap (s.n+1)=s.n+1:=by rw[mu (by omega) (by omega)]
   simp[hn,c0,qo,hm]
   unfold M.ew.j0
   simp[c0,hw,qo]
   exact fin ⟨max (s.n+1) ver,jr⟩ 0 (by unfold ahg;rw[if_neg hn,if_neg hm])
end
def rh(tr:Int)(b:Bal)(half:Int):Pk:=pk0 (if half=1 then 7 else 5) tr b jf 0 true
theorem aqz{tr:Int}{b:Bal}{half:Int}(h1:0 < tr)(h2:0 < b.n):wq (rh tr b half) [] [] []=true:=by
 unfold rh wq ase aab xb
 by_cases h:half=1
 ·simp[h,pk0,td,qw,re,qx,mj,aln,h1,h2,jf]
 ·simp[h,pk0,td,qw,re,qx,mj,aln,h1,h2,aue,jf]
def xz(tr:Int)(b:Bal)(half:Int):List Value:=[.int .u64 tr,.int .u64 b.n,.int .u64 b.jr,.bool true,.int .u64 0,.int .u64 0,.int .i64 0,.bool (decide (half=1))]
theorem aqb{w:World}{tr:Int}{b:Bal}{half:Int}{t:Value}(h:ThR w (rh tr b half) [] [] [] t):t= .iface T.m (.agg (xz tr b half).toArray):=by
 have hk:(rh tr b half).jh=5\/(rh tr b half).jh=7:=by
  unfold rh pk0
  by_cases h:half=1
  ·simp[h]
  ·simp[h]
 generalize hp:rh tr b half=p at *
 cases h with
 | kt v q _=>omega
 | amf v q _=>omega
 | ask q=>omega
 | acj q=>
  rw[<-hp]
  unfold rh pk0 xz jf
  by_cases h:half=1
  ·simp[h]
  ·simp[h]
 | ud q=>omega
 | zp v q _=>omega
 | aci v q _=>omega
 | none q=>omega
section
variable {w0 w : World} {R : List Asn} {rb : Nat} {tr v half : Int} {b : Bal}
theorem blq{rv:Value}(h:SlU w rv [101]){K:KV}(hK:K (.bool true) w):ik P F.bq [rv,.int .u64 101] w K:=by
 rw[M.ca.fcall]
 apply M.ca.calls
 unfold M.ca
 rw[M.bb.fcall]
 apply M.bb.calls
 unfold M.bb
 have hln: ∀w' K,biT P .len #[T.g] T.d [false] [rv] w' K=K (.int .i64 1) w':=fun w' K=>h.jv (by kernel_rfl) [false]
 obtain⟨g,o,c,e,hc⟩:=yq h
 have hia: ∀w' K,iaT P T.g rv (.int .i64 0) w' K=K (.pointer (some ⟨g,o,none⟩)) w':=fun w' K=>by rw[e];simp
 simp only[ir,hln]
 refine⟨fun x w1=>gv x 2= .int .i64 0/\w1=w,fun _ _=>0,⟨rfl,rfl⟩,?_⟩
 rintro x w1 ⟨x2,rfl⟩
 rw[x2]
 simp
 unfold M.bb.j2
 rw[x2]
 simp[hia,hc]
 exact hK
theorem bow(x y:Bool)(rx ry:Operand)(w:World)(K:KV):iy P .eql T.bs rx ry (.bool x) (.bool y) w K=K (.bool (x == y)) w:=aia (by kernel_rfl)
theorem bmq(S:St w0 w (qm rb tr b v half :: R)){K:KV}(h: ∀w',St w0 w' (qm rb tr b v half :: R)->K (.bool true) w'):ik P F.dy [.pointer (some ⟨rb,0,none⟩),.int .u64 101,.agg (xz tr b half).toArray] w K:=by
 obtain⟨rv,hm,S1⟩:=akj S
 rw[M.eb.fcall]
 apply M.eb.calls
 unfold M.eb
 refine St.uf S1 fun ab w1 S2=>?_
 have S3:=S2.ju ((Fr.refl _ w1).dr 1)
 obtain⟨c0,_,c4,c5,c6,c1,_⟩:=pa S3.swap
 have a0:iq (dr w1 1) ab 0=some (.int .u64 tr):=by rw[S3.cell];rfl
 have a7:iq (dr w1 1) ab 7=some (.bool (decide (half=1))):=by rw[S3.cell];rfl
 have a1: ∀K,ldN P 2 ab 1 (dr w1 1) K=K (la b) (dr w1 1):=fun K=>S3.ldA (n:=2) (i:=1) (vz b) rfl rfl K
 have eqb: ∀rx ry w K,iy P .eql T.e rx ry (la b) (la b) w K=K (.bool true) w:=fun rx ry w K=>by rw[acv];simp
 simp[a0,a7,a1,c0,c4,c5,c6,c1,bow,eqb]
 refine blq S3.up2.rd ?_
 simp[c6]
 rw[tp mt.am S3.up3.mp]
 simp[kh]
 exact h _ (ang S3.drop)
theorem aqe(S:St w0 w (qm rb tr b v half :: R)){K:KV}(h2:half=2->K (.tuple #[.int .i64 v,.bool true]) w)(h0:half≠2->K (.tuple #[.int .i64 0,.bool false]) w):ik P F.di [.pointer (some ⟨rb,0,none⟩)] w K:=by
 obtain⟨rv,hm,S1⟩:=akj S
 rw[M.dt.fcall]
 apply M.dt.calls
 unfold M.dt
 obtain⟨_,c3,_,c5,_⟩:=pa S1
 by_cases hh:half=2
 ·have:=h2 hh
  simp[c5,c3,hh]
  exact this
 ·have:=h0 hh
  simp[c5,hh]
  exact this
theorem bfr(S:St w0 w (qm rb tr b v half :: R))(hh:half=0\/half=1)(ht:0 < tr/\tr < 18446744073709551616)(hb:b.rng)(hb0:0 < b.n){K:KV}(h: ∀w',St w0 w' (qm rb tr b v (half+1) :: R)->K (.bool true) w'):ik P F.dv [.pointer (some ⟨rb,0,none⟩),.int .u64 101,pkA (rh tr b half)] w K:=by
 rw[M.av.fcall]
 apply M.av.calls
 unfold M.av pkA
 refine St.uf S fun pb w1 S1=>?_
 have S1':St w0 w1 (jd pb (pkC (rh tr b half)).toArray T.c :: qm rb tr b v half :: R):=S1
 simp[vw S1']
 have hrng:ahl (rh tr b half):=⟨⟨by show 0<=tr;omega,ht.2⟩,hb,show jf.rng from⟨⟨by decide,by decide⟩,⟨by decide,by decide⟩⟩⟩
 refine asj (p:=rh tr b half) (ls:=[]) (lm:=[]) (lu:=[]) (bdf _ _ _ _ _ _ _) hrng (fun hr w2 t hth _ f2=>?_) fun hr=>absurd (aqz ht.1 hb0) (by rw[hr];simp)
 have S2:=S1'.ju f2
 rw[aqb hth]
 have S3:=S2.mkB #[.int .u64 0,.int .u64 0,.int .u64 0,.bool false,.int .u64 0,.int .u64 0,.int .i64 0,.bool false] T.m
 unfold xz
 simp
 generalize w2.heap.size=ab at *
 generalize w2.alloc _=w3 at *
 refine St.put (vs:=xz tr b half) (cs':=(xz tr b half).toArray) S3 (by simp[xz,lc]) (by simp[xz]) (by simp[xz]) fun w4 S4=>?_
 obtain⟨rv,hm,S5⟩:=akj S4.up2
 obtain⟨_,_,_,c5,_⟩:=pa S5
 have hgt: ¬1 < half:=by omega
 have ld8: ∀K,ldN P 8 ab 0 w4 K=K (.agg (xz tr b half).toArray) w4:=fun K=>S4.ldA (n:=8) (i:=0) (xz tr b half) rfl rfl K
 simp[c5,hgt,ld8]
 refine bmq S4.up2 fun w5 S6=>?_
 simp
 unfold M.av.j0
 have a3:iq w5 ab 3=some (.bool true):=by rw[S6.swap.cell];rfl
 simp[a3]
 unfold M.av.j1
 obtain⟨rv,hm,S7⟩:=akj S6
 obtain⟨_,_,_,_,d6,_⟩:=pa S7
 simp[d6]
 refine St.azu mt.am S7.up2 _ _ fun w6 S8=>?_
 have S9:=S8.ju ((Fr.refl _ w6).dr 1)
 have a6:iq (dr w6 1) ab 6=some (.int .i64 0):=by rw[S9.up3.cell];rfl
 simp[a6]
 unfold M.av.j2
 have S10:St w0 (dr (dr w6 1) 1) (jm hm .u64 [(101,.bool true)] :: jd rb (ade tr b v rv half hm) T.u :: rdA 1 nk rv [101] :: jd ab (xz tr b half).toArray T.m :: jd pb (pkC (rh tr b half)).toArray T.c :: R):=S9.ju ((Fr.refl _ (dr w6 1)).dr 1)
 obtain⟨_,_,e4,e5,e6,_⟩:=pa S10.swap
 have hl:=fun cs K=>ack (ty:=T.d) mt.am S10.mp cs K
 have hln: ∀w' K,biT P .len #[T.g] T.d [false] [rv] w' K=K (.int .i64 1) w':=fun w' K=>(S10.up2.rd:SlU (dr (dr w6 1) 1) rv [101]).jv (by kernel_rfl) [false]
 have hw:IntKind.i64.wrap (half+1)=half+1:=by rw[jc]
 have h2:IntKind.i64.wrap 2=2:=by decide
 simp[e4,e5,e6,hl,hln,h2,hw]
 refine St.oh S10.swap rfl (by simp[ade]) fun w8 S11=>?_
 have S12:St w0 w8 (jd rb (ade tr b v rv (half+1) hm) T.u :: jm hm .u64 [(101,.bool true)] :: _):=S11
 obtain⟨_,_,_,_,g6,_⟩:=pa S12
 simp[g6]
 refine St.bqc mt.am S12.swap fun w9 S13=>?_
 exact h w9 (ang S13.dn2).swap.drop.swap.drop
end
end Go.Proofs.YtgepcfcicngceaaGreatDoor
set_option maxRecDepth 100000
namespace Go.Proofs.YtgepcfcicngceaaGreatDoor.Ring
open Go.Eng Go.Proofs.YtgepcfcicngceaaGreatDoor
structure Pnt where
 at':Int
 id:Int
def zy(p:Pnt):List Value:=[.int .u64 p.at',.int .u64 p.id]
def yy(p:Pnt):Value:= .agg #[.int .u64 p.at',.int .u64 p.id]
theorem yu(p:Pnt):(zy p).length=2:=rfl
theorem arj(p:Pnt): ∀u∈zy p,lc u=true:=fun u hu=>by
 simp[zy] at hu
 rcases hu with rfl|rfl <;>rfl
abbrev vx(v:Value)(l:List Pnt):Asn:=qa T.au 2 zy v l
abbrev ayg(w:World)(v:Value)(l:List Pnt):Prop:=Sl w 2 zy v l
def leS(x y:Pnt):Prop:=x.at' < y.at'\/(x.at'=y.at'/\x.id<=y.id)
def apu(x y:Pnt):Int:=if ta x.at' y.at'≠0 then ta x.at' y.at' else ta x.id y.id
theorem awj{x y:Pnt}:apu x y < 0↔¬leS y x:=by
 unfold apu ta leS
 by_cases h1:x.at' < y.at'
 ·have h2: ¬y.at' < x.at':=by omega
  simp[h1,h2]
  omega
 ·by_cases h2:y.at' < x.at'
  ·simp[h1,h2]
  ·have h3:y.at'=x.at':=by omega
   by_cases h4:x.id < y.id
   ·simp[h3,h4]
   ·by_cases h5:y.id < x.id
    ·simp[h3,h4,h5] <;>omega
    ·simp[h3,h4,h5] <;>omega
theorem leS.trans{x y z:Pnt}(h:leS x y)(h':leS y z):leS x z:=by unfold leS at *;omega
theorem leS.of{x y:Pnt}(h: ¬leS y x):leS x y:=by unfold leS at *;omega
abbrev abu(l:List Pnt):Prop:=l.Pairwise leS
theorem bfd{l l':List Pnt}(hp:l.Perm l')(h1:abu l)(h2:abu l'):l=l':=
 List.Perm.eq_of_pairwise (fun a b _ _ h1 h2=>by
  cases a;cases b
  unfold leS at h1 h2
  simp only[Pnt.mk.injEq] at *
  omega) h1 h2 hp
def bhl(l:List Pnt)(i j:Nat)(hi:i < l.length)(hj:j < l.length):List Pnt:=(l.set i l[j]).set j l[i]
theorem blw(P Q R:List Pnt)(x y:Pnt){l:List Pnt}{i j:Nat}(hl:l=P ++ x :: (Q ++ y :: R))(hi:i=P.length)(hj:j=P.length+1+Q.length)(h1:i < l.length)(h2:j < l.length):bhl l i j h1 h2=P ++ y :: (Q ++ x :: R):=by
 subst hl hi hj
 have e1:(P ++ x :: (Q ++ y :: R))[P.length]'h1=x:=by simp
 have e2:(P ++ x :: (Q ++ y :: R))[P.length+1+Q.length]'h2=y:=by
  rw[List.getElem_append_right (by omega)]
  have:P.length+1+Q.length - P.length=Q.length+1:=by omega
  simp[this]
 unfold bhl
 rw[e1,e2]
 have:(P ++ x :: (Q ++ y :: R)).set P.length y=P ++ y :: (Q ++ y :: R):=by simp
 rw[this]
 rw[List.set_append_right _ _ (by omega)]
 have:P.length+1+Q.length - P.length=Q.length+1:=by omega
 rw[this]
 simp
theorem bbb{w:World}(x y:Pnt){K:KV}(h: ∀w',Fz w w'->K (.int .i64 (apu x y)) w'):ik P F.ee [yy x,yy y] w K:=by
 rw[M.fp.fcall]
 apply M.fp.calls
 unfold M.fp
 refine St.uf (St.km w) fun b1 w1 S1=>?_
 refine St.uf S1 fun b2 w2 S2=>?_
 have S3:St w (dr w2 1) (jd b2 (zy y).toArray T.au :: jd b1 (zy x).toArray T.au :: []):=S2.ju ((Fr.refl _ w2).dr 1)
 have x0:iq (dr w2 1) b1 0=some (.int .u64 x.at'):=by rw[S3.swap.cell];rfl
 have x1:iq (dr w2 1) b1 1=some (.int .u64 x.id):=by rw[S3.swap.cell];rfl
 have y0:iq (dr w2 1) b2 0=some (.int .u64 y.at'):=by rw[S3.cell];rfl
 have y1:iq (dr w2 1) b2 1=some (.int .u64 y.id):=by rw[S3.cell];rfl
 simp[x0,x1,y0,y1]
 refine agz _ _ ?_
 simp[x0,x1,y0,y1]
 refine agz _ _ ?_
 simp
 have S4:=S3.mkB #[.int .i64 (ta x.at' y.at'),.int .i64 (ta x.id y.id)] T.d
 rw[show (dr w2 1).heap.size=w2.heap.size from rfl] at S4
 have hsl:Sl ((dr w2 1).alloc (.cells #[.int .i64 (ta x.at' y.at'),.int .i64 (ta x.id y.id)] T.d)) 1 ahk (.slice (some ⟨w2.heap.size,0,none⟩) 2 2) [ta x.at' y.at',ta x.id y.id]:=by
  have hh:=S4.blk
  refine⟨some ⟨w2.heap.size,0,none⟩,2,rfl,by simp,by simp[maxLen],fun i z hz=>⟨w2.heap.size,0,rfl,mh hh,fun j u hj=>?_⟩⟩
  rw[iw hh]
  match i,j with
  | 0,0=>simp[ahk] at hz hj⊢;rw[hz];exact hj
  | 1,0=>simp[ahk] at hz hj⊢;rw[hz];exact hj
  | i+2,_=>simp at hz
  | _,j+1=>simp[ahk] at hj
 exact bds hsl (h _ S4.fr)
set_option maxRecDepth 100000
open Go.Eng
abbrev vS(g n cap:Nat):Value:= .slice (some ⟨g,0,none⟩) n cap
abbrev CF:Value:= .func (.func F.ee) #[] #[]
theorem bkp{g n cap i:Nat}(h:i < n)(w:World)(K:KV):iaT P T.an (vS g n cap) (.int .i64 (i:Nat)) w K=K (.pointer (some ⟨g,i * 2,none⟩)) w:=by simp[h]
theorem bot(b o:Nat)(x:Pnt)(w:World)(K:KV):stT P T.au (.pointer (some ⟨b,o,none⟩)) (yy x) w K=stN P b o (zy x) w K:=by
 unfold yy
 simp[zy]
theorem wr1{x:Nat}(h:x < 1000000):IntKind.i64.wrap ((x:Int)+1)=((x+1:Nat):Int):=by rw[jc];rfl
theorem bsf{x:Nat}(h:1<=x)(hx:x < 1000000):IntKind.i64.wrap ((x:Int) - 1)=((x - 1:Nat):Int):=by rw[jc];omega
section
variable {w0 w : World} {R : List Asn} {g n cap : Nat} {l : List Pnt}
theorem asa(S:St w0 w (vx (vS g n cap) l :: R)){i:Nat}(hi:i < l.length)(K:KV):ldN P 2 g (i * 2) w K=K (yy l[i]) w:=by
 obtain⟨b,o,c,hv,_,_,hc⟩:=(S.row yu:ayg w (vS g n cap) l).at hi
 injection hv with h1 h2 h3
 injection h1 with h1
 injection h1 with h1 h4
 subst h1 h4
 exact tk (zy l[i]) 2 rfl (fun k u hk=>by have:=hc k u hk;rwa [Nat.zero_add] at this) K
theorem bbm(S:St w0 w (vx (vS g n cap) l :: R)){i:Nat}(hi:i < l.length)(x:Pnt){K:KV}(h: ∀w',St w0 w' (vx (vS g n cap) (l.set i x) :: R)->K undef w'):stT P T.au (.pointer (some ⟨g,i * 2,none⟩)) (yy x) w K:=by
 obtain⟨b,c,hv,hs⟩:=St.bqg yu arj S hi x
 injection hv with h1 h2 h3
 injection h1 with h1
 injection h1 with h1 h4
 subst h1
 rw[bot]
 have:=hs K h
 rwa [Nat.zero_add] at this
theorem bpn(S:St w0 w R)(x y:Pnt){K:KV}(h: ∀w',St w0 w' R->K (.int .i64 (apu x y)) w'):aax P CF [yy x,yy y] w K:=by
 have:=bia (P:=P) F.ee [] [] [yy x,yy y] w K
 rw[show (CF:Value)= .func (.func F.ee) ([]:List Value).toArray ([]:List Value).toArray from rfl,this]
 exact bbb x y fun w' f=>h w' (S.ju f)
theorem agr(S:St w0 w (vx (vS g n cap) l :: R)):l.length=n:=by
 obtain⟨_,_,hv,_⟩:=(S.row yu:ayg w (vS g n cap) l)
 injection hv with _ h _
 exact h.symm
end
def brn(w0:World)(g n cap a:Nat)(X Z S:List Pnt)(x:Pnt)(R:List Asn):KL:=fun v w1=> ∃(j:Nat)(S1 S2:List Pnt),v=[.int .i64 (j:Nat)]/\j=a+S1.length/\X.length=a/\abu (S1 ++ S2)/\(∀y∈S2,leS x y)/\(S1 ++ S2).Perm S/\St w0 w1 (vx (vS g n cap) (X ++ (S1 ++ x :: S2) ++ Z) :: R)
def bos(w0:World)(g n cap a b:Nat)(X A Y:List Pnt)(R:List Asn):KL:=fun v w1=> ∃(u:Value)(i:Nat)(S Q:List Pnt),v=[u,.int .i64 (i:Nat)]/\i=a+S.length/\S.length+Q.length=A.length/\1<=S.length/\abu S/\(S ++ Q).Perm A/\St w0 w1 (vx (vS g n cap) (X ++ S ++ Q ++ Y) :: R)
section
variable {w0 w : World} {R : List Asn} {g n cap : Nat} {l : List Pnt}
theorem boh{a b:Nat}{X A Y:List Pnt}(S:St w0 w (vx (vS g n cap) (X ++ A ++ Y) :: R))(hn:n < 100000)(ha:X.length=a)(hb:a+A.length=b){K:KV}
  (h: ∀w' C,abu C->C.Perm A->St w0 w' (vx (vS g n cap) (X ++ C ++ Y) :: R)->K (.tuple #[]) w'):ik P F.ba [vS g n cap,.int .i64 (a:Nat),.int .i64 (b:Nat),CF] w K:=by
 have hlen:=agr S
 simp only[List.length_append] at hlen
 rw[M.f.fcall]
 apply M.f.calls
 unfold M.f
 simp only[mm,wr1 (show a < 1000000 by omega)]
 by_cases hA:A=[]
 ·subst hA
  simp only[List.length_nil] at hb
  refine⟨fun v w1=>v=[undef,.int .i64 ((a+1:Nat):Int)]/\w1=w,fun _ _=>0,⟨rfl,rfl⟩,?_⟩
  rintro v w1 ⟨rfl,rfl⟩
  unfold M.f.j0
  have g1:gv [undef,Value.int .i64 ((a+1:Nat):Int)] 1= .int .i64 ((a+1:Nat):Int):=rfl
  have hlt: ¬((a+1:Nat):Int) < (b:Int):=by omega
  simp only[ir,g1,na,hlt,decide_false,Eng.cond_false]
  exact h w1 [] List.Pairwise.nil (List.Perm.refl _) S
 have hAl:0 < A.length:=List.length_pos_iff.2 hA
 refine⟨bos w0 g n cap a b X A Y R,fun v _=>b - ms v 1,⟨_,a+1,[A[0]],A.drop 1,rfl,rfl,by simp;omega,by simp,by simp,?_,?_⟩,?_⟩
 ·rw[List.singleton_append,show A[0] :: A.drop 1=A from by rw[<-List.drop_eq_getElem_cons hAl,List.drop_zero]]
 ·have e:X ++ [A[0]] ++ A.drop 1 ++ Y=X ++ A ++ Y:=by
   rw[List.append_assoc X,List.singleton_append,show A[0] :: A.drop 1=A from by rw[<-List.drop_eq_getElem_cons hAl,List.drop_zero]]
  rw[e];exact S
 rintro v w1 ⟨u,i,S0,Q,rfl,hi,hl0,h1,hS,hp,T1⟩
 have g1:gv [u,Value.int .i64 (i:Nat)] 1= .int .i64 (i:Nat):=rfl
 unfold M.f.j0
 simp only[ir,g1,na]
 by_cases hib:i < b
 ·have hib':(i:Int) < b:=by omega
  have hQ:0 < Q.length:=by omega
  obtain⟨x,Q',rfl⟩:=List.exists_cons_of_length_pos hQ
  simp only[hib',decide_true,Eng.cond_true]
  refine⟨brn w0 g n cap a X (Q' ++ Y) S0 x R,fun v _=>ms v 0,⟨i,S0,[],rfl,hi,ha,by simpa using hS,by simp,by simp,by simpa using T1⟩,?_⟩
  rintro v w2 ⟨j,S1,S2,rfl,hj,_,hs12,hle,hp12,T2⟩
  have hl12:=hp12.length_eq
  rw[List.length_append] at hl12
  simp only[List.length_cons] at hl0
  have done: ∀v w3,abu (S1 ++ x :: S2)->St w0 w3 (vx (vS g n cap) (X ++ (S1 ++ x :: S2) ++ (Q' ++ Y)) :: R)->bos w0 g n cap a b X A Y R [v,.int .i64 (IntKind.i64.wrap ((i:Int)+1))] w3/\b - ms [v,.int .i64 (IntKind.i64.wrap ((i:Int)+1))] 1 < b - ms [u,.int .i64 (i:Nat)] 1:=by
   intro v w3 hasc T3
   rw[wr1 (by omega)]
   refine⟨⟨v,i+1,S1 ++ x :: S2,Q',rfl,by simp;omega,by simp;omega,by simp;omega,hasc,?_,by simpa using T3⟩,by simp[ms,gv];omega⟩
   refine List.Perm.trans ?_ hp
   rw[show S0 ++ x :: Q'=(S0 ++ [x]) ++ Q' from by simp]
   refine List.Perm.append_right _ ?_
   refine List.Perm.trans List.perm_middle ?_
   refine List.Perm.trans (List.Perm.cons x hp12) ?_
   exact (List.perm_append_comm (l₁:=S0) (l₂:=[x])).symm
  have g0:gv [Value.int .i64 (j:Nat)] 0= .int .i64 (j:Nat):=rfl
  unfold M.f.j3
  simp only[ir,g0]
  have T3:=T2.ju ((Fr.refl _ w2).dr 1)
  by_cases hja:a < j
  ·have hS1:0 < S1.length:=by omega
   obtain⟨S1',y,rfl⟩: ∃S1' y,S1=S1' ++ [y]:=⟨S1.dropLast,S1.getLast (List.ne_nil_of_length_pos hS1),(List.dropLast_concat_getLast _).symm⟩
   have hja':(a:Int) < (j:Int):=by omega
   simp only[List.length_append,List.length_singleton] at hj hl12
   have ej:j - 1=X.length+S1'.length:=by omega
   have eL:X ++ (S1' ++ [y] ++ x :: S2) ++ (Q' ++ Y)=(X ++ S1') ++ y :: ([] ++ x :: (S2 ++ (Q' ++ Y))):=by simp
   have eL2:X ++ (S1' ++ x :: (y :: S2)) ++ (Q' ++ Y)=(X ++ S1') ++ x :: ([] ++ y :: (S2 ++ (Q' ++ Y))):=by simp
   have j1:j < (X ++ (S1' ++ [y] ++ x :: S2) ++ (Q' ++ Y)).length:=by simp;omega
   have j2:j - 1 < (X ++ (S1' ++ [y] ++ x :: S2) ++ (Q' ++ Y)).length:=by omega
   have r1:(X ++ (S1' ++ [y] ++ x :: S2) ++ (Q' ++ Y))[j]=x:=by
    have hjj:j=(X ++ S1' ++ [y]).length:=by simp;omega
    have e:X ++ (S1' ++ [y] ++ x :: S2) ++ (Q' ++ Y)=(X ++ S1' ++ [y]) ++ x :: (S2 ++ (Q' ++ Y)):=by simp
    simp only[e,hjj]
    simp
   have r2:(X ++ (S1' ++ [y] ++ x :: S2) ++ (Q' ++ Y))[j - 1]=y:=by
    have hjj:j - 1=(X ++ S1').length:=by simp;omega
    have e:X ++ (S1' ++ [y] ++ x :: S2) ++ (Q' ++ Y)=(X ++ S1') ++ y :: (x :: S2 ++ (Q' ++ Y)):=by simp
    simp only[e,hjj]
    simp
   have d1:=asa T3 j1
   have d2:=asa T3 j2
   rw[r1] at d1
   rw[r2] at d2
   have i1:=fun w K=>bkp (g:=g) (cap:=cap) (show j < n by omega) w K
   have i2:=fun w K=>bkp (g:=g) (cap:=cap) (show j - 1 < n by omega) w K
   have hw:=bsf (x:=j) (by omega) (by omega)
   have b1:(j:Int) < n:=by omega
   have b2:((j - 1:Nat):Int) < n:=by omega
   simp[hja,hja',hw,i1,i2,b1,b2,d1,d2]
   refine bpn T3 x y fun w4 T4=>?_
   by_cases hc:leS y x
   ·have hlt: ¬apu x y < 0:=fun hh=>awj.1 hh hc
    simp[hlt]
    refine done _ _ ?_ T4
    have h12:=List.pairwise_append.1 hs12
    refine List.pairwise_append.2 ⟨h12.1,List.pairwise_cons.2 ⟨hle,h12.2.1⟩,fun c hcm q hq=>?_⟩
    rcases List.mem_cons.1 hq with rfl|hq
    ·rcases List.mem_append.1 hcm with hcm|hcm
     ·exact ((List.pairwise_append.1 h12.1).2.2 c hcm y (by simp)).trans hc
     ·rw[List.mem_singleton.1 hcm];exact hc
    ·exact h12.2.2 c hcm q hq
   ·have hlt:apu x y < 0:=awj.2 hc
    simp[hlt]
    unfold M.f.j4
    have T5:=T4.ju ((Fr.refl _ w4).dr 1)
    have d1:=asa T5 j1
    have d2:=asa T5 j2
    rw[r1] at d1
    rw[r2] at d2
    simp[hw,i1,i2,b1,b2,d1,d2]
    refine bbm T5 j1 y fun w6 T6=>?_
    refine bbm T6 (by simpa using j2) x fun w7 T7=>?_
    have e:((X ++ (S1' ++ [y] ++ x :: S2) ++ (Q' ++ Y)).set j y).set (j - 1) x=X ++ (S1' ++ x :: (y :: S2)) ++ (Q' ++ Y):=by
     have:=blw (X ++ S1') [] (S2 ++ (Q' ++ Y)) y x (l:=X ++ (S1' ++ [y] ++ x :: S2) ++ (Q' ++ Y)) (i:=j - 1) (j:=j) eL (by simp;omega) (by simp;omega) j2 j1
     unfold bhl at this
     rw[r1,r2] at this
     rw[eL2,<-this,List.set_comm _ _ (by omega)]
    rw[e] at T7
    refine⟨⟨j - 1,S1',y :: S2,rfl,by omega,ha,by simpa using hs12,fun z hz=>?_,by simpa using hp12,T7⟩,by simp[ms,gv];omega⟩
    rcases List.mem_cons.1 hz with rfl|hz
    ·exact leS.of hc
    ·exact hle z hz
  ·have hja': ¬(a:Int) < (j:Int):=by omega
   have hS1:S1=[]:=List.length_eq_zero_iff.1 (by omega)
   subst hS1
   simp[hja,hja']
   have:=done (.int .i64 (j:Nat)) _ (List.pairwise_cons.2 ⟨hle,by simpa using hs12⟩) T3
   simpa using this
 ·have hib': ¬(i:Int) < b:=by omega
  have hQ:Q=[]:=List.length_eq_zero_iff.1 (by omega)
  subst hQ
  simp only[hib',decide_false,Eng.cond_false]
  exact h w1 S0 hS (by simpa using hp) (by simpa using T1)
end
def axy(x y:Int):Int:=IntKind.u64.wrap (BitVec.ofInt IntKind.u64.bits x ^^^ BitVec.ofInt IntKind.u64.bits y).toNat
def shU(x:Int)(k:Nat):Int:=x.fdiv (2 ^ min k IntKind.u64.bits)
def bre(a:Int):Int:=axy a (shU a 31)
def brh(a:Int):Int:=bre (IntKind.u64.wrap (axy a (shU a 27) * 10723151780598845931))
def brf(a:Int):Int:=brh (IntKind.u64.wrap (axy a (shU a 30) * 13787848793156543929))
def ajw(n:Int):Int:=brf (IntKind.u64.wrap (n+11400714819323198485))
theorem auy{w:World}(n:Int){K:KV}(h:K (.int .u64 (ajw n)) w):ik P F.fw [.int .u64 n] w K:=by
 rw[M.ga.fcall]
 apply M.ga.calls
 unfold M.ga
 have sh: ∀(t:TypeId)(rx ry:Operand)(x y:Int)(hy:0<=y)(w:World)(K:KV),iy P .shr t rx ry (.int .u64 x) (.int .u64 y) w K=K (.int .u64 (shU x y.toNat)) w:=fun t rx ry x y hy w K=>by rw[adx hy];rfl
 have xo: ∀(t:TypeId)(rx ry:Operand)(x y:Int)(w:World)(K:KV),iy P .xor t rx ry (.int .u64 x) (.int .u64 y) w K=K (.int .u64 (axy x y)) w:=fun t rx ry x y w K=>by rw[awp];rfl
 simp only[mm,sh _ _ _ _ 30 (by decide),sh _ _ _ _ 27 (by decide),sh _ _ _ _ 31 (by decide),xo,xy]
 exact h
def atI(id:Int)(i:Nat):Int:=ajw (IntKind.u64.wrap (ajw id+(i:Int)))
theorem baq{w:World}(id:Int){i:Nat}(hi:i < 1000){K:KV}(h:K (.int .u64 (atI id i)) w):ik P F.hf [.int .u64 id,.int .i64 (i:Nat)] w K:=by
 rw[M.gn.fcall]
 apply M.gn.calls
 unfold M.gn
 refine auy id ?_
 have hw:IntKind.u64.wrap (i:Int)=(i:Int):=mu (by omega) (by omega)
 have hc: ∀w K,cvT P T.d T.a (.int .i64 (i:Nat)) w K=K (.int .u64 (i:Nat)) w:=fun w K=>by rw[pw (ks:= .i64) (kd:= .u64) (by kernel_rfl) (by kernel_rfl),hw]
 simp only[hc,mm]
 exact auy _ h
def abp(id:Int)(n:Nat):List Pnt:=(List.range n).map fun i=>⟨atI id i,id⟩
def acd(ids:List Int)(n:Nat):List Pnt:=ids.flatMap fun id=>abp id n
theorem agv(id:Int)(n:Nat):(abp id n).length=n:=by simp[abp]
theorem aer(ids:List Int)(n:Nat):(acd ids n).length=ids.length * n:=by
 unfold acd
 induction ids with
 | nil=>simp
 | cons a l ih=>rw[List.flatMap_cons,List.length_append,ih,agv,List.length_cons,Nat.add_mul];omega
theorem bek(id:Int){n i:Nat}(hi:i < n):(abp id n).take (i+1)=(abp id n).take i ++ [⟨atI id i,id⟩]:=by
 rw[List.take_succ_eq_append_getElem (by rw[agv];exact hi)]
 simp[abp]
theorem bbo{ids:List Int}{n i:Nat}(hi:i < ids.length):acd (ids.take (i+1)) n=acd (ids.take i) n ++ abp ids[i] n:=by
 unfold acd
 rw[List.take_succ_eq_append_getElem hi,List.flatMap_append]
 simp
section
variable {w0 w : World} {R : List Asn}
theorem boe(x:Pnt)(w':World)(K:KV):bsT P T.an 1 #[(0,.agg #[.int .u64 x.at',.int .u64 x.id])] w' K=K (.slice (some ⟨w'.heap.size,0,none⟩) 1 1) (w'.alloc (.cells #[.int .u64 x.at',.int .u64 x.id] T.au)):=kr
theorem bic{g n cap:Nat}{l:List Pnt}(S:St w0 w (vx (vS g n cap) l :: R))(hn:n<=12){K:KV}(h: ∀w' l',abu l'->l'.Perm l->St w0 w' (vx (vS g n cap) l' :: R)->K (.tuple #[]) w'):ik P F.am [vS g n cap,CF] w K:=by
 have hlen:=agr S
 rw[M.bd.fcall]
 apply M.bd.calls
 unfold M.bd
 have hw:IntKind.u64.wrap (n:Int)=(n:Int):=mu (by omega) (by omega)
 have hc: ∀w K,cvT P T.d T.bu (.int .i64 (n:Nat)) w K=K (.int .u64 (n:Nat)) w:=fun w K=>by rw[pw (ks:= .i64) (kd:= .u64) (by kernel_rfl) (by kernel_rfl),hw]
 simp[hc]
 rw[M.dz.fcall]
 refine alc (x:=n) (by omega) ?_
 rw[M.c.fcall]
 apply M.c.calls
 unfold M.c
 refine⟨fun x w1=>(gv x 5= .int .i64 ((0:Nat):Int)/\gv x 13= .int .i64 (n:Nat))/\w1=w,fun _ _=>0,⟨⟨rfl,rfl⟩,rfl⟩,?_⟩
 rintro x w1 ⟨⟨x5,x13⟩,rfl⟩
 unfold M.c.j0
 have hs:IntKind.i64.wrap ((n:Int) - 0)=n:=by rw[jc];omega
 have h12:(n:Int)<=12:=by omega
 simp only[ir,x5,x13,ol]
 simp only[Int.natCast_zero,hs,agj,h12,decide_true,Eng.cond_true,il]
 refine boh (X:=[]) (A:=l) (Y:=[]) (a:=0) (b:=n) (by simpa using S) (by omega) rfl (by omega) fun w' C h1 h2 S'=>h w' C h1 h2 (by simpa using S')
end
def asd:Int->List Int->Prop
 | _,[]=>True
 | a,x :: l=>a < x/\asd x l
def bqu(w0:World)(ids:List Int)(R:List Asn):KL:=fun x w1=> ∃(u:Value)(kx:Int)(i:Nat),x=[u,.slice none 0 0,.int .i64 0,.int .u64 kx,.int .i64 (i:Nat)]/\i<=ids.length/\asd kx (ids.drop i)/\St w0 w1 R
def MkO(w0:World)(ids:List Int)(n:Nat)(R:List Asn):KL:=fun x w1=> ∃(u0 u1 u2 u3 v:Value)(i:Nat),x=[u0,u1,u2,u3,v,.int .i64 (i:Nat)]/\i<=ids.length/\St w0 w1 (vx v (acd (ids.take i) n) :: R)
def MkN(w0:World)(pre:List Pnt)(id:Int)(n:Nat)(R:List Asn):KL:=fun x w1=> ∃(u v:Value)(j:Nat),x=[u,v,.int .i64 (j:Nat)]/\j<=n/\St w0 w1 (vx v (pre ++ (abp id n).take j) :: R)
section
variable {w0 w : World} {R : List Asn}
theorem bhy{v:Value}{l:List Pnt}(S:St w0 w (vx v l :: R))(hn:l.length<=12)(hl:l≠[]){K:KV}(h: ∀w' l',abu l'->l'.Perm l->St w0 w' (vx v l' :: R)->K (.tuple #[]) w'):ik P F.am [v,CF] w K:=by
 obtain⟨b,cap,cur,hv,_⟩:=S.akx (k:=0) (List.length_pos_iff.2 hl)
 subst hv
 exact bic S hn h
theorem bna{v:Value}{ids:List Int}{n:Nat}(S:St w0 w R)(hs: ∀w' L,St w0 w' (L ++ R)->Sl w' 1 Suint64.qe v ids)(hr:asd 0 ids)(hn:1<=n/\n<=12)(hlen:ids.length * n<=12)(hl:ids≠[])(hl12:ids.length<=12){K:KV}(h: ∀w' v' l,abu l->l.Perm (acd ids n)->St w0 w' (vx v' l :: R)->K (.tuple #[v',.int .i64 0]) w'):ik P F.ha [v,.int .i64 (n:Nat)] w K:=by
 rw[M.bs.fcall]
 apply M.bs.calls
 unfold M.bs
 have hln: ∀w' K,biT P .len #[T.g] T.d [false] [v] w' K=K (.int .i64 ids.length) w':=fun w' K=>(hs w [] S).jv (by kernel_rfl) [false]
 simp only[ir,hln]
 refine⟨bqu w0 ids R,fun x _=>ids.length - ms x 4,⟨_,0,0,rfl,Nat.zero_le _,by simpa using hr,S⟩,?_⟩
 rintro x w1 ⟨u,kx,i,rfl,hi,hri,S1⟩
 have q4:gv [u,.slice none 0 0,.int .i64 0,.int .u64 kx,.int .i64 (i:Nat)] 4= .int .i64 (i:Nat):=rfl
 simp only[q4]
 by_cases hil:i < ids.length
 ·have hili:(i:Int) < ids.length:=by omega
  have hwi:IntKind.i64.wrap ((i:Int)+1)=((i+1:Nat):Int):=by rw[jc];rfl
  obtain⟨ab,ao,cap,hv,_,_,hc⟩:=(hs w1 [] S1).at hil
  have hia: ∀w' K,iaT P T.g v (.int .i64 (i:Nat)) w' K=K (.pointer (some ⟨ab,ao+i,none⟩)) w':=fun w' K=>by rw[hv];simp[hil]
  have hcell:iq w1 ab (ao+i)=some (.int .u64 ids[i]):=by simpa [Suint64.qe] using hc 0 _ rfl
  have hd:ids.drop i=ids[i] :: ids.drop (i+1):=List.drop_eq_getElem_cons hil
  rw[hd] at hri
  have hlt: ¬ids[i]<=kx:=by have:=hri.1;omega
  simp[hili]
  unfold M.bs.j2
  simp[hia,hcell,hlt,hwi]
  exact⟨⟨_,_,i+1,rfl,by omega,hri.2,S1⟩,by simp[ms,gv];omega⟩
 have hie:i=ids.length:=by omega
 subst hie
 simp
 unfold M.bs.j0
 have n1: ¬(n:Int) < 1:=by omega
 have n2: ¬(64:Int) < (n:Int):=by omega
 have n3: ¬(16:Int) < (ids.length:Int):=by omega
 simp[n1,n2]
 unfold M.bs.j6
 simp[hln,n3]
 unfold M.bs.j5
 simp only[ir,hln]
 refine⟨MkO w0 ids n R,fun x _=>ids.length - ms x 5,⟨_,_,_,_,_,0,rfl,Nat.zero_le _,Go.Eng.ye S1⟩,?_⟩
 rintro x w2 ⟨u0,u1,u2,u3,rv,i,rfl,hi,S2⟩
 by_cases hil:i < ids.length
 ·have hili:(i:Int) < ids.length:=by omega
  have hwi:IntKind.i64.wrap ((i:Int)+1)=((i+1:Nat):Int):=by rw[jc];rfl
  obtain⟨ab,ao,cap,hv,_,_,hc⟩:=(hs w2 [_] S2).at hil
  have hia: ∀w' K,iaT P T.g v (.int .i64 (i:Nat)) w' K=K (.pointer (some ⟨ab,ao+i,none⟩)) w':=fun w' K=>by rw[hv];simp[hil]
  have hcell:iq w2 ab (ao+i)=some (.int .u64 ids[i]):=by simpa [Suint64.qe] using hc 0 _ rfl
  have htk:=bbo (n:=n) hil
  have hpl:(acd (ids.take i) n).length+n<=1000:=by
   rw[aer,List.length_take,Nat.min_eq_left (by omega)]
   have:=Nat.mul_le_mul hi (Nat.le_refl n)
   omega
  generalize ids[i]=id at *
  simp[hili]
  unfold M.bs.j9
  simp[hia,hcell]
  refine⟨MkN w0 (acd (ids.take i) n) id n R,fun x _=>n - ms x 2,⟨_,_,0,rfl,Nat.zero_le _,by simpa using S2⟩,?_⟩
  rintro x w3 ⟨u,rv3,j,rfl,hj,S3⟩
  by_cases hjn:j < n
  ·have hjni:(j:Int) < n:=by omega
   have hwj:IntKind.i64.wrap ((j:Int)+1)=((j+1:Nat):Int):=by rw[jc];rfl
   simp[hjni]
   unfold M.bs.j12
   simp
   refine baq id (i:=j) (by omega) ?_
   simp[boe ⟨atI id j,id⟩]
   have S4:St w0 (w3.alloc (.cells #[.int .u64 (atI id j),.int .u64 id] T.au)) (vx (.slice (some ⟨w3.heap.size,0,none⟩) 1 1) [⟨atI id j,id⟩] :: _):=St.uh (l:=[(⟨atI id j,id⟩:Pnt)]) S3 yu rfl (by simp[maxLen])
   have htl:((abp id n).take j).length<=n:=by rw[List.length_take,agv];omega
   refine Go.Eng.wt et.an yu arj S4.swap (S4.row yu) (by simp;omega) (by decide) fun w5 v5 S5=>?_
   simp[hwj]
   refine⟨⟨_,_,j+1,rfl,by omega,?_⟩,by simp[ms,gv];omega⟩
   rw[bek id hjn,<-List.append_assoc]
   exact S5.swap.drop
  ·have hje:j=n:=by omega
   subst hje
   simp[hwi]
   refine⟨⟨_,_,_,_,_,i+1,rfl,by omega,?_⟩,by simp[ms,gv];omega⟩
   rw[htk]
   have e:(abp id j).take j=abp id j:=List.take_of_length_le (by rw[agv];exact Nat.le_refl _)
   rw[e] at S3
   exact S3
 ·have hie:i=ids.length:=by omega
  subst hie
  rw[List.take_length] at S2
  simp
  have hpl:=aer ids n
  have hne:acd ids n≠[]:=fun e=>by
   rw[e] at hpl
   have h1:=List.length_pos_iff.2 hl
   have:=Nat.mul_pos h1 (show 0 < n by omega)
   simp at hpl
   omega
  refine bhy S2 (by rw[hpl];exact hlen) hne fun w3 l' a1 a2 S3=>?_
  exact h w3 rv l' a1 a2 S3
def BsI(w0:World)(l:List Pnt)(n:Int)(R:List Asn):KL:=fun x w1=> ∃(u:Value)(i j:Nat),x=[u,.int .i64 (i:Nat),.int .i64 (j:Nat)]/\i<=j/\j<=l.length/\(∀k (hk:k < l.length),k < i->l[k].at' < n)/\(∀k (hk:k < l.length),j<=k->n<=l[k].at')/\St w0 w1 R
theorem beu{x:Pnt}{n:Int}(S:St w0 w R){K:KV}(h: ∀w',St w0 w' R->K (.int .i64 (ta x.at' n)) w'):lh P (.func (.func F.gq) #[] #[]) [yy x,.int .u64 n] w K:=by
 rw[M.gh.rcall]
 apply M.gh.calls
 unfold M.gh yy
 refine St.uf S fun b w1 S1=>?_
 have c0:iq w1 b 0=some (.int .u64 x.at'):=by rw[S1.cell];rfl
 simp[c0]
 exact agz _ _ (h w1 S1.drop)
theorem bco{l:List Pnt}(h:abu l){i j:Nat}(hij:i<=j)(hj:j < l.length):(l[i]'(by omega)).at'<=l[j].at':=by
 by_cases he:i=j
 ·subst he;exact Int.le_refl _
 ·have:=List.pairwise_iff_getElem.1 h i j (by omega) hj (by omega)
  unfold leS at this
  omega
theorem bpz{v:Value}{l:List Pnt}(S:St w0 w R)(hs: ∀w' L,St w0 w' (L ++ R)->ayg w' v l)(hl:l.length<=100000)(ha:abu l)(n:Int){K:KV}
  (h: ∀w' (i:Nat) bb,i<=l.length->(∀k (hk:k < l.length),k < i->l[k].at' < n)->(∀k (hk:k < l.length),i<=k->n<=l[k].at')->St w0 w' R->K (.tuple #[.int .i64 (i:Nat),.bool bb]) w'):ik P F.y [v,.int .u64 n,.func (.func F.gq) #[] #[]] w K:=by
 rw[M.d.fcall]
 apply M.d.calls
 unfold M.d
 have hln: ∀w' K,biT P .len #[T.an] T.d [false] [v] w' K=K (.int .i64 l.length) w':=fun w' K=>(hs w [] S).jv (by kernel_rfl) [false]
 simp only[ir,hln]
 refine⟨BsI w0 l n R,fun x _=>ms x 2 - ms x 1,⟨_,0,l.length,rfl,Nat.zero_le _,Nat.le_refl _,fun _ _ h=>by omega,fun _ _ h=>by omega,S⟩,?_⟩
 rintro x w1 ⟨u,i,j,rfl,hij,hj,hlo,hhi,S1⟩
 have ia: ∀(k:Nat),k < l.length->∃ab ao,(∀w' K,iaT P T.an v (.int .i64 (k:Nat)) w' K=K (.pointer (some ⟨ab,ao+k * 2,none⟩)) w')/\∀(hk:k < l.length) K,ldN P 2 ab (ao+k * 2) w1 K=K (yy l[k]) w1:=fun k hk=>by
  obtain⟨ab,ao,cap,hv,_,_,hc⟩:=(hs w1 [] S1).at hk
  exact⟨ab,ao,fun w' K=>by rw[hv];simp[hk],fun _ K=>tk (zy l[k]) 2 rfl hc K⟩
 by_cases hlt:i < j
 ·have hlti:(i:Int) < j:=by omega
  simp[hlti]
  unfold M.d.j2
  have hm:(i+j) / 2 < l.length:=by omega
  have w1':IntKind.i64.wrap ((i:Int)+(j:Int))=((i+j:Nat):Int):=by rw[jc];rfl
  have w2':IntKind.u64.wrap ((i+j:Nat):Int)=((i+j:Nat):Int):=mu (by omega) (by omega)
  have c1: ∀w K,cvT P T.d T.bu (.int .i64 ((i+j:Nat):Int)) w K=K (.int .u64 ((i+j:Nat):Int)) w:=fun w K=>by rw[pw (ks:= .i64) (kd:= .u64) (by kernel_rfl) (by kernel_rfl),w2']
  have hsh: ∀(rx ry:Operand)(w:World)(K:KV),iy P .shr T.bu rx ry (.int .u64 ((i+j:Nat):Int)) (.int .u64 1) w K=K (.int .u64 (((i+j) / 2:Nat):Int)) w:=fun rx ry w K=>by
   rw[adx (by omega)]
   have e:((i+j:Nat):Int).fdiv (2 ^ min (1:Int).toNat IntKind.u64.bits)=(((i+j) / 2:Nat):Int):=by
    show ((i+j:Nat):Int).fdiv 2=_
    rw[Int.fdiv_eq_ediv_of_nonneg _ (by omega)]
    omega
   rw[e]
  have c2: ∀w K,cvT P T.bu T.d (.int .u64 (((i+j) / 2:Nat):Int)) w K=K (.int .i64 (((i+j) / 2:Nat):Int)) w:=fun w K=>by rw[pw (ks:= .u64) (kd:= .i64) (by kernel_rfl) (by kernel_rfl),jc]
  obtain⟨ab,ao,e1,e2⟩:=ia _ hm
  have e2:=e2 hm
  have g1:gv [u,Value.int .i64 (i:Nat),.int .i64 (j:Nat)] 1= .int .i64 (i:Nat):=rfl
  have g2:gv [u,Value.int .i64 (i:Nat),.int .i64 (j:Nat)] 2= .int .i64 (j:Nat):=rfl
  simp only[g1,g2,mm,w1',c1,hsh,c2,e1]
  generalize hmm:(i+j) / 2=m at *
  simp[e2]
  refine beu S1 fun w2 S2=>?_
  have hwm:IntKind.i64.wrap ((m:Int)+1)=((m+1:Nat):Int):=by rw[jc];rfl
  by_cases hc:l[m].at' < n
  ·have hc':ta l[m].at' n < 0:=by unfold ta;rw[if_pos hc];decide
   simp[hc',hwm]
   refine⟨⟨_,m+1,j,rfl,by omega,hj,fun k hk hkm=>?_,hhi,S2⟩,by simp[ms,gv];omega⟩
   have:=bco ha (i:=k) (j:=m) (by omega) hm
   omega
  ·have hc': ¬ta l[m].at' n < 0:=by
    unfold ta
    rw[if_neg hc]
    split <;>decide
   simp[hc']
   refine⟨⟨_,i,m,rfl,by omega,by omega,hlo,fun k hk hkm=>?_,S2⟩,by simp[ms,gv];omega⟩
   have:=bco ha (i:=m) (j:=k) hkm hk
   omega
 ·have hie:i=j:=by omega
  subst hie
  simp
  unfold M.d.j0
  by_cases hil:i < l.length
  ·have hili:(i:Int) < l.length:=by omega
   obtain⟨ab,ao,e1,e2⟩:=ia _ hil
   have e2:=e2 hil
   simp[hili,e1,e2]
   refine beu S1 fun w2 S2=>?_
   simp
   exact h w2 i _ hj hlo hhi S2
  ·have hili: ¬(i:Int) < l.length:=by omega
   simp[hili]
   exact h w1 i _ hj hlo hhi S1
def aek(l:List Pnt)(n:Int):Int:=((l.getD ((l.filter fun p=>decide (p.at' < n)).length % l.length) ⟨0,0⟩)).id
theorem bgd{l:List Pnt}{n:Int}{i:Nat}(hi:i<=l.length)(h1: ∀k (hk:k < l.length),k < i->l[k].at' < n)(h2: ∀k (hk:k < l.length),i<=k->n<=l[k].at'):(l.filter fun p=>decide (p.at' < n)).length=i:=by
 have e:l=l.take i ++ l.drop i:=(List.take_append_drop i l).symm
 rw[e,List.filter_append,List.length_append]
 have a1:(l.take i).filter (fun p=>decide (p.at' < n))=l.take i:=by
  rw[List.filter_eq_self]
  intro p hp
  obtain⟨k,hk,rfl⟩:=List.mem_iff_getElem.1 hp
  rw[List.length_take] at hk
  rw[List.getElem_take]
  exact decide_eq_true (h1 k (by omega) (by omega))
 have a2:(l.drop i).filter (fun p=>decide (p.at' < n))=[]:=by
  rw[List.filter_eq_nil_iff]
  intro p hp
  obtain⟨k,hk,rfl⟩:=List.mem_iff_getElem.1 hp
  rw[List.length_drop] at hk
  rw[List.getElem_drop]
  have:=h2 (i+k) (by omega) (by omega)
  simp
  try omega
 rw[a1,a2,List.length_take]
 simp
 try omega
theorem bhx{v:Value}{l:List Pnt}(S:St w0 w R)(hs: ∀w' L,St w0 w' (L ++ R)->ayg w' v l)(hl:l.length<=100000)(hne:l≠[])(ha:abu l)(t:Int){K:KV}(h: ∀w',St w0 w' R->K (.int .u64 (aek l (ajw t))) w'):ik P F.gt [v,.int .u64 t] w K:=by
 have hpos:=List.length_pos_iff.2 hne
 rw[M.fv.fcall]
 apply M.fv.calls
 unfold M.fv
 refine auy t ?_
 rw[M.fz.fcall]
 apply M.fz.calls
 unfold M.fz
 have hln: ∀w' K,biT P .len #[T.an] T.d [false] [v] w' K=K (.int .i64 l.length) w':=fun w' K=>(hs w [] S).jv (by kernel_rfl) [false]
 have h0: ¬(l.length:Int)=0:=by omega
 simp[hln,h0,hne]
 unfold M.fz.j0
 refine bpz S hs hl ha (ajw t) fun w1 i bb hi h1 h2 S1=>?_
 have hf:=bgd hi h1 h2
 have hrem:(i:Int).tmod (l.length:Int)=((i % l.length:Nat):Int):=by
  rw[<-Int.ofNat_tmod]
 have hm:i % l.length < l.length:=Nat.mod_lt _ hpos
 have hown:aek l (ajw t)=l[i % l.length].id:=by
  unfold aek
  rw[hf,List.getD_eq_getElem?_getD,List.getElem?_eq_getElem hm]
  rfl
 rw[hown] at h
 generalize i % l.length=m at *
 obtain⟨ab,ao,cap,hv,_,_,hc⟩:=(hs w1 [] S1).at hm
 have hia: ∀w' K,iaT P T.an v (.int .i64 (m:Nat)) w' K=K (.pointer (some ⟨ab,ao+m * 2,none⟩)) w':=fun w' K=>by rw[hv];simp[hm]
 have hcell:iq w1 ab (ao+m * 2+1)=some (.int .u64 l[m].id):=by simpa [zy] using hc 1 _ rfl
 simp only[aba,abc,hln,axp h0,hrem,hia]
 simp[hcell]
 exact h w1 S1
theorem bas{l:List Pnt}{id:Int}(h: ∀p∈l,p.id=id)(hne:l≠[])(n:Int):aek l n=id:=by
 unfold aek
 have hm:(l.filter fun p=>decide (p.at' < n)).length % l.length < l.length:=Nat.mod_lt _ (List.length_pos_iff.2 hne)
 rw[List.getD_eq_getElem?_getD,List.getElem?_eq_getElem hm]
 exact h _ (List.getElem_mem hm)
end
end Go.Proofs.YtgepcfcicngceaaGreatDoor.Ring
set_option maxRecDepth 100000
namespace Go.Proofs.YtgepcfcicngceaaGreatDoor
open Go.Eng Go.Proofs.YtgepcfcicngceaaGreatDoor.Sint
def azh(w0:World)(R:List Asn)(fv:Value)(pf:Spn->Bool):Prop:= ∀w' L x (K:KV),St w0 w' (L ++ R)->(∀w'',Fz w' w''->K (.bool (pf x)) w'')->lh P fv [lw x] w' K
section
variable {w0 w : World} {R : List Asn} {v fv : Value} {l : List Spn} {pf : Spn → Bool}
def bsc(w0:World)(l:List Spn)(pf:Spn->Bool)(R:List Asn):KL:=fun x w1=> ∃(i:Nat),gv x 2= .int .i64 (i:Nat)/\i<=l.length/\(∀j (h:j < l.length),j < i->pf l[j]=false)/\St w0 w1 R
theorem bcq(S:St w0 w R)(hs: ∀w' L,St w0 w' (L ++ R)->SlS w' v l)(hf:azh w0 R fv pf)(hl:l.length<=1000000){K:KV}
  (hno:(∀x∈l,pf x=false)->∀w',St w0 w' R->K (.int .i64 (-1)) w')
  (hyes: ∀i (hi:i < l.length),pf l[i]=true->(∀j (h:j < l.length),j < i->pf l[j]=false)->∀w',St w0 w' R->K (.int .i64 (i:Nat)) w'):ik P F.bf [v,fv] w K:=by
 rw[M.n.fcall]
 apply M.n.calls
 unfold M.n
 have hlen: ∀w' K,biT P .len #[T.h] T.d [false] [v] w' K=K (.int .i64 l.length) w':=fun w' K=>(hs w [] S).jv (by kernel_rfl) [false]
 simp[hlen]
 refine⟨bsc w0 l pf R,fun x _=>l.length - ms x 2,⟨0,rfl,Nat.zero_le _,fun j _ h=>by omega,S⟩,?_⟩
 rintro x w1 ⟨i,e2,hi,hpre,S1⟩
 rw[e2]
 by_cases hil:i < l.length
 ·have hwi:IntKind.i64.wrap ((i:Int)+1)=((i+1:Nat):Int):=by rw[jc];rfl
  simp[hil]
  unfold M.n.j2
  rw[e2]
  obtain⟨ab,ao,cap,hv,_,_,hc⟩:=(hs w1 [] S1).at hil
  have hia: ∀w' K,iaT P T.h v (.int .i64 (i:Nat)) w' K=K (.pointer (some ⟨ab,ao+i * 8,none⟩)) w':=fun w' K=>by rw[hv];simp[hil]
  have hld: ∀K,ldN P 8 ab (ao+i * 8) w1 K=K (lw l[i]) w1:=fun K=>tk (jz l[i]) 8 rfl hc K
  simp[hia,hld]
  refine hf w1 [] l[i] _ S1 fun w2 f2=>?_
  have S2:=S1.ju f2
  cases hp:pf l[i] with
  | true=>
   simp
   exact hyes i hil hp hpre w2 S2
  | false=>
   simp
   rw[hwi]
   refine⟨⟨i+1,rfl,by omega,fun j h hj=>?_,S2⟩,?_⟩
   ·by_cases hji:j=i
    ·subst hji;exact hp
    ·exact hpre j h (by omega)
   ·have:ms x 2=i:=by unfold ms;rw[e2];simp
    rw[this]
    simp[ms,gv];omega
 ·have hie:i=l.length:=by omega
  subst hie
  simp
  refine hno (fun y hy=>?_) w1 S1
  obtain⟨j,hj,rfl⟩:=List.getElem_of_mem hy
  exact hpre j hj hj
end
set_option maxRecDepth 100000
structure Rul where
 jl:Bool
 lr:ByteArray
 num:Int
 bov:ByteArray
def mf(r:Rul):List Value:=[.bool r.jl,.string r.lr,.int .u64 r.num,.string r.bov]
theorem yj(r:Rul):(mf r).length=4:=rfl
theorem afb(r:Rul): ∀u∈mf r,lc u=true:=fun u hu=>by
 simp[mf] at hu
 rcases hu with rfl|rfl|rfl|rfl <;>rfl
def vy(r:Rul):Value:= .agg #[.bool r.jl,.string r.lr,.int .u64 r.num,.string r.bov]
abbrev anr(v:Value)(l:List Rul):Asn:=qa T.r 4 mf v l
abbrev uu:ByteArray:=⟨#[102,97,105,108]⟩
abbrev bid:ByteArray:=⟨#[97,108,119,97,121,115]⟩
def ko:Rul:=⟨true,uu,0,⟨#[]⟩⟩
theorem avx:(uu.toList == bid.toList)=false:=by decide+kernel
theorem aqv:(uu.toList == uu.toList)=true:=by decide+kernel
theorem bla:((⟨#[]⟩:ByteArray).toList == (⟨#[]⟩:ByteArray).toList)=true:=by decide+kernel
theorem arh{w:World}{K:KV}(h:K (.tuple #[.int .i64 1,.int .u64 0,.int .u64 0]) w):ik P F.fz [.string uu] w K:=by
 rw[M.ex.fcall]
 apply M.ex.calls
 unfold M.ex
 simp only[ir,uy,avx,aqv,il]
 unfold M.ex.j1
 simp only[il]
 exact h
section
variable {w0 w : World} {R : List Asn} {v fv : Value} {l : List Spn} {pf : Spn → Bool}
theorem alg(S:St w0 w R){K:KV}(h: ∀w',St w0 w' R->K (.bool true) w'):ik P F.dh [vy ko] w K:=by
 rw[M.cy.fcall]
 apply M.cy.calls
 unfold M.cy vy ko
 refine St.uf S fun b w1 S1=>?_
 have c1:iq w1 b 1=some (.string uu):=by rw[S1.cell];rfl
 have c2:iq w1 b 2=some (.int .u64 0):=by rw[S1.cell];rfl
 have c3:iq w1 b 3=some (.string ⟨#[]⟩):=by rw[S1.cell];rfl
 simp[c1]
 refine arh ?_
 simp
 unfold M.cy.j0
 simp[c2,c3,uy,bla]
 exact h w1 S1.drop
theorem auc(S:St w0 w R)(hs: ∀w' L,St w0 w' (L ++ R)->SlS w' v l)(hf:azh w0 R fv pf)(hl:l.length<=1000000){K:KV}(h: ∀w',St w0 w' R->K (.bool (l.any pf)) w'):ik P F.p [v,fv] w K:=by
 rw[M.ac.fcall]
 apply M.ac.calls
 unfold M.ac
 refine bcq S hs hf hl (fun hno w' S'=>?_) fun i hi hyes hpre w' S'=>?_
 ·have e:l.any pf=false:=by
   rw[List.any_eq_false]
   intro x hx
   rw[hno x hx];simp
  rw[e] at h
  simp
  exact h w' S'
 ·have e:l.any pf=true:=by
   rw[List.any_eq_true]
   exact⟨l[i],List.getElem_mem hi,hyes⟩
  rw[e] at h
  have hi0:(0:Int)<=(i:Int):=by omega
  simp[hi0]
  exact h w' S'
theorem bcu:azh w0 R (.func (.func F.ep) #[] #[]) Spn.pp:=fun w' L x K S' hK=>by
 rw[M.fh.rcall]
 apply M.fh.calls
 unfold M.fh lw
 have S0:=St.km w'
 refine St.uf S0 fun b w1 S1=>?_
 have c7:iq w1 b 7=some (.bool x.pp):=by rw[S1.cell];rfl
 simp[c7]
 exact hK w1 S1.fr
def ary(l:List Spn):Int:=if l=[] then 0 else if l.any Spn.pp then 1 else 2
theorem azi(S:St w0 w R)(hs: ∀w' L,St w0 w' (L ++ R)->SlS w' v l)(hl:l.length<=1000000)(hne:l≠[]){K:KV}(h: ∀w',St w0 w' R->K (.bool (l.any Spn.pp)) w'):ik P F.gj [vy ko,v] w K:=by
 rw[M.ec.fcall]
 apply M.ec.calls
 unfold M.ec
 have hlen: ∀w' K,biT P .len #[T.h] T.d [false] [v] w' K=K (.int .i64 l.length) w':=fun w' K=>(hs w [] S).jv (by kernel_rfl) [false]
 obtain⟨a,cap,hv,_⟩:=hs w [] S
 rw[show vy ko= .agg (mf ko).toArray from rfl]
 refine St.uf S fun b w1 S1=>?_
 rw[vd]
 have hvc:v.cells= #[v]:=by rw[hv];rfl
 have S2:St w0 (w1.alloc (.cells #[v] T.h)) (jd w1.heap.size #[v] T.h :: jd b (mf ko).toArray T.r :: R):=S1.mkB #[v] T.h
 rw[hvc]
 generalize w1.heap.size=vb at *
 generalize w1.alloc _=w2 at *
 have ld4: ∀{w':World}{L:List Asn},St w0 w' (jd b (mf ko).toArray T.r :: L)->∀K,ldN P 4 b 0 w' K=K (vy ko) w':=fun S' K=>S'.ldA (n:=4) (i:=0) (mf ko) rfl rfl K
 simp[ld4 S2.swap]
 refine alg S2 fun w3 S3=>?_
 have c0:iq w3 vb 0=some v:=by rw[S3.cell];rfl
 have h0: ¬(l.length:Int)=0:=by have:=List.length_pos_iff.2 hne;omega
 simp[c0,hlen,h0,hne]
 unfold M.ec.j0
 have c1:iq w3 b 1=some (.string uu):=by rw[S3.swap.cell];rfl
 simp only[ir,zm]
 simp[c1,uy,aqv]
 have hc:=amo (P:=P) FN.cw.at (by kernel_rfl) (by kernel_rfl) [] [.pointer (some ⟨vb,0,none⟩)] [.func (.func F.ep) #[] #[]] w3
 simp only[List.nil_append,List.cons_append] at hc
 rw[show (#[.pointer (some ⟨vb,0,none⟩)]:Array Value)=[Value.pointer (some ⟨vb,0,none⟩)].toArray from rfl,show (#[]:Array Value)=([]:List Value).toArray from rfl] at *
 rw[hc]
 apply M.gd.calls
 unfold M.gd
 simp[c0]
 exact auc S3 (fun w' L S'=>hs w' (L ++ [_,_]) (by simpa using S')) bcu hl fun w' S'=>h w' S'.drop.drop
end
section
variable {w0 w : World} {R : List Asn} {v rv : Value} {l : List Spn}
theorem bfm(S:St w0 w R)(hr: ∀w' L,St w0 w' (L ++ R)->Sl w' 4 mf rv [ko])(hs: ∀w' L,St w0 w' (L ++ R)->SlS w' v l)(hl:l.length<=1000000){K:KV}(h: ∀w',St w0 w' R->K (.int .i64 (ary l)) w'):ik P F.gn [rv,v] w K:=by
 rw[M.ev.fcall]
 apply M.ev.calls
 unfold M.ev
 have hlen: ∀w' K,biT P .len #[T.h] T.d [false] [v] w' K=K (.int .i64 l.length) w':=fun w' K=>(hs w [] S).jv (by kernel_rfl) [false]
 obtain⟨a,cap,hv,_⟩:=hs w [] S
 have hvc:v.cells= #[v]:=by rw[hv];rfl
 rw[vd,hvc]
 have S2:St w0 (w.alloc (.cells #[v] T.h)) (jd w.heap.size #[v] T.h :: R):=S.mkB #[v] T.h
 generalize w.heap.size=vb at *
 generalize w.alloc _=w2 at *
 have c0: ∀{w':World}{L:List Asn},St w0 w' (jd vb #[v] T.h :: L)->iq w' vb 0=some v:=fun S'=>by rw[S'.cell];rfl
 by_cases hne:l=[]
 ·subst hne
  simp[c0 S2,hlen]
  exact h w2 S2.drop
 ·have h0: ¬(l.length:Int)=0:=by have:=List.length_pos_iff.2 hne;omega
  simp[c0 S2,hlen,h0,hne]
  unfold M.ev.j0
  rw[zm,M.w.fcall]
  apply M.w.calls
  unfold M.w
  have hlr: ∀w' K,biT P .len #[T.ad] T.d [false] [rv] w' K=K (.int .i64 1) w':=fun w' K=>(hr w2 [_] S2).jv (by kernel_rfl) [false]
  simp only[ir,hlr]
  refine⟨fun x w1=> ∃(i:Nat),gv x 2= .int .i64 (i:Nat)/\i<=1/\(i=1->l.any Spn.pp=false)/\St w0 w1 (jd vb #[v] T.h :: R),fun x _=>1 - ms x 2,⟨0,rfl,Nat.zero_le _,fun h=>by omega,S2⟩,?_⟩
  rintro x w3 ⟨i,x2,hi,hany,S3⟩
  rw[x2]
  by_cases hi0:i=0
  ·subst hi0
   simp
   unfold M.w.j2
   rw[x2]
   obtain⟨ab,ao,cap,hrv,_,_,hc⟩:=(hr w3 [_] S3).at (i:=0) (by simp)
   have hia: ∀w' K,iaT P T.ad rv (.int .i64 ((0:Nat):Int)) w' K=K (.pointer (some ⟨ab,ao,none⟩)) w':=fun w' K=>by rw[hrv];simp
   have hld: ∀K,ldN P 4 ab ao w3 K=K (vy ko) w3:=fun K=>tk (mf ko) 4 rfl (fun k u hk=>by have:=hc k u hk;simpa using this) K
   simp only[ir,hia]
   simp[hld]
   have hcl:=fun K=>amo (P:=P) FN.de.at (by kernel_rfl) (by kernel_rfl) [] [.pointer (some ⟨vb,0,none⟩)] [vy ko] w3 K
   simp only[List.nil_append,List.cons_append] at hcl
   rw[hcl]
   apply M.ge.calls
   unfold M.ge
   rw[show vy ko= .agg (mf ko).toArray from rfl]
   refine St.uf S3 fun b w4 S4=>?_
   have ld4: ∀K,ldN P 4 b 0 w4 K=K (vy ko) w4:=fun K=>S4.ldA (n:=4) (i:=0) (mf ko) rfl rfl K
   simp[ld4,c0 S4.swap]
   refine azi S4 (fun w' L S'=>hs w' (L ++ [_,_]) (by simpa using S')) hl hne fun w5 S5=>?_
   have S6:=S5.drop
   cases ha:l.any Spn.pp with
   | true=>
    have hw:=h w5 S6.drop
    unfold ary at hw
    rw[if_neg hne,ha] at hw
    have ck:iq w5 ab ao=some (.bool true):=by
     obtain⟨ab',ao',cap',hrv',_,_,hc'⟩:=(hr w5 [_] S6).at (i:=0) (by simp)
     rw[hrv] at hrv'
     injection hrv' with e1 _ _
     injection e1 with e1
     injection e1 with e1 e2 _
     subst e1 e2
     have:=hc' 0 _ rfl
     simpa [ko] using this
    have hia0: ∀w' K,iaT P T.ad rv (.int .i64 0) w' K=K (.pointer (some ⟨ab,ao,none⟩)) w':=hia
    simp[hia0,ck]
    exact hw
   | false=>
    simp
    exact⟨⟨1,rfl,Nat.le_refl _,fun _=>by simpa using ha,S6⟩,by simp[ms,gv,x2,show IntKind.i64.wrap 1=1 from by decide]⟩
  ·have hi1:i=1:=by omega
   subst hi1
   simp
   have hw:=h w3 S3.drop
   unfold ary at hw
   rw[if_neg hne,hany rfl] at hw
   exact hw
end
abbrev act:ByteArray:=⟨#[107,101,101,112]⟩
abbrev lq:ByteArray:=⟨#[107,101,101,112,32,102,97,105,108]⟩
section
variable {w0 w : World} {R : List Asn}
theorem bdo(c:UInt8)(w:World)(K:KV):ixT P T.n (.string ⟨#[c]⟩) (.int .i64 0) w K=K (.int .u8 (c.toNat:Nat)) w:=asn (⟨#[c]⟩:ByteArray) (i:=0) (Nat.lt_succ_self 0) w K
theorem bpk(s:ByteArray)(c:UInt8){K:KV}(h:K (.int .i64 (Lib.countByte s.data.toList c:Nat)) w):ik P F.al [.string s,.int .u8 (c.toNat:Nat)] w K:=by
 unfold ik lz
 rw[run_callFunc_extern (e:=Extern.BytealgCount.count) FN.al.at (by kernel_rfl) (by kernel_rfl) (by kernel_rfl) (by kernel_rfl)]
 have hr:=Lib.run_countString (P:=P) s (c.toNat:Int) w
 rw[show ((c.toNat:Int).toNat.toUInt8)=c from by simp] at hr
 rw[show [Value.string s,.int .u8 ((c.toNat:Nat):Int)].toArray= #[.string s,.int .u8 (c.toNat:Int)] from rfl,hr]
 exact h
theorem bor(s:ByteArray)(c:UInt8){K:KV}(h:K (.int .i64 (Lib.indexByte s.data.toList c)) w):ik P F.z [.string s,.int .u8 (c.toNat:Nat)] w K:=by
 unfold ik lz
 rw[run_callFunc_extern (e:=Extern.BytealgIndexByte.indexByte) FN.z.at (by kernel_rfl) (by kernel_rfl) (by kernel_rfl) (by kernel_rfl)]
 have hr:=Lib.run_indexByteString (P:=P) s (c.toNat:Int) w
 rw[show ((c.toNat:Int).toNat.toUInt8)=c from by simp] at hr
 rw[show [Value.string s,.int .u8 ((c.toNat:Nat):Int)].toArray= #[.string s,.int .u8 (c.toNat:Int)] from rfl,hr]
 exact h
theorem age(c:UInt8):(⟨#[c]⟩:ByteArray).size=1:=rfl
theorem ari(s:ByteArray)(c:UInt8){K:KV}(h:K (.int .i64 (Lib.countByte s.data.toList c:Nat)) w):ik P F.fb [.string s,.string ⟨#[c]⟩] w K:=by
 rw[M.co.fcall]
 apply M.co.calls
 unfold M.co
 simp[age]
 unfold M.co.j0
 simp[age,bdo]
 exact bpk s c h
theorem aqk(s:ByteArray)(c:UInt8)(hne:((⟨#[c]⟩:ByteArray).toList == s.toList)=false){K:KV}(h:K (.int .i64 (Lib.indexByte s.data.toList c)) w):ik P F.ds [.string s,.string ⟨#[c]⟩] w K:=by
 rw[M.fi.fcall]
 apply M.fi.calls
 unfold M.fi
 rw[M.t.fcall]
 apply M.t.calls
 unfold M.t
 simp[age,bdo]
 simp only[uy,hne,il]
 rw[M.bx.fcall]
 apply M.bx.calls
 unfold M.bx
 exact bor s c h
theorem brw(w:World)(K:KV):atr P T.bi (.int .i64 2) (.int .i64 2) w K=K (.slice (some ⟨w.heap.size,0,none⟩) 2 2) (w.alloc (.cells #[.string ⟨#[]⟩,.string ⟨#[]⟩] T.n)):=kr
theorem bct(S:St w0 w R){K:KV}(h: ∀w' g,St w0 w' (jd g #[.string act,.string uu] T.n :: R)->K (.slice (some ⟨g,0,none⟩) 2 2) w'):ik P F.gb [.string lq,.string ⟨#[32]⟩] w K:=by
 rw[M.fj.fcall]
 apply M.fj.calls
 unfold M.fj
 rw[M.ao.fcall]
 apply M.ao.calls
 unfold M.ao
 have e1:((⟨#[32]⟩:ByteArray).toList == (⟨#[]⟩:ByteArray).toList)=false:=by decide+kernel
 simp only[uy,e1]
 simp
 unfold M.ao.j1
 simp
 refine ari lq 32 ?_
 have ec:Lib.countByte lq.data.toList 32=1:=by decide
 rw[ec]
 have w2:IntKind.i64.wrap 2=2:=by decide
 simp[w2]
 unfold M.ao.j2
 have w10:IntKind.i64.wrap ((lq.size:Int)+1)=10:=by decide
 have w21:IntKind.i64.wrap (2 - 1)=1:=by decide
 have m2: ∀w' K',biT P .min #[T.d,T.d] T.d [false,false] [.int .i64 2,.int .i64 10] w' K'=K' (.int .i64 2) w':=fun w' K'=>by rw[amb];rfl
 simp[w10,m2,brw,w21]
 have S1:=S.mkB #[.string ⟨#[]⟩,.string ⟨#[]⟩] T.n
 generalize w.heap.size=g at *
 generalize w.alloc _=w1 at *
 refine⟨fun x w'=>(x=[undef,.string lq,.int .i64 0]/\St w0 w' (jd g #[.string ⟨#[]⟩,.string ⟨#[]⟩] T.n :: R))\/(∃u,x=[u,.string uu,.int .i64 1]/\St w0 w' (jd g #[.string act,.string ⟨#[]⟩] T.n :: R)),fun x _=>1 - ms x 2,.inl ⟨rfl,S1⟩,?_⟩
 rintro x w2' (⟨rfl,S2⟩|⟨u,rfl,S2⟩)
 ·simp
  unfold M.ao.j5
  refine aqk lq 32 (by decide+kernel) ?_
  have ei:Lib.indexByte lq.data.toList 32=4:=by decide
  rw[ei]
  simp
  unfold M.ao.j6
  have w4:IntKind.i64.wrap 4=4:=by decide
  have w5:IntKind.i64.wrap 5=5:=by decide
  have s1: ∀w' K',slT P T.n (.string lq) none (some (.int .i64 4)) none w' K'=K' (.string act) w':=fun w' K'=>by
   show slT P T.n (.string lq) none (some (.int .i64 ((4:Nat):Int))) none w' K'=_
   rw[aiv (i:=0) (j:=4) (by kernel_rfl) (.inl ⟨rfl,rfl⟩) (.inr ⟨_,rfl⟩) (by decide) (by decide)]
   rw[show lq.extract 0 4=act from by decide+kernel]
  have s2: ∀w' K',slT P T.n (.string lq) (some (.int .i64 5)) none none w' K'=K' (.string uu) w':=fun w' K'=>by
   show slT P T.n (.string lq) (some (.int .i64 ((5:Nat):Int))) none none w' K'=_
   rw[aiv (i:=5) (j:=9) (by kernel_rfl) (.inr ⟨_,rfl⟩) (.inl ⟨rfl,rfl⟩) (by decide) (by decide)]
   rw[show lq.extract 5 9=uu from by decide+kernel]
  simp[w4,w5,s1,s2,age]
  refine St.oh S2 rfl (by simp) fun w3 S3=>?_
  have w1:IntKind.i64.wrap 1=1:=by decide
  exact⟨⟨w1,S3⟩,by simp[ms,gv,w1]⟩
 ·simp
  refine St.oh S2 rfl (by simp) fun w3 S3=>?_
  have S4:St w0 w3 (jd g #[.string act,.string uu] T.n :: R):=S3
  have s3: ∀w' K',slT P T.bi (.slice (some ⟨g,0,none⟩) 2 2) none (some (.int .i64 2)) none w' K'=K' (.slice (some ⟨g,0,none⟩) 2 2) w':=fun w' K'=>by
   rw[baj (by kernel_rfl) (by decide) (by decide)]
   rfl
  simp[w2,s3]
  exact h w3 g S4
end
section
variable {w0 w : World} {R : List Asn}
theorem aqr:(act.toList == act.toList)=true:=by decide+kernel
abbrev ruB(b:Nat)(r:Rul):Asn:=jd b (mf r).toArray T.r
theorem bfp{b:Nat}{r:Rul}(S:St w0 w (ruB b r :: R)){K:KV}(h: ∀w',St w0 w' (ruB b r :: R)->K (vy r) w'):
  stN P b 0 (mf r) w fun _ w=>oy P T.r (.pointer (some ⟨b,0,none⟩)) w fun r0 w'=>w'=w/\K r0 w:=by
 refine St.put (vs:=mf r) (cs':=(mf r).toArray) S (afb r) (by simp[mf]) (by simp[mf]) fun w' S'=>?_
 have hres: ∀w' K,oy P T.r (.pointer (some ⟨b,0,none⟩)) w' K=ldN P 4 b 0 w' K:=fun w' K=>kr
 have ld4: ∀K,ldN P 4 b 0 w' K=K (vy r) w':=fun K=>S'.ldA (n:=4) (i:=0) (mf r) rfl rfl K
 rw[hres,ld4]
 exact⟨rfl,h w' S'⟩
theorem bhi(S:St w0 w R){K:KV}(h: ∀w',St w0 w' R->K (.tuple #[vy ko,.bool true]) w'):ik P F.gl [.string lq] w K:=by
 rw[M.dq.fcall]
 apply M.dq.calls
 unfold M.dq
 have S1:St w0 (w.alloc (.cells #[.bool false,.string ⟨#[]⟩,.int .u64 0,.string ⟨#[]⟩] T.r)) (ruB w.heap.size ⟨false,⟨#[]⟩,0,⟨#[]⟩⟩ :: R):=S.mkB _ _
 simp
 generalize w.heap.size=rb at *
 generalize w.alloc _=w1 at *
 refine bct S1 fun w2 g S2=>?_
 have c0:iq w2 g 0=some (.string act):=by rw[S2.cell];rfl
 have c1:iq w2 g 1=some (.string uu):=by rw[S2.cell];rfl
 simp[c0]
 simp only[biz,aqr]
 simp
 unfold M.dq.j0
 simp[c0,c1]
 simp only[uy,aqr]
 simp
 have S3:=S2.swap.ju ((Fr.refl _ w2).dr 1)
 refine St.put (vs:=mf ko) (cs':=(mf ko).toArray) S3 (afb ko) (by simp[mf]) (by simp[mf]) fun w4 S4=>?_
 have c1:iq w4 rb 1=some (.string uu):=by rw[S4.cell];rfl
 simp[c1]
 refine arh ?_
 simp
 unfold M.dq.j1
 have S5:=S4.ju ((Fr.refl _ w4).dr 1)
 have ld4: ∀{w':World}{L:List Asn},St w0 w' (ruB rb ko :: L)->∀K,ldN P 4 rb 0 w' K=K (vy ko) w':=fun S' K=>S'.ldA (n:=4) (i:=0) (mf ko) rfl rfl K
 simp[ld4 S5]
 refine alg S5 fun w6 S6=>?_
 simp[ld4 S6]
 unfold vy ko
 simp
 exact bfp (r:=ko) (K:=fun r w=>K (.tuple #[r,.bool true]) w) S6 fun w' S'=>h w' S'.drop.drop
end
def zg(b:Nat)(o:Obj):Asn where
 ok w B:=w.heap[b]? =some o/\B b
 jl h hf hn:=⟨hf.heap h.1 (hn _ h.2),h.2⟩
def cL:Code->Code
 | .seq x _=>x
 | .block _ c=>c
 | .rangeFunc _ _ x _=>x
 | c=>c
def cR:Code->Code
 | .seq _ y=>y
 | .rangeFunc _ _ _ y=>y
 | c=>c
noncomputable abbrev pcB:Code:=FN.ag.body.getD .skip
noncomputable abbrev pc0:Code:=cL pcB
noncomputable abbrev pc1:Code:=cL (cR pcB)
noncomputable abbrev pc3:Code:=cL (cR (cR pcB))
noncomputable abbrev pc5:Code:=cL (cL (cR (cR (cR pcB))))
noncomputable abbrev pcF:Code:=cL (cR (cL (cR (cR (cR pcB)))))
noncomputable abbrev pcA:Code:=cL pcF
noncomputable abbrev pcD:Code:=cR pcF
noncomputable abbrev pcE:Code:=cR (cR (cR (cR pcB)))
theorem bqa:FN.ag.body=some (.seq pc0 (.seq pc1 (.seq pc3 (.seq (.seq pc5 (.block 0 (.rangeFunc (.tmp 18) #[19] pcA pcD))) pcE)))):=by kernel_rfl
theorem bro:ok0 32 pc0=true:=by kernel_rfl
theorem pk1:ok0 32 pc1=true:=by kernel_rfl
theorem pk3:ok0 32 pc3=true:=by kernel_rfl
theorem pk5:ok0 32 pc5=true:=by kernel_rfl
theorem bsa:ok0 32 pcA=true:=by kernel_rfl
theorem pkD:ok0 32 pcD=true:=by kernel_rfl
theorem pkE:ok0 32 pcE=true:=by kernel_rfl
section
variable {w0 w : World} {R : List Asn}
theorem pd0(e:Env)(w:World)(Q:Exit->KE):abm P pc0 e w Q=(alT P T.ad w fun t2 w=>alT P T.aa w fun t3 w=>Q .normal (upd (upd e 2 t2) 3 t3) w):=by kernel_rfl
theorem pd1(e:Env)(w:World)(Q:Exit->KE):abm P pc1 e w Q=(biT P .len #[T.n] T.d [false] [e 0] w fun t8 w=>iy P .gtr T.d (.tmp 8) (.const (.int .i64 2048)) t8 (.int .i64 2048) w fun t9 w=>
  ij (isB t9 false) (fun K'=>K' (e 0) w) w fun t11 w=>ij (isB t9 false) (fun K'=>ik P F.fb [t11,.string ⟨#[10]⟩] w K') w fun t12 w=>
  ij (isB t9 false) (fun K'=>iy P .geq T.d (.tmp 12) (.const (.int .i64 16)) t12 (.int .i64 16) w K') w fun t13 w=>jb t9 (.bool true) t13 w fun t14 w=>
  il t14 (stT P T.ad (e 2) (.slice none 0 0) w fun _ w=>stT P T.aa (e 3) (.int .i64 4) w fun _ w=>Q .ret (upd (upd (upd (upd (upd (upd (upd (upd e 7 (e 0)) 8 t8) 9 t9) 10 t9) 11 t11) 12 t12) 13 t13) 14 t14) w)
   (Q .normal (upd (upd (upd (upd (upd (upd (upd (upd e 7 (e 0)) 8 t8) 9 t9) 10 t9) 11 t11) 12 t12) 13 t13) 14 t14) w)):=by kernel_rfl
theorem pd3(e:Env)(w:World)(Q:Exit->KE):abm P pc3 e w Q=(iy P .eql T.n (.tmp 15) (.const (.string ⟨#[]⟩)) (e 0) (.string ⟨#[]⟩) w fun t16 w=>
  il t16 (stT P T.ad (e 2) (.slice none 0 0) w fun _ w=>stT P T.aa (e 3) (.int .i64 0) w fun _ w=>Q .ret (upd (upd e 15 (e 0)) 16 t16) w) (Q .normal (upd (upd e 15 (e 0)) 16 t16) w)):=by kernel_rfl
theorem pd5(e:Env)(w:World)(Q:Exit->KE):abm P pc5 e w Q=(ik P F.gc [e 0,.string ⟨#[10]⟩] w fun t18 w=>Q .normal (upd (upd e 17 (e 0)) 18 t18) w):=by kernel_rfl
theorem pdA(e:Env)(w:World)(Q:Exit->KE):abm P pcA e w Q=Q .normal (upd e 4 (e 19)) w:=by kernel_rfl
theorem pdD(e:Env)(w:World)(Q:Exit->KE):abm P pcD e w Q=(ik P F.gl [e 4] w fun t22 w=>exT P t22 0 w fun t23 w=>exT P t22 1 w fun t24 w=>alT P T.r w fun t5 w=>stT P T.r t5 t23 w fun _ w=>unT P .not t24 w fun t26 w=>
  il t26 (stT P T.ad (e 2) (.slice none 0 0) w fun _ w=>stT P T.aa (e 3) (.int .i64 7) w fun _ w=>abz 1 Q .ret (upd (upd (upd (upd (upd (upd (upd (upd (upd e 21 (e 4)) 22 t22) 20 t22) 23 t23) 24 t24) 5 t5) 6 t24) 25 t24) 26 t26) w)
   (ldT P T.ad (e 2) w fun t27 w=>ldT P T.r t5 w fun t28 w=>bsT P T.ad 1 #[(0,t28)] w fun t29 w=>biT P .append #[T.ad,T.ad] T.ad [false,false] [t27,t29] w fun t30 w=>stT P T.ad (e 2) t30 w fun _ w=>
    abz 1 Q .normal (upd (upd (upd (upd (upd (upd (upd (upd (upd (upd (upd (upd (upd e 21 (e 4)) 22 t22) 20 t22) 23 t23) 24 t24) 5 t5) 6 t24) 25 t24) 26 t26) 27 t27) 28 t28) 29 t29) 30 t30) w)):=by kernel_rfl
theorem pdE(e:Env)(w:World)(Q:Exit->KE):abm P pcE e w Q=(ldT P T.ad (e 2) w fun t31 w=>stT P T.ad (e 2) t31 w fun _ w=>stT P T.aa (e 3) (.int .i64 0) w fun _ w=>Q .ret (upd e 31 t31) w):=by kernel_rfl
end
section
variable {w0 w : World} {R : List Asn} {b l D b2 : Nat} {o o' : Obj}
theorem bem(S:St w0 w R)(o:Obj):St w0 (w.alloc o) (zg w.heap.size o :: R):=S.add ((Fr.refl _ w).alloc _) (B:=fun x=>x=w.heap.size) ⟨by rw[ja,if_pos rfl],rfl⟩ fun x hx=>by subst hx;rw[jg];omega
theorem aku(S:St w0 w (zg b o :: R)):w.heap[b]? =some o:=by
 obtain⟨B,h1,_⟩:=S.open
 exact h1.1
theorem amv(S:St w0 w (zg b o :: R))(o':Obj):St w0 (World.setObj w b o') (zg b o' :: R):=by
 obtain⟨B,⟨k1,k2⟩,hB,cl⟩:=S.open
 exact cl (World.setObj w b o') [zg b o'] ((Fr.refl B w).setObj (.inl k2) o') (Rs.one (B:=B) ⟨by rw[qj _ _ _ _ (mh k1),if_pos rfl],k2⟩ fun b hb=> .inl hb)
noncomputable def abo(fn:FuncId)(tmps:Array Value)(D:Nat)(st:LoopState):Loop:={state:=st,pending:=none,fn,tmps,params:= #[19],assign:=pcA,body:=pcD,defers:=D}
abbrev slB(b:Nat)(v:Value):Asn:=jd b #[v] T.ad
theorem bms{fn:FuncId}{tmps:Array Value}(hsz:tmps.size=32)(h2:tmps.getD 2 undef= .pointer (some ⟨b2,0,none⟩))(S:St w0 w (zg l (.loop (abo fn tmps D .ready)) :: slB b2 (.slice none 0 0) :: R)){K:KV}
  (h: ∀w' v',St w0 w' (zg l (.loop (abo fn tmps D .ready)) :: slB b2 v' :: anr v' [ko] :: R)->K (.bool true) w'):lh P (.func (.yield l) #[] #[]) [.string lq] w K:=by
 rw[ato (aku S) rfl]
 refine roundIn_of_wpIn (F:=Fence.wide) (n:=0) trivial ?_
 show pcA.wpIn (vh (some l)) 0 P _ _ w
 have hT:((#[19]:Array Nat).zip #[Value.string lq]).foldl (fun tmps (t,a)=>tmps.setIfInBounds t a) tmps=tmps.setIfInBounds 19 (.string lq):=by simp
 show pcA.wpIn (vh (some l)) 0 P _ {tmps:=((#[19]:Array Nat).zip #[Value.string lq]).foldl (fun tmps (t,a)=>tmps.setIfInBounds t a) tmps,defers:=[]} w
 rw[hT]
 have t19:(tmps.setIfInBounds 19 (.string lq)).getD 19 undef= .string lq:=by simp[hsz]
 have t2:(tmps.setIfInBounds 19 (.string lq)).getD 2 undef= .pointer (some ⟨b2,0,none⟩):=by
  rw[<-h2]
  simp[hsz]
 refine wpIn_mono (xd (r:=some l) (m:=0) (ds:=[]) pcA _ w (fun x e w1=>x= .normal/\e 4= .string lq/\e 2= .pointer (some ⟨b2,0,none⟩)/\w1=w) _ bsa (awg (by simpa using hsz) rfl) ?_) ?_
 ·rw[pdA]
  exact⟨rfl,t19,t2,rfl⟩
 ·rintro x a1 w1 ⟨e1,hR1,rfl,h4,h2',rfl⟩
  refine⟨_,run_beginRound (aku S) rfl,?_⟩
  rw[wz]
  have S2:St w0 _ (zg l (.loop (abo fn tmps D .busy)) :: _):=amv S (.loop {abo fn tmps D .ready with state:= .busy})
  generalize World.setObj w1 l _=w2 at *
  refine wpIn_mono (xd (r:=some l) (m:=0) (ds:=[]) pcD e1 w2 (fun x e w3=>x= .normal/\∃v',St w0 w3 (zg l (.loop (abo fn tmps D .busy)) :: slB b2 v' :: anr v' [ko] :: R)) a1 pkD hR1 ?_) ?_
  ·rw[pdD,h4,h2']
   refine bhi S2 fun w3 S3=>?_
   simp only[aba,abc]
   have S4:St w0 (w3.alloc (.cells #[.bool false,.string ⟨#[]⟩,.int .u64 0,.string ⟨#[]⟩] T.r)) (ruB w3.heap.size ⟨false,⟨#[]⟩,0,⟨#[]⟩⟩ :: _):=S3.mkB _ _
   unfold vy ko
   simp
   generalize w3.heap.size=rb at *
   generalize w3.alloc _=w4 at *
   refine St.put (vs:=mf ko) (cs':=(mf ko).toArray) S4 (afb ko) (by simp[mf]) (by simp[mf]) fun w5 S5=>?_
   have c2:iq w5 b2 0=some (.slice none 0 0):=by rw[S5.up2.cell];rfl
   have ld4: ∀K,ldN P 4 rb 0 w5 K=K (vy ko) w5:=fun K=>S5.ldA (n:=4) (i:=0) (mf ko) rfl rfl K
   simp[c2,ld4,vy,ko]
   have S6:St w0 (w5.alloc (.cells #[.bool true,.string uu,.int .u64 0,.string ⟨#[]⟩] T.r)) (anr (.slice (some ⟨w5.heap.size,0,none⟩) 1 1) [ko] :: _):=St.uh (l:=[ko]) S5 yj rfl (by simp[maxLen])
   have S7:=Go.Eng.ye (α:=Rul) (enc:=mf) (sz:=4) (e:=T.r) S6
   refine Go.Eng.wt et.ad yj afb S7 (S7.swap.row yj) (by simp) (by decide) fun w8 v8 S8=>?_
   obtain⟨a8,c8,hv8,_⟩:=(S8.row yj:Sl w8 4 mf v8 ([] ++ [ko]))
   subst hv8
   have S9:=S8.up4
   simp
   refine St.oh S9 rfl (by simp) fun w9 S10=>?_
   exact⟨rfl,_,S10.up4.up4.drop.up3.drop⟩
  ·rintro x a3 w3 ⟨e3,_,rfl,v',S3⟩
   have hend:=run_endRound (P:=P) none (aku S3)
   refine⟨_,_,hend,.bool true,rfl,?_⟩
   rw[wz]
   exact h _ v' (amv S3 _)
theorem aqx(S:St w0 w R){K:KV}(h: ∀w' v,St w0 w' (anr v [ko] :: R)->K (.tuple #[v,.int .i64 0]) w'):ik P F.ag [.string lq] w K:=by
 rw[show ik P F.ag [.string lq] w K=jy P F.ag [.string lq] w K from ait FN.ag.at (by kernel_rfl) (by kernel_rfl) _ _ _]
 refine (callsIn_wide (n:=0)).1 (callsIn_of_wp_marks (F:=Fence.wide) FN.ag.at bqa trivial ?_)
 have hnt:FN.ag.ntmps=32:=by kernel_rfl
 rw[hnt]
 have e0:Go.Eng.RdI 32 (List.range 32) [] {tmps:=[Value.string lq].toArray ++ Array.replicate (32 - 1) undef,defers:=[]} fun t=>([Value.string lq].toArray ++ Array.replicate (32 - 1) undef).getD t undef:=awg rfl rfl
 refine wpIn_seq (wpIn_mono (xd (r:=none) (m:=0) (ds:=[]) pc0 _ w (fun x e w1=>x= .normal/\∃b2 b3,e 0= .string lq/\e 2= .pointer (some ⟨b2,0,none⟩)/\e 3= .pointer (some ⟨b3,0,none⟩)/\St w0 w1 (slB b2 (.slice none 0 0) :: jd b3 #[.int .i64 0] T.aa :: R)) _ bro e0 ?_) ?_)
 ·rw[pd0]
  have S1:St w0 (w.alloc (.cells #[.slice none 0 0] T.ad)) (slB w.heap.size (.slice none 0 0) :: R):=S.mkB _ _
  have S2:=S1.mkB #[.int .i64 0] T.aa
  simp only[jg] at S2
  have a2: ∀w K,alT P T.ad w K=K (.pointer (some ⟨w.heap.size,0,none⟩)) (w.alloc (.cells #[.slice none 0 0] T.ad)):=fun w K=>by simp
  have a3: ∀w K,alT P T.aa w K=K (.pointer (some ⟨w.heap.size,0,none⟩)) (w.alloc (.cells #[.int .i64 0] T.aa)):=fun w K=>by simp
  simp only[a2,a3,jg]
  exact⟨trivial,w.heap.size,w.heap.size+1,rfl,rfl,rfl,S2.swap⟩
 rintro x a1 w1 ⟨e1,hR1,rfl,b2,b3,h0,h2,h3,S1⟩
 refine wpIn_seq (wpIn_mono (xd (r:=none) (m:=0) (ds:=[]) pc1 e1 w1 (fun x e w2=>x= .normal/\e 0= .string lq/\e 2= .pointer (some ⟨b2,0,none⟩)/\e 3= .pointer (some ⟨b3,0,none⟩)/\w2=w1) a1 pk1 hR1 ?_) ?_)
 ·rw[pd1,h0]
  have hs: ¬(2048:Int) < (lq.size:Int):=by decide
  simp[hs]
  refine ari lq 10 ?_
  have ec:Lib.countByte lq.data.toList 10=0:=by decide
  rw[ec]
  simp
  exact⟨h0,h2,h3⟩
 rintro x a2 w2 ⟨e2,hR2,rfl,h0,h2,h3,rfl⟩
 refine wpIn_seq (wpIn_mono (xd (r:=none) (m:=0) (ds:=[]) pc3 e2 w2 (fun x e w3=>x= .normal/\e 0= .string lq/\e 2= .pointer (some ⟨b2,0,none⟩)/\e 3= .pointer (some ⟨b3,0,none⟩)/\w3=w2) a2 pk3 hR2 ?_) ?_)
 ·rw[pd3,h0]
  have e1:(lq.toList == (⟨#[]⟩:ByteArray).toList)=false:=by decide+kernel
  simp only[uy,e1,il]
  exact⟨trivial,h0,h2,h3,trivial⟩
 rintro x a3 w3 ⟨e3,hR3,rfl,h0,h2,h3,rfl⟩
 refine wpIn_seq (wpIn_seq (wpIn_mono (xd (r:=none) (m:=0) (ds:=[]) pc5 e3 w3 (fun x e w4=>x= .normal/\∃g1 g2 g3,e 18= .func (.func F.m) #[] #[.pointer (some ⟨g1,0,none⟩),.pointer (some ⟨g2,0,none⟩),.pointer (some ⟨g3,0,none⟩)]/\e 2= .pointer (some ⟨b2,0,none⟩)/\e 3= .pointer (some ⟨b3,0,none⟩)/\
  St w0 w4 (jd g3 #[.int .i64 0] T.d :: jd g1 #[.string ⟨#[10]⟩] T.n :: jd g2 #[.string lq] T.n :: slB b2 (.slice none 0 0) :: jd b3 #[.int .i64 0] T.aa :: R)) a3 pk5 hR3 ?_) ?_))
 ·rw[pd5,h0]
  rw[M.eo.fcall]
  apply M.eo.calls
  unfold M.eo
  rw[M.ep.fcall]
  apply M.ep.calls
  unfold M.ep
  have S2:=S1.mkB #[.string lq] T.n
  have S3:=S2.mkB #[.string ⟨#[10]⟩] T.n
  have S4:=S3.mkB #[.int .i64 0] T.d
  simp only[jg] at S2 S3 S4
  simp only[vd,zm,jg]
  exact⟨trivial,w3.heap.size+1,w3.heap.size,w3.heap.size+1+1,rfl,h2,h3,S4⟩
 rintro x a4 w4 ⟨e4,hR4,rfl,g1,g2,g3,h18,h2,h3,S4⟩
 have ev18:a4.eval (.tmp 18)= .func (.func F.m) #[] #[.pointer (some ⟨g1,0,none⟩),.pointer (some ⟨g2,0,none⟩),.pointer (some ⟨g3,0,none⟩)]:=by
  rw[hR4.ev (.tmp 18) fun t ht=>by cases ht;rfl];exact h18
 have t2:a4.tmps.getD 2 undef= .pointer (some ⟨b2,0,none⟩):=by rw[hR4.2.2 2 rfl];exact h2
 have d4:a4.defers=[]:=hR4.2.1
 refine wpIn_block (wpIn_rangeFunc fun fn' hfn=>?_)
 have S5:=bem S4 (.deferred (some []))
 have S6:=bem S5 (.loop (abo fn' a4.tmps w4.heap.size .ready))
 simp only[jg] at S6
 generalize hw6:(w4.alloc (.deferred (some []))).alloc (.loop (abo fn' a4.tmps w4.heap.size .ready))=w6 at *
 have hcf: ∀args w,(callFunc F.m args).run P w= .ok (.enter F.m args) w:=fun args w=>by
  unfold callFunc
  simp only[Sem.run_bind,program]
  rw[show Sem.run P (Sem.program Sem.pure) w=Result.ok P w from rfl]
  have q1:(FN.m.name == "runtime.NumGoroutine")=false:=by kernel_rfl
  have q2:FN.m.body.isNone=false:=by kernel_rfl
  simp only[Result.andThen,FN.m.at,q1,q2,Bool.false_eq_true,if_false,Sem.run_pure]
 refine⟨w4.heap.size+1,[{target:= .collected w4.heap.size,args:= #[]}],w6,{target:= .fn (.func F.m) #[.pointer (some ⟨g1,0,none⟩),.pointer (some ⟨g2,0,none⟩),.pointer (some ⟨g3,0,none⟩)],args:= #[.func (.yield (w4.heap.size+1)) #[] #[]]},w6,F.m,
  #[.func (.yield (w4.heap.size+1)) #[] #[]] ++ #[.pointer (some ⟨g1,0,none⟩),.pointer (some ⟨g2,0,none⟩),.pointer (some ⟨g3,0,none⟩)],w6,?_,?_,fun _ _=>trivial,?_,fun h=>by simp[Fence.wide] at h,?_⟩
 ·rw[<-hw6];exact run_enterLoop_outer _ _ _ _ _
 ·have evc: ∀v,a4.eval (.const v)=v:=fun _=>rfl
  simp[resolve,rangeCall,ev18,evc,Deferred.ofValue]
 ·simp[invoke,hcf]
 have S6':St w0 w6 (zg (w4.heap.size+1) (.loop (abo fn' a4.tmps w4.heap.size .ready)) :: slB b2 (.slice none 0 0) :: zg w4.heap.size (.deferred (some [])) :: jd g3 #[.int .i64 0] T.d :: jd g1 #[.string ⟨#[10]⟩] T.n :: jd g2 #[.string lq] T.n :: jd b3 #[.int .i64 0] T.aa :: R):=S6.perm (by
  refine List.Perm.cons _ ?_
  exact List.perm_middle (l₁:=[_,_,_,_]))
 have hcall:jy P F.m [.func (.yield (w4.heap.size+1)) #[] #[],.pointer (some ⟨g1,0,none⟩),.pointer (some ⟨g2,0,none⟩),.pointer (some ⟨g3,0,none⟩)] w6 fun v w'=>rangePost Fence.wide 0 P (w4.heap.size+1) (Exit.inBlock 0 (Exit.then (pcE.wpIn Fence.wide 0 P (bodyPostM Fence.wide 0 P FN.ag fun e w'=> ∃v,e=Ending.returned v/\K v w')) (bodyPostM Fence.wide 0 P FN.ag fun e w'=> ∃v,e=Ending.returned v/\K v w'))) {tmps:=a4.tmps,defers:=[{target:= .collected w4.heap.size,args:= #[]}] ++ a4.defers} (.returned v) w':=by
  apply M.aw.calls
  unfold M.aw
  have cs: ∀{w':World}{X Y:Asn}{v:Value},St w0 w' (X :: slB b2 v :: Y :: zg w4.heap.size (.deferred (some [])) :: jd g3 #[.int .i64 0] T.d :: jd g1 #[.string ⟨#[10]⟩] T.n :: jd g2 #[.string lq] T.n :: jd b3 #[.int .i64 0] T.aa :: R)->iq w' g1 0=some (.string ⟨#[10]⟩)/\iq w' g2 0=some (.string lq):=fun S'=>⟨by rw[(S'.perm (List.perm_middle (l₁:=[_,_,_,_,_]))).cell];rfl,by rw[(S'.perm (List.perm_middle (l₁:=[_,_,_,_,_,_]))).cell];rfl⟩
  have k1:iq w6 g1 0=some (.string ⟨#[10]⟩):=by rw[(S6'.perm (List.perm_middle (l₁:=[_,_,_,_]))).cell];rfl
  have k2:iq w6 g2 0=some (.string lq):=by rw[(S6'.perm (List.perm_middle (l₁:=[_,_,_,_,_]))).cell];rfl
  simp[k1,age]
  refine⟨fun x w'=>w'=w6,fun _ _=>0,rfl,?_⟩
  rintro x w7 rfl
  unfold M.aw.j6
  simp[k1,k2]
  refine aqk lq 10 (by decide+kernel) ?_
  have ei:Lib.indexByte lq.data.toList 10= -1:=by decide
  rw[ei]
  simp[k2]
  refine bms hR4.1 t2 S6' fun w8 v8 S8=>?_
  have hend:=run_endLoop (P:=P) (aku S8) (by simp[abo])
  refine⟨_,_,hend,?_⟩
  rw[wz]
  have S9:=amv S8 (.loop {abo fn' a4.tmps w4.heap.size .ready with state:= .exhausted})
  generalize World.setObj w8 _ _=w9 at *
  simp only[Exit.inBlock,Exit.then,abo]
  rw[d4]
  obtain⟨a8,c8,hv8,_⟩:=(S9.up2.row yj:Sl w9 4 mf v8 [ko])
  subst hv8
  refine wpIn_mono (xd (r:=none) (m:=0) (ds:=[{target:= .collected w4.heap.size,args:= #[]}]) pcE e4 w9 (fun x e w=>x= .ret/\e 2= .pointer (some ⟨b2,0,none⟩)/\e 3= .pointer (some ⟨b3,0,none⟩)/\St w0 w (zg w4.heap.size (.deferred (some [])) :: slB b2 (.slice a8 1 c8) :: jd b3 #[.int .i64 0] T.aa :: anr (.slice a8 1 c8) [ko] :: R)) _ pkE ⟨hR4.1,rfl,hR4.2.2⟩ ?_) ?_
  ·rw[pdE,h2,h3]
   have q2:iq w9 b2 0=some (.slice a8 1 c8):=by rw[S9.swap.cell];rfl
   simp[q2]
   refine St.oh S9.swap rfl (by simp) fun w10 S10=>?_
   have S11:=S10.perm (List.perm_middle (l₁:=[_,_,_,_,_,_,_]))
   refine St.oh S11 rfl (by simp) fun w11 S12=>?_
   have S13:=S12.up2.drop.up2.up3
   refine⟨h2,h3,?_⟩
   exact S13.swap.up3.up4.drop.up4.drop.up4.drop.up2.tail (List.Perm.cons _ (List.Perm.swap _ _ _))
  ·rintro x a9 w10 ⟨e9,hR9,rfl,k2,k3,S10⟩
   show LeavesInM Fence.wide 0 P FN.ag a9.tmps _ a9.defers .returning w10
   rw[hR9.2.1]
   refine⟨by simp,.inl ⟨_,_,rfl,run_takeDeferred (aku S10),?_⟩⟩
   rw[wz]
   have S11:=amv S10 (.deferred none)
   generalize World.setObj w10 _ _=w11 at *
   obtain⟨vs,hk,hr⟩:=ayl (P:=P) (fn:=FN.ag) (w:=w11) (k:=fun vs=>vs=[.slice a8 1 c8,.int .i64 0]) (⟨hR9.1,rfl,hR9.2.2⟩:Rd 32 (List.range 32) {a9 with defers:=[]} e9) (by kernel_rfl) (by
    rw[show FN.ag.results.toList=[.cell 2 T.ad,.cell 3 T.aa] from by kernel_rfl]
    show ii (fun K'=>oy P T.ad (e9 2) w11 K') w11 fun v=>ii (fun K'=>oy P T.aa (e9 3) w11 K') w11 fun v2=>[v,v2]=[Value.slice a8 1 c8,.int .i64 0]
    rw[k2,k3]
    have r2: ∀w K,oy P T.ad (.pointer (some ⟨b2,0,none⟩)) w K=ld1 P b2 0 w K:=fun w K=>kr
    have r3: ∀w K,oy P T.aa (.pointer (some ⟨b3,0,none⟩)) w K=ld1 P b3 0 w K:=fun w K=>kr
    have q2:iq w11 b2 0=some (.slice a8 1 c8):=by rw[S11.swap.cell];rfl
    have q3:iq w11 b3 0=some (.int .i64 0):=by rw[S11.up2.cell];rfl
    simp[r2,r3,q2,q3])
   subst hk
   exact⟨_,hr,_,rfl,h w11 _ (S11.drop.drop.drop)⟩
 have hc2:=adh (r:=none) (n:=0 - 1) hcall
 refine CallsIn.mono (F:=Fence.wide) hc2 fun e w' ⟨v,he,hk⟩=>?_
 subst he
 exact hk
end
section
variable {w0 w : World} {R : List Asn} {p : Nat} {q : Cl}
theorem mr{L:List Asn}(S:St w0 w (clA p q :: L)):iq w p 0=some (.int .u64 1)/\iq w p 1=some (.int .u64 q.inc)/\iq w p 2=some q.rep/\iq w p 3=some (.int .u64 200)/\iq w p 4=some (.int .i64 3)/\iq w p 8=some (.int .u64 4)/\iq w p 9=some (.int .i64 q.tr)/\iq w p 13=some q.rul/\iq w p 14=some (.pointer (some ⟨q.tb,0,none⟩))/\iq w p 15=some (.pointer (some ⟨q.hb,0,none⟩))/\iq w p 16=some (.pointer (some ⟨q.kb,0,none⟩))/\iq w p 17=some (.map (some q.ru))/\iq w p 18=some (.map (some q.se))/\iq w p 19=some (.map (some q.un))/\iq w p 22=some (.int .u64 q.qg)/\iq w p 23=some (.int .u64 q.now)/\iq w p 24=some q.out/\iq w p 25=some q.ev/\iq w p 26=some (.int .u64 q.bad)/\iq w p 27=some (.int .u64 q.boi)/\∀K,ldN P 2 p 20 w K=K (la q.kx) w:=by
 refine⟨?_,?_,?_,?_,?_,?_,?_,?_,?_,?_,?_,?_,?_,?_,?_,?_,?_,?_,?_,?_,fun K=>S.ldA (n:=2) (i:=20) (vz q.kx) rfl rfl K⟩ <;>rw[S.cell] <;>rfl
def evA(e:Evn):Value:= .agg (evC e).toArray
theorem aei{es:List Evn}(S:St w0 w (clA p q :: nh q.ev es :: R))(e:Evn)(hl:es.length<=1000000){K:KV}(h: ∀w' v',St w0 w' (clA p {q with ev:=v'} :: nh v' (es ++ [{e with at':=q.now,jr:=1}]) :: R)->K (.tuple #[]) w'):ik P F.v [kl p,evA e] w K:=by
 rw[M.cm.fcall]
 apply M.cm.calls
 unfold M.cm evA
 refine St.uf S fun eb w1 S1=>?_
 have S2:=S1.ju ((Fr.refl _ w1).dr 1)
 obtain⟨c0,_,_,_,_,_,_,_,_,_,_,_,_,_,_,c23,_⟩:=mr S2.swap
 simp only[kl]
 simp[c0,c23]
 refine St.oh S2 rfl (by simp[evC]) fun w3 S3=>?_
 obtain⟨d0,_⟩:=mr S3.swap
 simp[d0]
 refine St.oh S3 rfl (by simp[evC]) fun w4 S4=>?_
 have S5:St w0 (dr w4 1) (jd eb (evC {e with at':=q.now,jr:=1}).toArray T.ar :: clA p q :: nh q.ev es :: R):=S4.ju ((Fr.refl _ w4).dr 1)
 obtain⟨_,_,_,_,_,_,_,_,_,_,_,_,_,_,_,_,_,c25,_⟩:=mr S5.swap
 have lde: ∀K,ldN P 16 eb 0 (dr w4 1) K=K (evA {e with at':=q.now,jr:=1}) (dr w4 1):=fun K=>S5.ldA (n:=16) (i:=0) (evC {e with at':=q.now,jr:=1}) rfl rfl K
 simp[c25,lde]
 rw[show evA {e with at':=q.now,jr:=1}= .agg #[.int .i64 e.jh,.int .u64 q.now,.int .u64 1,.int .u64 e.tr,.int .u64 e.b.n,.int .u64 e.b.jr,.int .i64 e.v,.int .u64 e.s.jj,.int .u64 e.s.id,.int .u64 e.s.nn,.int .u64 e.s.km,.int .u64 e.s.len,.string e.s.kz,.string e.s.name,.bool e.s.pp,.int .i64 e.k] from rfl]
 simp
 have S6:St w0 ((dr w4 1).alloc (.cells #[.int .i64 e.jh,.int .u64 q.now,.int .u64 1,.int .u64 e.tr,.int .u64 e.b.n,.int .u64 e.b.jr,.int .i64 e.v,.int .u64 e.s.jj,.int .u64 e.s.id,.int .u64 e.s.nn,.int .u64 e.s.km,.int .u64 e.s.len,.string e.s.kz,.string e.s.name,.bool e.s.pp,.int .i64 e.k] T.ar)) (nh (.slice (some ⟨(dr w4 1).heap.size,0,none⟩) 1 1) [{e with at':=q.now,jr:=1}] :: _):=St.uh (l:=[{e with at':=q.now,jr:=1}]) S5 agt rfl (by simp[maxLen])
 rw[show (dr w4 1).heap.size=w4.heap.size from rfl] at S6
 generalize w4.heap.size=nb at *
 generalize World.alloc _ _=w6 at *
 obtain⟨_,_,_,_,_,_,_,_,_,_,_,_,_,_,_,_,_,d25,_⟩:=mr S6.up2
 simp[d25]
 refine Go.Eng.wt et.bd agt apr S6.up3 (S6.row agt) (by simp;omega) (by decide) fun w7 v7 S7=>?_
 obtain⟨a7,c7,hv7,_⟩:=(S7.row agt:Sl w7 16 evC v7 _)
 subst hv7
 generalize (es ++ [({e with at':=q.now,jr:=1}:Evn)]).length=n7 at *
 simp
 refine St.oh S7.up3 rfl (by simp[clC]) fun w8 S8=>?_
 have S9:St w0 w8 (clA p {q with ev:= .slice a7 n7 c7} :: _):=S8
 exact h w8 _ S9.up2.drop.up2.drop
def pu(to:List Int)(pk:Pk)(h: ∀u∈pkC pk,lc u=true):List Ltr:=to.map fun t=>⟨1,t,pk,h⟩
def SnI(w0:World)(p:Nat)(q:Cl)(ls:List Ltr)(pk:Pk)(h1: ∀u∈pkC pk,lc u=true)(tb:Nat)(to:List Int)(R:List Asn):KL:=fun x w1=> ∃(u:Value)(ov:Value)(i:Nat),x=[u,.int .i64 (i:Nat)]/\i<=to.length/\St w0 w1 (clA p {q with out:=ov} :: nc ov (ls ++ pu (to.take i) pk h1) :: jd tb (pkC pk).toArray T.c :: R)
theorem ady{ls:List Ltr}{pk:Pk}{tv:Value}{to:List Int}(S:St w0 w (clA p q :: nc q.out ls :: R))(h1: ∀u∈pkC pk,lc u=true)(hs: ∀w' L,St w0 w' (L ++ R)->Sl w' 1 Suint64.qe tv to)(hl:ls.length+to.length<=256){K:KV}
  (h: ∀w' ov,St w0 w' (clA p {q with out:=ov} :: nc ov (ls ++ pu to pk h1) :: R)->K (.tuple #[]) w'):ik P F.f [kl p,pkA pk,tv] w K:=by
 rw[M.al.fcall]
 apply M.al.calls
 unfold M.al pkA
 refine St.uf S fun tb w1 S1=>?_
 have hln: ∀w' K,biT P .len #[T.g] T.d [false] [tv] w' K=K (.int .i64 to.length) w':=fun w' K=>(hs w [_,_] S).jv (by kernel_rfl) [false]
 simp only[ir,hln,kl]
 have S1':St w0 w1 (clA p {q with out:=q.out} :: nc q.out (ls ++ pu (to.take 0) pk h1) :: jd tb (pkC pk).toArray T.c :: R):=by
  have:=S1.dn2
  simpa [pu] using this
 refine⟨SnI w0 p q ls pk h1 tb to R,fun x _=>to.length - ms x 1,⟨_,_,0,rfl,Nat.zero_le _,S1'⟩,?_⟩
 rintro x w2 ⟨u,ov,i,rfl,hi,S2⟩
 by_cases hil:i < to.length
 ·have hili:(i:Int) < to.length:=by omega
  have hwi:IntKind.i64.wrap ((i:Int)+1)=((i+1:Nat):Int):=by rw[jc];rfl
  obtain⟨ab,ao,cap,hv,_,_,hc⟩:=(hs w2 [_,_,_] S2).at hil
  have hia: ∀w' K,iaT P T.g tv (.int .i64 (i:Nat)) w' K=K (.pointer (some ⟨ab,ao+i,none⟩)) w':=fun w' K=>by rw[hv];simp[hil]
  have hcell:iq w2 ab (ao+i)=some (.int .u64 to[i]):=by simpa [Suint64.qe] using hc 0 _ rfl
  have htk:pu (to.take (i+1)) pk h1=pu (to.take i) pk h1 ++ [⟨1,to[i],pk,h1⟩]:=by
   unfold pu
   rw[List.take_succ_eq_append_getElem hil,List.map_append]
   rfl
  have htk':ls ++ pu (to.take (i+1)) pk h1=(ls ++ pu (to.take i) pk h1) ++ [⟨1,to[i],pk,h1⟩]:=by rw[htk,List.append_assoc]
  clear htk
  generalize to[i]=t at *
  have hol:(ls ++ pu (to.take i) pk h1).length < 256:=by
   unfold pu
   rw[List.length_append,List.length_map,List.length_take]
   omega
  have hnl: ¬(256:Int)<=((ls ++ pu (to.take i) pk h1).length:Int):=by omega
  generalize ls ++ pu (to.take i) pk h1=lo at *
  obtain⟨_,_,_,_,_,_,_,_,_,_,_,_,_,_,_,_,c24,_⟩:=mr S2
  have hlo: ∀w' K,biT P .len #[T.ah] T.d [false] [ov] w' K=K (.int .i64 lo.length) w':=fun w' K=>(S2.swap.row abq:Sl w2 13 ltC ov lo).jv (by kernel_rfl) [false]
  simp[hili]
  unfold M.al.j1
  simp[hia,hcell,c24,hlo,hnl]
  unfold M.al.j3
  have S3:=S2.ju ((Fr.refl _ w2).dr 1)
  obtain⟨d0,_,_,_,_,_,_,_,_,_,_,_,_,_,_,_,d24,_⟩:=mr S3
  have lp:=vw S3.up2
  simp[d0,d24,lp]
  unfold pkA pkC
  simp
  have S4:St w0 ((dr w2 1).alloc (.cells (ltC ⟨1,t,pk,h1⟩).toArray T.bj)) (nc (.slice (some ⟨(dr w2 1).heap.size,0,none⟩) 1 1) [⟨1,t,pk,h1⟩] :: _):=St.uh (l:=[(⟨1,t,pk,h1⟩:Ltr)]) S3 abq (by simp) (by simp[maxLen])
  rw[show (dr w2 1).heap.size=w2.heap.size from rfl] at S4
  unfold ltC pkC at S4
  simp only[List.cons_append,List.nil_append] at S4
  generalize w2.heap.size=nb at *
  generalize World.alloc _ _=w6 at *
  obtain⟨_,_,_,_,_,_,_,_,_,_,_,_,_,_,_,_,e24,_⟩:=mr S4.swap
  simp[e24]
  refine Go.Eng.wt et.ah abq bll S4.up2 (S4.row abq) (by simp;omega) (by decide) fun w7 v7 S7=>?_
  obtain⟨a7,c7,hv7,_⟩:=(S7.row abq:Sl w7 13 ltC v7 _)
  subst hv7
  generalize (lo ++ [(⟨1,t,pk,h1⟩:Ltr)])=l7 at *
  generalize l7.length=n7 at *
  simp
  refine St.oh S7.up2 rfl (by simp[clC]) fun w8 S8=>?_
  have S9:St w0 w8 (clA p {q with out:= .slice a7 n7 c7} :: _):=S8
  rw[hwi]
  refine⟨⟨_,.slice a7 n7 c7,i+1,rfl,by omega,?_⟩,by simp[ms,gv];omega⟩
  rw[htk']
  exact S9.up2.drop
 ·have hie:i=to.length:=by omega
  subst hie
  simp
  rw[List.take_length] at S2
  exact h w2 ov S2.up2.drop
end
open Go.Eng
def adl(l:List Mem):List Int:=(l.filter fun m=>decide (m.st≠2)).map Mem.id
def abk(l:List Mem):List Int:=if kj l=0 then adl l else []
section
variable {w0 w : World} {R : List Asn}
theorem bag{l:List Mem}{i:Nat}(hi:i < l.length):adl (l.take (i+1))=adl (l.take i) ++ if l[i].st≠2 then [l[i].id] else []:=by
 unfold adl
 rw[List.take_succ_eq_append_getElem hi,List.filter_append,List.map_append]
 congr 1
 by_cases h:l[i].st=2 <;>simp[h]
theorem bdj(l:List Mem):(adl l).length<=l.length:=by
 unfold adl
 rw[List.length_map];exact List.length_filter_le ..
def LvI(w0:World)(l:List Mem)(R:List Asn):KL:=fun x w1=> ∃(v:Value)(i:Nat),x=[v,.int .i64 (i:Nat)]/\i<=l.length/\St w0 w1 (tm v (adl (l.take i)) :: R)
theorem axk{v:Value}{l:List Mem}(S:St w0 w R)(hs: ∀w' L,St w0 w' (L ++ R)->SlM w' v l)(hlen:l.length<=1000000){K:KV}(h: ∀w' v',St w0 w' (tm v' (abk l) :: R)->K v' w'):ik P F.go [v] w K:=by
 rw[M.ei.fcall]
 apply M.ei.calls
 unfold M.ei
 rw[ir]
 refine afk (hs w [] S) hlen fun w1 f1=>?_
 have S1:=S.ju f1
 unfold abk at h
 by_cases hv:kj l=0
 ·rw[if_pos hv] at h
  simp[hv]
  unfold M.ei.j0
  simp only[ir]
  rw[(hs w1 [] S1).jv (by kernel_rfl)]
  refine⟨LvI w0 l R,fun x _=>l.length - ms x 1,⟨_,0,rfl,Nat.zero_le _,agp S1⟩,?_⟩
  rintro x w2 ⟨v2,i,rfl,hi,S2⟩
  have q0:gv [v2,.int .i64 (i:Nat)] 0=v2:=rfl
  have q1:gv [v2,.int .i64 (i:Nat)] 1= .int .i64 (i:Nat):=rfl
  simp only[q1]
  by_cases hil:i < l.length
  ·have hil':(i:Int) < l.length:=by omega
   simp[hil']
   unfold M.ei.j3
   obtain⟨b,o,cap,hv2,hb,_,hc⟩:=(hs w2 [tm v2 (adl (l.take i))] S2).at hil
   have hld: ∀K,ldN P 3 b (o+i * 3) w2 K=K (nf l[i]) w2:=fun K=>ldM hc K
   have hwi:IntKind.i64.wrap ((i:Int)+1)=((i+1:Nat):Int):=by rw[jc];rfl
   have htk:=bag hil
   have hll:=bdj (l.take i)
   rw[List.length_take] at hll
   generalize l[i]=m at *
   simp only[ir,q1,mm,hwi]
   rw[hv2]
   simp[hil,hld]
   rw[show nf m= .agg #[.int .u64 m.id,.int .u64 m.inc,.int .i64 m.st] from rfl]
   simp
   have hba:(w2.alloc (.cells #[.int .u64 0,.int .u64 0,.int .i64 0] T.i)).heap[w2.heap.size]? =some (.cells #[.int .u64 0,.int .u64 0,.int .i64 0] T.i (0,0)):=by rw[ja,if_pos rfl]
   refine kg (vs:=[.int .u64 m.id,.int .u64 m.inc,.int .i64 m.st]) hba rfl (by simp) fun w3 b3 f3=>?_
   have S3:=S2.ju (((Fr.refl _ w2).alloc _).jw f3 fun y hy he=>by subst he;omega)
   have c0:iq w3 w2.heap.size 0=some (.int .u64 m.id):=by rw[iw b3];rfl
   have c2:iq w3 w2.heap.size 2=some (.int .i64 m.st):=by rw[iw b3];rfl
   by_cases hst:m.st=2
   ·simp[c2,hst,q0]
    refine⟨⟨v2,i+1,rfl,by omega,?_⟩,by simp[ms,gv];omega⟩
    rw[htk];simp[hst];exact S3
   ·simp[c0,c2,hst,q0]
    have S4:=S3.ju ((Fr.refl _ w3).alloc (.cells #[.int .u64 m.id] T.a))
    refine aeg S4 (l2:=[m.id]) (Sl.one rfl rfl) (by simp;omega) fun w5 v5 S5=>?_
    refine⟨⟨v5,i+1,rfl,by omega,?_⟩,by simp[ms,gv];omega⟩
    rw[htk];simp[hst];exact S5
  ·have hil': ¬(i:Int) < l.length:=by omega
   simp[hil']
   rw[List.take_of_length_le (by omega)] at S2
   exact h w2 v2 S2
 ·rw[if_neg hv] at h
  simp[hv]
  exact h w1 _ (agp S1)
end
section
variable {t : TypeId} {rx ry : Operand} {w : World} {K : KV}
theorem bgo{x:Nat}(hx:x < 18446744073709551616):iy P .and t rx ry (.int .u64 (x:Int)) (.int .u64 4294967295) w K=K (.int .u64 ((x % 4294967296:Nat):Int)) w:=by
 rw[ape]
 have h1:(BitVec.ofInt IntKind.u64.bits (x:Int) &&& BitVec.ofInt IntKind.u64.bits 4294967295).toNat=x % 4294967296:=by
  rw[BitVec.toNat_and]
  have e1:(BitVec.ofInt IntKind.u64.bits (x:Int)).toNat=x:=acx hx
  have e2:(BitVec.ofInt IntKind.u64.bits 4294967295).toNat=2 ^ 32 - 1:=by decide
  rw[e1,e2,Nat.and_two_pow_sub_one_eq_mod]
 rw[h1,za (by omega)]
theorem atm(x:Nat):iy P .shr t rx ry (.int .u64 (x:Int)) (.int .u64 32) w K=K (.int .u64 ((x / 4294967296:Nat):Int)) w:=by
 rw[adx (by decide)]
 have:((x:Nat):Int).fdiv (2 ^ min (32:Int).toNat IntKind.u64.bits)=((x / 4294967296:Nat):Int):=apb x 32
 rw[this]
theorem azy{x y:Nat}(h:x * y < 18446744073709551616):iy P .mul t rx ry (.int .u64 (x:Int)) (.int .u64 (y:Int)) w K=K (.int .u64 ((x * y:Nat):Int)) w:=by
 rw[xy]
 have:IntKind.u64.wrap ((x:Int) * (y:Int))=((x * y:Nat):Int):=by rw[<-Int.natCast_mul];exact za h
 rw[this]
theorem bai{x y:Nat}(h:x+y < 18446744073709551616):iy P .add t rx ry (.int .u64 (x:Int)) (.int .u64 (y:Int)) w K=K (.int .u64 ((x+y:Nat):Int)) w:=by
 rw[mm]
 have:IntKind.u64.wrap ((x:Int)+(y:Int))=((x+y:Nat):Int):=by rw[<-Int.natCast_add];exact za h
 rw[this]
end
theorem bhm{w:World}{x:Nat}(hx:x < 18446744073709551616){K:KV}(h:K (.tuple #[.int .u64 ((3 * x / 18446744073709551616:Nat):Int),.int .u64 ((3 * x % 18446744073709551616:Nat):Int)]) w):ik P F.fn [.int .u64 (x:Int),.int .u64 3] w K:=by
 rw[M.ez.fcall]
 apply M.ez.calls
 unfold M.ez
 rw[bgo hx,atm]
 have e3:(3:Int)=((3:Nat):Int):=rfl
 rw[e3,bgo (by decide),atm]
 have c1:3 % 4294967296=3:=by decide
 have c2:3 / 4294967296=0:=by decide
 rw[c1,c2]
 rw[azy (by omega),azy (by omega),atm,bai (by omega),bgo (by omega),atm,azy (by omega),bai (by omega),azy (by omega),bai (by omega),atm,bai (by omega),xy]
 have hw:IntKind.u64.wrap ((x:Int) * ((3:Nat):Int))=((3 * x % 18446744073709551616:Nat):Int):=by
  show ((x:Int) * 3) % 18446744073709551616=_
  omega
 rw[hw]
 have hh:x / 4294967296 * 0+(x / 4294967296 * 3+x % 4294967296 * 3 / 4294967296) / 4294967296+((x / 4294967296 * 3+x % 4294967296 * 3 / 4294967296) % 4294967296+x % 4294967296 * 0) / 4294967296=3 * x / 18446744073709551616:=by omega
 rw[hh]
 exact h
theorem atk{w:World}{x y:Int}(hx:0<=x)(hy:0<=y){K:KV}(h:K (.tuple #[.int .u64 ((x+y) % 18446744073709551616),.int .u64 ((x+y) / 18446744073709551616)]) w):ik P F.cc [.int .u64 x,.int .u64 y,.int .u64 0] w K:=by
 unfold ik lz
 rw[run_callFunc_extern (e:=add64Entry) FN.cc.at (by kernel_rfl) (by kernel_rfl) (by kernel_rfl) (by kernel_rfl)]
 have:=run_add64 (P:=P) x y 0 hx hy (by decide) (by decide) w
 rw[Int.add_zero] at this
 rw[this]
 exact h
def akm(m:Mem):Int:=3 * (m.inc - 1)+m.st+1
def aay(l:List Mem):Int:=(l.map akm).sum
def alo(l:List Mem):Int×Int:=if kj l≠0 then (0,6) else if 18446744073709551616<=aay l then (0,12) else (aay l,0)
theorem bbd{l:List Mem}{i:Nat}(hi:i < l.length):aay (l.take (i+1))=aay (l.take i)+akm l[i]:=by
 unfold aay
 rw[List.take_succ_eq_append_getElem hi,List.map_append,List.sum_append];simp
theorem azx{m:Mem}(h1:xm m=false)(h2:0<=m.inc/\m.inc < 18446744073709551616):1<=m.inc/\0<=m.st/\m.st<=2:=by
 unfold xm at h1
 simp at h1
 omega
theorem avv{l:List Mem}(h: ∀m∈l,0<=akm m):0<=aay l:=by
 unfold aay
 induction l with
 | nil=>simp
 | cons x l ih=>
  have h1:=h x (by simp)
  have h2:=ih fun m hm=>h m (by simp[hm])
  simp;omega
def VsI(W:World)(l:List Mem):KL:=fun x w1=> ∃(u0 u1 u2 u3 u4 u5:Value)(s hg:Int)(i:Nat),x=[u0,u1,u2,u3,u4,u5,.int .u64 s,.int .u64 hg,.int .i64 (i:Nat)]/\i<=l.length/\0<=s/\s < 18446744073709551616/\0<=hg/\hg<=10 * i/\s+hg * 18446744073709551616=aay (l.take i)/\Fz W w1
theorem azj{w:World}{v:Value}{l:List Mem}(hs:SlM w v l)(hlen:l.length<=1000000)(hinc:bkf l){K:KV}(h: ∀w',Fz w w'->K (.tuple #[.int .u64 (alo l).1,.int .i64 (alo l).2]) w'):ik P F.gh [v] w K:=by
 rw[M.br.fcall]
 apply M.br.calls
 unfold M.br
 rw[ir]
 refine afk hs hlen fun w1 f1=>?_
 unfold alo at h
 by_cases hv:kj l=0
 ·have g:=(vt l).1 hv
  rw[if_neg (by simp[hv])] at h
  simp[hv]
  unfold M.br.j0
  simp only[ir]
  have hs1:=hs.fr f1 fun _ _ _ h=>h
  rw[hs1.jv (by kernel_rfl)]
  refine⟨VsI w l,fun x _=>l.length - ms x 8,⟨_,_,_,_,_,_,0,0,0,rfl,Nat.zero_le _,by omega,by omega,by omega,by omega,by simp[aay],f1⟩,?_⟩
  rintro x w2 ⟨u0,u1,u2,u3,u4,u5,s,hg,i,rfl,hi,hs0,hs1',hg0,hg1,htot,f2⟩
  have q6:gv [u0,u1,u2,u3,u4,u5,.int .u64 s,.int .u64 hg,.int .i64 (i:Nat)] 6= .int .u64 s:=rfl
  have q7:gv [u0,u1,u2,u3,u4,u5,.int .u64 s,.int .u64 hg,.int .i64 (i:Nat)] 7= .int .u64 hg:=rfl
  have q8:gv [u0,u1,u2,u3,u4,u5,.int .u64 s,.int .u64 hg,.int .i64 (i:Nat)] 8= .int .i64 (i:Nat):=rfl
  have hs2:=hs.fr f2 fun _ _ _ h=>h
  unfold M.br.j2
  simp only[ir,q8]
  have hfew:=g.few
  by_cases hil:i < l.length
  ·have hil':(i:Int) < l.length:=by omega
   simp[hil']
   unfold M.br.j3
   obtain⟨b,o,cap,hv2,hb,_,hc⟩:=hs2.at hil
   have hld: ∀K,ldN P 3 b (o+i * 3) w2 K=K (nf l[i]) w2:=fun K=>ldM hc K
   have hwi:IntKind.i64.wrap ((i:Int)+1)=((i+1:Nat):Int):=by rw[jc];rfl
   have htk:=bbd hil
   have hrange:=azx (g.odd _ (List.getElem_mem hil)) (hinc _ (List.getElem_mem hil))
   have hinc':=hinc _ (List.getElem_mem hil)
   generalize l[i]=m at *
   simp only[ir,q6,q7,q8]
   rw[hv2]
   simp[hil,hld]
   rw[show nf m= .agg #[.int .u64 m.id,.int .u64 m.inc,.int .i64 m.st] from rfl]
   simp
   have hba:(w2.alloc (.cells #[.int .u64 0,.int .u64 0,.int .i64 0] T.i)).heap[w2.heap.size]? =some (.cells #[.int .u64 0,.int .u64 0,.int .i64 0] T.i (0,0)):=by rw[ja,if_pos rfl]
   refine kg (vs:=[.int .u64 m.id,.int .u64 m.inc,.int .i64 m.st]) hba rfl (by simp) fun w3 b3 f3=>?_
   have f3':Fz w2 w3:=((Fr.refl _ w2).alloc _).jw f3 fun y hy he=>by subst he;omega
   have c1:iq w3 w2.heap.size 1=some (.int .u64 m.inc):=by rw[iw b3];rfl
   have c2:iq w3 w2.heap.size 2=some (.int .i64 m.st):=by rw[iw b3];rfl
   have hsub:IntKind.u64.wrap (m.inc - 1)=(((m.inc - 1).toNat:Nat):Int):=by rw[mu (by omega) (by omega)];omega
   have hcv: ∀w K,cvT P T.d T.a (.int .i64 m.st) w K=K (.int .u64 m.st) w:=fun w K=>by
    rw[pw (ks:= .i64) (kd:= .u64) (by kernel_rfl) (by kernel_rfl),mu (by omega) (by omega)]
   have hst1:IntKind.u64.wrap (m.st+1)=m.st+1:=mu (by omega) (by omega)
   simp[c1]
   rw[hsub]
   generalize hx:(m.inc - 1).toNat=x at *
   have hx':m.inc=(x:Int)+1:=by omega
   refine bhm (by omega) ?_
   simp[c2,hcv,hst1]
   refine atk (by omega) (by omega) ?_
   simp
   refine atk hs0 (by omega) ?_
   simp
   have hi16:(i:Int)<=16:=by omega
   have wa:IntKind.u64.wrap (hg+3 * (x:Int) / 18446744073709551616)=hg+3 * (x:Int) / 18446744073709551616:=mu (by omega) (by omega)
   have wb:IntKind.u64.wrap (hg+3 * (x:Int) / 18446744073709551616+(3 * (x:Int) % 18446744073709551616+(m.st+1)) / 18446744073709551616)=hg+3 * (x:Int) / 18446744073709551616+(3 * (x:Int) % 18446744073709551616+(m.st+1)) / 18446744073709551616:=mu (by omega) (by omega)
   have wc:IntKind.u64.wrap (hg+3 * (x:Int) / 18446744073709551616+(3 * (x:Int) % 18446744073709551616+(m.st+1)) / 18446744073709551616+(s+(3 * (x:Int)+(m.st+1)) % 18446744073709551616) / 18446744073709551616)=hg+3 * (x:Int) / 18446744073709551616+(3 * (x:Int) % 18446744073709551616+(m.st+1)) / 18446744073709551616+(s+(3 * (x:Int)+(m.st+1)) % 18446744073709551616) / 18446744073709551616:=mu (by omega) (by omega)
   rw[wa,wb,wc,hwi]
   have ht:akm m=3 * (x:Int)+m.st+1:=by unfold akm;rw[hx'];omega
   rw[ht] at htk
   exact⟨⟨_,_,_,_,_,_,_,_,i+1,rfl,by omega,by omega,by omega,by omega,by omega,by rw[htk];omega,f2.trans f3'⟩,by simp[ms,gv];omega⟩
  ·have hil': ¬(i:Int) < l.length:=by omega
   simp[hil']
   unfold M.br.j1
   rw[List.take_of_length_le (by omega)] at htot
   have g10: ∀a b c d e f g h i hh k:Value,gv [a,b,c,d,e,f,g,h,i,hh,k] 10=k:=fun _ _ _ _ _ _ _ _ _ _ _=>rfl
   have g9: ∀a b c d e f g h i hh k:Value,gv [a,b,c,d,e,f,g,h,i,hh,k] 9=hh:=fun _ _ _ _ _ _ _ _ _ _ _=>rfl
   simp only[ir,g10,g9]
   by_cases hh0:0 < hg
   ·have hT:18446744073709551616<=aay l:=by omega
    rw[if_pos hT] at h
    simp[hh0]
    exact h w2 f2
   ·have hT: ¬18446744073709551616<=aay l:=by omega
    have hs':s=aay l:=by omega
    rw[if_neg hT] at h
    simp[hh0]
    rw[hs']
    exact h w2 f2
 ·have hv6:kj l=6:=(aeb l).resolve_left hv
  rw[if_pos hv] at h
  simp[hv6]
  exact h w1 f1
section
variable {w0 w : World} {R : List Asn}
end
section
variable {w0 w : World} {R : List Asn} {p : Nat} {q : Cl} {n : Nd}
def rq(n:Nd):Int:=if (alo n.v).2≠0 then 18446744073709551615 else (alo n.v).1
theorem ane(S:St w0 w (clA p q :: ki q.tb n :: R))(hn:qk n){K:KV}(h: ∀w',St w0 w' (clA p q :: ki q.tb n :: R)->K (.int .u64 (rq n)) w'):ik P F.g [kl p] w K:=by
 rw[M.cf.fcall]
 apply M.cf.calls
 unfold M.cf
 obtain⟨_,_,_,_,_,_,_,_,c14,_⟩:=mr S
 simp only[kl]
 simp[c14]
 refine ald S.swap hn fun w1 v1 S1=>?_
 have hinc:bkf n.v:=fun m hm=>hn.inc m hm
 refine azj S1.rd (by have:=hn.zl.few;omega) hinc fun w2 f2=>?_
 have S2:=(S1.ju f2).drop.swap
 have:=h w2 S2
 unfold rq at this
 by_cases hk:(alo n.v).2=0
 ·simp[hk] at this⊢
  exact this
 ·simp[hk] at this⊢
  exact this
theorem orN{x y:Nat}(hx:x < 4294967296)(hy:y < 4294967296)(w:World)(t:TypeId)(rx ry:Operand)(K:KV):iy P .or t rx ry (.int .u64 ((x * 4294967296:Nat):Int)) (.int .u64 (y:Int)) w K=K (.int .u64 ((x * 4294967296+y:Nat):Int)) w:=by
 rw[bdv]
 have h1:(BitVec.ofInt IntKind.u64.bits ((x * 4294967296:Nat):Int) ||| BitVec.ofInt IntKind.u64.bits (y:Int)).toNat=x * 4294967296+y:=by
  rw[BitVec.toNat_or]
  have e1:(BitVec.ofInt IntKind.u64.bits ((x * 4294967296:Nat):Int)).toNat=x * 4294967296:=acx (by omega)
  have e2:(BitVec.ofInt IntKind.u64.bits (y:Int)).toNat=y:=acx (by omega)
  rw[e1,e2,show x * 4294967296=2 ^ 32 * x from by rw[Nat.mul_comm],Nat.two_pow_add_eq_or_of_lt (by omega) x]
 rw[h1,za (by omega)]
def akr(inc:Int):Int:=if 4294967295 < inc then 0 else inc * 4294967296+1
theorem blh(S:St w0 w (clA p q :: R))(hi:1<=q.inc){K:KV}(h: ∀w',St w0 w' (clA p q :: R)->K (.int .u64 (akr q.inc)) w'):ik P F.ab [kl p] w K:=by
 rw[M.bj.fcall]
 apply M.bj.calls
 unfold M.bj
 have S1:=S.ju ((Fr.refl _ w).dr 1)
 obtain⟨c0,c1,_⟩:=mr S1
 have hm:max (1:Int) q.inc=q.inc:=by omega
 simp only[kl]
 simp[c0,c1,qo,hm]
 by_cases hb:4294967295 < q.inc
 ·have:=h _ S1
  unfold akr at this
  rw[if_pos hb] at this
  simp[hb]
  exact this
 ·have S2:=S1.ju ((Fr.refl _ _).dr 1)
  have:=h _ S2
  unfold akr at this
  rw[if_neg hb] at this
  simp[hb]
  unfold M.bj.j0
  obtain⟨d0,d1,_⟩:=mr S2
  obtain⟨x,hx⟩:=Int.eq_ofNat_of_zero_le (show 0<=q.inc by omega)
  rw[hx] at this d1 hb
  have hxl:x < 4294967296:=by omega
  have hsh: ∀(rx ry:Operand)(w:World)(K:KV),iy P .shl T.a rx ry (.int .u64 (x:Int)) (.int .u64 32) w K=K (.int .u64 ((x * 4294967296:Nat):Int)) w:=fun rx ry w K=>by
   rw[agi (by decide)]
   have e:IntKind.u64.wrap ((x:Int) * 2 ^ min (32:Int).toNat IntKind.u64.bits)=((x * 4294967296:Nat):Int):=by
    show IntKind.u64.wrap ((x:Int) * 4294967296)=_
    rw[mu (by omega) (by omega)]
    omega
   rw[e]
  have ho: ∀(rx ry:Operand)(w:World)(K:KV),iy P .or T.a rx ry (.int .u64 ((x:Int) * 4294967296)) (.int .u64 1) w K=K (.int .u64 ((x:Int) * 4294967296+1)) w:=fun rx ry w K=>by
   have:=orN (x:=x) (y:=1) hxl (by decide) w T.a rx ry K
   simpa using this
  simp[d0,d1,hsh,ho]
  exact this
def zz(ids:List Int)(t o:Int):Prop:= ∃l,Ring.abu l/\l.Perm (Ring.acd ids 3)/\o=Ring.aek l (Ring.ajw t)
theorem zz.bsb{ids:List Int}{t o o':Int}(h:zz ids t o)(h':zz ids t o'):o=o':=by
 obtain⟨l,a1,a2,rfl⟩:=h
 obtain⟨l',b1,b2,rfl⟩:=h'
 rw[Ring.bfd (a2.trans b2.symm) a1 b1]
theorem zz.one{id t o:Int}(h:zz [id] t o):o=id:=by
 obtain⟨l,a1,a2,rfl⟩:=h
 have hl:=a2.length_eq
 rw[Ring.aer] at hl
 refine Ring.bas (fun p hp=>?_) (fun e=>by rw[e] at hl;simp at hl) _
 have:=a2.mem_iff.1 hp
 simp only[Ring.acd,Ring.abp,List.flatMap_cons,List.flatMap_nil,List.append_nil,List.mem_map] at this
 obtain⟨i,_,rfl⟩:=this
 rfl
theorem aat(S:St w0 w (clA p q :: ki q.tb n :: R))(hn:qk n){ids:List Int}(hi:abk n.v=ids)(hr:Ring.asd 0 ids)(hne:ids≠[])(hlen:ids.length<=4)(t:Int){K:KV}(h: ∀w' o,zz ids t o->St w0 w' (clA p q :: ki q.tb n :: R)->K (.int .u64 o) w'):ik P F.ap [kl p,.int .u64 t] w K:=by
 rw[M.ba.fcall]
 apply M.ba.calls
 unfold M.ba
 simp only[kl]
 simp
 unfold M.ba.j0
 have S1:=S.ju ((Fr.refl _ w).dr 1)
 obtain⟨_,_,_,_,c4,_,_,_,c14,_⟩:=mr S1
 simp[c4,c14]
 refine ald S1.swap hn fun w2 v2 S2=>?_
 obtain⟨_,_,_,_,d4,_⟩:=mr S2.up2
 simp[d4]
 refine axk (l:=n.v) S2 (fun w' L S'=>(S'.perm List.perm_middle).rd) (by have:=hn.zl.few;omega) fun w3 v3 S3=>?_
 rw[hi] at S3
 obtain⟨_,_,_,_,e4,_⟩:=mr S3.up3
 simp[e4]
 refine Ring.bna (n:=3) S3 (fun w' L S'=>(S'.perm List.perm_middle).row (fun _=>rfl)) hr (by omega) (by omega) hne (by omega) fun w4 v4 l a1 a2 S4=>?_
 have hl:=a2.length_eq
 rw[Ring.aer] at hl
 have hl0:=List.length_pos_iff.2 hne
 simp
 refine Ring.bhx S4 (fun w' L S'=>(S'.perm List.perm_middle).row Ring.yu) (by omega) (fun e=>by rw[e] at hl;simp at hl;omega) a1 t fun w5 S5=>?_
 exact h w5 _ ⟨l,a1,a2,rfl⟩ S5.drop.drop.drop.swap
theorem bbr{ls:List Ltr}(S:St w0 w (clA p q :: nc q.out ls :: R)){K:KV}(h: ∀w',St w0 w' (clA p {q with out:= .slice none 0 0} :: nc q.out ls :: R)->K q.out w'):ik P F.ax [kl p] w K:=by
 rw[M.da.fcall]
 apply M.da.calls
 unfold M.da
 obtain⟨_,_,_,_,_,_,_,_,_,_,_,_,_,_,_,_,c24,_⟩:=mr S
 simp only[kl]
 simp[c24]
 refine St.oh S rfl (by simp[clC]) fun w2 S2=>?_
 exact h w2 S2
theorem azb{a0:Int}{m:MP}(S:St w0 w (clA p q :: qf q.kb a0 m :: R))(t:Int){K:KV}(h:K ((kh m t).getD (.int .i64 0)) w):ik P F.bs [kl p,.int .u64 t] w K:=by
 rw[M.ce.fcall]
 apply M.ce.calls
 unfold M.ce
 obtain⟨_,_,_,_,_,_,_,_,_,_,c16,_⟩:=mr S
 simp only[kl]
 simp[c16]
 exact apy S.swap t h
end
end Go.Proofs.YtgepcfcicngceaaGreatDoor
set_option maxRecDepth 100000
namespace Go.Proofs.YtgepcfcicngceaaGreatDoor.KeyB
open Go.Eng Go.Sort Go.Proofs.YtgepcfcicngceaaGreatDoor.Suint64
def KI(w W:World)(U:Nat->Prop)(r:Nat)(m:MP)(J:List Int->Asn):KL:=fun x w1=> ∃(done:List Int)(U1:Nat->Prop),x.length=1/\ya w1 W.heap.size r .u64 m done/\(J done.reverse).ok w1 U1/\(∀b,U1 b->w.heap.size<=b/\b < w1.heap.size/\b≠W.heap.size)/\Fr (fun b=>w.heap.size<=b) W w1
theorem yt{w:World}{it r:Nat}{k:IntKind}{m:MP}{done:List Int}(h:ya w it r k m done):done.Nodup/\∀x∈done,x∈jp m:=by
 obtain⟨es,clk,since,c0,ka,_,_,_,_,_,_,_,_,_,h1,h2⟩:=h
 exact⟨h1,h2⟩
theorem aee{w:World}{r Bm:Nat}{m:MP}{e:TypeId}(hm:lj w r .u64 m)(hn:(jp m).Nodup)(hB:w.heap[Bm]? =some (.cells #[.map (some r)] e (0,0)))(hl:m.length < 60000):
  apo P F.a [.pointer (some ⟨Bm,0,none⟩)] amj (fun xs=>xs.Perm (jp m)) 60000 w:=by
 intro l J W U K hf hJ hU hround hend
 apply M.u.calls
 unfold M.u
 have hBm:W.heap[Bm]? =some (.cells #[.map (some r)] e (0,0)):=hf.heap hB fun h=>h
 have c0:=iw hBm 0
 simp only[List.size_toArray,List.getElem?_toArray,List.getElem?_cons_zero] at c0
 have hm':lj W r .u64 m:=hm.of_heap (hf.jl r hm.lt fun h=>h)
 have hrw:=hm.lt
 simp[c0]
 refine aol mt.l hm' fun w1 hi f1=>?_
 have hWs:=hf.size
 have hWlt:=(hi.lt).1
 refine⟨KI w W U r m J,fun _ w1=>rk w1 W.heap.size m.length,⟨[],U,rfl,hi,(J []).jl hJ f1 fun _ _ h=>h,fun b hb=>?_,f1.mono fun _ _ h=>h.elim⟩,?_⟩
 ·have:=hU b hb
  have:=f1.size
  exact⟨by omega,by omega,by omega⟩
 rintro x w2 ⟨done,U1,hx1,hi2,hJ2,hU2,f2⟩
 unfold M.u.j0
 refine anb hi2 hn T.cc (fun hall=>?_) fun y v w3 hy hyd hc3 f3 hlt=>?_
 ·have e0: ∀w K,exT P (.tuple #[.bool false]) 0 w K=K (.bool false) w:=fun _ _=>rfl
  simp[e0]
  obtain⟨h1,h2⟩:=yt hi2
  refine hend _ w2 done.reverse U1 ?_ hJ2 f2
  refine (List.reverse_perm done).trans ?_
  refine (List.perm_ext_iff_of_nodup h1 hn).2 fun z=>⟨h2 z,fun hz=>?_⟩
  obtain⟨p,hp,rfl⟩:=List.mem_map.1 hz
  exact hall p hp
 ·simp
  rw[aof hc3]
  simp
  have hnit: ∀b,U1 b->¬b=W.heap.size:=fun b hb=>(hU2 b hb).2.2
  have hJ3:=(J done.reverse).jl hJ2 f3 hnit
  have hlen:done.length < m.length:=by
   obtain⟨h1,h2⟩:=yt hi2
   have:=xu (l:=y :: done) (l':=jp m) (List.nodup_cons.2 ⟨hyd,h1⟩) fun z hz=>by
    rcases List.mem_cons.1 hz with rfl|hz
    ·exact List.mem_map_of_mem hy
    ·exact h2 z hz
   simp only[jp,List.length_map,List.length_cons] at this
   omega
  have hs3:=f3.size
  refine hround done.reverse y w3 U1 _ hJ3 (fun b hb=>⟨(hU2 b hb).1,by have:=(hU2 b hb).2.1;omega⟩) (by simp;omega) fun w4 U4 hJ4 hU4 f4=>?_
  simp
  have hit: ¬U1 W.heap.size:=fun h=>hnit _ h rfl
  have hr1: ¬U1 r:=fun h=>by have:=(hU2 r h).1;omega
  have hi3:ya w3 W.heap.size r .u64 m (y :: done):=hc3.1
  have hi4:=hi3.jl (f4.jl _ hi3.lt.1 hit) (f4.jl _ hi3.lt.2 hr1)
  refine⟨⟨y :: done,U4,rfl,hi4,by simpa using hJ4,fun b hb=>?_,?_⟩,?_⟩
  ·rcases hU4 b hb with h|h
   ·have:=hU2 b h
    have:=f4.size
    exact⟨by omega,by omega,by omega⟩
   ·have:=hi3.lt.1
    have:=f2.size
    exact⟨by omega,by omega,by omega⟩
  ·refine (f2.jw f3 fun b hb he=>by omega).jw f4 fun b hb he=>(hU2 b he).1
  ·have:rk w4 W.heap.size m.length=rk w3 W.heap.size m.length:=by
    unfold rk
    rw[f4.jl _ hi3.lt.1 hit]
   rw[this];exact hlt
theorem agm{w:World}{r:Nat}{m:MP}(hm:lj w r .u64 m)(hn:(jp m).Nodup)(hl:m.length < 60000){K:KV}
  (h: ∀w' v,OwN w' w.heap.size v (qi (jp m))->Fz w w'->K v w'):
  ik P F.s [.map (some r)] w fun t w=>ik P F.w [t] w K:=by
 rw[M.ab.fcall]
 apply M.ab.calls
 unfold M.ab
 rw[vd,zm]
 show ik P F.w _ _ K
 rw[M.cp.fcall]
 have f1:Fz w (w.alloc (.cells #[.map (some r)] T.l)):=(Fr.refl _ w).alloc _
 have hB:(w.alloc (.cells #[.map (some r)] T.l)).heap[w.heap.size]? =some (.cells #[.map (some r)] T.l (0,0)):=by rw[ja,if_pos rfl]
 have hsz:w.heap.size<=(w.alloc (.cells #[.map (some r)] T.l)).heap.size:=by simp
 refine ajg (ks:=jp m) FN.a.at (by kernel_rfl) (by kernel_rfl) (by simpa [jp] using hl) (aee (hm.of_heap (f1.jl r hm.lt fun h=>h)) hn hB hl) fun w2 v o2 f2=>?_
 exact h w2 v (o2.mono hsz) (f1.trans f2)
end Go.Proofs.YtgepcfcicngceaaGreatDoor.KeyB
set_option maxRecDepth 100000
namespace Go.Proofs.YtgepcfcicngceaaGreatDoor
open Go.Eng
abbrev vn(v:Value)(l:List Int):Asn:=qa T.a 1 Suint64.qe v l
theorem mw(x:Int):(Suint64.qe x).length=1:=rfl
section
variable {w0 w : World} {hb : Nat} {g : Cfg} {A : List AE} {c : CT} {R : List Asn}
def jk(A:List AE):List Int:=Suint64.qi (A.map AE.t)
theorem aki(S:St w0 w (ns hb g A c :: R))(hA:A.length<=1000){K:KV}(h: ∀w' v,St w0 w' (vn v (jk A) :: ns hb g A c :: R)->K v w'):ik P F.cg [.pointer (some ⟨hb,0,none⟩)] w K:=by
 obtain⟨B,I,hB,cl⟩:=S.open
 have I':Buf w hb g B A c:=I
 obtain⟨O,r,m,es,hAe,J,hfp⟩:=I'.ex
 have hkp:(jp m).Perm (A.map AE.t):=by
  have e:A.map AE.t=es.map Ent.t:=by rw[hAe,List.map_map];rfl
  rw[e]
  refine (List.perm_ext_iff_of_nodup J.mn J.tn).2 fun k=>?_
  constructor
  ·intro hk
   by_cases hx: ∃e∈es,e.t=k
   ·obtain⟨e,he,rfl⟩:=hx;exact List.mem_map_of_mem he
   ·have:=J.mz k fun e he hek=>hx ⟨e,he,hek⟩
    exact absurd hk ((ql _ _).1 this)
  ·intro hk
   obtain⟨e,he,rfl⟩:=List.mem_map.1 hk
   by_cases hx:e.t∈jp m
   ·exact hx
   ·have:=(ql _ _).2 hx
    rw[J.mg e he] at this;cases this
 rw[M.bv.fcall]
 apply M.bv.calls
 unfold M.bv
 simp
 unfold M.bv.j0
 obtain⟨_,_,_,q5⟩:=J.cells
 simp[q5]
 have hml:m.length < 60000:=by
  have h1:A.length=es.length:=by rw[hAe,List.length_map]
  rw[J.ml];omega
 refine KeyB.agm J.mp J.mn hml fun w' v o f=>?_
 have hd:Suint64.qi (jp m)=jk A:=Suint64.aiu hkp
 rw[hd] at o
 exact h w' v (S.add (a:=vn v (jk A)) f (B:=fun b=>v.ownBlock=some b) ⟨o.mono (Nat.zero_le _),fun b hb=>hb⟩ fun b hb=>⟨(o.lt hb).1,(o.lt hb).2⟩)
end
end Go.Proofs.YtgepcfcicngceaaGreatDoor
