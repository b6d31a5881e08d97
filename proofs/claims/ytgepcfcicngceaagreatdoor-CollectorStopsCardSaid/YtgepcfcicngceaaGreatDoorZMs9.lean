/-
  Packets: the packet of a thing with a row (spans, stored, acked). No condition. Printed by ms9.py.
-/
import Derived.Test.YtgepcfcicngceaaGreatDoorZTim4
import Derived.Test.YtgepcfcicngceaaGreatDoorZSpn0
import Derived.Test.YtgepcfcicngceaaGreatDoorZEngSl
import Derived.Test.YtgepcfcicngceaaGreatDoorZSgE
import Derived.Test.YtgepcfcicngceaaGreatDoorM
import Derived.Test.YtgepcfcicngceaaGreatDoorFacts
set_option maxRecDepth 100000
namespace Go.Proofs.YtgepcfcicngceaaGreatDoor
open Go.Eng
theorem amn{w:World}{tr:Int}{d:Bool}{v:Value}{l:List Spn}(hs:SlS w v l)(hlen:l.length<=1000000){K:KV}(h: ∀w' v',SlS w' v' l->Fz w w'->K (pkA ⟨if d=true then 2 else 1,tr,ja,ja,0,false,v',kc,kc⟩) w'):ie P F.bb [.iface T.y (.agg #[.int .u64 tr,.bool d,v])] w K:=by
 rw[M.ad.fcall]
 apply M.ad.calls
 unfold M.ad
 obtain⟨a,c,hv,_⟩:=id hs
 rw[hv]
 simp
 have S0:=ags w
 have z0:(w.alloc (.cells #[.int .i64 0,.int .u64 0,.int .u64 0,.int .u64 0,.int .u64 0,.int .u64 0,.int .i64 0,.bool false,.slice none 0 0,.slice none 0 0,.slice none 0 0] T.c)).heap.size=w.heap.size+1:=jc _ _
 generalize w.alloc (.cells #[.int .i64 0,.int .u64 0,.int .u64 0,.int .u64 0,.int .u64 0,.int .u64 0,.int .i64 0,.bool false,.slice none 0 0,.slice none 0 0,.slice none 0 0] T.c)=w1 at *
 have S1:=aeg S0 #[.int .u64 0,.bool false,.slice none 0 0] T.y
 rw[z0] at S1
 generalize w.heap.size=pb at *
 generalize pb+1=ob at *
 refine jw (vs:=[Value.int .u64 tr,.bool d,.slice a l.length c]) S1.blk rfl (by simp[kt]) fun w2 b2 f2=>?_
 have S2:=S1.nl f2 b2
 have thC: ∀{W:World}{R:List Asn},St w W (iz ob [Value.int .u64 tr,.bool d,.slice a l.length c].toArray T.y :: R)->ik W ob 0=some (.int .u64 tr)/\ik W ob 1=some (.bool d)/\ik W ob 2=some (.slice a l.length c):=fun{W R} S'=>by
  have hh:=S'.blk
  exact⟨by rw[iq hh];rfl,by rw[iq hh];rfl,by rw[iq hh];rfl⟩
 have hpl:pb < w2.heap.size:=(Array.getElem?_eq_some_iff.1 S2.swap.blk).1
 have fd:Fz w2 (dr w2 1):=(Fr.refl _ w2).dr 1
 have Sd:=S2.ju fd
 obtain⟨c0,c1,c2⟩:=thC S2
 obtain⟨e0,e1,e2⟩:=thC Sd
 simp[c0,c2,e0,e2]
 rw[<-hv]
 rw[M.v.fcall]
 refine yb ((hs.fr Sd.fr fun _ _ _ h=>h)) hlen fun w3 v3 s3 n3 f3=>?_
 obtain⟨a3,c3,hv3,_⟩:=id s3
 have S3:=Sd.ju f3
 obtain⟨g0,g1,g2⟩:=thC S3
 have hnn: ∀b,v3.ownBlock=some b->b≠pb:=fun b hb=>by
  have:=n3 b hb
  have:=fd.size
  omega
 rw[hv3] at s3 hnn⊢
 simp[g0,g2]
 refine jw (vs:=pkC ⟨1,tr,ja,ja,0,false,.slice a3 l.length c3,kc,kc⟩) S3.swap.blk rfl vg fun w4 b4 f4=>?_
 have S4:=S3.swap.nl f4 b4
 have s4:SlS w4 (.slice a3 l.length c3) l:=s3.fr f4 fun b hb _=>hnn b hb
 obtain⟨i0,i1,i2⟩:=thC S4.swap
 cases d with
 | false=>
  simp[i0,i2,i1]
  rw[yn S4]
  have e:pkA ⟨1,tr,ja,ja,0,false,.slice a3 l.length c3,kc,kc⟩= .agg #[.int .i64 1,.int .u64 tr,.int .u64 0,.int .u64 0,.int .u64 0,.int .u64 0,.int .i64 0,.bool false,.slice a3 l.length c3,.slice none 0 0,.slice none 0 0]:=rfl
  rw[e]
  simp
  refine jw (vs:=pkC ⟨1,tr,ja,ja,0,false,.slice a3 l.length c3,kc,kc⟩) S4.blk rfl vg fun w5 b5 f5=>?_
  have S5:=S4.nl f5 b5
  rw[aci S5]
  exact⟨rfl,h w5 _ (s4.fr f5 fun b hb _=>hnn b hb) S5.fr⟩
 | true=>
  have e0:=aad S4.blk 0 _ rfl
  have ez:=lk S4.blk
  simp[i0,i2,i1,e0,ez]
  have f6:Fr (fun x=>x=pb) w4 (w4.setCell ⟨pb,0,none⟩ (.int .i64 2)):=(Fr.refl (fun x=>x=pb) w4).setCell (.inl rfl) _ _
  have S6:St w (w4.setCell ⟨pb,0,none⟩ (.int .i64 2)) (iz pb (pkC ⟨2,tr,ja,ja,0,false,.slice a3 l.length c3,kc,kc⟩).toArray T.c :: _):=S4.nl f6 ((mh S4.blk).trans rfl)
  have s6:SlS (w4.setCell ⟨pb,0,none⟩ (.int .i64 2)) (.slice a3 l.length c3) l:=s4.fr f6 fun b hb _=>hnn b hb
  rw[yn S6]
  have e:pkA ⟨2,tr,ja,ja,0,false,.slice a3 l.length c3,kc,kc⟩= .agg #[.int .i64 2,.int .u64 tr,.int .u64 0,.int .u64 0,.int .u64 0,.int .u64 0,.int .i64 0,.bool false,.slice a3 l.length c3,.slice none 0 0,.slice none 0 0]:=rfl
  rw[e]
  simp
  refine jw (vs:=pkC ⟨2,tr,ja,ja,0,false,.slice a3 l.length c3,kc,kc⟩) S6.blk rfl vg fun w5 b5 f5=>?_
  have S5:=S6.nl f5 b5
  rw[aci S5]
  exact⟨rfl,h w5 _ (s6.fr f5 fun b hb _=>hnn b hb) S5.fr⟩
theorem akl{w:World}{tr:Int}{b:Bal}{v:Value}{l:List Spn}(hs:SlS w v l)(hlen:l.length<=1000000){K:KV}(h: ∀w' v',SlS w' v' l->Fz w w'->K (pkA ⟨9,tr,b,ja,0,false,v',kc,kc⟩) w'):ie P F.bb [.iface T.t (.agg #[.int .u64 tr,.int .u64 b.n,.int .u64 b.ji,v])] w K:=by
 rw[M.ad.fcall]
 apply M.ad.calls
 unfold M.ad
 obtain⟨a,c,hv,_⟩:=id hs
 rw[hv]
 simp[adp,abh,agd,adc,aeo]
 have S0:=ags w
 have z0:(w.alloc (.cells #[.int .i64 0,.int .u64 0,.int .u64 0,.int .u64 0,.int .u64 0,.int .u64 0,.int .i64 0,.bool false,.slice none 0 0,.slice none 0 0,.slice none 0 0] T.c)).heap.size=w.heap.size+1:=jc _ _
 generalize w.alloc (.cells #[.int .i64 0,.int .u64 0,.int .u64 0,.int .u64 0,.int .u64 0,.int .u64 0,.int .i64 0,.bool false,.slice none 0 0,.slice none 0 0,.slice none 0 0] T.c)=w1 at *
 have S1:=aeg S0 #[.int .u64 0,.int .u64 0,.int .u64 0,.slice none 0 0] T.t
 rw[z0] at S1
 generalize w.heap.size=pb at *
 generalize pb+1=ob at *
 refine jw (vs:=[Value.int .u64 tr,.int .u64 b.n,.int .u64 b.ji,.slice a l.length c]) S1.blk rfl (by simp[kt]) fun w2 b2 f2=>?_
 have S2:=S1.nl f2 b2
 have thC: ∀{W:World}{R:List Asn},St w W (iz ob [Value.int .u64 tr,.int .u64 b.n,.int .u64 b.ji,.slice a l.length c].toArray T.t :: R)->ik W ob 0=some (.int .u64 tr)/\(∀K,ldN P 2 ob 1 W K=K (.agg #[.int .u64 b.n,.int .u64 b.ji]) W)/\ik W ob 3=some (.slice a l.length c):=fun{W R} S'=>by
  have hh:=S'.blk
  exact⟨by rw[iq hh];rfl,fun K=>zh (by rw[iq hh];rfl) (by rw[iq hh];rfl) K,by rw[iq hh];rfl⟩
 have hpl:pb < w2.heap.size:=(Array.getElem?_eq_some_iff.1 S2.swap.blk).1
 have fd:Fz w2 (dr w2 1):=(Fr.refl _ w2).dr 1
 have Sd:=S2.ju fd
 obtain⟨c0,c1,c2⟩:=thC S2
 obtain⟨e0,e1,e2⟩:=thC Sd
 simp[c0,c1,c2,e0,e1,e2]
 rw[<-hv]
 rw[M.v.fcall]
 refine yb ((hs.fr Sd.fr fun _ _ _ h=>h)) hlen fun w3 v3 s3 n3 f3=>?_
 obtain⟨a3,c3,hv3,_⟩:=id s3
 have S3:=Sd.ju f3
 obtain⟨g0,g1,g2⟩:=thC S3
 have hnn: ∀b,v3.ownBlock=some b->b≠pb:=fun b hb=>by
  have:=n3 b hb
  have:=fd.size
  omega
 rw[hv3] at s3 hnn⊢
 simp[g0,g1,g2]
 refine jw (vs:=pkC ⟨9,tr,b,ja,0,false,.slice a3 l.length c3,kc,kc⟩) S3.swap.blk rfl vg fun w4 b4 f4=>?_
 have S4:=S3.swap.nl f4 b4
 have s4:SlS w4 (.slice a3 l.length c3) l:=s3.fr f4 fun b hb _=>hnn b hb
 rw[yn S4]
 have e:pkA ⟨9,tr,b,ja,0,false,.slice a3 l.length c3,kc,kc⟩= .agg #[.int .i64 9,.int .u64 tr,.int .u64 b.n,.int .u64 b.ji,.int .u64 0,.int .u64 0,.int .i64 0,.bool false,.slice a3 l.length c3,.slice none 0 0,.slice none 0 0]:=rfl
 rw[e]
 simp
 refine jw (vs:=pkC ⟨9,tr,b,ja,0,false,.slice a3 l.length c3,kc,kc⟩) S4.blk rfl vg fun w5 b5 f5=>?_
 have S5:=S4.nl f5 b5
 rw[aci S5]
 exact⟨rfl,h w5 _ (s4.fr f5 fun b hb _=>hnn b hb) S5.fr⟩
theorem alk{w:World}{tr:Int}{v:Value}{l:List Int}(hs:SlU w v l)(hlen:l.length<=1000000){K:KV}(h: ∀w' v',SlU w' v' l->Fz w w'->K (pkA ⟨10,tr,ja,ja,0,false,kc,kc,v'⟩) w'):ie P F.bb [.iface T.z (.agg #[.int .u64 tr,v])] w K:=by
 rw[M.ad.fcall]
 apply M.ad.calls
 unfold M.ad
 obtain⟨a,c,hv,_⟩:=id hs
 rw[hv]
 simp[aef,acj,ahd,aer,afy,adg]
 have S0:=ags w
 have z0:(w.alloc (.cells #[.int .i64 0,.int .u64 0,.int .u64 0,.int .u64 0,.int .u64 0,.int .u64 0,.int .i64 0,.bool false,.slice none 0 0,.slice none 0 0,.slice none 0 0] T.c)).heap.size=w.heap.size+1:=jc _ _
 generalize w.alloc (.cells #[.int .i64 0,.int .u64 0,.int .u64 0,.int .u64 0,.int .u64 0,.int .u64 0,.int .i64 0,.bool false,.slice none 0 0,.slice none 0 0,.slice none 0 0] T.c)=w1 at *
 have S1:=aeg S0 #[.int .u64 0,.slice none 0 0] T.z
 rw[z0] at S1
 generalize w.heap.size=pb at *
 generalize pb+1=ob at *
 refine jw (vs:=[Value.int .u64 tr,.slice a l.length c]) S1.blk rfl (by simp[kt]) fun w2 b2 f2=>?_
 have S2:=S1.nl f2 b2
 have thC: ∀{W:World}{R:List Asn},St w W (iz ob [Value.int .u64 tr,.slice a l.length c].toArray T.z :: R)->ik W ob 0=some (.int .u64 tr)/\ik W ob 1=some (.slice a l.length c):=fun{W R} S'=>by
  have hh:=S'.blk
  exact⟨by rw[iq hh];rfl,by rw[iq hh];rfl⟩
 have hpl:pb < w2.heap.size:=(Array.getElem?_eq_some_iff.1 S2.swap.blk).1
 have fd:Fz w2 (dr w2 1):=(Fr.refl _ w2).dr 1
 have Sd:=S2.ju fd
 obtain⟨c0,c1⟩:=thC S2
 obtain⟨e0,e1⟩:=thC Sd
 simp[c0,c1,e0,e1]
 rw[<-hv]
 refine aar ((hs.fr Sd.fr fun _ _ _ h=>h)) hlen fun w3 v3 s3 n3 f3=>?_
 obtain⟨a3,c3,hv3,_⟩:=id s3
 have S3:=Sd.ju f3
 obtain⟨g0,g1⟩:=thC S3
 have hnn: ∀b,v3.ownBlock=some b->b≠pb:=fun b hb=>by
  have:=n3 b hb
  have:=fd.size
  omega
 rw[hv3] at s3 hnn⊢
 simp[g0,g1]
 refine jw (vs:=pkC ⟨10,tr,ja,ja,0,false,kc,kc,.slice a3 l.length c3⟩) S3.swap.blk rfl vg fun w4 b4 f4=>?_
 have S4:=S3.swap.nl f4 b4
 have s4:SlU w4 (.slice a3 l.length c3) l:=s3.fr f4 fun b hb _=>hnn b hb
 rw[yn S4]
 have e:pkA ⟨10,tr,ja,ja,0,false,kc,kc,.slice a3 l.length c3⟩= .agg #[.int .i64 10,.int .u64 tr,.int .u64 0,.int .u64 0,.int .u64 0,.int .u64 0,.int .i64 0,.bool false,.slice none 0 0,.slice none 0 0,.slice a3 l.length c3]:=rfl
 rw[e]
 simp
 refine jw (vs:=pkC ⟨10,tr,ja,ja,0,false,kc,kc,.slice a3 l.length c3⟩) S4.blk rfl vg fun w5 b5 f5=>?_
 have S5:=S4.nl f5 b5
 rw[aci S5]
 exact⟨rfl,h w5 _ (s4.fr f5 fun b hb _=>hnn b hb) S5.fr⟩
set_option maxRecDepth 100000
def ss(p:Pk)(ls:List Spn)(lm:List Mem)(lu:List Int):Bool:=
 if p.jg=1\/p.jg=2 then agz p.tr ls else if p.jg=3 then vw lm else if p.jg=4\/p.jg=6 then apw p.tr p.b p.v else if p.jg=5\/p.jg=7 then ahm p.tr p.b p.ok p.jp p.v (decide (p.jg=7)) else if p.jg=8 then aop p.tr p.v else if p.jg=9 then aif p.tr p.b ls else if p.jg=10 then ajy p.tr lu else false
theorem ThR.fr{w w':World}{p:Pk}{ls:List Spn}{lm:List Mem}{lu:List Int}{t:Value}(h:ThR w p ls lm lu t)(hf:Fz w w'):ThR w' p ls lm lu t:=by
 cases h with
 | kh v hk hs=>exact .kh v hk (hs.fr hf fun _ _ _ h=>h)
 | ajs v hk hs=>exact .ajs v hk (hs.fr hf fun _ _ _ h=>h)
 | ask hk=>exact .ask hk
 | aaf hk=>exact .aaf hk
 | si hk=>exact .si hk
 | xg v hk hs=>exact .xg v hk (hs.fr hf fun _ _ _ h=>h)
 | aac v hk hs=>exact .aac v hk (hs.fr hf fun _ _ _ h=>h)
 | none hk=>exact .none hk
theorem bhu(n:Nat)(w:World)(K:KV):ip P .eql T.be (.tmp n) (.const .nilIface) .nilIface .nilIface w K=K (.bool true) w:=kr
theorem ThR.eqn{w:World}{p:Pk}{ls:List Spn}{lm:List Mem}{lu:List Int}{t:Value}(h:ThR w p ls lm lu t)(hk:1<=p.jg/\p.jg<=10)(rx ry:Operand)(w1:World)(K:KV):ip P .eql T.be rx ry t .nilIface w1 K=K (.bool false) w1:=by
 cases h with
 | kh v hk hs=>exact azj _ _ _ _ _
 | ajs v hk hs=>exact ase _ _ _ _ _
 | ask hk=>exact bhf _ _ _ _ _
 | aaf hk=>exact baq _ _ _ _ _
 | si hk=>exact bck _ _ _ _ _
 | xg v hk hs=>exact avo _ _ _ _ _
 | aac v hk hs=>exact ayg _ _ _ _ _
 | none hn=>exact absurd hk hn
theorem ThR.blj{w:World}{p:Pk}{ls:List Spn}{lm:List Mem}{lu:List Int}{t:Value}(h:ThR w p ls lm lu t)(hk: ¬(1<=p.jg/\p.jg<=10)):t= .nilIface:=by
 cases h with
 | none hn=>rfl
 | _=>omega
theorem bhk{w:World}{p:Pk}{ls:List Spn}{lm:List Mem}{lu:List Int}{t:Value}(ht:ThR w p ls lm lu t)(hk:1<=p.jg/\p.jg<=10)(l1:ls.length<=1000000)(l2:lm.length<=1000000)(l3:lu.length<=1000000){K:KV}
  (h: ∀w',Fz w w'->K (.bool (ss p ls lm lu)) w'):ie P F.bg [t] w K:=by
 unfold ss at h
 cases ht with
 | kh v q hs=>simp only[if_pos q] at h;exact aod hs l1 h
 | ajs v q hs=>simp only[q,show¬((3:Int)=1\/(3:Int)=2) by omega,if_false,if_true] at h;exact amu hs l2 h
 | ask q=>rw[if_neg (by omega),if_neg (by omega),if_pos q] at h;exact aru h
 | aaf q=>rw[if_neg (by omega),if_neg (by omega),if_neg (by omega),if_pos q] at h;exact aoj h
 | si q=>rw[if_neg (by omega),if_neg (by omega),if_neg (by omega),if_neg (by omega),if_pos q] at h;exact apm h
 | xg v q hs=>rw[if_neg (by omega),if_neg (by omega),if_neg (by omega),if_neg (by omega),if_neg (by omega),if_pos q] at h;exact alj hs l1 h
 | aac v q hs=>rw[if_neg (by omega),if_neg (by omega),if_neg (by omega),if_neg (by omega),if_neg (by omega),if_neg (by omega),if_pos q] at h;exact aof hs l3 h
 | none q=>exact absurd hk q
structure alb(p:Pk):Prop where
 tr:yd p.tr
 b:p.b.rng
 jp:p.jp.rng
structure afs(s:Spn):Prop where
 tr:yd s.je
 id:yd s.id
 par:yd s.mr
 st:yd s.kl
 ln:yd s.len
def bdt(p:Nat):Value:= .pointer (some ⟨p,0,none⟩)
theorem arj{w0 w:World}{R:List Asn}(S:St w0 w R)(cs:Array Value)(e:TypeId):St w0 (w.alloc (.cells cs e)) (iz w.heap.size cs e :: R):=S.add ((Fr.refl _ w).alloc _) (B:=fun x=>x=w.heap.size) ⟨by rw[iw,if_pos rfl],rfl⟩ fun x hx=>by subst hx;rw[jc];omega
def yf(a b:Int):Int:=if a < b then -1 else if b < a then 1 else 0
theorem aio{w:World}(a b:Int){K:KV}(h:K (.int .i64 (yf a b)) w):ie P F.ax [.int .u64 a,.int .u64 b] w K:=by
 have nan: ∀(z:Int){K:KV},K (.bool false) w->ie P F.ae [.int .u64 z] w K:=fun z K hK=>by
  rw[M.cy.fcall]
  apply M.cy.calls
  unfold M.cy
  simpa using hK
 rw[M.bc.fcall]
 apply M.bc.calls
 unfold M.bc
 refine nan a ?_
 refine nan b ?_
 simp
 unfold M.bc.j2
 unfold yf at h
 by_cases h1:a < b
 ·simp[h1] at h⊢;exact h
 ·by_cases h2:b < a
  ·simp[h1,h2] at h⊢;exact h
  ·simp[h1,h2] at h⊢;exact h
theorem bkw{w:World}{v:Value}{l:List Int}(hs:Sl w 1 abz v l)(hlen:l.length<=1000){K:KV}(h:K (.int .i64 (orK l)) w):jo P F.fj [v] w K:=by
 apply M.dl.calls
 unfold M.dl
 simp only[il]
 rw[hs.jq (by simp)]
 refine⟨OrI w l,fun x _=>l.length - ms x 2,⟨_,_,0,rfl,rfl,Nat.zero_le _,fun j k _ h=>by omega⟩,?_⟩
 rintro x w1 ⟨a,b,i,rfl,rfl,hi,hz⟩
 have gv2:gv [a,b,.int .i64 (i:Int)] 2= .int .i64 (i:Int):=rfl
 simp only[gv2]
 by_cases hil:i < l.length
 ·obtain⟨bb,o,cap,rfl,hb,_,hr⟩:=hs.at hil
  have e0:=hr 0 _ rfl
  simp only[Nat.mul_one,Nat.add_zero] at e0
  have hw:IntKind.i64.wrap ((i:Int)+1)=((i+1:Nat):Int):=by rw[iy];rfl
  simp[hil]
  unfold M.dl.j2
  simp only[il,gv2]
  by_cases hk:l[i]=0
  ·simp[hil,e0,hk,hw]
   refine⟨⟨_,_,i+1,rfl,rfl,by omega,fun j k hj hlt=>?_⟩,by simp[ms,gv];omega⟩
   by_cases hji:j=i
   ·subst hji
    rw[List.getElem?_eq_getElem hil] at hj
    cases hj;exact hk
   ·exact hz j k hj (by omega)
  ·simp[hil,e0,hk]
   have:orK l=l[i]:=by
    unfold orK
    have:l.find? (fun k=>!decide (k=0))=some l[i]:=by
     rw[List.find?_eq_some_iff_getElem]
     refine⟨by simpa using hk,i,hil,rfl,fun j hj=>?_⟩
     have:=hz j _ (List.getElem?_eq_getElem (by omega)) hj
     simp[this]
    rw[this];rfl
   rw[this] at h;exact h
 ·simp[hil]
  have:orK l=0:=by
   unfold orK
   have:l.find? (fun k=>!decide (k=0))=none:=by
    rw[List.find?_eq_none]
    intro k hk
    obtain⟨j,hj,rfl⟩:=List.mem_iff_getElem.1 hk
    have:=hz j _ (List.getElem?_eq_getElem hj) (by omega)
    simp[this]
   rw[this];rfl
  rw[this] at h;exact h
theorem or2(a b:Int):orK [a,b]=if a=0 then b else a:=by
 unfold orK
 by_cases ha:a=0 <;>by_cases hb:b=0 <;>simp[ha,hb]
theorem bdo{a b:Bal}:decide ((orK [yf a.n b.n,yf a.ji b.ji]) < 0)=a.aov b:=by
 rw[or2]
 unfold yf Bal.aov
 apply decide_eq_decide.2
 repeat' split
 all_goals omega
theorem amy{w:World}{b:Nat}{x:Bal}{f:Nat×Nat}(h:w.heap[b]? =some (.cells #[.int .u64 x.n,.int .u64 x.ji] T.e f)):ik w b 0=some (.int .u64 x.n)/\ik w b 1=some (.int .u64 x.ji)/\∀K,ldN P 2 b 0 w K=K (kj x) w:=
 ⟨by rw[iq h];rfl,by rw[iq h];rfl,fun K=>zh (by rw[iq h];rfl) (by rw[iq h];rfl) K⟩
theorem bno(x y:Bal){w:World}{Q:Value->Value->World->Prop}(h: ∀w1 b1 b2,St w w1 (iz b2 #[.int .u64 y.n,.int .u64 y.ji] T.e :: iz b1 #[.int .u64 x.n,.int .u64 x.ji] T.e :: [])->Q (bdt b1) (bdt b2) w1):
  lh P T.e (kj x) w fun v1 w1=>lh P T.e (kj y) w1 fun v2 w2=>Q v1 v2 w2:=by
 rw[tw,tw]
 exact h _ _ _ (arj (arj (St.kl w) #[.int .u64 x.n,.int .u64 x.ji] T.e) #[.int .u64 y.n,.int .u64 y.ji] T.e)
theorem azk{w:World}(x y:Bal){K:KV}(h: ∀w',Fz w w'->K (.int .i64 (orK [yf x.n y.n,yf x.ji y.ji])) w'):ie P F.ga [kj x,kj y] w K:=by
 rw[M.fa.fcall]
 apply M.fa.calls
 unfold M.fa
 refine bno x y fun w1 b1 b2 S1=>?_
 have S2:=S1.ju ((Fr.refl _ w1).dr 1)
 obtain⟨y0,y1,_⟩:=amy S2.blk
 obtain⟨x0,x1,_⟩:=amy S2.swap.blk
 simp only[bdt]
 rw[pz]
 simp only[adl] at x0 x1 y0 y1
 simp[x0,x1,y0,y1]
 refine aio _ _ ?_
 simp[x1,y1]
 refine aio _ _ ?_
 simp
 have S3:St w ((dr w1 1).alloc (.cells #[.int .i64 (yf x.n y.n),.int .i64 (yf x.ji y.ji)] T.d)) _:=arj S2 #[.int .i64 (yf x.n y.n),.int .i64 (yf x.ji y.ji)] T.d
 have hsl:Sl ((dr w1 1).alloc (.cells #[.int .i64 (yf x.n y.n),.int .i64 (yf x.ji y.ji)] T.d)) 1 abz (.slice (some ⟨w1.heap.size,0,none⟩) 2 2) [yf x.n y.n,yf x.ji y.ji]:=by
  have hh:=S3.blk
  rw[show (dr w1 1).heap.size=w1.heap.size from rfl] at hh
  refine⟨some ⟨w1.heap.size,0,none⟩,2,rfl,by simp,by simp[maxLen],fun i z hz=>⟨w1.heap.size,0,rfl,lj hh,fun j u hj=>?_⟩⟩
  rw[iq hh]
  match i,j with
  | 0,0=>simp[abz] at hz hj⊢;rw[hz];exact hj
  | 1,0=>simp[abz] at hz hj⊢;rw[hz];exact hj
  | i+2,_=>simp at hz
  | _,j+1=>simp[abz] at hj
 rw[M.dl.fcall]
 exact bkw hsl (by simp) (h _ S3.fr)
section
variable {w0 w : World} {b : Nat} {t : TypeId} {R : List Asn}
theorem yg{x:Bal}(S:St w0 w (iz b #[.int .u64 x.n,.int .u64 x.ji] t :: R)):ik w b 0=some (.int .u64 x.n)/\ik w b 1=some (.int .u64 x.ji)/\∀K,ldN P 2 b 0 w K=K (kj x) w:=
 ⟨by rw[S.cell];rfl,by rw[S.cell];rfl,fun K=>S.ldA [.int .u64 x.n,.int .u64 x.ji] rfl rfl K⟩
end
def pk0(k tr:Int)(x s:Bal)(v:Int)(ok:Bool):Pk:=⟨k,tr,x,s,v,ok,.slice none 0 0,.slice none 0 0,.slice none 0 0⟩
theorem atr(k tr:Int)(x s:Bal)(v:Int)(ok:Bool): ∀u∈pkC (pk0 k tr x s v ok),kt u=true:=fun u hu=>by
 simp only[pkC,pk0,List.mem_cons,List.not_mem_nil,or_false] at hu
 rcases hu with rfl|rfl|rfl|rfl|rfl|rfl|rfl|rfl|rfl|rfl|rfl <;>rfl
theorem aze(w:World)(k tr:Int)(x s:Bal)(v:Int)(ok:Bool):aab w (pk0 k tr x s v ok) [] [] []:=⟨Sl.nil,Sl.nil,Sl.nil,by simp,by simp,by simp⟩
def pkZ:Pk:=pk0 0 0 ja ja 0 false
section
variable {w0 w : World} {b : Nat} {R : List Asn}
theorem awq{cs:Array Value}{q:Pk}(S:St w0 w (iz b cs T.c :: R))(hs:cs.size=11)(h1: ∀u∈pkC q,kt u=true){K:KV}(h: ∀w',St w0 w' (iz b (pkC q).toArray T.c :: R)->K undef w'):stN P b 0 (pkC q) w K:=
 S.put h1 (by simp[pkC,hs]) (by
  have hl:cs.toList.length=11:=by simpa using hs
  have h2:(pkC q).length=11:=rfl
  rw[h2,List.take_zero,List.nil_append,List.drop_eq_nil_of_le (by omega),List.append_nil]) h
theorem auu(S:St w0 w R):St w0 (w.alloc (.cells #[.int .i64 0,.int .u64 0,.int .u64 0,.int .u64 0,.int .u64 0,.int .u64 0,.int .i64 0,.bool false,.slice none 0 0,.slice none 0 0,.slice none 0 0] T.c)) (iz w.heap.size (pkC pkZ).toArray T.c :: R):=S.mkB (pkC pkZ).toArray T.c
theorem vq{q:Pk}(S:St w0 w (iz b (pkC q).toArray T.c :: R))(K:KV):ldN P 11 b 0 w K=K (pkA q) w:=S.ldA (pkC q) rfl rfl K
theorem blo{q:Pk}(S:St w0 w (iz b (pkC q).toArray T.c :: R))(K:KV):ng P T.c (.pointer (some ⟨b,0,none⟩)) w K=K (pkA q) w:=by rw[ahx];exact vq S K
theorem bjx{cs:Array Value}{q:Pk}(S:St w0 w (iz b cs T.c :: R))(hs:cs.size=11)(h1: ∀u∈pkC q,kt u=true){K:KV}(h: ∀w',St w0 w' (iz b (pkC q).toArray T.c :: R)->K (pkA q) w'):
  stN P b 0 (pkC q) w fun _ w=>ng P T.c (.pointer (some ⟨b,0,none⟩)) w fun r0 w'=>w'=w/\K r0 w:=
 awq S hs h1 fun w' S'=>by rw[blo S'];exact⟨rfl,h w' S'⟩
end
def vx(l1 l2:List Spn):Bool:=decide (l1.length=l2.length) && (List.zipWith xp l1 l2).all id
theorem axf{l1 l2:List Spn}{i:Nat}(h1:i < l1.length)(h2:i < l2.length)(h:xp l1[i] l2[i]=false):vx l1 l2=false:=by
 unfold vx
 have:(List.zipWith xp l1 l2).all id=false:=by
  rw[List.all_eq_false]
  refine⟨xp l1[i] l2[i],?_,by simp[h]⟩
  rw[List.mem_iff_getElem]
  exact⟨i,by simp;omega,by simp⟩
 rw[this,Bool.and_false]
theorem akt{l1 l2:List Spn}(hl:l1.length=l2.length)(h: ∀j (h1:j < l1.length) (h2:j < l2.length),xp l1[j] l2[j]=true):vx l1 l2=true:=by
 unfold vx
 rw[decide_eq_true hl,Bool.true_and,List.all_eq_true]
 intro x hx
 obtain⟨j,hj,rfl⟩:=List.getElem_of_mem hx
 simp only[List.length_zipWith] at hj
 rw[List.getElem_zipWith]
 exact h j (by omega) (by omega)
theorem aip(l:List Spn):vx l l=true:=akt rfl fun j _ _=>aun _
def lq(p q:Pk):Bool:=decide (p.jg=q.jg) && (decide (p.tr=q.tr) && (decide (p.b=q.b) && (decide (p.jp=q.jp) && (decide (p.v=q.v) && (p.ok == q.ok)))))
def yv(p q:Pk)(ls ls':List Spn)(lm lm':List Mem)(lu lu':List Int):Bool:=decide (lm=lm') && (decide (lu=lu') && (vx ls ls' && lq p q))
theorem bjl{α:Type}{l1 l2:List α}(hl:l1.length=l2.length)(h: ∀j (h1:j < l1.length) (h2:j < l2.length),l1[j]=l2[j]):l1=l2:=List.ext_getElem hl h
def ri(p:Pk):Pk:=⟨p.jg,if p.jg=3 then 0 else p.tr,if p.jg=4\/p.jg=5\/p.jg=6\/p.jg=7\/p.jg=9 then p.b else ja,if p.jg=5\/p.jg=7 then p.jp else ja,if p.jg=5\/p.jg=6\/p.jg=8 then p.v else 0,if p.jg=5\/p.jg=7 then p.ok else false,
 if p.jg=1\/p.jg=2\/p.jg=9 then p.sv else .slice none 0 0,if p.jg=3 then p.mv else .slice none 0 0,if p.jg=10 then p.iv else .slice none 0 0⟩
def qe(p:Pk)(l:List Spn):List Spn:=if p.jg=1\/p.jg=2\/p.jg=9 then l else []
def qc(p:Pk)(l:List Mem):List Mem:=if p.jg=3 then l else []
def px(p:Pk)(l:List Int):List Int:=if p.jg=10 then l else []
theorem biq(b:Nat)(q:Pk)(w:World)(K:KV):stT P T.c (.pointer (some ⟨b,0,none⟩)) (pkA q) w K=stN P b 0 (pkC q) w K:=by simp[pkA,pkC]
def bmc(W:World)(l1 l2:List Spn):KL:=fun x w1=> ∃(u0 u1:Value)(i:Nat),x=[u0,u1,.int .i64 (i:Nat)]/\i<=l1.length/\(∀j (h1:j < l1.length) (h2:j < l2.length),j < i->xp l1[j] l2[j]=true)/\Fz W w1
def bnf(W:World)(l1 l2:List Int):KL:=fun x w1=> ∃(u0 u1:Value)(i:Nat),x=[u0,u1,.int .i64 (i:Nat)]/\i<=l1.length/\(∀j (h1:j < l1.length) (h2:j < l2.length),j < i->l1[j]=l2[j])/\Fz W w1
theorem axy{w:World}{v1 v2:Value}{l1 l2:List Spn}(s1:SlS w v1 l1)(s2:SlS w v2 l2)(hlen:l1.length<=1000000){K:KV}(h: ∀w',Fz w w'->K (.bool (vx l1 l2)) w'):ie P F.ay [v1,v2] w K:=by
 rw[M.i.fcall]
 apply M.i.calls
 unfold M.i
 simp only[il]
 rw[s1.jq (by kernel_rfl),s2.jq (by kernel_rfl)]
 by_cases hne:l1.length=l2.length
 ·simp[hne]
  unfold M.i.j0
  simp only[il]
  rw[s1.jq (by kernel_rfl)]
  refine⟨bmc w l1 l2,fun x _=>l1.length - ms x 2,⟨_,_,0,rfl,Nat.zero_le _,fun j _ _ h=>by omega,Fr.refl _ _⟩,?_⟩
  rintro x w1 ⟨u0,u1,i,rfl,hi,hpre,f1⟩
  by_cases hil:i < l1.length
  ·have hili:(i:Int) < (l1.length:Int):=by omega
   obtain⟨b1,o1,cap1,hv1,_,_,e1⟩:=(s1.fr f1 fun _ _ _ h=>h:SlS w1 v1 l1).at hil
   obtain⟨b2,o2,cap2,hv2,_,_,e2⟩:=(s2.fr f1 fun _ _ _ h=>h:SlS w1 v2 l2).at (show i < l2.length by omega)
   have hl2i:i < l2.length:=by omega
   have q1: ∀w' K,iaT P T.h v1 (.int .i64 (i:Nat)) w' K=K (.pointer (some ⟨b1,o1+i * 8,none⟩)) w':=fun w' K=>by rw[hv1];simp[hil]
   have q2: ∀w' K,iaT P T.h v2 (.int .i64 (i:Nat)) w' K=K (.pointer (some ⟨b2,o2+i * 8,none⟩)) w':=fun w' K=>by rw[hv2];simp[hl2i]
   have g1: ∀K,ldN P 8 b1 (o1+i * 8) (dr w1 1) K=K (li l1[i]) (dr w1 1):=fun K=>ldS (fun k v hk=>by rw[adl];exact e1 k v hk) K
   have g2: ∀K,ldN P 8 b2 (o2+i * 8) (dr w1 1) K=K (li l2[i]) (dr w1 1):=fun K=>ldS (fun k v hk=>by rw[adl];exact e2 k v hk) K
   have hw:IntKind.i64.wrap ((i:Int)+1)=((i+1:Nat):Int):=by rw[iy];omega
   simp[hili]
   unfold M.i.j3
   simp[q1,q2,g1,g2,bhq]
   cases hs:xp l1[i] l2[i] with
   | true=>
    simp
    rw[hw]
    refine⟨⟨_,_,i+1,rfl,hil,fun j a1 a2 hj=>?_,f1.dr 1⟩,by simp[ms,gv];omega⟩
    by_cases hji:j=i
    ·subst hji;exact hs
    ·exact hpre j a1 a2 (by omega)
   | false=>
    simp
    have:=h _ (f1.dr 1)
    rw[axf hil hl2i hs] at this
    exact this
  ·have hili: ¬(i:Int) < (l1.length:Int):=by omega
   simp[hili]
   have:=h w1 f1
   rw[akt hne fun j a1 a2=>hpre j a1 a2 (by omega)] at this
   exact this
 ·have hni: ¬(l1.length:Int)=(l2.length:Int):=by omega
  simp[hni]
  have:=h w (Fr.refl _ _)
  have hz:vx l1 l2=false:=by unfold vx;simp[hne]
  rw[hz] at this
  exact this
theorem bap{w:World}{v1 v2:Value}{l1 l2:List Int}(s1:SlU w v1 l1)(s2:SlU w v2 l2)(hlen:l1.length<=1000000){K:KV}(h: ∀w',Fz w w'->K (.bool (decide (l1=l2))) w'):ie P F.bh [v1,v2] w K:=by
 rw[M.p.fcall]
 apply M.p.calls
 unfold M.p
 simp only[il]
 rw[s1.jq (by kernel_rfl),s2.jq (by kernel_rfl)]
 by_cases hne:l1.length=l2.length
 ·simp[hne]
  unfold M.p.j0
  simp only[il]
  rw[s1.jq (by kernel_rfl)]
  refine⟨bnf w l1 l2,fun x _=>l1.length - ms x 2,⟨_,_,0,rfl,Nat.zero_le _,fun j _ _ h=>by omega,Fr.refl _ _⟩,?_⟩
  rintro x w1 ⟨u0,u1,i,rfl,hi,hpre,f1⟩
  by_cases hil:i < l1.length
  ·have hili:(i:Int) < (l1.length:Int):=by omega
   have hl2i:i < l2.length:=by omega
   obtain⟨b1,o1,cap1,hv1,_,e1⟩:=baa (s1.fr f1 fun _ _ _ h=>h:SlU w1 v1 l1) hil
   obtain⟨b2,o2,cap2,hv2,_,e2⟩:=baa (s2.fr f1 fun _ _ _ h=>h:SlU w1 v2 l2) hl2i
   have q1: ∀w' K,iaT P T.g v1 (.int .i64 (i:Nat)) w' K=K (.pointer (some ⟨b1,o1+i,none⟩)) w':=fun w' K=>by rw[hv1];simp[hil]
   have q2: ∀w' K,iaT P T.g v2 (.int .i64 (i:Nat)) w' K=K (.pointer (some ⟨b2,o2+i,none⟩)) w':=fun w' K=>by rw[hv2];simp[hl2i]
   have hw:IntKind.i64.wrap ((i:Int)+1)=((i+1:Nat):Int):=by rw[iy];omega
   simp[hili]
   unfold M.p.j3
   simp[q1,q2,e1,e2]
   by_cases hs:l1[i]=l2[i]
   ·simp[hs]
    rw[hw]
    refine⟨⟨_,_,i+1,rfl,hil,fun j a1 a2 hj=>?_,f1.dr 1⟩,by simp[ms,gv];omega⟩
    by_cases hji:j=i
    ·subst hji;exact hs
    ·exact hpre j a1 a2 (by omega)
   ·simp[hs]
    have:=h _ (f1.dr 1)
    rw[decide_eq_false fun he=>hs (by simp[he])] at this
    exact this
  ·have hili: ¬(i:Int) < (l1.length:Int):=by omega
   simp[hili]
   have:=h w1 f1
   rw[decide_eq_true (bjl hne fun j a1 a2=>hpre j a1 a2 (by omega))] at this
   exact this
 ·have hni: ¬(l1.length:Int)=(l2.length:Int):=by omega
  simp[hni]
  have:=h w (Fr.refl _ _)
  rw[decide_eq_false fun he=>hne (congrArg List.length he)] at this
  exact this
theorem ber{w:World}{p q:Pk}{ls ls':List Spn}{lm lm':List Mem}{lu lu':List Int}(hp:aab w p ls lm lu)(hq:aab w q ls' lm' lu'){K:KV}
  (h: ∀w',Fz w w'->K (.bool (yv p q ls ls' lm lm' lu lu')) w'):ie P F.er [pkA p,pkA q] w K:=by
 rw[M.dq.fcall]
 apply M.dq.calls
 unfold M.dq
 rw[apu hp,apu (hq.fr ((Fr.refl _ w).alloc _))]
 have S1:St w (w.alloc (.cells (pkC p).toArray T.c)) (iz w.heap.size (pkC p).toArray T.c :: []):=(St.kl w).add ((Fr.refl _ w).alloc _) (B:=fun x=>x=w.heap.size) ⟨by rw[iw,if_pos rfl],rfl⟩ fun x hx=>by subst hx;rw[jc];omega
 generalize w.alloc (.cells (pkC p).toArray T.c)=w1 at *
 have S2:St w (w1.alloc (.cells (pkC q).toArray T.c)) (iz w1.heap.size (pkC q).toArray T.c :: _):=S1.add ((Fr.refl _ w1).alloc _) (B:=fun x=>x=w1.heap.size) ⟨by rw[iw,if_pos rfl],rfl⟩ fun x hx=>by subst hx;rw[jc];omega
 generalize w1.alloc (.cells (pkC q).toArray T.c)=w2 at *
 generalize w.heap.size=pb at *
 generalize w1.heap.size=qb at *
 obtain⟨q0,q1,q2,q4,q6,q7,q8,q9,q10,_⟩:=qv S2
 obtain⟨p0,p1,p2,p4,p6,p7,p8,p9,p10,_⟩:=qv S2.swap
 have hbo:akm P T.br=true:=by kernel_rfl
 have no: ∀bb:Bool,bb=false->(lq p q=false)->K (.bool bb) w2:=fun bb hb hl=>by
  subst hb
  have:=h w2 S2.fr
  unfold yv at this
  rw[hl,Bool.and_false,Bool.and_false,Bool.and_false] at this
  exact this
 by_cases a0:p.jg=q.jg
 case neg=>
  simp[p0,q0,a0]
  exact no false rfl (by simp[lq,a0])
 by_cases a1:p.tr=q.tr
 case neg=>
  simp[p0,q0,a0,p1,q1,a1]
  exact no false rfl (by simp[lq,a1])
 by_cases a2:p.b=q.b
 case neg=>
  simp[p0,q0,a0,p1,q1,a1,p2,q2,aam,a2]
  exact no false rfl (by simp[lq,a2])
 by_cases a3:p.jp=q.jp
 case neg=>
  simp[p0,q0,a0,p1,q1,a1,p2,q2,aam,a2,p4,q4,a3]
  exact no false rfl (by simp[lq,a3])
 by_cases a4:p.v=q.v
 case neg=>
  simp[p0,q0,a0,p1,q1,a1,p2,q2,aam,a2,p4,q4,a3,p6,q6,a4]
  exact no false rfl (by simp[lq,a4])
 by_cases a5:p.ok=q.ok
 case neg=>
  have a5':(p.ok == q.ok)=false:=by simpa using a5
  simp[p0,q0,a0,p1,q1,a1,p2,q2,aam,a2,p4,q4,a3,p6,q6,a4,p7,q7,afh hbo,a5']
  exact no false rfl (by simp[lq,a5])
 obtain⟨⟨sa,sc,es⟩,⟨ma,mc,em⟩,ua,uc,eu⟩:=hp.one
 obtain⟨⟨sa',sc',es'⟩,⟨ma',mc',em'⟩,ua',uc',eu'⟩:=hq.one
 simp[p0,q0,a0,p1,q1,a1,p2,q2,aam,a2,p4,q4,a3,p6,q6,a4,p7,q7,afh hbo,a5,p8,q8]
 have hp2:=hp.fr S2.fr
 have hq2:=hq.fr S2.fr
 have fb:lq p q=true:=by simp[lq,a0,a1,a2,a3,a4,a5]
 have fin:=h
 unfold yv at fin
 rw[fb] at fin
 refine axy hp2.s hq2.s hp.ls fun w3 f3=>?_
 have S3:=S2.ju f3
 obtain⟨_,_,_,_,_,_,_,q9,_,_⟩:=qv S3
 obtain⟨_,_,_,_,_,_,_,p9,_,_⟩:=qv S3.swap
 have hp3:=hp.fr S3.fr
 have hq3:=hq.fr S3.fr
 cases hb1:vx ls ls' with
 | false=>
  simp
  have:=fin w3 S3.fr
  rw[hb1] at this
  simpa using this
 | true=>
 rw[hb1] at fin
 simp[p9,q9]
 refine anc hp3.m hq3.m hp.lm fun w4 f4=>?_
 have S4:=S3.ju f4
 obtain⟨_,_,_,_,_,_,_,_,q10,_⟩:=qv S4
 obtain⟨_,_,_,_,_,_,_,_,p10,_⟩:=qv S4.swap
 have hp4:=hp.fr S4.fr
 have hq4:=hq.fr S4.fr
 by_cases hm:lm=lm'
 case neg=>
  simp[hm]
  have:=fin w4 S4.fr
  simpa [hm] using this
 simp[hm,p10,q10]
 refine bap hp4.u hq4.u hp.lu fun w5 f5=>?_
 have:=fin w5 (S4.ju f5).fr
 simpa [hm] using this
def byt(s:ByteArray)(k:Nat):Nat:=(s.get! k).toNat
theorem arq(s:ByteArray){i:Nat}(h:i < s.size){k:IntKind}(w:World)(K:KV):ixT P T.l (.string s) (.int k (i:Int)) w K=K (.int .u8 (byt s i)) w:=by
 have hu:P.underlying T.l=some .string:=vh alt
 have hg:s[i]? =some (s.get! i):=by
  rw[getElem?_pos s i h]
  have e:s.get! i=s[i]'h:=by
   simp[ByteArray.get!,getElem!_pos,h]
   rfl
  rw[e]
 simp[ixT,jk,Instr.index,asIntOf,Sem.run_bind,jd hu,Result.andThen,Sem.run_pure,hg,byt]
theorem bjf{s d:TypeId}{ks k2:IntKind}(hs:P.underlying s=some (.int ks))(hd:P.underlying d=some (.int k2))(k:IntKind)(x:Int)(w:World)(K:KV):cvT P s d (.int k x) w K=K (.int k2 (k2.wrap x)) w:=by
 simp[cvT,jk,convert,Sem.run_bind,jd hs,jd hd,Result.andThen,Conv.intToInt,Sem.run_pure]
def kg(t:ByteArray)(r:Nat):Nat->Nat
 | 0=>r
 | k+1=>kg t r k * 64+byt t (k+1) - 128
def tu(t:ByteArray)(k:Nat):Bool:=decide (128<=byt t k) && decide (byt t k<=191)
def na(b0:Nat):Nat×Nat×Nat:=if 194<=b0/\b0<=223 then (2,128,b0 - 192) else if 224<=b0/\b0<=239 then (3,2048,b0 - 224) else if 240<=b0/\b0<=244 then (4,65536,b0 - 240) else (0,0,0)
def te(t:ByteArray):Nat->Bool
 | 0=>true
 | k+1=>te t k && tu t (k+1)
def rr(t:ByteArray):Nat×Nat:=
 if t.size=0 then (0,0) else if byt t 0 < 128 then (byt t 0,1) else
 if (na (byt t 0)).1=0\/t.size < (na (byt t 0)).1 then (0,0) else
 if te t ((na (byt t 0)).1 - 1)=false then (0,0) else
 if kg t (na (byt t 0)).2.2 ((na (byt t 0)).1 - 1) < (na (byt t 0)).2.1\/1114111 < kg t (na (byt t 0)).2.2 ((na (byt t 0)).1 - 1)\/(55296<=kg t (na (byt t 0)).2.2 ((na (byt t 0)).1 - 1)/\kg t (na (byt t 0)).2.2 ((na (byt t 0)).1 - 1)<=57343) then (0,0) else (kg t (na (byt t 0)).2.2 ((na (byt t 0)).1 - 1),(na (byt t 0)).1)
theorem ahb(t:ByteArray)(k:Nat):byt t k < 256:=UInt8.toNat_lt _
theorem aqn(t:ByteArray){r:Nat}(hr:r<=31): ∀k,te t k=true->kg t r k+1<=32 * 64 ^ k
 | 0,_=>by simp[kg];omega
 | k+1,h=>by
  simp only[te,Bool.and_eq_true,tu,decide_eq_true_eq] at h
  have:=aqn t hr k h.1
  simp only[kg,Nat.pow_succ]
  omega
theorem ahu(x:Int)(w:World)(K:KV):cvT P T.ba T.bi (.int .u8 x) w K=K (.int .i32 (IntKind.i32.wrap x)) w:=bjf (ks:= .u8) (by kernel_rfl) (by kernel_rfl) .u8 x w K
theorem wo{x:Int}(h0: -2147483648<=x)(h1:x < 2147483648):IntKind.i32.wrap x=x:=by
 show (if (true && decide (x % 4294967296≥2147483648))=true then x % 4294967296 - 4294967296 else x % 4294967296)=x
 by_cases h:x % 4294967296≥2147483648
 ·simp[h];omega
 ·simp[h];omega
theorem ajn{t:ByteArray}{k:Nat}(h:tu t (k+1)=false): ∀{n:Nat},k+1 < n->te t (n - 1)=false
 | 0,hn=>by omega
 | n+1,hn=>by
  rw[Nat.add_sub_cancel]
  by_cases hk:k+1=n
  ·subst hk;simp[te,h]
  ·have:=ajn h (n:=n) (by omega)
   cases n with
   | zero=>omega
   | succ n=>rw[Nat.add_sub_cancel] at this;simp[te,this]
def blg(w:World)(t:ByteArray)(r n:Nat):KL:=fun x w1=> ∃(a b:Value)(k:Nat),x=[a,b,.int .i32 (kg t r k:Nat),.int .i64 ((k+1:Nat):Int)]/\w1=w/\k+1<=n/\te t k=true
theorem ayd{w:World}{t:ByteArray}{n least r:Nat}(hn:2<=n)(hn4:n<=4)(hr:r<=31)(hl:least<=65536)(hsz:n<=t.size){x3 x2:List Value}(e1:gv x2 1= .int .i64 (n:Nat))(e2:gv x2 2= .int .i32 (least:Nat))(e3:gv x2 3= .int .i32 (r:Nat)){K:KV}
  (h:K (.tuple #[.int .i32 ((if te t (n - 1)=false then 0 else if kg t r (n - 1) < least\/1114111 < kg t r (n - 1)\/(55296<=kg t r (n - 1)/\kg t r (n - 1)<=57343) then 0 else kg t r (n - 1):Nat):Int),.int .i64 ((if te t (n - 1)=false then 0 else if kg t r (n - 1) < least\/1114111 < kg t r (n - 1)\/(55296<=kg t r (n - 1)/\kg t r (n - 1)<=57343) then 0 else n:Nat):Int)]) w):
  M.h.j3 x3 x2 (.string t) w K:=by
 unfold M.h.j3
 simp only[il,e3]
 refine⟨blg w t r n,fun x _=>n - ms x 3,⟨_,_,0,rfl,rfl,by omega,rfl⟩,?_⟩
 rintro x w1 ⟨a,b,k,rfl,rfl,hk,hc⟩
 have g2:gv [a,b,.int .i32 (kg t r k:Nat),.int .i64 ((k+1:Nat):Int)] 2= .int .i32 (kg t r k:Nat):=rfl
 have g3:gv [a,b,.int .i32 (kg t r k:Nat),.int .i64 ((k+1:Nat):Int)] 3= .int .i64 ((k+1:Nat):Int):=rfl
 simp only[e1,g3]
 have hb:=aqn t hr k hc
 have hp:(64:Nat) ^ k<=64 ^ 3:=Nat.pow_le_pow_right (by omega) (by omega)
 by_cases hlt:k+1 < n
 ·have hlt':((k+1:Nat):Int) < n:=by omega
  have hix: ∀K,ixT P T.l (.string t) (.int .i64 ((k+1:Nat):Int)) w1 K=K (.int .u8 (byt t (k+1))) w1:=fun K=>arq t (by omega) w1 K
  simp only[mw,hlt',decide_true,Eng.cond_true]
  unfold M.h.j6
  have hix':=hix
  push_cast at hix'
  have hbl:=ahb t (k+1)
  have hw:IntKind.i64.wrap (((k+1:Nat):Int)+1)=((k+1+1:Nat):Int):=by rw[iy];rfl
  simp only[il,g2,g3,hix]
  by_cases h1:byt t (k+1) < 128
  ·have h1':(byt t (k+1):Int) < 128:=by omega
   have hcf:te t (n - 1)=false:=ajn (by simp[tu];omega) hlt
   simp[h1']
   rw[hcf] at h
   simpa using h
  ·have h1': ¬(byt t (k+1):Int) < 128:=by omega
   by_cases h2:191 < byt t (k+1)
   ·have h2':(191:Int) < byt t (k+1):=by omega
    have hcf:te t (n - 1)=false:=ajn (by simp[tu];omega) hlt
    simp[h1',hix',h2']
    rw[hcf] at h
    simpa using h
   ·have h2': ¬(191:Int) < byt t (k+1):=by omega
    simp[h1',hix',h2']
    unfold M.h.j8
    have hm1:IntKind.i32.wrap ((kg t r k:Int) * 64)=(kg t r k:Int) * 64:=wo (by omega) (by omega)
    have hm2:IntKind.i32.wrap (byt t (k+1):Int)=byt t (k+1):=wo (by omega) (by omega)
    have hm3:IntKind.i32.wrap ((kg t r k:Int) * 64+byt t (k+1))=(kg t r k:Int) * 64+byt t (k+1):=wo (by omega) (by omega)
    have hm4:IntKind.i32.wrap ((kg t r k:Int) * 64+byt t (k+1) - 128)=((kg t r (k+1):Nat):Int):=by
     rw[wo (by omega) (by omega)]
     simp only[kg];omega
    push_cast at g2 g3 hw
    simp only[g2,g3,hix',ahu,vm,lx,nf,hm1,hm2,hm3,hm4,hw]
    refine⟨⟨_,_,k+1,rfl,rfl,by omega,by simp[te,hc,tu];omega⟩,?_⟩
    simp[ms,gv];omega
 ·have hke:n - 1=k:=by omega
  have hlt': ¬((k+1:Nat):Int) < n:=by omega
  rw[hke,hc] at h
  simp only[mw,hlt',decide_false,Eng.cond_false]
  unfold M.h.j4
  have q3: ∀p q s u:Value,gv [p,q,s,u] 3=u:=fun _ _ _ _=>rfl
  simp only[il,q3,g2,e1,e2]
  generalize kg t r k=v at *
  simp only[Bool.true_eq_false,if_false] at h
  by_cases a1:v < least
  ·have a1':(v:Int) < least:=by omega
   simp[a1,a1'] at h⊢
   exact h
  by_cases a2:1114111 < v
  ·have a1': ¬(v:Int) < least:=by omega
   have a2':(1114111:Int) < v:=by omega
   simp[a1,a1',a2,a2'] at h⊢
   exact h
  by_cases a3:55296<=v
  ·by_cases a4:v<=57343
   ·have a1': ¬(v:Int) < least:=by omega
    have a2': ¬(1114111:Int) < v:=by omega
    have a3':(55296:Int)<=v:=by omega
    have a4':(v:Int)<=57343:=by omega
    simp[a1,a1',a2,a2',a3,a3',a4,a4'] at h⊢
    exact h
   ·have a1': ¬(v:Int) < least:=by omega
    have a2': ¬(1114111:Int) < v:=by omega
    have a3':(55296:Int)<=v:=by omega
    have a4': ¬(v:Int)<=57343:=by omega
    simp[a1,a1',a2,a2',a3,a3',a4,a4'] at h⊢
    exact h
  ·have a1': ¬(v:Int) < least:=by omega
   have a2': ¬(1114111:Int) < v:=by omega
   have a3': ¬(55296:Int)<=v:=by omega
   simp[a1,a1',a2,a2',a3,a3'] at h⊢
   exact h
theorem bhc{w:World}(t:ByteArray){K:KV}(h:K (.tuple #[.int .i32 ((rr t).1:Nat),.int .i64 ((rr t).2:Nat)]) w):jo P F.el [.string t] w K:=by
 apply M.h.calls
 unfold M.h
 simp only[il]
 unfold rr at h
 by_cases h0:t.size=0
 ·simp[h0] at h⊢
  exact h
 have hsz:0 < t.size:=by omega
 have hix: ∀K,ixT P T.l (.string t) (.int .i64 0) w K=K (.int .u8 (byt t 0)) w:=fun K=>arq t hsz w K
 have hbl:=ahb t 0
 have hw0:IntKind.i32.wrap (byt t 0:Int)=byt t 0:=wo (by omega) (by omega)
 simp[h0] at h⊢
 unfold M.h.j0
 simp only[il,hix]
 by_cases h1:byt t 0 < 128
 ·have h1':(byt t 0:Int) < 128:=by omega
  simp[h1,h1',ahu,hw0] at h⊢
  exact h
 have h1': ¬(byt t 0:Int) < 128:=by omega
 simp[h1,h1'] at h⊢
 unfold M.h.j1
 simp only[il]
 have fin: ∀(n least r:Nat)(x2:List Value),na (byt t 0)=(n,least,r)->n≠0->2<=n->n<=4->r<=31->least<=65536->gv x2 1= .int .i64 (n:Nat)->gv x2 2= .int .i32 (least:Nat)->gv x2 3= .int .i32 (r:Nat)->M.h.j2 x2 (.string t) [.int .i32 0,.int .i64 0] w K:=by
  intro n least r x2 hc hn0 hn hn4 hr hl e1 e2 e3
  rw[hc] at h
  unfold M.h.j2
  have hn0': ¬(n:Int)=0:=by omega
  by_cases hs:t.size < n
  ·have hs':(t.size:Int) < n:=by omega
   simp[e1,hn0,hn0',hs,hs'] at h⊢
   exact h
  ·have hs': ¬(t.size:Int) < n:=by omega
   simp only[il]
   simp[e1,hn0,hn0',hs,hs'] at h⊢
   refine ayd hn hn4 hr hl (by omega) e1 e2 e3 ?_
   by_cases hcs:te t (n - 1)=false
   ·simp[hcs] at h⊢;exact h
   ·by_cases hv:kg t r (n - 1) < least\/1114111 < kg t r (n - 1)\/(55296<=kg t r (n - 1)/\kg t r (n - 1)<=57343)
    ·simp[hcs,hv] at h⊢;exact h
    ·simp[hcs,hv] at h⊢;exact h
 generalize hb0:byt t 0=b0 at *
 have hsub: ∀(y:Int),0<=y->y < 300->(b0:Int) - y=(((b0:Int) - y)):=fun _ _ _=>rfl
 by_cases c1:194<=b0/\b0<=223
 ·have p1:(194:Int)<=b0:=by omega
  have p2:(b0:Int)<=223:=by omega
  have hw1:IntKind.i32.wrap ((b0:Int) - 192)=((b0 - 192:Nat):Int):=by rw[wo (by omega) (by omega)];omega
  simp[p1,p2,ahu,hw0,hw1]
  refine fin 2 128 (b0 - 192) _ (by simp[na,c1]) (by decide) (by decide) (by decide) (by omega) (by decide) rfl rfl rfl
 have hz: ∀x2,gv x2 1= .int .i64 0->na b0=(0,0,0)->M.h.j2 x2 (.string t) [.int .i32 0,.int .i64 0] w K:=by
  intro x2 e1 hc
  rw[hc] at h
  unfold M.h.j2
  simp only[il]
  simp[e1] at h⊢
  exact h
 by_cases d1:224<=b0
 ·have p1:(194:Int)<=b0:=by omega
  have p2: ¬(b0:Int)<=223:=by omega
  have p3:(224:Int)<=b0:=by omega
  by_cases d2:b0<=239
  ·have p4:(b0:Int)<=239:=by omega
   have hw1:IntKind.i32.wrap ((b0:Int) - 224)=((b0 - 224:Nat):Int):=by rw[wo (by omega) (by omega)];omega
   simp[p1,p2,p3,p4,ahu,hw0,hw1]
   exact fin 3 2048 (b0 - 224) _ (by simp[na,c1,d1,d2]) (by decide) (by decide) (by decide) (by omega) (by decide) rfl rfl rfl
  ·have p4: ¬(b0:Int)<=239:=by omega
   have p5:(240:Int)<=b0:=by omega
   by_cases d3:b0<=244
   ·have p6:(b0:Int)<=244:=by omega
    have hw1:IntKind.i32.wrap ((b0:Int) - 240)=((b0 - 240:Nat):Int):=by rw[wo (by omega) (by omega)];omega
    simp[p1,p2,p3,p4,p5,p6,ahu,hw0,hw1]
    exact fin 4 65536 (b0 - 240) _ (by unfold na;rw[if_neg c1,if_neg (by omega),if_pos (by omega)]) (by decide) (by decide) (by decide) (by omega) (by decide) rfl rfl rfl
   ·have p6: ¬(b0:Int)<=244:=by omega
    simp[p1,p2,p3,p4,p5,p6,ahu,hw0]
    exact hz _ rfl (by unfold na;rw[if_neg c1,if_neg (by omega),if_neg (by omega)])
 ·have p1: ¬(194:Int)<=b0:=by omega
  have p3: ¬(224:Int)<=b0:=by omega
  have p5: ¬(240:Int)<=b0:=by omega
  simp[p1,p3,p5]
  exact hz _ rfl (by unfold na;rw[if_neg c1,if_neg (by omega),if_neg (by omega)])
theorem akc{t:ByteArray}(h0:0 < t.size)(h1: ¬byt t 0 < 128){n least r:Nat}(hc:na (byt t 0)=(n,least,r)):
  rr t=if n=0\/t.size < n then (0,0) else if te t (n - 1)=false then (0,0) else if kg t r (n - 1) < least\/1114111 < kg t r (n - 1)\/(55296<=kg t r (n - 1)/\kg t r (n - 1)<=57343) then (0,0) else (kg t r (n - 1),n):=by
 unfold rr
 rw[if_neg (by omega),if_neg h1,hc]
theorem bbi(v:Nat):Utf8.valid (v:Int)=decide (¬(1114111 < v\/(55296<=v/\v<=57343))):=by
 unfold Utf8.valid
 rw[Bool.eq_iff_iff]
 simp only[Bool.or_eq_true,Bool.and_eq_true,decide_eq_true_eq]
 omega
def oa(t:ByteArray)(k:Nat):Bool:=decide (k < t.size) && tu t k
def ajk(least n v:Nat):Nat×Nat:=if least<=v/\¬(1114111 < v\/(55296<=v/\v<=57343)) then (v,n) else (65533,1)
theorem aak(t:ByteArray):Utf8.decode t 0=if byt t 0 < 128 then (byt t 0,1) else if byt t 0 / 32=6/\oa t 1=true then (if 128<=byt t 0 % 32 * 64+byt t 1 % 64 then (byt t 0 % 32 * 64+byt t 1 % 64,2) else (65533,1))
  else if byt t 0 / 16=14/\oa t 1=true/\oa t 2=true then ajk 2048 3 (byt t 0 % 16 * 4096+byt t 1 % 64 * 64+byt t 2 % 64)
  else if byt t 0 / 8=30/\oa t 1=true/\oa t 2=true/\oa t 3=true then ajk 65536 4 (byt t 0 % 8 * 262144+byt t 1 % 64 * 4096+byt t 2 % 64 * 64+byt t 3 % 64) else (65533,1):=by
 have e: ∀k,(t.get! (0+k)).toNat=byt t k:=fun k=>by rw[Nat.zero_add];rfl
 have c0: ∀k,(decide (0+k < t.size) && byt t k / 64 == 2)=oa t k:=fun k=>by
  have:=ahb t k
  have:(byt t k / 64 == 2)=tu t k:=by
   unfold tu
   by_cases h:128<=byt t k <;>by_cases h':byt t k<=191
   ·have:byt t k / 64=2:=by omega
    simp[h,h',this]
   ·have: ¬byt t k / 64=2:=by omega
    simp[h,h',this]
   ·have: ¬byt t k / 64=2:=by omega
    simp[h,h',this]
   ·omega
  rw[this,Nat.zero_add];rfl
 unfold Utf8.decode ajk
 simp only[e,c0,bbi,Bool.and_eq_true,beq_iff_eq,and_assoc,decide_eq_true_eq,ge_iff_le,Utf8.runeError]
theorem xn{t:ByteArray}{k:Nat}(h:oa t k=true):k < t.size/\tu t k=true/\128<=byt t k/\byt t k<=191:=by
 unfold oa tu at h
 simp only[Bool.and_eq_true,decide_eq_true_eq] at h
 exact⟨h.1,by unfold tu;simp[h.2],h.2.1,h.2.2⟩
def ads(c:Nat×Nat):Nat×Nat:=if c.2=0 then (65533,1) else c
theorem amc{least n v:Nat}(hn:n≠0):ajk least n v=ads (if v < least\/1114111 < v\/(55296<=v/\v<=57343) then (0,0) else (v,n)):=by
 unfold ajk ads
 by_cases g:v < least\/1114111 < v\/(55296<=v/\v<=57343)
 ·rw[if_pos g,if_neg (by omega)];rfl
 ·rw[if_neg g,if_pos (by omega)];simp[hn]
theorem agr{t:ByteArray}: ∀{n:Nat},te t n=true↔∀k,1<=k->k<=n->tu t k=true
 | 0=>⟨fun _ k h1 h2=>by omega,fun _=>rfl⟩
 | n+1=>by
  simp only[te,Bool.and_eq_true,agr (n:=n)]
  constructor
  ·rintro⟨h1,h2⟩ k hk1 hk2
   by_cases hk:k=n+1
   ·subst hk;exact h2
   ·exact h1 k hk1 (by omega)
  ·intro h
   exact⟨fun k h1 h2=>h k h1 (by omega),h (n+1) (by omega) (by omega)⟩
theorem aep{t:ByteArray}(h0:0 < t.size)(h1: ¬byt t 0 < 128){n least r:Nat}(hc:na (byt t 0)=(n,least,r))(hn:2<=n)(h: ∀k,1<=k->k<=n - 1->oa t k=true):
  rr t=if kg t r (n - 1) < least\/1114111 < kg t r (n - 1)\/(55296<=kg t r (n - 1)/\kg t r (n - 1)<=57343) then (0,0) else (kg t r (n - 1),n):=by
 rw[akc h0 h1 hc]
 have:=(xn (h (n - 1) (by omega) (by omega))).1
 rw[if_neg (by omega),if_neg]
 rw[agr.2 fun k h1 h2=>(xn (h k h1 h2)).2.1];simp
theorem aia{t:ByteArray}(h0:0 < t.size)(h1: ¬byt t 0 < 128){n least r:Nat}(hc:na (byt t 0)=(n,least,r))(hn:2<=n)(h: ¬∀k,1<=k->k<=n - 1->oa t k=true):rr t=(0,0):=by
 rw[akc h0 h1 hc]
 by_cases hs:t.size < n
 ·rw[if_pos (.inr hs)]
 ·rw[if_neg (by omega),if_pos]
  cases hcs:te t (n - 1) with
  | false=>rfl
  | true=>
   refine absurd (fun k h1 h2=>?_) h
   unfold oa
   rw[agr.1 hcs k h1 h2]
   simp;omega
theorem aur{p:Nat->Prop}:(∀k,1<=k->k<=2 - 1->p k)↔p 1:=⟨fun h=>h 1 (by omega) (by omega),fun h k h1 h2=>by
 obtain rfl:k=1:=by omega
 exact h⟩
theorem avj{p:Nat->Prop}:(∀k,1<=k->k<=3 - 1->p k)↔p 1/\p 2:=⟨fun h=>⟨h 1 (by omega) (by omega),h 2 (by omega) (by omega)⟩,fun h k h1 h2=>by
 have:k=1\/k=2:=by omega
 rcases this with rfl|rfl
 ·exact h.1
 ·exact h.2⟩
theorem aui{p:Nat->Prop}:(∀k,1<=k->k<=4 - 1->p k)↔p 1/\p 2/\p 3:=⟨fun h=>⟨h 1 (by omega) (by omega),h 2 (by omega) (by omega),h 3 (by omega) (by omega)⟩,fun h k h1 h2=>by
 have:k=1\/k=2\/k=3:=by omega
 rcases this with rfl|rfl|rfl
 ·exact h.1
 ·exact h.2.1
 ·exact h.2.2⟩
theorem ahv{x:Nat}(h1:128<=x)(h2:x<=191):x % 64=x - 128:=by omega
theorem rf1(t:ByteArray)(r:Nat):kg t r 1=r * 64+byt t 1 - 128:=rfl
theorem rf2(t:ByteArray)(r:Nat):kg t r 2=(r * 64+byt t 1 - 128) * 64+byt t 2 - 128:=rfl
theorem rf3(t:ByteArray)(r:Nat):kg t r 3=((r * 64+byt t 1 - 128) * 64+byt t 2 - 128) * 64+byt t 3 - 128:=rfl
theorem bmx{t:ByteArray}(h0:0 < t.size)(c1:194<=byt t 0/\byt t 0<=223):Utf8.decode t 0=ads (rr t):=by
 have h1: ¬byt t 0 < 128:=by omega
 have hc:na (byt t 0)=(2,128,byt t 0 - 192):=by unfold na;rw[if_pos c1]
 rw[aak,if_neg h1]
 by_cases hd:oa t 1=true
 ·rw[aep h0 h1 hc (by decide) (aur.2 hd),if_pos ⟨by omega,hd⟩,<-amc (by decide)]
  obtain⟨_,_,g1,g2⟩:=xn hd
  have hv:kg t (byt t 0 - 192) (2 - 1)=byt t 0 % 32 * 64+byt t 1 % 64:=by
   show kg t (byt t 0 - 192) 1=_
   rw[rf1,ahv g1 g2];omega
  rw[hv]
  have hle:byt t 0 % 32 * 64+byt t 1 % 64 < 55296:=by omega
  unfold ajk
  by_cases hg:128<=byt t 0 % 32 * 64+byt t 1 % 64
  ·rw[if_pos hg,if_pos ⟨hg,by omega⟩]
  ·rw[if_neg hg,if_neg fun h=>hg h.1]
 ·rw[if_neg fun h=>hd h.2,if_neg (by omega),if_neg (by omega),aia h0 h1 hc (by decide) fun h=>hd (aur.1 h)];rfl
theorem bmy{t:ByteArray}(h0:0 < t.size)(c1:224<=byt t 0/\byt t 0<=239):Utf8.decode t 0=ads (rr t):=by
 have h1: ¬byt t 0 < 128:=by omega
 have hc:na (byt t 0)=(3,2048,byt t 0 - 224):=by unfold na;rw[if_neg (by omega),if_pos c1]
 rw[aak,if_neg h1,if_neg (by omega)]
 by_cases hd:oa t 1=true/\oa t 2=true
 ·rw[aep h0 h1 hc (by decide) (avj.2 hd),if_pos ⟨by omega,hd⟩,<-amc (by decide)]
  obtain⟨_,_,g1,g2⟩:=xn hd.1
  obtain⟨_,_,g3,g4⟩:=xn hd.2
  have hv:kg t (byt t 0 - 224) (3 - 1)=byt t 0 % 16 * 4096+byt t 1 % 64 * 64+byt t 2 % 64:=by
   show kg t (byt t 0 - 224) 2=_
   rw[rf2,ahv g1 g2,ahv g3 g4];omega
  rw[hv]
 ·rw[if_neg fun h=>hd h.2,if_neg (by omega),aia h0 h1 hc (by decide) fun h=>hd (avj.1 h)];rfl
theorem bmi{t:ByteArray}(h0:0 < t.size)(c1:240<=byt t 0/\byt t 0<=244):Utf8.decode t 0=ads (rr t):=by
 have h1: ¬byt t 0 < 128:=by omega
 have hc:na (byt t 0)=(4,65536,byt t 0 - 240):=by unfold na;rw[if_neg (by omega),if_neg (by omega),if_pos c1]
 rw[aak,if_neg h1,if_neg (by omega),if_neg (by omega)]
 by_cases hd:oa t 1=true/\oa t 2=true/\oa t 3=true
 ·rw[aep h0 h1 hc (by decide) (aui.2 hd),if_pos ⟨by omega,hd⟩,<-amc (by decide)]
  obtain⟨_,_,g1,g2⟩:=xn hd.1
  obtain⟨_,_,g3,g4⟩:=xn hd.2.1
  obtain⟨_,_,g5,g6⟩:=xn hd.2.2
  have hv:kg t (byt t 0 - 240) (4 - 1)=byt t 0 % 8 * 262144+byt t 1 % 64 * 4096+byt t 2 % 64 * 64+byt t 3 % 64:=by
   show kg t (byt t 0 - 240) 3=_
   rw[rf3,ahv g1 g2,ahv g3 g4,ahv g5 g6];omega
  rw[hv]
 ·rw[if_neg fun h=>hd h.2,aia h0 h1 hc (by decide) fun h=>hd (aui.1 h)];rfl
theorem axk(t:ByteArray)(h0:0 < t.size):Utf8.decode t 0=ads (rr t):=by
 by_cases h1:byt t 0 < 128
 ·have hr:rr t=(byt t 0,1):=by unfold rr;rw[if_neg (by omega),if_pos h1]
  rw[aak,if_pos h1,hr];rfl
 by_cases c1:194<=byt t 0/\byt t 0<=223
 ·exact bmx h0 c1
 by_cases c2:224<=byt t 0/\byt t 0<=239
 ·exact bmy h0 c2
 by_cases c3:240<=byt t 0/\byt t 0<=244
 ·exact bmi h0 c3
 have hc:na (byt t 0)=(0,0,0):=by unfold na;rw[if_neg c1,if_neg c2,if_neg c3]
 have hr:rr t=(0,0):=by rw[akc h0 h1 hc];simp
 have hb:=ahb t 0
 rw[hr,aak,if_neg h1]
 show _=(65533,1)
 by_cases d1:byt t 0 / 32=6/\oa t 1=true
 ·obtain⟨_,_,g1,g2⟩:=xn d1.2
  rw[if_pos d1,if_neg (by omega)]
 ·rw[if_neg d1,if_neg (by omega)]
  by_cases d3:byt t 0 / 8=30/\oa t 1=true/\oa t 2=true/\oa t 3=true
  ·rw[if_pos d3]
   unfold ajk
   rw[if_neg (by omega)]
  ·rw[if_neg d3]
def ko(s:ByteArray)(i:Nat):ByteArray:=s.extract i s.size
theorem aho(s:ByteArray)(i:Nat):(ko s i).size=s.size - i:=by simp[ko]
theorem apq(s:ByteArray)(k:Nat):s.get! k=s.data[k]! :=by cases s;rfl
theorem bcs(s:ByteArray)(i k:Nat):byt (ko s i) k=byt s (i+k):=by
 unfold byt
 rw[apq,apq]
 have h:(ko s i).data=s.data.extract i s.size:=by simp[ko]
 rw[h,getElem!_def,getElem!_def,Array.getElem?_extract]
 have hs:s.size=s.data.size:=rfl
 by_cases hk:k < min s.size s.data.size - i
 ·rw[if_pos (by omega)]
 ·rw[if_neg (by omega),Array.getElem?_eq_none (by omega)]
theorem azf(s:ByteArray)(i n:Nat):ko (ko s i) n=ko s (i+n):=by
 unfold ko
 rw[ByteArray.extract_extract]
 congr 1
 simp;omega
theorem arz(s:ByteArray)(i:Nat):Utf8.decode s i=Utf8.decode (ko s i) 0:=by
 have e: ∀k,(s.get! (i+k)).toNat=byt (ko s i) k:=fun k=>by rw[bcs];rfl
 have e': ∀k,((ko s i).get! (0+k)).toNat=byt (ko s i) k:=fun k=>by rw[Nat.zero_add];rfl
 have c: ∀k,decide (i+k < s.size)=decide (0+k < (ko s i).size):=fun k=>by
  rw[aho,decide_eq_decide];omega
 unfold Utf8.decode
 simp only[e,e',c]
theorem bgo(t:ByteArray):vz t xa=true↔3<=t.size/\byt t 0=239/\byt t 1=191/\byt t 2=189:=by
 have hs:t.size=t.data.toList.length:=Array.length_toList.symm
 have hr:xa.toList=[239,191,189]:=by decide+kernel
 have hz:xa.size=3:=rfl
 unfold vz
 rw[hr,hz,Bool.and_eq_true,decide_eq_true_eq,beq_iff_eq]
 have he:(t.extract 0 3).toList=t.data.toList.take 3:=by
  rw[ByteArray.toList_eq]
  simp
 rw[he]
 have b: ∀k,byt t k=(t.data.toList[k]?.getD default).toNat:=fun k=>by
  unfold byt
  rw[apq,getElem!_def]
  simp only[Array.getElem?_toList]
  cases t.data[k]? <;>rfl
 rw[b,b,b,hs]
 have u: ∀(x:UInt8)(n:Nat)(h:n < 256),x.toNat=n↔x=UInt8.ofNat n:=fun x n h=>by
  constructor
  ·intro hx;rw[<-hx];simp
  ·rintro rfl;simp;omega
 match t.data.toList with
 | []=>simp
 | [x]=>simp
 | [x,y]=>simp
 | x :: y :: z :: r=>
  simp[u x 239 (by decide),u y 191 (by decide),u z 189 (by decide)]
theorem bkt(t:ByteArray)(h0:0 < t.size):((rr t).2≠0/\(rr t).1=65533)↔(3<=t.size/\byt t 0=239/\byt t 1=191/\byt t 2=189):=by
 have hb:=ahb t 0
 by_cases h1:byt t 0 < 128
 ·have hr:rr t=(byt t 0,1):=by unfold rr;rw[if_neg (by omega),if_pos h1]
  rw[hr];simp;omega
 by_cases c1:194<=byt t 0/\byt t 0<=223
 ·have hc:na (byt t 0)=(2,128,byt t 0 - 192):=by unfold na;rw[if_pos c1]
  by_cases hd:oa t 1=true
  ·rw[aep h0 h1 hc (by decide) (aur.2 hd)]
   obtain⟨_,_,g1,g2⟩:=xn hd
   have hv:kg t (byt t 0 - 192) (2 - 1)=(byt t 0 - 192) * 64+byt t 1 - 128:=rfl
   rw[hv]
   split <;>simp <;>omega
  ·rw[aia h0 h1 hc (by decide) fun h=>hd (aur.1 h)];simp;omega
 by_cases c2:224<=byt t 0/\byt t 0<=239
 ·have hc:na (byt t 0)=(3,2048,byt t 0 - 224):=by unfold na;rw[if_neg (by omega),if_pos c2]
  by_cases hd:oa t 1=true/\oa t 2=true
  ·rw[aep h0 h1 hc (by decide) (avj.2 hd)]
   obtain⟨_,_,g1,g2⟩:=xn hd.1
   obtain⟨g5,_,g3,g4⟩:=xn hd.2
   have hv:kg t (byt t 0 - 224) (3 - 1)=((byt t 0 - 224) * 64+byt t 1 - 128) * 64+byt t 2 - 128:=rfl
   rw[hv]
   split <;>simp <;>omega
  ·rw[aia h0 h1 hc (by decide) fun h=>hd (avj.1 h)]
   simp only[ne_eq,not_true_eq_false,false_and,false_iff]
   rintro⟨k0,k1,k2,k3⟩
   apply hd
   unfold oa tu
   simp[k2,k3];omega
 by_cases c3:240<=byt t 0/\byt t 0<=244
 ·have hc:na (byt t 0)=(4,65536,byt t 0 - 240):=by unfold na;rw[if_neg (by omega),if_neg (by omega),if_pos c3]
  by_cases hd:oa t 1=true/\oa t 2=true/\oa t 3=true
  ·rw[aep h0 h1 hc (by decide) (aui.2 hd)]
   generalize kg t (byt t 0 - 240) (4 - 1)=v
   split <;>simp <;>omega
  ·rw[aia h0 h1 hc (by decide) fun h=>hd (aui.1 h)];simp;omega
 have hc:na (byt t 0)=(0,0,0):=by unfold na;rw[if_neg c1,if_neg c2,if_neg c3]
 have hr:rr t=(0,0):=by rw[akc h0 h1 hc];simp
 rw[hr];simp;omega
theorem bdb(t:ByteArray):(rr t).2<=t.size:=by
 unfold rr
 by_cases h0:t.size=0
 ·rw[if_pos h0];omega
 rw[if_neg h0]
 split
 ·simp;omega
 split
 ·simp
 split
 ·simp
 split
 ·simp
 ·simp;omega
def rrs(s:ByteArray)(i:Nat):Option (List Nat):=
 if h:i < s.size then (if h2:(rr (ko s i)).2=0 then none else (rrs s (i+(rr (ko s i)).2)).map ((rr (ko s i)).1 :: ·)) else some []
termination_by s.size - i
decreasing_by omega
def ctl(c:Nat):Bool:=decide (c < 32) || (decide (127<=c) && decide (c<=159))
theorem bee(s:ByteArray): ∀(m i:Nat),s.size - i<=m->tp s i=match rrs s i with
  | none=>false
  | some l=>l.all fun c=>!ctl c:=by
 intro m
 induction m with
 | zero=>
  intro i hm
  unfold tp rrs
  rw[dif_neg (by omega),dif_neg (by omega)];rfl
 | succ m ih=>
  intro i hm
  unfold tp rrs
  by_cases hi:i < s.size
  ·rw[dif_pos hi,dif_pos hi]
   have ht:0 < (ko s i).size:=by rw[aho];omega
   have hd:Utf8.decode s i=ads (rr (ko s i)):=by rw[arz,axk _ ht]
   have he:=bkt (ko s i) ht
   rw[<-bgo] at he
   unfold abt
   have hrest:s.extract i s.size=ko s i:=rfl
   rw[hrest,hd]
   by_cases h2:(rr (ko s i)).2=0
   ·rw[dif_pos h2]
    have hp:vz (ko s i) xa=false:=by
     cases hq:vz (ko s i) xa with
     | false=>rfl
     | true=>exact absurd h2 (he.2 hq).1
    simp[ads,h2,hp]
   ·rw[dif_neg h2]
    have hf:ads (rr (ko s i))=rr (ko s i):=by simp[ads,h2]
    rw[hf,ih (i+(rr (ko s i)).2) (by omega)]
    have hb:(decide ((rr (ko s i)).1 < 32) || (decide (127<=(rr (ko s i)).1) && decide ((rr (ko s i)).1<=159) || decide ((rr (ko s i)).1=65533) && !vz (ko s i) xa))=ctl (rr (ko s i)).1:=by
     unfold ctl
     by_cases hc:(rr (ko s i)).1=65533
     ·rw[he.1 ⟨h2,hc⟩,hc];decide
     ·simp[hc]
    rw[hb]
    cases rrs s (i+(rr (ko s i)).2) with
    | none=>simp
    | some l=>simp
  ·rw[dif_neg hi,dif_neg hi];rfl
def bdi(c:Nat):List Value:=[.int .i32 (c:Nat)]
abbrev OwR(w:World)(base:Nat)(v:Value)(l:List Nat):Prop:=Ow w base T.bi 1 bdi v l
def aks(v:Value):Nat:=match v with
 | .string s=>s.size
 | _=>0
def bmo(w:World)(s:ByteArray):KL:=fun x w1=> ∃(i:Nat)(l:List Nat),x.length=6/\gv x 5= .string (ko s i)/\OwR w1 w.heap.size (gv x 4) l/\Fz w w1/\i<=s.size/\l.length<=i/\rrs s 0=(rrs s i).map (l ++ ·)
theorem bdy{w:World}{s:ByteArray}(hs:s.size < 100000){K:KV}(h0:rrs s 0=none->∀w',Fz w w'->K (.tuple #[.slice none 0 0,.bool false]) w')
  (h1: ∀l,rrs s 0=some l->l.length<=s.size->∀w' v,OwR w' w.heap.size v l->Fz w w'->K (.tuple #[v,.bool true]) w'):jo P F.ec [.string s] w K:=by
 apply M.ar.calls
 unfold M.ar
 rw[il]
 refine⟨bmo w s,fun x _=>aks (gv x 5),⟨0,[],rfl,?_,Ow.none,Fr.refl _ _,Nat.zero_le _,Nat.le_refl _,by simp⟩,?_⟩
 ·show Value.string s=_
  unfold ko;simp
 rintro x w1 ⟨i,l,hx,e5,o1,f1,hi,hl,hR⟩
 unfold M.ar.j1
 simp only[il,e5,bjc]
 have hsz:=aho s i
 by_cases hlt:i < s.size
 ·have hlt':(0:Int) < ((ko s i).size:Int):=by omega
  simp only[vj,hlt',decide_true,Eng.cond_true]
  unfold M.ar.j2
  rw[e5,M.h.fcall]
  refine bhc _ ?_
  simp only[aap,aau,il,zq]
  rw[show rrs s i=_ from rrs.eq_1 s i,dif_pos hlt] at hR
  by_cases h2:(rr (ko s i)).2=0
  ·have h2':(((rr (ko s i)).2:Nat):Int)=0:=by omega
   simp only[h2',decide_true,Eng.cond_true]
   rw[dif_pos h2] at hR
   exact h0 hR w1 f1
  ·have h2': ¬(((rr (ko s i)).2:Nat):Int)=0:=by omega
   simp only[h2',decide_false,Eng.cond_false]
   rw[dif_neg h2] at hR
   have hwd:=bdb (ko s i)
   unfold M.ar.j3
   simp[e5]
   have fa:Fz w1 (w1.alloc (.cells #[.int .i32 ((rr (ko s i)).1:Nat)] T.bi)):=(Fr.refl _ w1).alloc _
   have hge:=f1.size
   refine zc et.bq (fun _=>rfl) (fun x u hu=>by simp[bdi] at hu;subst hu;rfl) (o1.fr fa fun _ _ h=>h) (Sl.one (x:=(rr (ko s i)).1) rfl rfl) (by simp;omega) (by decide) (by simp;omega) _ fun v' w2 o2 f2 g2=>?_
   rw[ahh (i:=(rr (ko s i)).2) alt (.inr ⟨_,rfl⟩) (.inl ⟨rfl,rfl⟩) hwd (Nat.le_refl _)]
   refine⟨⟨i+(rr (ko s i)).2,l ++ [(rr (ko s i)).1],rfl,?_,o2,?_,by omega,by simp;omega,?_⟩,?_⟩
   ·show Value.string _=_
    rw[<-azf];rfl
   ·refine f1.jt ((fa.mono fun _ _ h=>h.elim).trans f2) fun b hb he=>?_
    have:=(o1.lt he).1;omega
   ·rw[hR]
    cases rrs s (i+(rr (ko s i)).2) <;>simp
   ·show aks (.string ((ko s i).extract (rr (ko s i)).2 (ko s i).size)) < aks (.string (ko s i))
    simp only[aks,ByteArray.size_extract]
    omega
 ·have hlt': ¬(0:Int) < ((ko s i).size:Int):=by omega
  simp only[vj,hlt',decide_false,Eng.cond_false]
  rw[show rrs s i=_ from rrs.eq_1 s i,dif_neg hlt] at hR
  exact h1 l (by simpa using hR) (by omega) w1 _ o1 f1
def NmI(w:World)(l:List Nat):KL:=fun x w1=> ∃(u:Value)(i:Nat),x=[u,.int .i64 (i:Nat)]/\w1=w/\i<=l.length/\∀j c,l[j]? =some c->j < i->ctl c=false
theorem aky{w:World}(s:ByteArray){K:KV}(h: ∀w',Fz w w'->K (.int .i64 (pw s)) w'):jo P F.de [.string s] w K:=by
 apply M.bn.calls
 unfold M.bn
 unfold pw at h
 simp only[il,bjc,mw]
 by_cases h0:s.size=0
 ·have:(s.size:Int) < 1:=by omega
  simp[h0] at h⊢
  exact h w (Fr.refl _ _)
 have h0': ¬(s.size:Int) < 1:=by omega
 by_cases h1:32 < s.size
 ·have h1':(32:Int) < s.size:=by omega
  simp[h0,h0',h1,h1'] at h⊢
  exact h w (Fr.refl _ _)
 have h1': ¬(32:Int) < s.size:=by omega
 simp[h0,h0',h1,h1'] at h⊢
 unfold M.bn.j0
 rw[M.ar.fcall]
 rw[bee s _ 0 (Nat.le_refl _)] at h
 refine bdy (by omega) (fun hr w1 f1=>?_) fun l hr hll w1 v o1 f1=>?_
 ·rw[hr] at h
  simp only[aap,aau,il]
  refine⟨fun x w2=>gv x 1= .int .i64 0/\w2=w1,fun _ _=>0,⟨rfl,rfl⟩,?_⟩
  rintro x w2 ⟨e1,rfl⟩
  simp[e1]
  have:=h w2 f1
  simpa using this
 ·rw[hr] at h
  simp only[aap,aau,il]
  have hsl:Sl w1 1 bdi v l:=o1.sl fun _=>rfl
  refine⟨NmI w1 l,fun x _=>l.length - ms x 1,⟨_,0,rfl,rfl,Nat.zero_le _,fun j c _ h=>by omega⟩,?_⟩
  rintro x w2 ⟨u,i,rfl,rfl,hi,hall⟩
  have q0: ∀a b:Value,gv [a,b] 0=a:=fun _ _=>rfl
  have q1: ∀a b:Value,gv [a,b] 1=b:=fun _ _=>rfl
  simp only[q0,q1]
  rw[hsl.jq (by simp)]
  by_cases hil:i < l.length
  ·have hil':(i:Int) < l.length:=by omega
   simp only[mw,hil',decide_true,Eng.cond_true]
   unfold M.bn.j3
   obtain⟨b,o,cap,rfl,hb,_,hc⟩:=hsl.at hil
   have c0:=hc 0 _ rfl
   simp only[Nat.mul_one,Nat.add_zero] at c0
   generalize hli:l[i]=c at *
   have hgi:l[i]? =some c:=by rw[List.getElem?_eq_getElem hil,hli]
   have hw:IntKind.i64.wrap ((i:Int)+1)=((i+1:Nat):Int):=by rw[iy];rfl
   have bad:ctl c=true->K (.int .i64 5) w2:=fun hct=>by
    have:(l.all fun c=>!ctl c)=false:=by
     rw[List.all_eq_false]
     exact⟨c,List.mem_of_getElem? hgi,by simp[hct]⟩
    have hh:=h w2 f1
    simpa [this] using hh
   have zm:ctl c=false->∀u,NmI w2 l [u,.int .i64 ((i:Int)+1)] w2/\l.length - ms [u,.int .i64 ((i:Int)+1)] 1 < l.length - ms [u,.int .i64 (i:Int)] 1:=fun hct u=>by
    refine⟨⟨u,i+1,rfl,rfl,by omega,fun j c' hj hlt=>?_⟩,by simp[ms,gv];omega⟩
    by_cases hji:j=i
    ·subst hji;rw[hgi] at hj;cases hj;exact hct
    ·exact hall j c' hj (by omega)
   by_cases d1:c < 32
   ·have d1':(c:Int) < 32:=by omega
    simp[q0,q1,hil,c0,d1']
    exact bad (by simp[ctl,d1])
   have d1': ¬(c:Int) < 32:=by omega
   by_cases d2:127<=c
   ·have d2':(127:Int)<=c:=by omega
    by_cases d3:c<=159
    ·have d3':(c:Int)<=159:=by omega
     simp[q0,q1,hil,c0,d1',d2',d3']
     exact bad (by simp[ctl,d2,d3])
    ·have d3': ¬(c:Int)<=159:=by omega
     simp[q0,q1,hil,c0,d1',d2',d3',hw]
     exact zm (by simp[ctl,d1,d3]) _
   ·have d2': ¬(127:Int)<=c:=by omega
    simp[q0,q1,hil,c0,d1',d2',hw]
    exact zm (by simp[ctl,d1,d2]) _
  ·have hil': ¬(i:Int) < l.length:=by omega
   simp only[mw,hil',decide_false,Eng.cond_false]
   have:(l.all fun c=>!ctl c)=true:=by
    rw[List.all_eq_true]
    intro c hc
    obtain⟨j,hj,rfl⟩:=List.mem_iff_getElem.1 hc
    rw[hall j _ (List.getElem?_eq_getElem hj) (by omega)];rfl
   simp
   have hh:=h w2 f1
   simpa [this] using hh
theorem bnc(a b:Int):orK [a,b]=if a=0 then b else a:=by
 unfold orK
 by_cases ha:a=0 <;>by_cases hb:b=0 <;>simp[List.find?,ha,hb]
theorem aqm(s:ByteArray):pw s=0\/pw s=5:=by
 unfold pw
 split
 ·exact .inr rfl
 split
 ·exact .inl rfl
 ·exact .inr rfl
theorem art{w:World}(s:Spn){K:KV}(h: ∀w',Fz w w'->K (.int .i64 (kv s)) w'):jo P F.dy [li s] w K:=by
 apply M.cl.calls
 unfold M.cl
 rw[ald]
 have hb:=ajq w s
 have hf:Fz w (w.alloc (.cells #[.int .u64 s.je,.int .u64 s.id,.int .u64 s.mr,.int .u64 s.kl,.int .u64 s.len,.string s.kq,.string s.name,.bool s.ol] T.i)):=(Fr.refl _ w).alloc _
 generalize w.alloc (.cells #[.int .u64 s.je,.int .u64 s.id,.int .u64 s.mr,.int .u64 s.kl,.int .u64 s.len,.string s.kq,.string s.name,.bool s.ol] T.i)=wa at *
 have c0:=ql hb 0 _ rfl
 have c1:=ql hb 1 _ rfl
 have c3:=ql hb 3 _ rfl
 have c4:=ql hb 4 _ rfl
 have c5:=ql hb 5 _ rfl
 unfold kv at h
 simp only[il]
 by_cases h0:s.je=0
 ·simp[c0,h0] at h⊢
  exact h wa hf
 by_cases h1:s.id=0
 ·simp[c0,c1,h0,h1] at h⊢
  exact h wa hf
 by_cases h2:1099511627776 < s.kl
 ·have h3:1099511627776 < max s.kl s.len:=by omega
  simp[c0,c1,c3,h0,h1,h2,h3] at h⊢
  exact h wa hf
 by_cases h2':1099511627776 < s.len
 ·have h3:1099511627776 < max s.kl s.len:=by omega
  simp[c0,c1,c3,c4,h0,h1,h2,h2',h3] at h⊢
  exact h wa hf
 have h3: ¬1099511627776 < max s.kl s.len:=by omega
 rw[if_neg (by simp[h0,h1,h3]),bnc] at h
 simp[c0,c1,c3,c4,h0,h1,h2,h2']
 unfold M.cl.j0
 simp[c5]
 rw[M.bn.fcall]
 refine aky _ fun w2 f2=>?_
 have hb2:aaa w2 w.heap.size s:=f2.heap hb fun h=>h
 have d6:=ql hb2 6 _ rfl
 by_cases n1:pw s.kq=0
 ·simp[n1,d6] at h⊢
  rw[M.bn.fcall]
  refine aky _ fun w3 f3=>?_
  have hh:=h w3 ((hf.trans f2).trans f3)
  rcases aqm s.name with n2|n2
  ·simp[n2] at hh⊢;exact hh
  ·simp[n2] at hh⊢;exact hh
 ·have n5:pw s.kq=5:=(aqm _).resolve_left n1
  have hh:=h w2 (hf.trans f2)
  simp[n5] at hh⊢
  exact hh
def apb(ok:Bool)(jp:Bal)(v:Int):Bool:=(decide (v=0) || (wz v && !(decide (jp=ja)))) && (if ok=true then !(decide (v=0)) || decide (jp=ja) else decide (v=0) && !(decide (jp=ja)))
def vp(p:Pk)(ls:List Spn)(lm:List Mem)(lu:List Int):Bool:=
 if p.jg=1\/p.jg=2 then xm p.tr ls else if p.jg=3 then vw lm else if p.jg=4 then decide (0 < p.b.n) else if p.jg=5 then decide (0 < p.b.n) && apb p.ok p.jp p.v else if p.jg=6 then decide (0 < p.b.n) && wz p.v else if p.jg=7 then decide (0 < p.b.n) && (p.ok == decide (p.jp=ja)) else if p.jg=8 then wz p.v else if p.jg=9 then decide (0 < p.b.n) && xm p.tr ls else if p.jg=10 then yu 0 lu && (decide (0 < lu.length) && decide (lu.length<=16)) else false
def auo(p:Pk)(ls:List Spn)(lm:List Mem)(lu:List Int):Bool:=yv p (ri p) ls (qe p ls) lm (qc p lm) lu (px p lu)
def xj(p:Pk)(ls:List Spn)(lm:List Mem)(lu:List Int):Bool:=(auo p ls lm lu && (decide (p.jg=3) || decide (0 < p.tr))) && vp p ls lm lu
def aqr(p:Pk)(ls:List Spn)(lm:List Mem)(lu:List Int):Int:=if xj p ls lm lu=true then 0 else 6
def qp(p:Pk):Pk:=if p.jg=4\/p.jg=6 then ⟨if p.v=0 then 4 else 6,p.tr,p.b,ja,p.v,false,kc,kc,kc⟩ else if p.jg=5\/p.jg=7 then ⟨p.jg,p.tr,p.b,p.jp,p.v,p.ok,kc,kc,kc⟩ else ri p
theorem bdh{p:Pk}{ls:List Spn}{lm:List Mem}{lu:List Int}(hr:alb p)(hk:1<=p.jg/\p.jg<=10):(ss p ls lm lu && yv p (qp p) ls (qe p ls) lm (qc p lm) lu (px p lu))=xj p ls lm lu:=by
 have h1:=hr.tr.1
 have h2:=hr.b.1.1
 have core:(ss p ls lm lu && lq p (qp p))=((lq p (ri p) && (decide (p.jg=3) || decide (0 < p.tr))) && vp p ls lm lu):=by
  obtain⟨k,tr,b,jp,v,ok,sv,mv,iv⟩:=p
  simp only at hk h1 h2
  have hcase:k=1\/k=2\/k=3\/k=4\/k=5\/k=6\/k=7\/k=8\/k=9\/k=10:=by omega
  rcases hcase with rfl|rfl|rfl|rfl|rfl|rfl|rfl|rfl|rfl|rfl
  ·simp[ss,vp,qp,ri,lq,agz]
   cases xm tr ls <;>by_cases ht:0 < tr <;>by_cases hb:b=ja <;>by_cases hs:jp=ja <;>by_cases hv:v=0 <;>cases ok <;>simp[ht,hb,hs,hv]
  ·simp[ss,vp,qp,ri,lq,agz]
   cases xm tr ls <;>by_cases ht:0 < tr <;>by_cases hb:b=ja <;>by_cases hs:jp=ja <;>by_cases hv:v=0 <;>cases ok <;>simp[ht,hb,hs,hv]
  ·simp[ss,vp,qp,ri,lq]
   cases vw lm <;>by_cases ht:tr=0 <;>by_cases hb:b=ja <;>by_cases hs:jp=ja <;>by_cases hv:v=0 <;>cases ok <;>simp[ht,hb,hs,hv]
  ·simp[ss,vp,qp,ri,lq,apw]
   by_cases ht:0 < tr <;>by_cases hb:0 < b.n <;>by_cases hs:jp=ja <;>by_cases hv:v=0 <;>cases ok <;>simp[ht,hb,hs,hv]
  ·simp[ss,vp,qp,ri,lq,ahm,apb]
   by_cases ht:tr=0 <;>by_cases hb:b.n=0 <;>by_cases hs:jp=ja <;>by_cases hv:v=0 <;>cases ok <;>cases htl:wz v <;>simp[ht,hb,hs,hv,htl] <;>first|omega| (subst hv;simp[wz] at htl)|skip
  ·simp[ss,vp,qp,ri,lq,apw]
   by_cases ht:0 < tr <;>by_cases hb:0 < b.n <;>by_cases hs:jp=ja <;>by_cases hv:v=0 <;>cases ok <;>simp[ht,hb,hs,hv] <;>first|rfl| (simp[wz];done)|skip
  ·simp[ss,vp,qp,ri,lq,ahm]
   by_cases ht:tr=0 <;>by_cases hb:b.n=0 <;>by_cases hs:jp=ja <;>by_cases hv:v=0 <;>cases ok <;>simp[ht,hb,hs,hv] <;>first|omega|skip
  ·simp[ss,vp,qp,ri,lq,aop]
   by_cases ht:0 < tr <;>by_cases hb:b=ja <;>by_cases hs:jp=ja <;>cases ok <;>simp[ht,hb,hs]
  ·simp[ss,vp,qp,ri,lq,aif]
   cases xm tr ls <;>by_cases ht:0 < tr <;>by_cases hb:0 < b.n <;>by_cases hs:jp=ja <;>by_cases hv:v=0 <;>cases ok <;>simp[ht,hb,hs,hv]
  ·simp[ss,vp,qp,ri,lq,ajy]
   cases yu 0 lu <;>by_cases ht:0 < tr <;>by_cases hb:b=ja <;>by_cases hs:jp=ja <;>by_cases hv:v=0 <;>cases ok <;>simp[ht,hb,hs,hv]
 unfold xj auo yv
 generalize decide (lm=qc p lm)=A
 generalize decide (lu=px p lu)=B
 generalize vx ls (qe p ls)=C
 cases A <;>cases B <;>cases C <;>simp <;>simpa using core
theorem we{p q q':Pk}(h1:q.jg=q'.jg)(h2:q.tr=q'.tr)(h3:q.b=q'.b)(h4:q.jp=q'.jp)(h5:q.v=q'.v)(h6:q.ok=q'.ok):lq p q=lq p q':=by
 unfold lq;rw[h1,h2,h3,h4,h5,h6]
theorem azx{w:World}{p:Pk}{ls:List Spn}{lm:List Mem}{lu:List Int}{t:Value}(ht:ThR w p ls lm lu t)(hk:1<=p.jg/\p.jg<=10)(l1:ls.length<=1000000)(l2:lm.length<=1000000)(l3:lu.length<=1000000){K:KV}
  (h: ∀w' q,aab w' q (qe p ls) (qc p lm) (px p lu)->(∀x,lq x q=lq x (qp p))->Fz w w'->K (pkA q) w'):ie P F.bb [t] w K:=by
 have e0:([]:List Spn).length<=1000000:=by simp
 have e1:([]:List Mem).length<=1000000:=by simp
 have e2:([]:List Int).length<=1000000:=by simp
 cases ht with
 | kh v q hs=>
  have hS:qe p ls=ls:=by unfold qe;rw[if_pos (by omega)]
  have hM:qc p lm=[]:=by unfold qc;rw[if_neg (by omega)]
  have hU:px p lu=[]:=by unfold px;rw[if_neg (by omega)]
  rw[hS,hM,hU] at h
  refine amn hs l1 fun w' v' s f=>h w' _ ⟨s,Sl.nil,Sl.nil,l1,e1,e2⟩ (fun x=>we ?_ ?_ ?_ ?_ ?_ ?_) f
  all_goals rcases q with q|q <;>simp[qp,ri,q]
 | ajs v q hs=>
  have hS:qe p ls=[]:=by unfold qe;rw[if_neg (by omega)]
  have hM:qc p lm=lm:=by unfold qc;rw[if_pos (by omega)]
  have hU:px p lu=[]:=by unfold px;rw[if_neg (by omega)]
  rw[hS,hM,hU] at h
  refine akj hs l2 fun w' v' s f=>h w' ⟨3,0,ja,ja,0,false,kc,v',kc⟩ ⟨Sl.nil,s,Sl.nil,e0,l2,e2⟩ (fun x=>we ?_ ?_ ?_ ?_ ?_ ?_) f
  all_goals simp[qp,ri,q]
 | ask q=>
  have hS:qe p ls=[]:=by unfold qe;rw[if_neg (by omega)]
  have hM:qc p lm=[]:=by unfold qc;rw[if_neg (by omega)]
  have hU:px p lu=[]:=by unfold px;rw[if_neg (by omega)]
  rw[hS,hM,hU] at h
  refine aqx fun w' f=>h w' _ ⟨Sl.nil,Sl.nil,Sl.nil,e0,e1,e2⟩ (fun x=>we ?_ ?_ ?_ ?_ ?_ ?_) f
  all_goals rcases q with q|q <;>simp[qp,bep,q]
 | aaf q=>
  have hS:qe p ls=[]:=by unfold qe;rw[if_neg (by omega)]
  have hM:qc p lm=[]:=by unfold qc;rw[if_neg (by omega)]
  have hU:px p lu=[]:=by unfold px;rw[if_neg (by omega)]
  rw[hS,hM,hU] at h
  refine ale fun w' f=>h w' _ ⟨Sl.nil,Sl.nil,Sl.nil,e0,e1,e2⟩ (fun x=>we ?_ ?_ ?_ ?_ ?_ ?_) f
  all_goals rcases q with q|q <;>simp[qp,q]
 | si q=>
  have hS:qe p ls=[]:=by unfold qe;rw[if_neg (by omega)]
  have hM:qc p lm=[]:=by unfold qc;rw[if_neg (by omega)]
  have hU:px p lu=[]:=by unfold px;rw[if_neg (by omega)]
  rw[hS,hM,hU] at h
  refine aok fun w' f=>h w' _ ⟨Sl.nil,Sl.nil,Sl.nil,e0,e1,e2⟩ (fun x=>we ?_ ?_ ?_ ?_ ?_ ?_) f
  all_goals simp[qp,ri,q]
 | xg v q hs=>
  have hS:qe p ls=ls:=by unfold qe;rw[if_pos (by omega)]
  have hM:qc p lm=[]:=by unfold qc;rw[if_neg (by omega)]
  have hU:px p lu=[]:=by unfold px;rw[if_neg (by omega)]
  rw[hS,hM,hU] at h
  refine akl hs l1 fun w' v' s f=>h w' _ ⟨s,Sl.nil,Sl.nil,l1,e1,e2⟩ (fun x=>we ?_ ?_ ?_ ?_ ?_ ?_) f
  all_goals simp[qp,ri,q]
 | aac v q hs=>
  have hS:qe p ls=[]:=by unfold qe;rw[if_neg (by omega)]
  have hM:qc p lm=[]:=by unfold qc;rw[if_neg (by omega)]
  have hU:px p lu=lu:=by unfold px;rw[if_pos (by omega)]
  rw[hS,hM,hU] at h
  refine alk hs l3 fun w' v' s f=>h w' _ ⟨Sl.nil,Sl.nil,s,e0,e1,l3⟩ (fun x=>we ?_ ?_ ?_ ?_ ?_ ?_) f
  all_goals simp[qp,ri,q]
 | none q=>exact absurd hk q
theorem bab{p:Pk}{ls:List Spn}{lm:List Mem}{lu:List Int}(h: ¬(1<=p.jg/\p.jg<=10)):xj p ls lm lu=false:=by
 unfold xj vp
 rw[if_neg (by omega),if_neg (by omega),if_neg (by omega),if_neg (by omega),if_neg (by omega),if_neg (by omega),if_neg (by omega),if_neg (by omega),if_neg (by omega),Bool.and_false]
theorem aph{w:World}{p:Pk}{ls:List Spn}{lm:List Mem}{lu:List Int}(hp:aab w p ls lm lu)(hr:alb p){K:KV}(h: ∀w',Fz w w'->K (.int .i64 (aqr p ls lm lu)) w'):ie P F.dk [pkA p] w K:=by
 rw[M.dp.fcall]
 apply M.dp.calls
 unfold M.dp
 refine St.sm (St.kl w) fun pb w1 S1=>?_
 have S1':St w w1 (iz pb (pkC p).toArray T.c :: []):=S1
 have pl:=fun K=>vq S1' K
 simp[pl]
 refine ann (hp.fr S1.fr) fun w2 t ht _ f2=>?_
 have S2:=S1'.ju f2
 have S3:=S2.ju ((Fr.refl _ w2).dr 1)
 unfold aqr at h
 by_cases hk:1<=p.jg/\p.jg<=10
 case neg=>
  rw[ht.blj hk]
  rw[bab hk] at h
  simp[bhu]
  exact h _ S3.fr
 rw[<-bdh hr hk] at h
 simp[ht.eqn hk]
 have ht3:=ht.fr ((Fr.refl _ w2).dr 1)
 refine bhk ht3 hk hp.ls hp.lm hp.lu fun w4 f4=>?_
 have S4:=S3.ju f4
 have pl4:=fun K=>vq S4 K
 cases hb:ss p ls lm lu with
 | false=>
  rw[hb] at h
  simp
  exact h _ S4.fr
 | true=>
 rw[hb,Bool.true_and] at h
 simp[pl4]
 refine azx (ht3.fr f4) hk hp.ls hp.lm hp.lu fun w5 q hq hf f5=>?_
 have S5:=S4.ju f5
 have pl5:=fun K=>vq S5 K
 simp[pl5]
 refine ber (hp.fr S5.fr) hq fun w6 f6=>?_
 have S6:=S5.ju f6
 have fin:=h w6 S6.fr
 have e:yv p q ls (qe p ls) lm (qc p lm) lu (px p lu)=yv p (qp p) ls (qe p ls) lm (qc p lm) lu (px p lu):=by unfold yv;rw[hf p]
 rw[e]
 generalize yv p (qp p) ls (qe p ls) lm (qc p lm) lu (px p lu)=bb at *
 cases bb with
 | true=>simp at fin⊢;exact fin
 | false=>simp at fin⊢;exact fin
theorem arc{w:World}{p:Pk}{ls:List Spn}{lm:List Mem}{lu:List Int}(hp:aab w p ls lm lu)(hr:alb p){K:KV}(h1:xj p ls lm lu=true->∀w' t,ThR w' p ls lm lu t->aje w t->Fz w w'->K (.tuple #[t,.int .i64 0]) w')(h0:xj p ls lm lu=false->∀w',Fz w w'->K (.tuple #[.nilIface,.int .i64 6]) w'):ie P F.fv [pkA p] w K:=by
 rw[M.fj.fcall]
 apply M.fj.calls
 unfold M.fj
 refine St.sm (St.kl w) fun pb w1 S1=>?_
 have S1':St w w1 (iz pb (pkC p).toArray T.c :: []):=S1
 have pl:=fun K=>vq S1' K
 simp[pl]
 refine aph (hp.fr S1.fr) hr fun w2 f2=>?_
 have S2:=S1'.ju f2
 unfold aqr
 cases he:xj p ls lm lu with
 | false=>
  simp
  exact h0 he w2 S2.fr
 | true=>
  simp
  have pl2:=fun K=>vq S2 K
  simp[pl2]
  refine ann (hp.fr S2.fr) fun w3 t ht ho f3=>?_
  exact h1 he w3 t ht (ho.mono S2.fr.size) (S2.ju f3).fr
structure Evn where
 jg:Int
 at':Int
 ji:Int
 tr:Int
 b:Bal
 v:Int
 s:Spn
 k:Int
def evC(e:Evn):List Value:=[.int .i64 e.jg,.int .u64 e.at',.int .u64 e.ji,.int .u64 e.tr,.int .u64 e.b.n,.int .u64 e.b.ji,.int .i64 e.v,.int .u64 e.s.je,.int .u64 e.s.id,.int .u64 e.s.mr,.int .u64 e.s.kl,.int .u64 e.s.len,.string e.s.kq,.string e.s.name,.bool e.s.ol,.int .i64 e.k]
theorem aid(e:Evn):(evC e).length=16:=rfl
theorem amj(e:Evn): ∀u∈evC e,kt u=true:=fun u hu=>by
 simp only[evC,List.mem_cons,List.not_mem_nil,or_false] at hu
 rcases hu with rfl|rfl|rfl|rfl|rfl|rfl|rfl|rfl|rfl|rfl|rfl|rfl|rfl|rfl|rfl|rfl <;>rfl
abbrev nh(v:Value)(l:List Evn):Asn:=pc T.av 16 evC v l
structure Ltr where
 frm:Int
 to:Int
 p:Pk
 ok: ∀u∈pkC p,kt u=true
def ltC(l:Ltr):List Value:=[.int .u64 l.frm,.int .u64 l.to] ++ pkC l.p
theorem abv(l:Ltr):(ltC l).length=13:=rfl
theorem bhr(l:Ltr): ∀u∈ltC l,kt u=true:=fun u hu=>by
 unfold ltC at hu
 rcases List.mem_append.1 hu with hu|hu
 ·simp only[List.mem_cons,List.not_mem_nil,or_false] at hu
  rcases hu with rfl|rfl <;>rfl
 ·exact l.ok u hu
abbrev mo(v:Value)(l:List Ltr):Asn:=pc T.bm 13 ltC v l
structure Cl where
 inc:Int
 tr:Int
 sp:Int
 pol:ByteArray
 rep:Value
 rul:Value
 tb:Nat
 hb:Nat
 kb:Nat
 ru:Nat
 se:Nat
 un:Nat
 ke:Bal
 qd:Int
 now:Int
 out:Value
 ev:Value
 bad:Int
 bkh:Int
def clC(q:Cl):Array Value:= #[.int .u64 1,.int .u64 q.inc,q.rep,.int .u64 200,.int .i64 3,.int .u64 5,.int .u64 20,.int .u64 10,.int .u64 4,.int .i64 q.tr,.int .i64 q.sp,.int .i64 4,.string q.pol,q.rul,.pointer (some ⟨q.tb,0,none⟩),.pointer (some ⟨q.hb,0,none⟩),.pointer (some ⟨q.kb,0,none⟩),.map (some q.ru),.map (some q.se),.map (some q.un),.int .u64 q.ke.n,.int .u64 q.ke.ji,.int .u64 q.qd,.int .u64 q.now,q.out,q.ev,.int .u64 q.bad,.int .u64 q.bkh]
abbrev clA(p:Nat)(q:Cl):Asn:=iz p (clC q) T.b
abbrev km(p:Nat):Value:= .pointer (some ⟨p,0,none⟩)
def agw(a0:Int)(r:Nat):Array Value:= #[.int .u64 a0,.int .u64 0,.int .u64 0,.int .u64 0,.int .u64 0,.int .u64 0,.int .u64 0,.int .u64 0,.int .u64 0,.int .u64 0,.int .u64 0,.int .u64 0,.int .u64 0,.int .u64 0,.int .u64 0,.int .u64 0,.int .u64 0,.int .u64 0,.int .u64 0,.int .u64 0,.int .u64 0,.int .u64 0,.int .u64 0,.int .u64 0,.int .u64 0,.int .u64 0,.int .u64 0,.int .u64 0,.int .u64 0,.int .u64 0,.int .u64 0,.int .u64 0,.int .u64 0,.int .u64 0,.int .u64 0,.int .u64 0,.int .u64 0,.int .u64 0,.int .u64 0,.int .u64 0,.int .u64 0,.int .u64 0,.int .u64 0,.int .u64 0,.int .u64 0,.int .u64 0,.int .u64 0,.int .u64 0,.int .u64 0,.int .u64 0,.int .u64 0,.int .u64 0,.int .u64 0,.int .u64 0,.int .u64 0,.int .u64 0,.int .u64 0,.int .u64 0,.int .u64 0,.int .u64 0,.int .u64 0,.int .u64 0,.int .u64 0,.int .u64 0,.int .i64 0,.int .i64 4,.map (some r)]
def om(kb:Nat)(a0:Int)(m:MP):Asn where
 ok w B:= ∃r,Rs [iz kb (agw a0 r) T.aw,jh r .u64 m] w B
 jf:=by
  rintro w w' B S ⟨r,h⟩ hf hn
  exact⟨r,h.jf hf hn⟩
section
variable {w0 w : World} {R : List Asn} {kb : Nat} {a0 : Int} {m : MP}
theorem bfp(S:St w0 w (om kb a0 m :: R)): ∃r,St w0 w (iz kb (agw a0 r) T.aw :: jh r .u64 m :: R):=by
 obtain⟨B,⟨r,h⟩,_,cl⟩:=S.open
 exact⟨r,cl w [iz kb (agw a0 r) T.aw,jh r .u64 m] (Fr.refl _ _) (h.mono fun b hb=> .inl hb)⟩
theorem bfj{r:Nat}(S:St w0 w (iz kb (agw a0 r) T.aw :: jh r .u64 m :: R)):St w0 w (om kb a0 m :: R):=by
 obtain⟨U,h1,_,g⟩:=St.aki (L:=[iz kb (agw a0 r) T.aw,jh r .u64 m]) (R:=R) S
 exact g w [om kb a0 m] (Fr.refl _ _) ⟨U,⟨r,h1⟩,fun b hb=> .inl hb,trivial⟩
theorem atk(S:St w0 w R){K:KV}(h: ∀w' kb,St w0 w' (om kb 0 [] :: R)->K (.tuple #[.pointer (some ⟨kb,0,none⟩),.int .i64 0]) w'):ie P F.gf [.int .i64 4] w K:=by
 rw[M.ft.fcall]
 apply M.ft.calls
 unfold M.ft
 have S1:=S.aig .u64
 have S2:=S1.mkB (agw 0 w.heap.size) T.aw
 simp only[jc] at S2
 simp[zn]
 exact h _ _ (bfj S2)
theorem amg(S:St w0 w (om kb a0 m :: R))(t:Int){K:KV}(h:K ((ki m t).getD (.int .i64 0)) w):ie P F.co [.pointer (some ⟨kb,0,none⟩),.int .u64 t] w K:=by
 obtain⟨r,S1⟩:=bfp S
 rw[M.ec.fcall]
 apply M.ec.calls
 unfold M.ec
 have c:ik w kb 66=some (.map (some r)):=by rw[S1.cell];rfl
 simp[c]
 rw[ta mt.aj S1.swap.mp]
 exact h
theorem bhv(S:St w0 w (om kb 0 [] :: R)){t v:Int}(ht:t≠0)(hv:1<=v/\v<=3){K:KV}(h: ∀w',St w0 w' (om kb t [(t,.int .i64 v)] :: R)->K (.bool true) w'):ie P F.ek [.pointer (some ⟨kb,0,none⟩),.int .u64 t,.int .i64 v] w K:=by
 obtain⟨r,S1⟩:=bfp S
 rw[M.bs.fcall]
 apply M.bs.calls
 unfold M.bs
 have c:ik w kb 66=some (.map (some r)):=by rw[S1.cell];rfl
 have c65:ik w kb 65=some (.int .i64 4):=by rw[S1.cell];rfl
 have v1: ¬v < 1:=by omega
 have v2: ¬3 < v:=by omega
 simp[ht,v1,v2]
 unfold M.bs.j0
 simp[c]
 rw[atw mt.aj S1.swap.mp]
 simp[ki]
 unfold M.bs.j1
 have ia: ∀w' K,iaT P T.bw (.pointer (some ⟨kb,0,none⟩)) (.int .i64 0) w' K=K (.pointer (some ⟨kb,0,none⟩)) w':=fun w' K=>kr
 have hl:=fun cs K=>adk (ty:=T.d) mt.aj S1.swap.mp cs K
 simp[c,hl,c65,ia]
 refine St.nj S1 rfl (by simp[agw]) fun w2 S2=>?_
 have S3:St w0 w2 (iz kb (agw t r) T.aw :: jh r .u64 [] :: R):=S2
 have d:ik w2 kb 66=some (.map (some r)):=by rw[S3.cell];rfl
 simp[d]
 exact St.avc mt.aj S3.swap t _ fun w4 S4=>h w4 (bfj S4.swap)
end
open Go.Eng Go.Proofs.YtgepcfcicngceaaGreatDoor.Sint
theorem aku: ∀l:List Int,(l.flatMap mu).length=l.length * 8
 | []=>rfl
 | x :: l=>by rw[List.flatMap_cons,List.length_append,sk,aku l,List.length_cons];omega
section
variable {w0 w : World} {R : List Asn}
end
def ado(b:Bool):Int:=if b=true then 1 else 0
def abw(s:ByteArray):List Int:=(s.size:Int) :: yi s
def rj(s:Spn):List Int:=[s.je,s.id,s.mr,s.kl,s.len]
def afa(s:Spn):List Int:=(rj s).flatMap mu ++ [ado s.ol] ++ abw s.kq ++ abw s.name
theorem ams{s:Spn}(h:kv s=0):s.kq.size<=32/\s.name.size<=32:=by
 unfold kv at h
 split at h
 ·cases h
 ·unfold orK at h
  have hn: ∀b:ByteArray,pw b=0->b.size<=32:=fun b hb=>by
   unfold pw at hb
   split at hb
   ·cases hb
   ·rename_i hh
    have:=not_or.1 hh
    omega
  by_cases ha:pw s.kq=0
  ·by_cases hb:pw s.name=0
   ·exact⟨hn _ ha,hn _ hb⟩
   ·simp[ha,hb] at h
  ·simp[ha] at h
section
variable {w0 w : World} {R : List Asn}
end
theorem ayp(l:List UInt8)(a:ByteArray):((l.map fun b=>(b.toNat:Int)).foldl (fun r n=>r.push (UInt8.ofNat n.toNat)) a).data.toList=a.data.toList ++ l:=by
 induction l generalizing a with
 | nil=>simp
 | cons x t ih=>
  rw[List.map_cons,List.foldl_cons,ih]
  simp[ByteArray.push]
theorem ayn(s:ByteArray):agj (yi s)=s:=by
 have h:=ayp s.data.toList ByteArray.empty
 have h2:(agj (yi s)).data.toList=s.data.toList:=by
  unfold agj yi
  rw[h]
  rfl
 cases s with
 | mk d=>
  have h3:(agj (yi ⟨d⟩)).data=d:=Array.toList_inj.1 h2
  generalize agj (yi ⟨d⟩)=z at *
  cases z with
  | mk e=>simp only at h3;rw[h3]
section
variable {w0 w : World} {R X : List Asn}
def Rdv(w0:World)(R:List Asn)(v:Value)(l:List Int):Prop:= ∀w' L,St w0 w' (L ++ R)->SlB w' v l
theorem aii{v:Value}{l:List Int}{L0:List Asn}(S:St w0 w (L0 ++ R))(hs:Rdv w0 R v l){lo hi:Option Value}{i j:Nat}(hlo:lo=none/\i=0\/∃k,lo=some (.int k (i:Int)))(hhi:hi=none/\j=l.length\/∃k,hi=some (.int k (j:Int)))(h0:i<=j)(h1:j<=l.length):
  ∃v',(∀w1 K,slT P T.q v lo hi none w1 K=K v' w1)/\Rdv w0 R v' ((l.drop i).take (j - i)):=by
 obtain⟨v',_,_,e1⟩:=(hs w L0 S).sub (P:=P) (t:=T.q) (by kernel_rfl) (by kernel_rfl) hlo hhi h0 h1
 refine⟨v',e1,fun w' L S'=>?_⟩
 obtain⟨v2,s2,_,e2⟩:=(hs w' L S').sub (P:=P) (t:=T.q) (by kernel_rfl) (by kernel_rfl) hlo hhi h0 h1
 have h3:=e1 w' fun v _=>v=v2
 rw[e2 w'] at h3
 have h4:v'=v2:=by
  have:(v2=v2)=(v'=v2):=h3
  rw[<-this]
 rw[h4]
 exact s2
abbrev rdr(b:Nat)(v:Value):Asn:=iz b #[v,.int .i64 0] T.ar
theorem ajg{b n:Nat}{v:Value}{l:List Int}(S:St w0 w (rdr b v :: (X ++ R)))(hs:Rdv w0 R v l)(hn:n<=l.length){K:KV}
  (h: ∀w' v1 v2,Rdv w0 R v1 (l.take n)->Rdv w0 R v2 (l.drop n)->St w0 w' (rdr b v2 :: (X ++ R))->K v1 w'):ie P F.bu [.pointer (some ⟨b,0,none⟩),.int .i64 (n:Nat)] w K:=by
 rw[M.af.fcall]
 apply M.af.calls
 unfold M.af
 have c0:ik w b 0=some v:=by rw[S.cell];rfl
 have c1:ik w b 1=some (.int .i64 0):=by rw[S.cell];rfl
 have hlen: ∀w' K,biT P .len #[T.q] T.d [false] [v] w' K=K (.int .i64 l.length) w':=fun w' K=>(hs w (_ :: X) S).jq (by kernel_rfl) [false]
 have hlt: ¬(l.length:Int) < (n:Int):=by omega
 simp[c0,c1,hlen,hlt]
 unfold M.af.j0
 simp[c1]
 unfold M.af.j1
 obtain⟨v1,e1,r1⟩:=aii (L0:=rdr b v :: X) S hs (lo:=none) (hi:=some (.int .i64 (n:Nat))) (i:=0) (j:=n) (.inl ⟨rfl,rfl⟩) (.inr ⟨_,rfl⟩) (Nat.zero_le _) hn
 obtain⟨v2,e2,r2⟩:=aii (L0:=rdr b v :: X) S hs (lo:=some (.int .i64 (n:Nat))) (hi:=none) (i:=n) (j:=l.length) (.inr ⟨_,rfl⟩) (.inl ⟨rfl,rfl⟩) hn (Nat.le_refl _)
 rw[List.drop_zero,Nat.sub_zero] at r1
 rw[List.take_of_length_le (by simp)] at r2
 have hv2:kt v2=true:=by
  obtain⟨_,_,e,_⟩:=r2 w (_ :: X) S
  rw[e];rfl
 have hst: ∀w' K,stT P T.q (.pointer (some ⟨b,0,none⟩)) v2 w' K=st1 P b 0 v2 w' K:=fun w' K=>by
  obtain⟨a,c,e,_⟩:=r2 w (_ :: X) S
  rw[e]
  simp
 simp[c0,e1,e2,hst]
 exact St.nj S hv2 (by simp) fun w3 S3=>h w3 v1 v2 r1 r2 S3
theorem aaq{b:Nat}{v:Value}{x:Int}{r:List Int}(S:St w0 w (rdr b v :: (X ++ R)))(hx:yd x)(hs:Rdv w0 R v (mu x ++ r)){K:KV}
  (h: ∀w' v2,Rdv w0 R v2 r->St w0 w' (rdr b v2 :: (X ++ R))->K (.int .u64 x) w'):ie P F.ar [.pointer (some ⟨b,0,none⟩)] w K:=by
 rw[M.cc.fcall]
 apply M.cc.calls
 unfold M.cc
 refine ajg (n:=8) S hs (by rw[List.length_append,sk];omega) fun w1 v1 v2 r1 r2 S1=>?_
 rw[List.take_left' (sk x)] at r1
 rw[List.drop_left' (sk x)] at r2
 refine bal (r1 w1 (_ :: X) S1) (by rw[sk];omega) ?_
 have:=bcc hx []
 rw[List.append_nil] at this
 rw[this]
 exact h w1 v2 r2 S1
theorem aqk{b:Nat}{v:Value}{x lo hi:Int}{r:List Int}(S:St w0 w (rdr b v :: (X ++ R)))(h0:lo<=x)(h1:x<=hi)(hs:Rdv w0 R v (x :: r)){K:KV}
  (h: ∀w' v2,Rdv w0 R v2 r->St w0 w' (rdr b v2 :: (X ++ R))->K (.int .u8 x) w'):ie P F.ce [.pointer (some ⟨b,0,none⟩),.int .u8 lo,.int .u8 hi] w K:=by
 rw[M.ci.fcall]
 apply M.ci.calls
 unfold M.ci
 refine ajg (n:=1) S hs (by simp) fun w1 v1 v2 r1 r2 S1=>?_
 have c1:ik w1 b 1=some (.int .i64 0):=by rw[S1.cell];rfl
 obtain⟨ab,ao,ac,e1,_,_,hc⟩:=(r1 w1 (_ :: X) S1).at (i:=0) (by simp)
 have hcell:ik w1 ab ao=some (.int .u8 x):=by simpa using hc 0 _ rfl
 have hia: ∀w' K,iaT P T.q v1 (.int .i64 0) w' K=K (.pointer (some ⟨ab,ao,none⟩)) w':=fun w' K=>by rw[e1];simp
 have n0: ¬x < lo:=by omega
 have n1: ¬hi < x:=by omega
 simp[hia,hcell,c1,n0,n1]
 exact h w1 v2 (by simpa using r2) S1
theorem ati{b:Nat}{v:Value}{s:ByteArray}{r:List Int}(S:St w0 w (rdr b v :: (X ++ R)))(h0:1<=s.size)(h1:s.size<=32)(hs:Rdv w0 R v (abw s ++ r)){K:KV}
  (h: ∀w' v2,Rdv w0 R v2 r->St w0 w' (rdr b v2 :: (X ++ R))->K (.string s) w'):ie P F.cl [.pointer (some ⟨b,0,none⟩)] w K:=by
 rw[M.co.fcall]
 apply M.co.calls
 unfold M.co
 refine aqk (lo:=1) (hi:=32) (x:=(s.size:Int)) (r:=yi s ++ r) S (by omega) (by omega) hs fun w1 v1 r1 S1=>?_
 have c1:ik w1 b 1=some (.int .i64 0):=by rw[S1.cell];rfl
 simp[c1]
 have hcv: ∀w' K',cvT P T.ba T.d (.int .u8 (s.size:Int)) w' K'=K' (.int .i64 (s.size:Int)) w':=fun w' K'=>by
  rw[ou (ks:= .u8) (kd:= .i64) (by kernel_rfl) (by kernel_rfl),iy]
 simp[hcv]
 refine ajg (n:=s.size) S1 r1 (by rw[List.length_append,acl];omega) fun w2 v2 v3 r2 r3 S2=>?_
 rw[List.take_left' (acl s)] at r2
 rw[List.drop_left' (acl s)] at r3
 rw[bes (by kernel_rfl) (by kernel_rfl) (r2 w2 (_ :: X) S2),ayn]
 exact h w2 v3 r3 S2
end
theorem bbc{s:Spn}(h:kv s=0):1<=s.kq.size/\1<=s.name.size:=by
 unfold kv at h
 split at h
 ·cases h
 ·unfold orK at h
  have hn: ∀b:ByteArray,pw b=0->1<=b.size:=fun b hb=>by
   unfold pw at hb
   split at hb
   ·cases hb
   ·rename_i hh
    have:=not_or.1 hh
    omega
  by_cases ha:pw s.kq=0
  ·by_cases hb:pw s.name=0
   ·exact⟨hn _ ha,hn _ hb⟩
   ·simp[ha,hb] at h
  ·simp[ha] at h
section
variable {w0 w : World} {R : List Asn}
abbrev spB(b:Nat)(s:Spn):Asn:=iz b (jr s).toArray T.i
theorem auz{v:Value}{s:Spn}{r:List Int}(S:St w0 w R)(hs:Rdv w0 R v (afa s ++ r))(hr:kv s=0)(hR:afs s)(hl:r.length<=10000000){K:KV}
  (h: ∀w' v',St w0 w' (yp v' r :: R)->K (.tuple #[li s,v',.int .i64 0]) w'):ie P F.gm [v] w K:=by
 obtain⟨n1,n2⟩:=ams hr
 obtain⟨m1,m2⟩:=bbc hr
 obtain⟨s0,s1,s2,s3,s4,sv,nm,fl⟩:=s
 simp only at n1 n2 m1 m2
 rw[M.cv.fcall]
 apply M.cv.calls
 unfold M.cv
 have hb: ∀w' K,jj P T.ar #[(0,v)] w' K=K (.agg #[v,.int .i64 0]) w':=fun w' K=>by
  obtain⟨_,_,e,_⟩:=hs w [] S
  rw[e]
  simp
 simp[hb]
 have S1:St w0 (w.alloc (.cells #[.int .u64 0,.int .u64 0,.int .u64 0,.int .u64 0,.int .u64 0,.string ⟨#[]⟩,.string ⟨#[]⟩,.bool false] T.i)) (spB w.heap.size ⟨0,0,0,0,0,⟨#[]⟩,⟨#[]⟩,false⟩ :: R):=S.mkB (jr ⟨0,0,0,0,0,⟨#[]⟩,⟨#[]⟩,false⟩).toArray T.i
 have S2:=S1.mkB #[v,.int .i64 0] T.ar
 rw[jc] at S2
 generalize w.heap.size=tb at *
 generalize hrb:tb+1=rb at *
 generalize (World.alloc _ (.cells #[v,.int .i64 0] T.ar))=w2 at *
 have hs0:Rdv w0 R v (mu s0 ++ (mu s1 ++ (mu s2 ++ (mu s3 ++ (mu s4 ++ (ado fl :: (abw sv ++ (abw nm ++ r)))))))):=by
  have e:afa ⟨s0,s1,s2,s3,s4,sv,nm,fl⟩ ++ r=mu s0 ++ (mu s1 ++ (mu s2 ++ (mu s3 ++ (mu s4 ++ (ado fl :: (abw sv ++ (abw nm ++ r))))))):=by
   simp[afa,rj]
  rw[<-e]
  exact hs
 refine aaq (X:=[_]) S2 hR.tr hs0 fun w3 v3 r3 S3=>?_
 refine aaq (X:=[_]) S3 hR.id r3 fun w4 v4 r4 S4=>?_
 refine aaq (X:=[_]) S4 hR.par r4 fun w5 v5 r5 S5=>?_
 refine aaq (X:=[_]) S5 hR.st r5 fun w6 v6 r6 S6=>?_
 refine aaq (X:=[_]) S6 hR.ln r6 fun w7 v7 r7 S7=>?_
 simp
 have S7':St w0 w7 (spB tb ⟨0,0,0,0,0,⟨#[]⟩,⟨#[]⟩,false⟩ :: rdr rb v7 :: R):=S7.swap
 refine St.put (vs:=jr ⟨s0,s1,s2,s3,s4,⟨#[]⟩,⟨#[]⟩,false⟩) (cs':=(jr ⟨s0,s1,s2,s3,s4,⟨#[]⟩,⟨#[]⟩,false⟩).toArray) S7' (ph _) (by simp[jr]) rfl fun w8 S8=>?_
 refine aqk (X:=[_]) S8.swap (x:=ado fl) (by unfold ado;split <;>omega) (by unfold ado;split <;>omega) r7 fun w9 v9 r9 S9=>?_
 have hfl:decide (ado fl=1)=fl:=by cases fl <;>rfl
 simp[hfl]
 refine St.nj S9.swap rfl (by simp[jr]) fun w10 S10=>?_
 have S10':St w0 w10 (spB tb ⟨s0,s1,s2,s3,s4,⟨#[]⟩,⟨#[]⟩,fl⟩ :: rdr rb v9 :: R):=S10
 refine ati (X:=[_]) S10'.swap m1 n1 r9 fun w11 v11 r11 S11=>?_
 simp
 refine St.nj S11.swap rfl (by simp[jr]) fun w12 S12=>?_
 have S12':St w0 w12 (spB tb ⟨s0,s1,s2,s3,s4,sv,⟨#[]⟩,fl⟩ :: rdr rb v11 :: R):=S12
 refine ati (X:=[_]) S12'.swap m2 n2 r11 fun w13 v13 r13 S13=>?_
 simp
 refine St.nj S13.swap rfl (by simp[jr]) fun w14 S14=>?_
 have S14':St w0 w14 (spB tb ⟨s0,s1,s2,s3,s4,sv,nm,fl⟩ :: rdr rb v13 :: R):=S14
 have c1:ik w14 rb 1=some (.int .i64 0):=by rw[S14'.swap.cell];rfl
 have sl: ∀{w':World}{L:List Asn},St w0 w' (spB tb ⟨s0,s1,s2,s3,s4,sv,nm,fl⟩ :: L)->∀K,ldN P 8 tb 0 w' K=K (li ⟨s0,s1,s2,s3,s4,sv,nm,fl⟩) w':=fun S' K=>S'.ldA (n:=8) (i:=0) (jr ⟨s0,s1,s2,s3,s4,sv,nm,fl⟩) rfl rfl K
 simp[c1,sl S14']
 rw[M.dn.fcall]
 refine afm _ fun w15 f15=>?_
 rw[hr]
 have S15:=S14'.ju f15
 simp
 refine St.nj S15.swap rfl (by simp) fun w16 S16=>?_
 have S16':St w0 w16 (rdr rb v13 :: spB tb ⟨s0,s1,s2,s3,s4,sv,nm,fl⟩ :: R):=S16
 have d1:ik w16 rb 1=some (.int .i64 0):=by rw[S16'.cell];rfl
 unfold M.cv.j0
 simp[d1]
 unfold M.cv.j1
 have S17:=S16'.ju ((Fr.refl _ w16).dr 1)
 have d0:ik (dr w16 1) rb 0=some v13:=by rw[S17.cell];rfl
 simp[sl S17.swap,d0]
 refine anp S17 (r13 _ [_,_] S17) (by omega) fun w18 v18 S18=>?_
 simp[sl S18.up2]
 have hst: ∀w' K,stT P T.i (.pointer (some ⟨tb,0,none⟩)) (li ⟨s0,s1,s2,s3,s4,sv,nm,fl⟩) w' K=stN P tb 0 (jr ⟨s0,s1,s2,s3,s4,sv,nm,fl⟩) w' K:=fun w' K=>by
  unfold li
  simp[jr]
 rw[hst]
 refine St.put (vs:=jr ⟨s0,s1,s2,s3,s4,sv,nm,fl⟩) (cs':=(jr ⟨s0,s1,s2,s3,s4,sv,nm,fl⟩).toArray) S18.up2 (ph _) (by simp[jr]) rfl fun w19 S19=>?_
 have hres: ∀w' K,ng P T.i (.pointer (some ⟨tb,0,none⟩)) w' K=ldN P 8 tb 0 w' K:=fun w' K=>kr
 simp[hres,sl S19]
 exact h w19 v18 (S19.drop.swap.drop)
end
def tx(b:Bal):List Value:=[.int .u64 b.n,.int .u64 b.ji]
theorem anb(b:Bal):(tx b).length=2:=rfl
def wg(a:Bal)(l:List Bal):Bal:=l.foldl (fun a x=>if a.aov x=true then x else a) a
section
variable {w0 w : World} {R : List Asn}
abbrev baB(b:Nat)(x:Bal):Asn:=iz b #[.int .u64 x.n,.int .u64 x.ji] T.e
theorem adh{b:Nat}{x y:Bal}(S:St w0 w (baB b x :: R)){K:KV}(h: ∀w',St w0 w' (baB b y :: R)->K undef w'):stT P T.e (.pointer (some ⟨b,0,none⟩)) (kj y) w K:=by
 unfold kj
 simp
 exact St.put (vs:=[.int .u64 y.n,.int .u64 y.ji]) (cs':= #[.int .u64 y.n,.int .u64 y.ji]) S (by simp[kt]) (by simp) rfl h
theorem abp(S:St w0 w R):St w0 (w.alloc (.cells #[.int .u64 0,.int .u64 0] T.e)) (baB w.heap.size ja :: R):=S.mkB #[.int .u64 0,.int .u64 0] T.e
def GrI(w0:World)(a:Bal)(l:List Bal)(tb:Nat)(R:List Asn):KL:=fun x w1=> ∃(i:Nat),x=[.int .i64 (i:Nat)]/\i<=l.length/\St w0 w1 (baB tb (wg a (l.take i)) :: R)
theorem arw(S:St w0 w R){v:Value}{l:List Bal}(hs: ∀w' L,St w0 w' (L ++ R)->Sl w' 2 tx v l)(hl:l.length<=1000000)(a:Bal){K:KV}(h: ∀w',St w0 w' R->K (kj (wg a l)) w'):ie P F.fa [kj a,v] w K:=by
 rw[M.db.fcall]
 apply M.db.calls
 unfold M.db
 refine St.sm S fun tb w1 S1=>?_
 have S1':St w0 w1 (baB tb a :: R):=S1
 simp
 have S2:=abp S1'
 generalize w1.heap.size=rb at *
 generalize w1.alloc _=w2 at *
 have hlen: ∀w' K,biT P .len #[T.bn] T.d [false] [v] w' K=K (.int .i64 l.length) w':=fun w' K=>(hs w2 [_,_] S2).jq (by kernel_rfl) [false]
 simp[hlen]
 refine⟨GrI w0 a l tb (baB rb ja :: R),fun x _=>l.length - ms x 0,⟨0,rfl,Nat.zero_le _,S2.swap⟩,?_⟩
 rintro x w3 ⟨i,rfl,hi,S3⟩
 by_cases hil:i < l.length
 ·have hwi:IntKind.i64.wrap ((i:Int)+1)=((i+1:Nat):Int):=by rw[iy];rfl
  simp[hil]
  unfold M.db.j2
  obtain⟨ab,ao,cap,hv,_,_,hc⟩:=(hs w3 [_,_] S3).at hil
  have hia: ∀w' K,iaT P T.bn v (.int .i64 (i:Nat)) w' K=K (.pointer (some ⟨ab,ao+i * 2,none⟩)) w':=fun w' K=>by
   rw[hv,auj (by kernel_rfl) (by omega) (by omega),show szE P T.bn=2 from by kernel_rfl]
   simp
  have hld: ∀K,ldN P 2 ab (ao+i * 2) w3 K=K (kj l[i]) w3:=fun K=>su (tx l[i]) 2 rfl hc K
  have e:wg a (l.take (i+1))=if (wg a (l.take i)).aov l[i]=true then l[i] else wg a (l.take i):=by
   rw[List.take_add_one,List.getElem?_eq_getElem hil]
   unfold wg
   rw[List.foldl_append]
   rfl
  simp[hia,hld]
  have S4:=abp S3
  generalize w3.heap.size=qb at *
  generalize w3.alloc _=w4 at *
  refine adh (y:=l[i]) S4 fun w5 S5=>?_
  obtain⟨_,_,b1⟩:=yg S5
  obtain⟨_,_,b2⟩:=yg S5.swap
  simp[b1,b2]
  refine azk _ _ fun w6 f6=>?_
  have S6:=S5.ju f6
  obtain⟨_,_,d1⟩:=yg S6
  simp
  rw[bdo]
  have fin: ∀w',St w0 w' (baB tb (wg a (l.take (i+1))) :: baB rb ja :: R)->GrI w0 a l tb (baB rb ja :: R) [.int .i64 ((i+1:Nat):Int)] w'/\l.length - ms [.int .i64 ((i+1:Nat):Int)] 0 < l.length - ms [.int .i64 (i:Nat)] 0:=fun w' S'=>⟨⟨i+1,rfl,by omega,S'⟩,by simp[ms,gv];omega⟩
  cases hb:(wg a (l.take i)).aov l[i] with
  | true=>
   rw[hb] at e
   simp only[if_true] at e
   simp[d1]
   refine adh (y:=l[i]) S6.swap fun w7 S7=>?_
   rw[hwi]
   refine fin w7 ?_
   rw[e]
   exact S7.swap.drop
  | false=>
   rw[hb] at e
   simp only[Bool.false_eq_true,if_false] at e
   simp
   rw[hwi]
   refine fin w6 ?_
   rw[e]
   exact S6.drop
 ·have hie:i=l.length:=by omega
  subst hie
  rw[List.take_length] at S3
  obtain⟨_,_,b1⟩:=yg S3
  simp[b1]
  refine adh (y:=wg a l) S3.swap fun w5 S5=>?_
  obtain⟨_,_,b2⟩:=yg S5
  have hres: ∀w' K,ng P T.e (.pointer (some ⟨rb,0,none⟩)) w' K=ldN P 2 rb 0 w' K:=fun w' K=>kr
  simp[hres,b2]
  exact h w5 S5.drop.drop
theorem bjd(S:St w0 w R){v:Value}{l:List Bal}(hs: ∀w' L,St w0 w' (L ++ R)->Sl w' 2 tx v l)(hl:l.length<=1000000){K:KV}(h: ∀w',St w0 w' R->K (kj (wg ja l)) w'):ie P F.dp [v] w K:=by
 rw[M.fm.fcall]
 apply M.fm.calls
 unfold M.fm
 simp
 have S2:=abp S
 generalize w.heap.size=rb at *
 generalize w.alloc _=w2 at *
 refine arw (a:=ja) S2 (fun w' L S'=>hs w' (L ++ [_]) (by simpa using S')) hl fun w3 S3=>?_
 refine adh (y:=wg ja l) S3 fun w5 S5=>?_
 obtain⟨_,_,b2⟩:=yg S5
 have hres: ∀w' K,ng P T.e (.pointer (some ⟨rb,0,none⟩)) w' K=ldN P 2 rb 0 w' K:=fun w' K=>kr
 simp[hres,b2]
 exact h w5 S5.drop
end
def abb(tr:Int)(b:Bal)(v:Int)(rv:Value)(half:Int)(hm:Nat):Array Value:= #[.int .u64 tr,.int .u64 b.n,.int .u64 b.ji,.int .i64 v,rv,.int .i64 half,.map (some hm),.int .u64 0,.int .u64 0,.int .u64 0,.int .u64 0]
def po(rb:Nat)(tr:Int)(b:Bal)(v half:Int):Asn where
 ok w B:= ∃rv hm,Rs [iz rb (abb tr b v rv half hm) T.r,rdA 1 lw rv [101],jh hm .u64 []] w B
 jf:=by
  rintro w w' B S ⟨rv,hm,h⟩ hf hn
  exact⟨rv,hm,h.jf hf hn⟩
section
variable {w0 w : World} {R : List Asn} {rb : Nat} {tr v half : Int} {b : Bal}
theorem aie(S:St w0 w (po rb tr b v half :: R)): ∃rv hm,St w0 w (iz rb (abb tr b v rv half hm) T.r :: rdA 1 lw rv [101] :: jh hm .u64 [] :: R):=by
 obtain⟨B,⟨rv,hm,h⟩,_,cl⟩:=S.open
 exact⟨rv,hm,cl w [iz rb (abb tr b v rv half hm) T.r,rdA 1 lw rv [101],jh hm .u64 []] (Fr.refl _ _) (h.mono fun b hb=> .inl hb)⟩
theorem ajt{rv:Value}{hm:Nat}(S:St w0 w (iz rb (abb tr b v rv half hm) T.r :: rdA 1 lw rv [101] :: jh hm .u64 [] :: R)):St w0 w (po rb tr b v half :: R):=by
 obtain⟨U,h1,_,g⟩:=St.aki (L:=[iz rb (abb tr b v rv half hm) T.r,rdA 1 lw rv [101],jh hm .u64 []]) (R:=R) S
 exact g w [po rb tr b v half] (Fr.refl _ _) ⟨U,⟨rv,hm,h1⟩,fun b hb=> .inl hb,trivial⟩
theorem wh{rv:Value}(h:SlU w rv [101]): ∃g o c,rv= .slice (some ⟨g,o,none⟩) 1 c/\ik w g o=some (.int .u64 101):=by
 obtain⟨g,o,c,e,_,_,hc⟩:=h.at (i:=0) (by simp)
 exact⟨g,o,c,e,by simpa [lw] using hc 0 _ rfl⟩
def PsI(w0:World)(R:List Asn)(v1 v2:Value):KL:=fun x w1=> ∃(u:Value)(i:Nat),x=[u,v1,v2,.int .u64 (if i=0 then 0 else 101),.int .i64 (i:Nat)]/\i<=1/\St w0 w1 R
theorem bbr{av:Value}(S:St w0 w R)(hs: ∀w' L,St w0 w' (L ++ R)->SlU w' av [101])(h1:tr≠0)(h2:b.n≠0)(h3:1<=v/\v<=3){K:KV}(h: ∀w' rb,St w0 w' (po rb tr b v 0 :: R)->K (.tuple #[.pointer (some ⟨rb,0,none⟩),.int .i64 0]) w'):ie P F.fl [.int .u64 tr,kj b,.int .i64 v,av] w K:=by
 rw[M.bo.fcall]
 apply M.bo.calls
 unfold M.bo kj
 refine St.sm S fun bb w1 S1=>?_
 have S1':St w0 w1 (baB bb b :: R):=S1
 have hsl: ∀w' L,St w0 w' (L ++ (baB bb b :: R))->SlU w' av [101]:=fun w' L S=>hs w' (L ++ [baB bb b]) (by simpa using S)
 have hlen: ∀w' K,biT P .len #[T.g] T.d [false] [av] w' K=K (.int .i64 1) w':=fun w' K=>(hs w [] S).jq (by kernel_rfl) [false]
 obtain⟨g,o,c,e,_⟩:=wh (hs w [] S)
 have hia: ∀w' K,iaT P T.g av (.int .i64 0) w' K=K (.pointer (some ⟨g,o,none⟩)) w':=fun w' K=>by rw[e];simp
 simp only[il,hlen]
 refine⟨PsI w0 (baB bb b :: R) (.pointer none) (.int .i64 0),fun x _=>1 - ms x 4,⟨_,0,rfl,Nat.zero_le _,S1'⟩,?_⟩
 rintro x w2 ⟨u,i,rfl,hi,S2⟩
 by_cases hi0:i=0
 ·subst hi0
  obtain⟨g2,o2,c2,e2,hc2⟩:=wh (hsl w2 [] S2)
  rw[e] at e2
  injection e2 with e2 _ _
  injection e2 with e2
  injection e2 with e2 e3 _
  subst e2 e3
  simp
  unfold M.bo.j2
  simp[hia,hc2]
  exact⟨⟨_,1,rfl,Nat.le_refl _,S2⟩,by simp[ms,gv,show IntKind.i64.wrap 1=1 from by decide]⟩
 ·have hi1:i=1:=by omega
  subst hi1
  simp
  unfold M.bo.j0
  have c0:ik w2 bb 0=some (.int .u64 b.n):=by rw[S2.cell];rfl
  have n1: ¬v < 1:=by omega
  have n2: ¬3 < v:=by omega
  simp[h1,c0,h2,n1,n2,hlen]
  unfold M.bo.j5
  have S3:=S2.ju ((Fr.refl _ w2).dr 1)
  have lb: ∀{w':World}{L:List Asn},St w0 w' (baB bb b :: L)->∀K,ldN P 2 bb 0 w' K=K (kj b) w':=fun S' K=>S'.ldA (n:=2) (i:=0) (tx b) rfl rfl K
  simp[lb S3,kj]
  have fin: ∀(rv:Value)(hm:Nat) w',St w0 w' (rdA 1 lw rv [101] :: jh hm .u64 [] :: R)->K (.tuple #[.pointer (some ⟨w'.heap.size,0,none⟩),.int .i64 0]) (w'.alloc (.cells (abb tr b v rv 0 hm) T.r)):=fun rv hm w' S'=>h _ _ (ajt (S'.mkB _ _))
  refine⟨?_,?_⟩
  ·refine aar (hsl _ [] S3) (by simp) fun w4 rv s4 n4 f4=>?_
   obtain⟨g4,o4,c4,rfl,_⟩:=wh s4
   have S4:St w0 w4 (rdA 1 lw (.slice (some ⟨g4,o4,none⟩) 1 c4) [101] :: baB bb b :: R):=S3.add f4 (a:=rdA 1 lw (.slice (some ⟨g4,o4,none⟩) 1 c4) [101]) (B:=fun x=>(Value.slice (some ⟨g4,o4,none⟩) 1 c4).ownBlock=some x) ⟨s4,fun b hb=>hb⟩ fun x hx=>⟨n4 x hx,by
    obtain⟨g,hg,hlt⟩:=s4.lt (x:=101) (by simp)
    rw[hx] at hg;cases hg;exact hlt⟩
   have S5:=S4.aig .u64
   simp[lb S4.swap,lb S5.up2,kj,zn]
   have hf:=fin _ w4.heap.size _ (S5.swap.up2.drop)
   simp only[jc] at hf
   exact hf
  ·have S4:=S3.aig .u64
   rw[zn]
   generalize (dr w2 1).heap.size=hm at *
   generalize (dr w2 1).alloc (.map #[] 0)=w4 at *
   simp[lb S4.swap,kj]
   refine aar (hsl _ [_] S4) (by simp) fun w5 rv s5 n5 f5=>?_
   obtain⟨g5,o5,c5,rfl,_⟩:=wh s5
   have S5:St w0 w5 (rdA 1 lw (.slice (some ⟨g5,o5,none⟩) 1 c5) [101] :: jh hm .u64 [] :: baB bb b :: R):=S4.add f5 (a:=rdA 1 lw (.slice (some ⟨g5,o5,none⟩) 1 c5) [101]) (B:=fun x=>(Value.slice (some ⟨g5,o5,none⟩) 1 c5).ownBlock=some x) ⟨s5,fun b hb=>hb⟩ fun x hx=>⟨n5 x hx,by
    obtain⟨g,hg,hlt⟩:=s5.lt (x:=101) (by simp)
    rw[hx] at hg;cases hg;exact hlt⟩
   simp[lb S5.up2,kj]
   exact fin _ hm w5 (S5.up2.drop)
def rz(tr:Int)(b:Bal)(v half:Int):Pk:=⟨if half=1 then 6 else 4,tr,b,ja,if half=1 then v else 0,false,.slice none 0 0,.slice none 0 0,.slice none 0 0⟩
theorem ns{rv:Value}{hm:Nat}{L:List Asn}(S':St w0 w (iz rb (abb tr b v rv half hm) T.r :: L)):ik w rb 0=some (.int .u64 tr)/\ik w rb 3=some (.int .i64 v)/\ik w rb 4=some rv/\ik w rb 5=some (.int .i64 half)/\ik w rb 6=some (.map (some hm))/\(∀K,ldN P 2 rb 1 w K=K (kj b) w)/\∀K,ldN P 2 rb 7 w K=K (kj ja) w:=by
 refine⟨?_,?_,?_,?_,?_,fun K=>S'.ldA (n:=2) (i:=1) (tx b) rfl rfl K,fun K=>S'.ldA (n:=2) (i:=7) (tx ja) rfl rfl K⟩ <;>rw[S'.cell] <;>rfl
theorem pp: ∀u∈pkC (rz tr b v half),kt u=true:=atr _ _ _ _ _ _
theorem aly(S:St w0 w (po rb tr b v half :: R))(hh:half=0\/half=1){K:KV}(h: ∀w',St w0 w' (po rb tr b v half :: R)->K (pkA (rz tr b v half)) w'):ie P F.bt [.pointer (some ⟨rb,0,none⟩)] w K:=by
 obtain⟨rv,hm,S1⟩:=aie S
 rw[M.cn.fcall]
 apply M.cn.calls
 unfold M.cn
 obtain⟨_,_,_,c5,_,_⟩:=ns S1
 have hgt: ¬1 < half:=by omega
 have S2:=auu S1
 simp
 generalize w.heap.size=q at *
 generalize w.alloc _=w2 at *
 obtain⟨_,_,_,d5,_,_⟩:=ns S2.swap
 simp[d5,hgt]
 unfold M.cn.j0
 have S3:=S2.ju ((Fr.refl _ w2).dr 1)
 obtain⟨e0,e3,_,e5,_,e1,_⟩:=ns S3.swap
 simp[e0,e1,kj]
 have S4:=auu S3
 have hz:(dr w2 1).heap.size=w2.heap.size:=rfl
 rw[hz] at S4
 generalize w2.heap.size=pb at *
 generalize World.alloc _ _=w4 at *
 obtain⟨f0,f3,_,f5,_,f1,_⟩:=ns S4.up2
 simp[f0,f1,kj]
 refine awq (q:=rz tr b v 0) S4 rfl pp fun w5 S5=>?_
 obtain⟨g0,g3,_,g5,_,g1,_⟩:=ns S5.up2
 have fin: ∀w',St w0 w' (iz pb (pkC (rz tr b v half)).toArray T.c :: iz q (pkC pkZ).toArray T.c :: iz rb (abb tr b v rv half hm) T.r :: rdA 1 lw rv [101] :: jh hm .u64 [] :: R)->ldT P T.c (.pointer (some ⟨pb,0,none⟩)) w' fun t34 w=>stT P T.c (.pointer (some ⟨q,0,none⟩)) t34 w fun _ w=>ib (fun K'=>ng P T.c (.pointer (some ⟨q,0,none⟩)) w K') w fun r0=>K r0 w:=fun w' S'=>by
  simp[vq S']
  exact bjx (q:=rz tr b v half) S'.swap rfl pp fun w'' S''=>h w'' (ajt (S''.drop.drop))
 rcases hh with rfl|rfl
 ·simp[g5]
  have:=fin w5 S5
  simpa using this
 ·have S6:=S5.ju ((Fr.refl _ w5).dr 1)
  obtain⟨_,i3,_,_,_,_,_⟩:=ns S6.up2
  simp[g5,i3]
  refine St.nj S6 rfl (by simp[pkC]) fun w7 S7=>?_
  obtain⟨_,k3,_,_,_,_,_⟩:=ns S7.up2
  simp[k3]
  refine St.nj S7 rfl (by simp[pkC]) fun w8 S8=>?_
  have:=fin w8 S8
  simpa using this
def OpI(w0:World)(R:List Asn):KL:=fun x w1=> ∃(u ov:Value)(i:Nat),x=[u,ov,.int .i64 (i:Nat)]/\i<=1/\St w0 w1 (qx ov ((List.replicate i 101)) :: R)
theorem aqw(S:St w0 w (po rb tr b v half :: R))(hh:half=0\/half=1){K:KV}(h: ∀w' ov,St w0 w' (qx ov [101] :: po rb tr b v half :: R)->K ov w'):ie P F.cd [.pointer (some ⟨rb,0,none⟩)] w K:=by
 obtain⟨rv,hm,S1⟩:=aie S
 rw[M.bj.fcall]
 apply M.bj.calls
 unfold M.bj
 obtain⟨_,_,_,c5,_,_⟩:=ns S1
 have hgt: ¬1 < half:=by omega
 simp[c5,hgt]
 unfold M.bj.j0
 obtain⟨_,_,c4,_,c6,_⟩:=ns S1
 obtain⟨g,o,c,e,_⟩:=wh S1.swap.rd
 have hln: ∀w' K,biT P .len #[T.g] T.d [false] [rv] w' K=K (.int .i64 1) w':=fun w' K=>(S1.swap.rd:SlU w rv [101]).jq (by kernel_rfl) [false]
 have hia: ∀w' K,iaT P T.g rv (.int .i64 0) w' K=K (.pointer (some ⟨g,o,none⟩)) w':=fun w' K=>by rw[e];simp
 simp[c4,hln]
 refine⟨OpI w0 (iz rb (abb tr b v rv half hm) T.r :: rdA 1 lw rv [101] :: jh hm .u64 [] :: R),fun x _=>1 - ms x 2,⟨_,_,0,rfl,Nat.zero_le _,by simpa using Go.Eng.yq S1⟩,?_⟩
 rintro x w2 ⟨u,ov,i,rfl,hi,S2⟩
 by_cases hi0:i=0
 ·subst hi0
  obtain⟨g2,o2,c2,e2,hc2⟩:=wh S2.up2.rd
  rw[e] at e2
  injection e2 with e2 _ _
  injection e2 with e2
  injection e2 with e2 e3 _
  subst e2 e3
  obtain⟨_,_,_,_,d6,_⟩:=ns S2.swap
  simp
  unfold M.bj.j3
  simp[hia,hc2,d6]
  rw[ta mt.ak S2.up3.mp]
  simp[ki]
  have S3:St w0 (w2.alloc (.cells #[.int .u64 101] T.a)) (qx (.slice (some ⟨w2.heap.size,0,none⟩) 1 1) [101] :: _):=St.tz (l:=[(101:Int)]) S2 (fun _=>rfl) rfl (by simp[maxLen])
  refine aby S3.swap (S3.row (fun _=>rfl)) (by simp) fun w5 v5 S5=>?_
  exact⟨⟨_,_,1,rfl,Nat.le_refl _,by simpa using S5.swap.drop⟩,by simp[ms,gv,show IntKind.i64.wrap 1=1 from by decide]⟩
 ·have hi1:i=1:=by omega
  subst hi1
  simp
  exact h w2 ov (ajt S2.dn3).swap
end
def ade(s:Bal)(ver ji:Int):Bal×Int:=if ji=0 then (ja,1) else if max s.n ver=18446744073709551615 then (ja,12) else (⟨max (s.n+1) ver,ji⟩,0)
section
variable {w0 w : World} {R : List Asn}
theorem bni(rb:Nat)(w':World)(K:KV):ng P T.e (.pointer (some ⟨rb,0,none⟩)) w' K=ldN P 2 rb 0 w' K:=kr
theorem bkl{b:Nat}{cs:Array Value}{y:Bal}(S:St w0 w (iz b cs T.e :: R))(hs:cs.size=2){K:KV}(h: ∀w',St w0 w' (baB b y :: R)->K (kj y) w'):
  stN P b 0 [.int .u64 y.n,.int .u64 y.ji] w fun _ w=>ng P T.e (.pointer (some ⟨b,0,none⟩)) w fun r w'=>w'=w/\K r w:=by
 refine St.put (vs:=[.int .u64 y.n,.int .u64 y.ji]) (cs':= #[.int .u64 y.n,.int .u64 y.ji]) S (by simp[kt]) (by simp[hs]) (by
  have hl:cs.toList.length=2:=by simpa using hs
  simp[hl]) fun w' S'=>?_
 rw[bni]
 obtain⟨_,_,b2⟩:=yg S'
 rw[b2]
 exact⟨rfl,h w' S'⟩
theorem bgi(S:St w0 w R)(s:Bal){ver ji:Int}(hs:0<=s.n/\s.n < 18446744073709551616)(hv:0<=ver/\ver < 18446744073709551616){K:KV}(h: ∀w',St w0 w' R->K (.tuple #[kj (ade s ver ji).1,.int .i64 (ade s ver ji).2]) w'):ie P F.cg [kj s,.int .u64 ver,.int .u64 ji] w K:=by
 rw[M.el.fcall]
 apply M.el.calls
 unfold M.el kj
 refine St.sm S fun tb w1 S1=>?_
 have S1':St w0 w1 (baB tb s :: R):=S1
 simp
 have S2:=abp S1'
 generalize w1.heap.size=rb at *
 generalize w1.alloc _=w2 at *
 have c0:ik w2 tb 0=some (.int .u64 s.n):=by rw[S2.swap.cell];rfl
 have fin: ∀(y:Bal)(k:Int),ade s ver ji=(y,k)->stN P rb 0 [.int .u64 y.n,.int .u64 y.ji] w2 fun _ w=>ng P T.e (.pointer (some ⟨rb,0,none⟩)) w fun r w'=>w'=w/\K (.tuple #[r,.int .i64 k]) w:=fun y k e=>bkl (K:=fun r w=>K (.tuple #[r,.int .i64 k]) w) S2 rfl fun w' S'=>by
  have:=h w' S'.drop.drop
  rw[e] at this
  exact this
 by_cases hn:ji=0
 ·simp[hn]
  exact fin ja 1 (by unfold ade;rw[if_pos hn])
 ·by_cases hm:max s.n ver=18446744073709551615
  ·simp[hn,c0,ro,hm]
   exact fin ja 12 (by unfold ade;rw[if_neg hn,if_pos hm])
  ·have hw:IntKind.u64.wrap (s.n+1)=s.n+1:=by rw[lr (by omega) (by omega)]
   simp[hn,c0,ro,hm]
   unfold M.el.j0
   simp[c0,hw,ro]
   exact fin ⟨max (s.n+1) ver,ji⟩ 0 (by unfold ade;rw[if_neg hn,if_neg hm])
end
def qi(tr:Int)(b:Bal)(half:Int):Pk:=pk0 (if half=1 then 7 else 5) tr b ja 0 true
theorem ana{tr:Int}{b:Bal}{half:Int}(h1:0 < tr)(h2:0 < b.n):xj (qi tr b half) [] [] []=true:=by
 unfold qi xj auo yv vp
 by_cases h:half=1
 ·simp[h,pk0,ri,qe,qc,px,lq,aip,h1,h2,ja]
 ·simp[h,pk0,ri,qe,qc,px,lq,aip,h1,h2,apb,ja]
def vn(tr:Int)(b:Bal)(half:Int):List Value:=[.int .u64 tr,.int .u64 b.n,.int .u64 b.ji,.bool true,.int .u64 0,.int .u64 0,.int .i64 0,.bool (decide (half=1))]
theorem anx{w:World}{tr:Int}{b:Bal}{half:Int}{t:Value}(h:ThR w (qi tr b half) [] [] [] t):t= .iface T.k (.agg (vn tr b half).toArray):=by
 have hk:(qi tr b half).jg=5\/(qi tr b half).jg=7:=by
  unfold qi pk0
  by_cases h:half=1
  ·simp[h]
  ·simp[h]
 generalize hp:qi tr b half=p at *
 cases h with
 | kh v q _=>omega
 | ajs v q _=>omega
 | ask q=>omega
 | aaf q=>
  rw[<-hp]
  unfold qi pk0 vn ja
  by_cases h:half=1
  ·simp[h]
  ·simp[h]
 | si q=>omega
 | xg v q _=>omega
 | aac v q _=>omega
 | none q=>omega
section
variable {w0 w : World} {R : List Asn} {rb : Nat} {tr v half : Int} {b : Bal}
theorem bga{rv:Value}(h:SlU w rv [101]){K:KV}(hK:K (.bool true) w):ie P F.bk [rv,.int .u64 101] w K:=by
 rw[M.bt.fcall]
 apply M.bt.calls
 unfold M.bt
 rw[M.aw.fcall]
 apply M.aw.calls
 unfold M.aw
 have hln: ∀w' K,biT P .len #[T.g] T.d [false] [rv] w' K=K (.int .i64 1) w':=fun w' K=>h.jq (by kernel_rfl) [false]
 obtain⟨g,o,c,e,hc⟩:=wh h
 have hia: ∀w' K,iaT P T.g rv (.int .i64 0) w' K=K (.pointer (some ⟨g,o,none⟩)) w':=fun w' K=>by rw[e];simp
 simp only[il,hln]
 refine⟨fun x w1=>gv x 2= .int .i64 0/\w1=w,fun _ _=>0,⟨rfl,rfl⟩,?_⟩
 rintro x w1 ⟨x2,rfl⟩
 rw[x2]
 simp
 unfold M.aw.j2
 rw[x2]
 simp[hia,hc]
 exact hK
theorem biy(x y:Bool)(rx ry:Operand)(w:World)(K:KV):ip P .eql T.br rx ry (.bool x) (.bool y) w K=K (.bool (x == y)) w:=afh (by kernel_rfl)
theorem bgd(S:St w0 w (po rb tr b v half :: R)){K:KV}(h: ∀w',St w0 w' (po rb tr b v half :: R)->K (.bool true) w'):ie P F.dr [.pointer (some ⟨rb,0,none⟩),.int .u64 101,.agg (vn tr b half).toArray] w K:=by
 obtain⟨rv,hm,S1⟩:=aie S
 rw[M.ds.fcall]
 apply M.ds.calls
 unfold M.ds
 refine St.sm S1 fun ab w1 S2=>?_
 have S3:=S2.ju ((Fr.refl _ w1).dr 1)
 obtain⟨c0,_,c4,c5,c6,c1,_⟩:=ns S3.swap
 have a0:ik (dr w1 1) ab 0=some (.int .u64 tr):=by rw[S3.cell];rfl
 have a7:ik (dr w1 1) ab 7=some (.bool (decide (half=1))):=by rw[S3.cell];rfl
 have a1: ∀K,ldN P 2 ab 1 (dr w1 1) K=K (kj b) (dr w1 1):=fun K=>S3.ldA (n:=2) (i:=1) (tx b) rfl rfl K
 have eqb: ∀rx ry w K,ip P .eql T.e rx ry (kj b) (kj b) w K=K (.bool true) w:=fun rx ry w K=>by rw[aam];simp
 simp[a0,a7,a1,c0,c4,c5,c6,c1,biy,eqb]
 refine bga S3.up2.rd ?_
 simp[c6]
 rw[ta mt.ak S3.up3.mp]
 simp[ki]
 exact h _ (ajt S3.drop)
theorem amq(S:St w0 w (po rb tr b v half :: R)){K:KV}(h2:half=2->K (.tuple #[.int .i64 v,.bool true]) w)(h0:half≠2->K (.tuple #[.int .i64 0,.bool false]) w):ie P F.dd [.pointer (some ⟨rb,0,none⟩)] w K:=by
 obtain⟨rv,hm,S1⟩:=aie S
 rw[M.dk.fcall]
 apply M.dk.calls
 unfold M.dk
 obtain⟨_,c3,_,c5,_⟩:=ns S1
 by_cases hh:half=2
 ·have:=h2 hh
  simp[c5,c3,hh]
  exact this
 ·have:=h0 hh
  simp[c5,hh]
  exact this
theorem bbo(S:St w0 w (po rb tr b v half :: R))(hh:half=0\/half=1)(ht:0 < tr/\tr < 18446744073709551616)(hb:b.rng)(hb0:0 < b.n){K:KV}(h: ∀w',St w0 w' (po rb tr b v (half+1) :: R)->K (.bool true) w'):ie P F.dq [.pointer (some ⟨rb,0,none⟩),.int .u64 101,pkA (qi tr b half)] w K:=by
 rw[M.ao.fcall]
 apply M.ao.calls
 unfold M.ao pkA
 refine St.sm S fun pb w1 S1=>?_
 have S1':St w0 w1 (iz pb (pkC (qi tr b half)).toArray T.c :: po rb tr b v half :: R):=S1
 simp[vq S1']
 have hrng:alb (qi tr b half):=⟨⟨by show 0<=tr;omega,ht.2⟩,hb,show ja.rng from⟨⟨by decide,by decide⟩,⟨by decide,by decide⟩⟩⟩
 refine arc (p:=qi tr b half) (ls:=[]) (lm:=[]) (lu:=[]) (aze _ _ _ _ _ _ _) hrng (fun hr w2 t hth _ f2=>?_) fun hr=>absurd (ana ht.1 hb0) (by rw[hr];simp)
 have S2:=S1'.ju f2
 rw[anx hth]
 have S3:=S2.mkB #[.int .u64 0,.int .u64 0,.int .u64 0,.bool false,.int .u64 0,.int .u64 0,.int .i64 0,.bool false] T.k
 unfold vn
 simp
 generalize w2.heap.size=ab at *
 generalize w2.alloc _=w3 at *
 refine St.put (vs:=vn tr b half) (cs':=(vn tr b half).toArray) S3 (by simp[vn,kt]) (by simp[vn]) (by simp[vn]) fun w4 S4=>?_
 obtain⟨rv,hm,S5⟩:=aie S4.up2
 obtain⟨_,_,_,c5,_⟩:=ns S5
 have hgt: ¬1 < half:=by omega
 have ld8: ∀K,ldN P 8 ab 0 w4 K=K (.agg (vn tr b half).toArray) w4:=fun K=>S4.ldA (n:=8) (i:=0) (vn tr b half) rfl rfl K
 simp[c5,hgt,ld8]
 refine bgd S4.up2 fun w5 S6=>?_
 simp
 unfold M.ao.j0
 have a3:ik w5 ab 3=some (.bool true):=by rw[S6.swap.cell];rfl
 simp[a3]
 unfold M.ao.j1
 obtain⟨rv,hm,S7⟩:=aie S6
 obtain⟨_,_,_,_,d6,_⟩:=ns S7
 simp[d6]
 refine St.avc mt.ak S7.up2 _ _ fun w6 S8=>?_
 have S9:=S8.ju ((Fr.refl _ w6).dr 1)
 have a6:ik (dr w6 1) ab 6=some (.int .i64 0):=by rw[S9.up3.cell];rfl
 simp[a6]
 unfold M.ao.j2
 have S10:St w0 (dr (dr w6 1) 1) (jh hm .u64 [(101,.bool true)] :: iz rb (abb tr b v rv half hm) T.r :: rdA 1 lw rv [101] :: iz ab (vn tr b half).toArray T.k :: iz pb (pkC (qi tr b half)).toArray T.c :: R):=S9.ju ((Fr.refl _ (dr w6 1)).dr 1)
 obtain⟨_,_,e4,e5,e6,_⟩:=ns S10.swap
 have hl:=fun cs K=>adk (ty:=T.d) mt.ak S10.mp cs K
 have hln: ∀w' K,biT P .len #[T.g] T.d [false] [rv] w' K=K (.int .i64 1) w':=fun w' K=>(S10.up2.rd:SlU (dr (dr w6 1) 1) rv [101]).jq (by kernel_rfl) [false]
 have hw:IntKind.i64.wrap (half+1)=half+1:=by rw[iy]
 have h2:IntKind.i64.wrap 2=2:=by decide
 simp[e4,e5,e6,hl,hln,h2,hw]
 refine St.nj S10.swap rfl (by simp[abb]) fun w8 S11=>?_
 have S12:St w0 w8 (iz rb (abb tr b v rv (half+1) hm) T.r :: jh hm .u64 [(101,.bool true)] :: _):=S11
 obtain⟨_,_,_,_,g6,_⟩:=ns S12
 simp[g6]
 refine St.bln mt.ak S12.swap fun w9 S13=>?_
 exact h w9 (ajt S13.dn2).swap.drop.swap.drop
end
end Go.Proofs.YtgepcfcicngceaaGreatDoor
set_option maxRecDepth 100000
namespace Go.Proofs.YtgepcfcicngceaaGreatDoor.Ring
open Go.Eng Go.Proofs.YtgepcfcicngceaaGreatDoor
structure Pnt where
 at':Int
 id:Int
def xr(p:Pnt):List Value:=[.int .u64 p.at',.int .u64 p.id]
def wy(p:Pnt):Value:= .agg #[.int .u64 p.at',.int .u64 p.id]
theorem wd(p:Pnt):(xr p).length=2:=rfl
theorem anr(p:Pnt): ∀u∈xr p,kt u=true:=fun u hu=>by
 simp[xr] at hu
 rcases hu with rfl|rfl <;>rfl
abbrev tt(v:Value)(l:List Pnt):Asn:=pc T.aq 2 xr v l
abbrev awa(w:World)(v:Value)(l:List Pnt):Prop:=Sl w 2 xr v l
def leS(x y:Pnt):Prop:=x.at' < y.at'\/(x.at'=y.at'/\x.id<=y.id)
def aml(x y:Pnt):Int:=if ws x.at' y.at'≠0 then ws x.at' y.at' else ws x.id y.id
theorem atv{x y:Pnt}:aml x y < 0↔¬leS y x:=by
 unfold aml ws leS
 by_cases h1:x.at' < y.at'
 ·have h2: ¬y.at' < x.at':=by omega
  simp[h1,h2]
  omega
 ·by_cases h2:y.at' < x.at'
  ·simp[h1,h2]
  ·have h3:y.at'=x.at':=by omega
   by_cases h4:x.id < y.id
   ·simp[h3,h4]
   ·by_cases h5:y.id < x.id
    ·simp[h3,h4,h5] <;>omega
    ·simp[h3,h4,h5] <;>omega
theorem leS.trans{x y z:Pnt}(h:leS x y)(h':leS y z):leS x z:=by unfold leS at *;omega
theorem leS.of{x y:Pnt}(h: ¬leS y x):leS x y:=by unfold leS at *;omega
abbrev ach(l:List Pnt):Prop:=l.Pairwise leS
def bdw(l:List Pnt)(i j:Nat)(hi:i < l.length)(hj:j < l.length):List Pnt:=(l.set i l[j]).set j l[i]
theorem bgu(P Q R:List Pnt)(x y:Pnt){l:List Pnt}{i j:Nat}(hl:l=P ++ x :: (Q ++ y :: R))(hi:i=P.length)(hj:j=P.length+1+Q.length)(h1:i < l.length)(h2:j < l.length):bdw l i j h1 h2=P ++ y :: (Q ++ x :: R):=by
 subst hl hi hj
 have e1:(P ++ x :: (Q ++ y :: R))[P.length]'h1=x:=by simp
 have e2:(P ++ x :: (Q ++ y :: R))[P.length+1+Q.length]'h2=y:=by
  rw[List.getElem_append_right (by omega)]
  have:P.length+1+Q.length - P.length=Q.length+1:=by omega
  simp[this]
 unfold bdw
 rw[e1,e2]
 have:(P ++ x :: (Q ++ y :: R)).set P.length y=P ++ y :: (Q ++ y :: R):=by simp
 rw[this]
 rw[List.set_append_right _ _ (by omega)]
 have:P.length+1+Q.length - P.length=Q.length+1:=by omega
 rw[this]
 simp
theorem baj{w:World}(x y:Pnt){K:KV}(h: ∀w',Fz w w'->K (.int .i64 (aml x y)) w'):ie P F.dx [wy x,wy y] w K:=by
 rw[M.fd.fcall]
 apply M.fd.calls
 unfold M.fd
 refine St.sm (St.kl w) fun b1 w1 S1=>?_
 refine St.sm S1 fun b2 w2 S2=>?_
 have S3:St w (dr w2 1) (iz b2 (xr y).toArray T.aq :: iz b1 (xr x).toArray T.aq :: []):=S2.ju ((Fr.refl _ w2).dr 1)
 have x0:ik (dr w2 1) b1 0=some (.int .u64 x.at'):=by rw[S3.swap.cell];rfl
 have x1:ik (dr w2 1) b1 1=some (.int .u64 x.id):=by rw[S3.swap.cell];rfl
 have y0:ik (dr w2 1) b2 0=some (.int .u64 y.at'):=by rw[S3.cell];rfl
 have y1:ik (dr w2 1) b2 1=some (.int .u64 y.id):=by rw[S3.cell];rfl
 simp[x0,x1,y0,y1]
 refine aiw _ _ ?_
 simp[x0,x1,y0,y1]
 refine aiw _ _ ?_
 simp
 have S4:=S3.mkB #[.int .i64 (ws x.at' y.at'),.int .i64 (ws x.id y.id)] T.d
 rw[show (dr w2 1).heap.size=w2.heap.size from rfl] at S4
 have hsl:Sl ((dr w2 1).alloc (.cells #[.int .i64 (ws x.at' y.at'),.int .i64 (ws x.id y.id)] T.d)) 1 ara (.slice (some ⟨w2.heap.size,0,none⟩) 2 2) [ws x.at' y.at',ws x.id y.id]:=by
  have hh:=S4.blk
  refine⟨some ⟨w2.heap.size,0,none⟩,2,rfl,by simp,by simp[maxLen],fun i z hz=>⟨w2.heap.size,0,rfl,lj hh,fun j u hj=>?_⟩⟩
  rw[iq hh]
  match i,j with
  | 0,0=>simp[ara] at hz hj⊢;rw[hz];exact hj
  | 1,0=>simp[ara] at hz hj⊢;rw[hz];exact hj
  | i+2,_=>simp at hz
  | _,j+1=>simp[ara] at hj
 exact bki hsl (h _ S4.fr)
set_option maxRecDepth 100000
open Go.Eng
abbrev vS(g n cap:Nat):Value:= .slice (some ⟨g,0,none⟩) n cap
abbrev CF:Value:= .func (.func F.dx) #[] #[]
theorem bft{g n cap i:Nat}(h:i < n)(w:World)(K:KV):iaT P T.al (vS g n cap) (.int .i64 (i:Nat)) w K=K (.pointer (some ⟨g,i * 2,none⟩)) w:=by simp[h]
theorem bkm(b o:Nat)(x:Pnt)(w:World)(K:KV):stT P T.aq (.pointer (some ⟨b,o,none⟩)) (wy x) w K=stN P b o (xr x) w K:=by
 unfold wy
 simp[xr]
theorem wr1{x:Nat}(h:x < 1000000):IntKind.i64.wrap ((x:Int)+1)=((x+1:Nat):Int):=by rw[iy];rfl
theorem bnh{x:Nat}(h:1<=x)(hx:x < 1000000):IntKind.i64.wrap ((x:Int) - 1)=((x - 1:Nat):Int):=by rw[iy];omega
section
variable {w0 w : World} {R : List Asn} {g n cap : Nat} {l : List Pnt}
theorem aol(S:St w0 w (tt (vS g n cap) l :: R)){i:Nat}(hi:i < l.length)(K:KV):ldN P 2 g (i * 2) w K=K (wy l[i]) w:=by
 obtain⟨b,o,c,hv,_,_,hc⟩:=(S.row wd:awa w (vS g n cap) l).at hi
 injection hv with h1 h2 h3
 injection h1 with h1
 injection h1 with h1 h4
 subst h1 h4
 exact su (xr l[i]) 2 rfl (fun k u hk=>by have:=hc k u hk;rwa [Nat.zero_add] at this) K
theorem azu(S:St w0 w (tt (vS g n cap) l :: R)){i:Nat}(hi:i < l.length)(x:Pnt){K:KV}(h: ∀w',St w0 w' (tt (vS g n cap) (l.set i x) :: R)->K undef w'):stT P T.aq (.pointer (some ⟨g,i * 2,none⟩)) (wy x) w K:=by
 obtain⟨b,c,hv,hs⟩:=St.blr wd anr S hi x
 injection hv with h1 h2 h3
 injection h1 with h1
 injection h1 with h1 h4
 subst h1
 rw[bkm]
 have:=hs K h
 rwa [Nat.zero_add] at this
theorem bit(S:St w0 w R)(x y:Pnt){K:KV}(h: ∀w',St w0 w' R->K (.int .i64 (aml x y)) w'):za P CF [wy x,wy y] w K:=by
 have:=bci (P:=P) F.dx [] [] [wy x,wy y] w K
 rw[show (CF:Value)= .func (.func F.dx) ([]:List Value).toArray ([]:List Value).toArray from rfl,this]
 exact baj x y fun w' f=>h w' (S.ju f)
theorem atf(S:St w0 w (tt (vS g n cap) l :: R)):l.length=n:=by
 obtain⟨_,_,hv,_⟩:=(S.row wd:awa w (vS g n cap) l)
 injection hv with _ h _
 exact h.symm
end
def bmp(w0:World)(g n cap a:Nat)(X Z S:List Pnt)(x:Pnt)(R:List Asn):KL:=fun v w1=> ∃(j:Nat)(S1 S2:List Pnt),v=[.int .i64 (j:Nat)]/\j=a+S1.length/\X.length=a/\ach (S1 ++ S2)/\(∀y∈S2,leS x y)/\(S1 ++ S2).Perm S/\St w0 w1 (tt (vS g n cap) (X ++ (S1 ++ x :: S2) ++ Z) :: R)
def bko(w0:World)(g n cap a b:Nat)(X A Y:List Pnt)(R:List Asn):KL:=fun v w1=> ∃(u:Value)(i:Nat)(S Q:List Pnt),v=[u,.int .i64 (i:Nat)]/\i=a+S.length/\S.length+Q.length=A.length/\1<=S.length/\ach S/\(S ++ Q).Perm A/\St w0 w1 (tt (vS g n cap) (X ++ S ++ Q ++ Y) :: R)
section
variable {w0 w : World} {R : List Asn} {g n cap : Nat} {l : List Pnt}
theorem bjy{a b:Nat}{X A Y:List Pnt}(S:St w0 w (tt (vS g n cap) (X ++ A ++ Y) :: R))(hn:n < 100000)(ha:X.length=a)(hb:a+A.length=b){K:KV}
  (h: ∀w' C,ach C->C.Perm A->St w0 w' (tt (vS g n cap) (X ++ C ++ Y) :: R)->K (.tuple #[]) w'):ie P F.av [vS g n cap,.int .i64 (a:Nat),.int .i64 (b:Nat),CF] w K:=by
 have hlen:=atf S
 simp only[List.length_append] at hlen
 rw[M.f.fcall]
 apply M.f.calls
 unfold M.f
 simp only[lx,wr1 (show a < 1000000 by omega)]
 by_cases hA:A=[]
 ·subst hA
  simp only[List.length_nil] at hb
  refine⟨fun v w1=>v=[undef,.int .i64 ((a+1:Nat):Int)]/\w1=w,fun _ _=>0,⟨rfl,rfl⟩,?_⟩
  rintro v w1 ⟨rfl,rfl⟩
  unfold M.f.j0
  have g1:gv [undef,Value.int .i64 ((a+1:Nat):Int)] 1= .int .i64 ((a+1:Nat):Int):=rfl
  have hlt: ¬((a+1:Nat):Int) < (b:Int):=by omega
  simp only[il,g1,mw,hlt,decide_false,Eng.cond_false]
  exact h w1 [] List.Pairwise.nil (List.Perm.refl _) S
 have hAl:0 < A.length:=List.length_pos_iff.2 hA
 refine⟨bko w0 g n cap a b X A Y R,fun v _=>b - ms v 1,⟨_,a+1,[A[0]],A.drop 1,rfl,rfl,by simp;omega,by simp,by simp,?_,?_⟩,?_⟩
 ·rw[List.singleton_append,show A[0] :: A.drop 1=A from by rw[<-List.drop_eq_getElem_cons hAl,List.drop_zero]]
 ·have e:X ++ [A[0]] ++ A.drop 1 ++ Y=X ++ A ++ Y:=by
   rw[List.append_assoc X,List.singleton_append,show A[0] :: A.drop 1=A from by rw[<-List.drop_eq_getElem_cons hAl,List.drop_zero]]
  rw[e];exact S
 rintro v w1 ⟨u,i,S0,Q,rfl,hi,hl0,h1,hS,hp,T1⟩
 have g1:gv [u,Value.int .i64 (i:Nat)] 1= .int .i64 (i:Nat):=rfl
 unfold M.f.j0
 simp only[il,g1,mw]
 by_cases hib:i < b
 ·have hib':(i:Int) < b:=by omega
  have hQ:0 < Q.length:=by omega
  obtain⟨x,Q',rfl⟩:=List.exists_cons_of_length_pos hQ
  simp only[hib',decide_true,Eng.cond_true]
  refine⟨bmp w0 g n cap a X (Q' ++ Y) S0 x R,fun v _=>ms v 0,⟨i,S0,[],rfl,hi,ha,by simpa using hS,by simp,by simp,by simpa using T1⟩,?_⟩
  rintro v w2 ⟨j,S1,S2,rfl,hj,_,hs12,hle,hp12,T2⟩
  have hl12:=hp12.length_eq
  rw[List.length_append] at hl12
  simp only[List.length_cons] at hl0
  have done: ∀v w3,ach (S1 ++ x :: S2)->St w0 w3 (tt (vS g n cap) (X ++ (S1 ++ x :: S2) ++ (Q' ++ Y)) :: R)->bko w0 g n cap a b X A Y R [v,.int .i64 (IntKind.i64.wrap ((i:Int)+1))] w3/\b - ms [v,.int .i64 (IntKind.i64.wrap ((i:Int)+1))] 1 < b - ms [u,.int .i64 (i:Nat)] 1:=by
   intro v w3 hasc T3
   rw[wr1 (by omega)]
   refine⟨⟨v,i+1,S1 ++ x :: S2,Q',rfl,by simp;omega,by simp;omega,by simp;omega,hasc,?_,by simpa using T3⟩,by simp[ms,gv];omega⟩
   refine List.Perm.trans ?_ hp
   rw[show S0 ++ x :: Q'=(S0 ++ [x]) ++ Q' from by simp]
   refine List.Perm.append_right _ ?_
   refine List.Perm.trans List.perm_middle ?_
   refine List.Perm.trans (List.Perm.cons x hp12) ?_
   exact (List.perm_append_comm (l₁:=S0) (l₂:=[x])).symm
  have g0:gv [Value.int .i64 (j:Nat)] 0= .int .i64 (j:Nat):=rfl
  unfold M.f.j3
  simp only[il,g0]
  have T3:=T2.ju ((Fr.refl _ w2).dr 1)
  by_cases hja:a < j
  ·have hS1:0 < S1.length:=by omega
   obtain⟨S1',y,rfl⟩: ∃S1' y,S1=S1' ++ [y]:=⟨S1.dropLast,S1.getLast (List.ne_nil_of_length_pos hS1),(List.dropLast_concat_getLast _).symm⟩
   have hja':(a:Int) < (j:Int):=by omega
   simp only[List.length_append,List.length_singleton] at hj hl12
   have ej:j - 1=X.length+S1'.length:=by omega
   have eL:X ++ (S1' ++ [y] ++ x :: S2) ++ (Q' ++ Y)=(X ++ S1') ++ y :: ([] ++ x :: (S2 ++ (Q' ++ Y))):=by simp
   have eL2:X ++ (S1' ++ x :: (y :: S2)) ++ (Q' ++ Y)=(X ++ S1') ++ x :: ([] ++ y :: (S2 ++ (Q' ++ Y))):=by simp
   have j1:j < (X ++ (S1' ++ [y] ++ x :: S2) ++ (Q' ++ Y)).length:=by simp;omega
   have j2:j - 1 < (X ++ (S1' ++ [y] ++ x :: S2) ++ (Q' ++ Y)).length:=by omega
   have r1:(X ++ (S1' ++ [y] ++ x :: S2) ++ (Q' ++ Y))[j]=x:=by
    have hjj:j=(X ++ S1' ++ [y]).length:=by simp;omega
    have e:X ++ (S1' ++ [y] ++ x :: S2) ++ (Q' ++ Y)=(X ++ S1' ++ [y]) ++ x :: (S2 ++ (Q' ++ Y)):=by simp
    simp only[e,hjj]
    simp
   have r2:(X ++ (S1' ++ [y] ++ x :: S2) ++ (Q' ++ Y))[j - 1]=y:=by
    have hjj:j - 1=(X ++ S1').length:=by simp;omega
    have e:X ++ (S1' ++ [y] ++ x :: S2) ++ (Q' ++ Y)=(X ++ S1') ++ y :: (x :: S2 ++ (Q' ++ Y)):=by simp
    simp only[e,hjj]
    simp
   have d1:=aol T3 j1
   have d2:=aol T3 j2
   rw[r1] at d1
   rw[r2] at d2
   have i1:=fun w K=>bft (g:=g) (cap:=cap) (show j < n by omega) w K
   have i2:=fun w K=>bft (g:=g) (cap:=cap) (show j - 1 < n by omega) w K
   have hw:=bnh (x:=j) (by omega) (by omega)
   have b1:(j:Int) < n:=by omega
   have b2:((j - 1:Nat):Int) < n:=by omega
   simp[hja,hja',hw,i1,i2,b1,b2,d1,d2]
   refine bit T3 x y fun w4 T4=>?_
   by_cases hc:leS y x
   ·have hlt: ¬aml x y < 0:=fun hh=>atv.1 hh hc
    simp[hlt]
    refine done _ _ ?_ T4
    have h12:=List.pairwise_append.1 hs12
    refine List.pairwise_append.2 ⟨h12.1,List.pairwise_cons.2 ⟨hle,h12.2.1⟩,fun c hcm q hq=>?_⟩
    rcases List.mem_cons.1 hq with rfl|hq
    ·rcases List.mem_append.1 hcm with hcm|hcm
     ·exact ((List.pairwise_append.1 h12.1).2.2 c hcm y (by simp)).trans hc
     ·rw[List.mem_singleton.1 hcm];exact hc
    ·exact h12.2.2 c hcm q hq
   ·have hlt:aml x y < 0:=atv.2 hc
    simp[hlt]
    unfold M.f.j4
    have T5:=T4.ju ((Fr.refl _ w4).dr 1)
    have d1:=aol T5 j1
    have d2:=aol T5 j2
    rw[r1] at d1
    rw[r2] at d2
    simp[hw,i1,i2,b1,b2,d1,d2]
    refine azu T5 j1 y fun w6 T6=>?_
    refine azu T6 (by simpa using j2) x fun w7 T7=>?_
    have e:((X ++ (S1' ++ [y] ++ x :: S2) ++ (Q' ++ Y)).set j y).set (j - 1) x=X ++ (S1' ++ x :: (y :: S2)) ++ (Q' ++ Y):=by
     have:=bgu (X ++ S1') [] (S2 ++ (Q' ++ Y)) y x (l:=X ++ (S1' ++ [y] ++ x :: S2) ++ (Q' ++ Y)) (i:=j - 1) (j:=j) eL (by simp;omega) (by simp;omega) j2 j1
     unfold bdw at this
     rw[r1,r2] at this
     rw[eL2,<-this,List.set_comm _ _ (by omega)]
    rw[e] at T7
    refine⟨⟨j - 1,S1',y :: S2,rfl,by omega,ha,by simpa using hs12,fun z hz=>?_,by simpa using hp12,T7⟩,by simp[ms,gv];omega⟩
    rcases List.mem_cons.1 hz with rfl|hz
    ·exact leS.of hc
    ·exact hle z hz
  ·have hja': ¬(a:Int) < (j:Int):=by omega
   have hS1:S1=[]:=List.length_eq_zero_iff.1 (by omega)
   subst hS1
   simp[hja,hja']
   have:=done (.int .i64 (j:Nat)) _ (List.pairwise_cons.2 ⟨hle,by simpa using hs12⟩) T3
   simpa using this
 ·have hib': ¬(i:Int) < b:=by omega
  have hQ:Q=[]:=List.length_eq_zero_iff.1 (by omega)
  subst hQ
  simp only[hib',decide_false,Eng.cond_false]
  exact h w1 S0 hS (by simpa using hp) (by simpa using T1)
end
def awy(x y:Int):Int:=IntKind.u64.wrap (BitVec.ofInt IntKind.u64.bits x ^^^ BitVec.ofInt IntKind.u64.bits y).toNat
def shU(x:Int)(k:Nat):Int:=x.fdiv (2 ^ min k IntKind.u64.bits)
def bmf(a:Int):Int:=awy a (shU a 31)
def bmh(a:Int):Int:=bmf (IntKind.u64.wrap (awy a (shU a 27) * 10723151780598845931))
def bnj(a:Int):Int:=bmh (IntKind.u64.wrap (awy a (shU a 30) * 13787848793156543929))
def ajb(n:Int):Int:=bnj (IntKind.u64.wrap (n+11400714819323198485))
theorem aqi{w:World}(n:Int){K:KV}(h:K (.int .u64 (ajb n)) w):ie P F.fk [.int .u64 n] w K:=by
 rw[M.fp.fcall]
 apply M.fp.calls
 unfold M.fp
 have sh: ∀(t:TypeId)(rx ry:Operand)(x y:Int)(hy:0<=y)(w:World)(K:KV),ip P .shr t rx ry (.int .u64 x) (.int .u64 y) w K=K (.int .u64 (shU x y.toNat)) w:=fun t rx ry x y hy w K=>by rw[abu hy];rfl
 have xo: ∀(t:TypeId)(rx ry:Operand)(x y:Int)(w:World)(K:KV),ip P .xor t rx ry (.int .u64 x) (.int .u64 y) w K=K (.int .u64 (awy x y)) w:=fun t rx ry x y w K=>by rw[atl];rfl
 simp only[lx,sh _ _ _ _ 30 (by decide),sh _ _ _ _ 27 (by decide),sh _ _ _ _ 31 (by decide),xo,vm]
 exact h
def atI(id:Int)(i:Nat):Int:=ajb (IntKind.u64.wrap (ajb id+(i:Int)))
theorem auv{w:World}(id:Int){i:Nat}(hi:i < 1000){K:KV}(h:K (.int .u64 (atI id i)) w):ie P F.gt [.int .u64 id,.int .i64 (i:Nat)] w K:=by
 rw[M.gb.fcall]
 apply M.gb.calls
 unfold M.gb
 refine aqi id ?_
 have hw:IntKind.u64.wrap (i:Int)=(i:Int):=lr (by omega) (by omega)
 have hc: ∀w K,cvT P T.d T.a (.int .i64 (i:Nat)) w K=K (.int .u64 (i:Nat)) w:=fun w K=>by rw[ou (ks:= .i64) (kd:= .u64) (by kernel_rfl) (by kernel_rfl),hw]
 simp only[hc,lx]
 exact aqi _ h
def aaz(id:Int)(n:Nat):List Pnt:=(List.range n).map fun i=>⟨atI id i,id⟩
def abg(ids:List Int)(n:Nat):List Pnt:=ids.flatMap fun id=>aaz id n
theorem afq(id:Int)(n:Nat):(aaz id n).length=n:=by simp[aaz]
theorem aff(ids:List Int)(n:Nat):(abg ids n).length=ids.length * n:=by
 unfold abg
 induction ids with
 | nil=>simp
 | cons a l ih=>rw[List.flatMap_cons,List.length_append,ih,afq,List.length_cons,Nat.add_mul];omega
theorem ays(id:Int){n i:Nat}(hi:i < n):(aaz id n).take (i+1)=(aaz id n).take i ++ [⟨atI id i,id⟩]:=by
 rw[List.take_succ_eq_append_getElem (by rw[afq];exact hi)]
 simp[aaz]
theorem axc{ids:List Int}{n i:Nat}(hi:i < ids.length):abg (ids.take (i+1)) n=abg (ids.take i) n ++ aaz ids[i] n:=by
 unfold abg
 rw[List.take_succ_eq_append_getElem hi,List.flatMap_append]
 simp
section
variable {w0 w : World} {R : List Asn}
theorem bjg(x:Pnt)(w':World)(K:KV):bsT P T.al 1 #[(0,.agg #[.int .u64 x.at',.int .u64 x.id])] w' K=K (.slice (some ⟨w'.heap.size,0,none⟩) 1 1) (w'.alloc (.cells #[.int .u64 x.at',.int .u64 x.id] T.aq)):=kr
theorem beh{g n cap:Nat}{l:List Pnt}(S:St w0 w (tt (vS g n cap) l :: R))(hn:n<=12){K:KV}(h: ∀w' l',ach l'->l'.Perm l->St w0 w' (tt (vS g n cap) l' :: R)->K (.tuple #[]) w'):ie P F.ai [vS g n cap,CF] w K:=by
 have hlen:=atf S
 rw[M.ay.fcall]
 apply M.ay.calls
 unfold M.ay
 have hw:IntKind.u64.wrap (n:Int)=(n:Int):=lr (by omega) (by omega)
 have hc: ∀w K,cvT P T.d T.bs (.int .i64 (n:Nat)) w K=K (.int .u64 (n:Nat)) w:=fun w K=>by rw[ou (ks:= .i64) (kd:= .u64) (by kernel_rfl) (by kernel_rfl),hw]
 simp[hc]
 rw[M.dr.fcall]
 refine aih (x:=n) (by omega) ?_
 rw[M.b.fcall]
 apply M.b.calls
 unfold M.b
 refine⟨fun x w1=>(gv x 5= .int .i64 ((0:Nat):Int)/\gv x 13= .int .i64 (n:Nat))/\w1=w,fun _ _=>0,⟨⟨rfl,rfl⟩,rfl⟩,?_⟩
 rintro x w1 ⟨⟨x5,x13⟩,rfl⟩
 unfold M.b.j0
 have hs:IntKind.i64.wrap ((n:Int) - 0)=n:=by rw[iy];omega
 have h12:(n:Int)<=12:=by omega
 simp only[il,x5,x13,nf]
 simp only[Int.natCast_zero,hs,aeh,h12,decide_true,Eng.cond_true,ig]
 refine bjy (X:=[]) (A:=l) (Y:=[]) (a:=0) (b:=n) (by simpa using S) (by omega) rfl (by omega) fun w' C h1 h2 S'=>h w' C h1 h2 (by simpa using S')
end
end Go.Proofs.YtgepcfcicngceaaGreatDoor.Ring
