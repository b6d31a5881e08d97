/-
  Packets: the packet of a thing with a row (spans, stored, acked). No condition. Printed by ms9.py.
-/
import Derived.Test.YtgepcfcicngceaaGreatDoorZTim4
import Derived.Test.YtgepcfcicngceaaGreatDoorZSpn0
import Derived.Test.YtgepcfcicngceaaGreatDoorZEngSl
import Derived.Test.YtgepcfcicngceaaGreatDoorZSgE
import Derived.Test.YtgepcfcicngceaaGreatDoorM
import Derived.Test.YtgepcfcicngceaaGreatDoorFacts
set_option maxRecDepth 100000
namespace Go.Proofs.YtgepcfcicngceaaGreatDoor
open Go.Eng
theorem amf{w:World}{tr:Int}{d:Bool}{v:Value}{l:List Spn}(hs:SlS w v l)(hlen:l.length<=1000000){K:KV}(h: ∀w' v',SlS w' v' l->Fz w w'->K (pkA ⟨if d=true then 2 else 1,tr,jc,jc,0,false,v',ke,ke⟩) w'):ig P F.bd [.iface T.y (.agg #[.int .u64 tr,.bool d,v])] w K:=by
 rw[M.ae.fcall]
 apply M.ae.calls
 unfold M.ae
 obtain⟨a,c,hv,_⟩:=id hs
 rw[hv]
 simp
 have S0:=ahi w
 have z0:(w.alloc (.cells #[.int .i64 0,.int .u64 0,.int .u64 0,.int .u64 0,.int .u64 0,.int .u64 0,.int .i64 0,.bool false,.slice none 0 0,.slice none 0 0,.slice none 0 0] T.c)).heap.size=w.heap.size+1:=jd _ _
 generalize w.alloc (.cells #[.int .i64 0,.int .u64 0,.int .u64 0,.int .u64 0,.int .u64 0,.int .u64 0,.int .i64 0,.bool false,.slice none 0 0,.slice none 0 0,.slice none 0 0] T.c)=w1 at *
 have S1:=aey S0 #[.int .u64 0,.bool false,.slice none 0 0] T.y
 rw[z0] at S1
 generalize w.heap.size=pb at *
 generalize pb+1=ob at *
 refine jx (vs:=[Value.int .u64 tr,.bool d,.slice a l.length c]) S1.blk rfl (by simp[kw]) fun w2 b2 f2=>?_
 have S2:=S1.nt f2 b2
 have thC: ∀{W:World}{R:List Asn},St w W (ja ob [Value.int .u64 tr,.bool d,.slice a l.length c].toArray T.y :: R)->il W ob 0=some (.int .u64 tr)/\il W ob 1=some (.bool d)/\il W ob 2=some (.slice a l.length c):=fun{W R} S'=>by
  have hh:=S'.blk
  exact⟨by rw[iu hh];rfl,by rw[iu hh];rfl,by rw[iu hh];rfl⟩
 have hpl:pb < w2.heap.size:=(Array.getElem?_eq_some_iff.1 S2.swap.blk).1
 have fd:Fz w2 (dr w2 1):=(Fr.refl _ w2).dr 1
 have Sd:=S2.ju fd
 obtain⟨c0,c1,c2⟩:=thC S2
 obtain⟨e0,e1,e2⟩:=thC Sd
 simp[c0,c2,e0,e2]
 rw[<-hv]
 rw[M.v.fcall]
 refine yg ((hs.fr Sd.fr fun _ _ _ h=>h)) hlen fun w3 v3 s3 n3 f3=>?_
 obtain⟨a3,c3,hv3,_⟩:=id s3
 have S3:=Sd.ju f3
 obtain⟨g0,g1,g2⟩:=thC S3
 have hnn: ∀b,v3.ownBlock=some b->b≠pb:=fun b hb=>by
  have:=n3 b hb
  have:=fd.size
  omega
 rw[hv3] at s3 hnn⊢
 simp[g0,g2]
 refine jx (vs:=pkC ⟨1,tr,jc,jc,0,false,.slice a3 l.length c3,ke,ke⟩) S3.swap.blk rfl vn fun w4 b4 f4=>?_
 have S4:=S3.swap.nt f4 b4
 have s4:SlS w4 (.slice a3 l.length c3) l:=s3.fr f4 fun b hb _=>hnn b hb
 obtain⟨i0,i1,i2⟩:=thC S4.swap
 cases d with
 | false=>
  simp[i0,i2,i1]
  rw[za S4]
  have e:pkA ⟨1,tr,jc,jc,0,false,.slice a3 l.length c3,ke,ke⟩= .agg #[.int .i64 1,.int .u64 tr,.int .u64 0,.int .u64 0,.int .u64 0,.int .u64 0,.int .i64 0,.bool false,.slice a3 l.length c3,.slice none 0 0,.slice none 0 0]:=rfl
  rw[e]
  simp
  refine jx (vs:=pkC ⟨1,tr,jc,jc,0,false,.slice a3 l.length c3,ke,ke⟩) S4.blk rfl vn fun w5 b5 f5=>?_
  have S5:=S4.nt f5 b5
  rw[acr S5]
  exact⟨rfl,h w5 _ (s4.fr f5 fun b hb _=>hnn b hb) S5.fr⟩
 | true=>
  have e0:=aar S4.blk 0 _ rfl
  have ez:=lr S4.blk
  simp[i0,i2,i1,e0,ez]
  have f6:Fr (fun x=>x=pb) w4 (w4.setCell ⟨pb,0,none⟩ (.int .i64 2)):=(Fr.refl (fun x=>x=pb) w4).setCell (.inl rfl) _ _
  have S6:St w (w4.setCell ⟨pb,0,none⟩ (.int .i64 2)) (ja pb (pkC ⟨2,tr,jc,jc,0,false,.slice a3 l.length c3,ke,ke⟩).toArray T.c :: _):=S4.nt f6 ((mo S4.blk).trans rfl)
  have s6:SlS (w4.setCell ⟨pb,0,none⟩ (.int .i64 2)) (.slice a3 l.length c3) l:=s4.fr f6 fun b hb _=>hnn b hb
  rw[za S6]
  have e:pkA ⟨2,tr,jc,jc,0,false,.slice a3 l.length c3,ke,ke⟩= .agg #[.int .i64 2,.int .u64 tr,.int .u64 0,.int .u64 0,.int .u64 0,.int .u64 0,.int .i64 0,.bool false,.slice a3 l.length c3,.slice none 0 0,.slice none 0 0]:=rfl
  rw[e]
  simp
  refine jx (vs:=pkC ⟨2,tr,jc,jc,0,false,.slice a3 l.length c3,ke,ke⟩) S6.blk rfl vn fun w5 b5 f5=>?_
  have S5:=S6.nt f5 b5
  rw[acr S5]
  exact⟨rfl,h w5 _ (s6.fr f5 fun b hb _=>hnn b hb) S5.fr⟩
theorem ale{w:World}{tr:Int}{b:Bal}{v:Value}{l:List Spn}(hs:SlS w v l)(hlen:l.length<=1000000){K:KV}(h: ∀w' v',SlS w' v' l->Fz w w'->K (pkA ⟨9,tr,b,jc,0,false,v',ke,ke⟩) w'):ig P F.bd [.iface T.t (.agg #[.int .u64 tr,.int .u64 b.n,.int .u64 b.jk,v])] w K:=by
 rw[M.ae.fcall]
 apply M.ae.calls
 unfold M.ae
 obtain⟨a,c,hv,_⟩:=id hs
 rw[hv]
 simp[adx,abu,agm,adr,aen]
 have S0:=ahi w
 have z0:(w.alloc (.cells #[.int .i64 0,.int .u64 0,.int .u64 0,.int .u64 0,.int .u64 0,.int .u64 0,.int .i64 0,.bool false,.slice none 0 0,.slice none 0 0,.slice none 0 0] T.c)).heap.size=w.heap.size+1:=jd _ _
 generalize w.alloc (.cells #[.int .i64 0,.int .u64 0,.int .u64 0,.int .u64 0,.int .u64 0,.int .u64 0,.int .i64 0,.bool false,.slice none 0 0,.slice none 0 0,.slice none 0 0] T.c)=w1 at *
 have S1:=aey S0 #[.int .u64 0,.int .u64 0,.int .u64 0,.slice none 0 0] T.t
 rw[z0] at S1
 generalize w.heap.size=pb at *
 generalize pb+1=ob at *
 refine jx (vs:=[Value.int .u64 tr,.int .u64 b.n,.int .u64 b.jk,.slice a l.length c]) S1.blk rfl (by simp[kw]) fun w2 b2 f2=>?_
 have S2:=S1.nt f2 b2
 have thC: ∀{W:World}{R:List Asn},St w W (ja ob [Value.int .u64 tr,.int .u64 b.n,.int .u64 b.jk,.slice a l.length c].toArray T.t :: R)->il W ob 0=some (.int .u64 tr)/\(∀K,ldN P 2 ob 1 W K=K (.agg #[.int .u64 b.n,.int .u64 b.jk]) W)/\il W ob 3=some (.slice a l.length c):=fun{W R} S'=>by
  have hh:=S'.blk
  exact⟨by rw[iu hh];rfl,fun K=>zn (by rw[iu hh];rfl) (by rw[iu hh];rfl) K,by rw[iu hh];rfl⟩
 have hpl:pb < w2.heap.size:=(Array.getElem?_eq_some_iff.1 S2.swap.blk).1
 have fd:Fz w2 (dr w2 1):=(Fr.refl _ w2).dr 1
 have Sd:=S2.ju fd
 obtain⟨c0,c1,c2⟩:=thC S2
 obtain⟨e0,e1,e2⟩:=thC Sd
 simp[c0,c1,c2,e0,e1,e2]
 rw[<-hv]
 rw[M.v.fcall]
 refine yg ((hs.fr Sd.fr fun _ _ _ h=>h)) hlen fun w3 v3 s3 n3 f3=>?_
 obtain⟨a3,c3,hv3,_⟩:=id s3
 have S3:=Sd.ju f3
 obtain⟨g0,g1,g2⟩:=thC S3
 have hnn: ∀b,v3.ownBlock=some b->b≠pb:=fun b hb=>by
  have:=n3 b hb
  have:=fd.size
  omega
 rw[hv3] at s3 hnn⊢
 simp[g0,g1,g2]
 refine jx (vs:=pkC ⟨9,tr,b,jc,0,false,.slice a3 l.length c3,ke,ke⟩) S3.swap.blk rfl vn fun w4 b4 f4=>?_
 have S4:=S3.swap.nt f4 b4
 have s4:SlS w4 (.slice a3 l.length c3) l:=s3.fr f4 fun b hb _=>hnn b hb
 rw[za S4]
 have e:pkA ⟨9,tr,b,jc,0,false,.slice a3 l.length c3,ke,ke⟩= .agg #[.int .i64 9,.int .u64 tr,.int .u64 b.n,.int .u64 b.jk,.int .u64 0,.int .u64 0,.int .i64 0,.bool false,.slice a3 l.length c3,.slice none 0 0,.slice none 0 0]:=rfl
 rw[e]
 simp
 refine jx (vs:=pkC ⟨9,tr,b,jc,0,false,.slice a3 l.length c3,ke,ke⟩) S4.blk rfl vn fun w5 b5 f5=>?_
 have S5:=S4.nt f5 b5
 rw[acr S5]
 exact⟨rfl,h w5 _ (s4.fr f5 fun b hb _=>hnn b hb) S5.fr⟩
theorem amn{w:World}{tr:Int}{v:Value}{l:List Int}(hs:SlU w v l)(hlen:l.length<=1000000){K:KV}(h: ∀w' v',SlU w' v' l->Fz w w'->K (pkA ⟨10,tr,jc,jc,0,false,ke,ke,v'⟩) w'):ig P F.bd [.iface T.aa (.agg #[.int .u64 tr,v])] w K:=by
 rw[M.ae.fcall]
 apply M.ae.calls
 unfold M.ae
 obtain⟨a,c,hv,_⟩:=id hs
 rw[hv]
 simp[ael,acv,agx,aeo,agn,adq]
 have S0:=ahi w
 have z0:(w.alloc (.cells #[.int .i64 0,.int .u64 0,.int .u64 0,.int .u64 0,.int .u64 0,.int .u64 0,.int .i64 0,.bool false,.slice none 0 0,.slice none 0 0,.slice none 0 0] T.c)).heap.size=w.heap.size+1:=jd _ _
 generalize w.alloc (.cells #[.int .i64 0,.int .u64 0,.int .u64 0,.int .u64 0,.int .u64 0,.int .u64 0,.int .i64 0,.bool false,.slice none 0 0,.slice none 0 0,.slice none 0 0] T.c)=w1 at *
 have S1:=aey S0 #[.int .u64 0,.slice none 0 0] T.aa
 rw[z0] at S1
 generalize w.heap.size=pb at *
 generalize pb+1=ob at *
 refine jx (vs:=[Value.int .u64 tr,.slice a l.length c]) S1.blk rfl (by simp[kw]) fun w2 b2 f2=>?_
 have S2:=S1.nt f2 b2
 have thC: ∀{W:World}{R:List Asn},St w W (ja ob [Value.int .u64 tr,.slice a l.length c].toArray T.aa :: R)->il W ob 0=some (.int .u64 tr)/\il W ob 1=some (.slice a l.length c):=fun{W R} S'=>by
  have hh:=S'.blk
  exact⟨by rw[iu hh];rfl,by rw[iu hh];rfl⟩
 have hpl:pb < w2.heap.size:=(Array.getElem?_eq_some_iff.1 S2.swap.blk).1
 have fd:Fz w2 (dr w2 1):=(Fr.refl _ w2).dr 1
 have Sd:=S2.ju fd
 obtain⟨c0,c1⟩:=thC S2
 obtain⟨e0,e1⟩:=thC Sd
 simp[c0,c1,e0,e1]
 rw[<-hv]
 refine abk ((hs.fr Sd.fr fun _ _ _ h=>h)) hlen fun w3 v3 s3 n3 f3=>?_
 obtain⟨a3,c3,hv3,_⟩:=id s3
 have S3:=Sd.ju f3
 obtain⟨g0,g1⟩:=thC S3
 have hnn: ∀b,v3.ownBlock=some b->b≠pb:=fun b hb=>by
  have:=n3 b hb
  have:=fd.size
  omega
 rw[hv3] at s3 hnn⊢
 simp[g0,g1]
 refine jx (vs:=pkC ⟨10,tr,jc,jc,0,false,ke,ke,.slice a3 l.length c3⟩) S3.swap.blk rfl vn fun w4 b4 f4=>?_
 have S4:=S3.swap.nt f4 b4
 have s4:SlU w4 (.slice a3 l.length c3) l:=s3.fr f4 fun b hb _=>hnn b hb
 rw[za S4]
 have e:pkA ⟨10,tr,jc,jc,0,false,ke,ke,.slice a3 l.length c3⟩= .agg #[.int .i64 10,.int .u64 tr,.int .u64 0,.int .u64 0,.int .u64 0,.int .u64 0,.int .i64 0,.bool false,.slice none 0 0,.slice none 0 0,.slice a3 l.length c3]:=rfl
 rw[e]
 simp
 refine jx (vs:=pkC ⟨10,tr,jc,jc,0,false,ke,ke,.slice a3 l.length c3⟩) S4.blk rfl vn fun w5 b5 f5=>?_
 have S5:=S4.nt f5 b5
 rw[acr S5]
 exact⟨rfl,h w5 _ (s4.fr f5 fun b hb _=>hnn b hb) S5.fr⟩
set_option maxRecDepth 100000
def ta(p:Pk)(ls:List Spn)(lm:List Mem)(lu:List Int):Bool:=
 if p.jh=1\/p.jh=2 then agz p.tr ls else if p.jh=3 then wt lm else if p.jh=4\/p.jh=6 then arm p.tr p.b p.v else if p.jh=5\/p.jh=7 then ahx p.tr p.b p.ok p.jt p.v (decide (p.jh=7)) else if p.jh=8 then apa p.tr p.v else if p.jh=9 then aic p.tr p.b ls else if p.jh=10 then akq p.tr lu else false
theorem ThR.fr{w w':World}{p:Pk}{ls:List Spn}{lm:List Mem}{lu:List Int}{t:Value}(h:ThR w p ls lm lu t)(hf:Fz w w'):ThR w' p ls lm lu t:=by
 cases h with
 | kg v hk hs=>exact .kg v hk (hs.fr hf fun _ _ _ h=>h)
 | aka v hk hs=>exact .aka v hk (hs.fr hf fun _ _ _ h=>h)
 | ask hk=>exact .ask hk
 | aao hk=>exact .aao hk
 | sn hk=>exact .sn hk
 | xy v hk hs=>exact .xy v hk (hs.fr hf fun _ _ _ h=>h)
 | aaq v hk hs=>exact .aaq v hk (hs.fr hf fun _ _ _ h=>h)
 | none hk=>exact .none hk
theorem bil(n:Nat)(w:World)(K:KV):iq P .eql T.bf (.tmp n) (.const .nilIface) .nilIface .nilIface w K=K (.bool true) w:=kr
theorem ThR.eqn{w:World}{p:Pk}{ls:List Spn}{lm:List Mem}{lu:List Int}{t:Value}(h:ThR w p ls lm lu t)(hk:1<=p.jh/\p.jh<=10)(rx ry:Operand)(w1:World)(K:KV):iq P .eql T.bf rx ry t .nilIface w1 K=K (.bool false) w1:=by
 cases h with
 | kg v hk hs=>exact aye _ _ _ _ _
 | aka v hk hs=>exact ass _ _ _ _ _
 | ask hk=>exact bij _ _ _ _ _
 | aao hk=>exact bbu _ _ _ _ _
 | sn hk=>exact bek _ _ _ _ _
 | xy v hk hs=>exact auz _ _ _ _ _
 | aaq v hk hs=>exact azy _ _ _ _ _
 | none hn=>exact absurd hk hn
theorem ThR.bmn{w:World}{p:Pk}{ls:List Spn}{lm:List Mem}{lu:List Int}{t:Value}(h:ThR w p ls lm lu t)(hk: ¬(1<=p.jh/\p.jh<=10)):t= .nilIface:=by
 cases h with
 | none hn=>rfl
 | _=>omega
theorem bhf{w:World}{p:Pk}{ls:List Spn}{lm:List Mem}{lu:List Int}{t:Value}(ht:ThR w p ls lm lu t)(hk:1<=p.jh/\p.jh<=10)(l1:ls.length<=1000000)(l2:lm.length<=1000000)(l3:lu.length<=1000000){K:KV}
  (h: ∀w',Fz w w'->K (.bool (ta p ls lm lu)) w'):ig P F.bk [t] w K:=by
 unfold ta at h
 cases ht with
 | kg v q hs=>simp only[if_pos q] at h;exact aoy hs l1 h
 | aka v q hs=>simp only[q,show¬((3:Int)=1\/(3:Int)=2) by omega,if_false,if_true] at h;exact ant hs l2 h
 | ask q=>rw[if_neg (by omega),if_neg (by omega),if_pos q] at h;exact ata h
 | aao q=>rw[if_neg (by omega),if_neg (by omega),if_neg (by omega),if_pos q] at h;exact aox h
 | sn q=>rw[if_neg (by omega),if_neg (by omega),if_neg (by omega),if_neg (by omega),if_pos q] at h;exact aqk h
 | xy v q hs=>rw[if_neg (by omega),if_neg (by omega),if_neg (by omega),if_neg (by omega),if_neg (by omega),if_pos q] at h;exact amh hs l1 h
 | aaq v q hs=>rw[if_neg (by omega),if_neg (by omega),if_neg (by omega),if_neg (by omega),if_neg (by omega),if_neg (by omega),if_pos q] at h;exact aou hs l3 h
 | none q=>exact absurd hk q
structure ala(p:Pk):Prop where
 tr:ym p.tr
 b:p.b.rng
 jt:p.jt.rng
structure aga(s:Spn):Prop where
 tr:ym s.je
 id:ym s.id
 par:ym s.me
 st:ym s.jy
 ln:ym s.len
def bed(p:Nat):Value:= .pointer (some ⟨p,0,none⟩)
theorem asd{w0 w:World}{R:List Asn}(S:St w0 w R)(cs:Array Value)(e:TypeId):St w0 (w.alloc (.cells cs e)) (ja w.heap.size cs e :: R):=S.add ((Fr.refl _ w).alloc _) (B:=fun x=>x=w.heap.size) ⟨by rw[iz,if_pos rfl],rfl⟩ fun x hx=>by subst hx;rw[jd];omega
def yr(a b:Int):Int:=if a < b then -1 else if b < a then 1 else 0
theorem aix{w:World}(a b:Int){K:KV}(h:K (.int .i64 (yr a b)) w):ig P F.az [.int .u64 a,.int .u64 b] w K:=by
 have nan: ∀(z:Int){K:KV},K (.bool false) w->ig P F.ag [.int .u64 z] w K:=fun z K hK=>by
  rw[M.de.fcall]
  apply M.de.calls
  unfold M.de
  simpa using hK
 rw[M.bf.fcall]
 apply M.bf.calls
 unfold M.bf
 refine nan a ?_
 refine nan b ?_
 simp
 unfold M.bf.j2
 unfold yr at h
 by_cases h1:a < b
 ·simp[h1] at h⊢;exact h
 ·by_cases h2:b < a
  ·simp[h1,h2] at h⊢;exact h
  ·simp[h1,h2] at h⊢;exact h
theorem bjj{w:World}{v:Value}{l:List Int}(hs:Sl w 1 acz v l)(hlen:l.length<=1000){K:KV}(h:K (.int .i64 (orK l)) w):jr P F.fp [v] w K:=by
 apply M.ds.calls
 unfold M.ds
 simp only[im]
 rw[hs.jp (by simp)]
 refine⟨OrI w l,fun x _=>l.length - ms x 2,⟨_,_,0,rfl,rfl,Nat.zero_le _,fun j k _ h=>by omega⟩,?_⟩
 rintro x w1 ⟨a,b,i,rfl,rfl,hi,hz⟩
 have gv2:gv [a,b,.int .i64 (i:Int)] 2= .int .i64 (i:Int):=rfl
 simp only[gv2]
 by_cases hil:i < l.length
 ·obtain⟨bb,o,cap,rfl,hb,_,hr⟩:=hs.at hil
  have e0:=hr 0 _ rfl
  simp only[Nat.mul_one,Nat.add_zero] at e0
  have hw:IntKind.i64.wrap ((i:Int)+1)=((i+1:Nat):Int):=by rw[iy];rfl
  simp[hil]
  unfold M.ds.j2
  simp only[im,gv2]
  by_cases hk:l[i]=0
  ·simp[hil,e0,hk,hw]
   refine⟨⟨_,_,i+1,rfl,rfl,by omega,fun j k hj hlt=>?_⟩,by simp[ms,gv];omega⟩
   by_cases hji:j=i
   ·subst hji
    rw[List.getElem?_eq_getElem hil] at hj
    cases hj;exact hk
   ·exact hz j k hj (by omega)
  ·simp[hil,e0,hk]
   have:orK l=l[i]:=by
    unfold orK
    have:l.find? (fun k=>!decide (k=0))=some l[i]:=by
     rw[List.find?_eq_some_iff_getElem]
     refine⟨by simpa using hk,i,hil,rfl,fun j hj=>?_⟩
     have:=hz j _ (List.getElem?_eq_getElem (by omega)) hj
     simp[this]
    rw[this];rfl
   rw[this] at h;exact h
 ·simp[hil]
  have:orK l=0:=by
   unfold orK
   have:l.find? (fun k=>!decide (k=0))=none:=by
    rw[List.find?_eq_none]
    intro k hk
    obtain⟨j,hj,rfl⟩:=List.mem_iff_getElem.1 hk
    have:=hz j _ (List.getElem?_eq_getElem hj) (by omega)
    simp[this]
   rw[this];rfl
  rw[this] at h;exact h
theorem or2(a b:Int):orK [a,b]=if a=0 then b else a:=by
 unfold orK
 by_cases ha:a=0 <;>by_cases hb:b=0 <;>simp[ha,hb]
theorem beb{a b:Bal}:decide ((orK [yr a.n b.n,yr a.jk b.jk]) < 0)=a.apk b:=by
 rw[or2]
 unfold yr Bal.apk
 apply decide_eq_decide.2
 repeat' split
 all_goals omega
theorem anl{w:World}{b:Nat}{x:Bal}{f:Nat×Nat}(h:w.heap[b]? =some (.cells #[.int .u64 x.n,.int .u64 x.jk] T.e f)):il w b 0=some (.int .u64 x.n)/\il w b 1=some (.int .u64 x.jk)/\∀K,ldN P 2 b 0 w K=K (kq x) w:=
 ⟨by rw[iu h];rfl,by rw[iu h];rfl,fun K=>zn (by rw[iu h];rfl) (by rw[iu h];rfl) K⟩
theorem bnf(x y:Bal){w:World}{Q:Value->Value->World->Prop}(h: ∀w1 b1 b2,St w w1 (ja b2 #[.int .u64 y.n,.int .u64 y.jk] T.e :: ja b1 #[.int .u64 x.n,.int .u64 x.jk] T.e :: [])->Q (bed b1) (bed b2) w1):
  lj P T.e (kq x) w fun v1 w1=>lj P T.e (kq y) w1 fun v2 w2=>Q v1 v2 w2:=by
 rw[ub,ub]
 exact h _ _ _ (asd (asd (St.jy w) #[.int .u64 x.n,.int .u64 x.jk] T.e) #[.int .u64 y.n,.int .u64 y.jk] T.e)
theorem bbr{w:World}(x y:Bal){K:KV}(h: ∀w',Fz w w'->K (.int .i64 (orK [yr x.n y.n,yr x.jk y.jk])) w'):ig P F.gg [kq x,kq y] w K:=by
 rw[M.fg.fcall]
 apply M.fg.calls
 unfold M.fg
 refine bnf x y fun w1 b1 b2 S1=>?_
 have S2:=S1.ju ((Fr.refl _ w1).dr 1)
 obtain⟨y0,y1,_⟩:=anl S2.blk
 obtain⟨x0,x1,_⟩:=anl S2.swap.blk
 simp only[bed]
 rw[pu]
 simp only[abd] at x0 x1 y0 y1
 simp[x0,x1,y0,y1]
 refine aix _ _ ?_
 simp[x1,y1]
 refine aix _ _ ?_
 simp
 have S3:St w ((dr w1 1).alloc (.cells #[.int .i64 (yr x.n y.n),.int .i64 (yr x.jk y.jk)] T.d)) _:=asd S2 #[.int .i64 (yr x.n y.n),.int .i64 (yr x.jk y.jk)] T.d
 have hsl:Sl ((dr w1 1).alloc (.cells #[.int .i64 (yr x.n y.n),.int .i64 (yr x.jk y.jk)] T.d)) 1 acz (.slice (some ⟨w1.heap.size,0,none⟩) 2 2) [yr x.n y.n,yr x.jk y.jk]:=by
  have hh:=S3.blk
  rw[show (dr w1 1).heap.size=w1.heap.size from rfl] at hh
  refine⟨some ⟨w1.heap.size,0,none⟩,2,rfl,by simp,by simp[maxLen],fun i z hz=>⟨w1.heap.size,0,rfl,ll hh,fun j u hj=>?_⟩⟩
  rw[iu hh]
  match i,j with
  | 0,0=>simp[acz] at hz hj⊢;rw[hz];exact hj
  | 1,0=>simp[acz] at hz hj⊢;rw[hz];exact hj
  | i+2,_=>simp at hz
  | _,j+1=>simp[acz] at hj
 rw[M.ds.fcall]
 exact bjj hsl (by simp) (h _ S3.fr)
section
variable {w0 w : World} {b : Nat} {t : TypeId} {R : List Asn}
theorem yi{x:Bal}(S:St w0 w (ja b #[.int .u64 x.n,.int .u64 x.jk] t :: R)):il w b 0=some (.int .u64 x.n)/\il w b 1=some (.int .u64 x.jk)/\∀K,ldN P 2 b 0 w K=K (kq x) w:=
 ⟨by rw[S.cell];rfl,by rw[S.cell];rfl,fun K=>S.ldA [.int .u64 x.n,.int .u64 x.jk] rfl rfl K⟩
end
def pk0(k tr:Int)(x s:Bal)(v:Int)(ok:Bool):Pk:=⟨k,tr,x,s,v,ok,.slice none 0 0,.slice none 0 0,.slice none 0 0⟩
theorem aud(k tr:Int)(x s:Bal)(v:Int)(ok:Bool): ∀u∈pkC (pk0 k tr x s v ok),kw u=true:=fun u hu=>by
 simp only[pkC,pk0,List.mem_cons,List.not_mem_nil,or_false] at hu
 rcases hu with rfl|rfl|rfl|rfl|rfl|rfl|rfl|rfl|rfl|rfl|rfl <;>rfl
theorem ayu(w:World)(k tr:Int)(x s:Bal)(v:Int)(ok:Bool):aai w (pk0 k tr x s v ok) [] [] []:=⟨Sl.nil,Sl.nil,Sl.nil,by simp,by simp,by simp⟩
def pkZ:Pk:=pk0 0 0 jc jc 0 false
section
variable {w0 w : World} {b : Nat} {R : List Asn}
theorem awg{cs:Array Value}{q:Pk}(S:St w0 w (ja b cs T.c :: R))(hs:cs.size=11)(h1: ∀u∈pkC q,kw u=true){K:KV}(h: ∀w',St w0 w' (ja b (pkC q).toArray T.c :: R)->K undef w'):stN P b 0 (pkC q) w K:=
 S.put h1 (by simp[pkC,hs]) (by
  have hl:cs.toList.length=11:=by simpa using hs
  have h2:(pkC q).length=11:=rfl
  rw[h2,List.take_zero,List.nil_append,List.drop_eq_nil_of_le (by omega),List.append_nil]) h
theorem aww(S:St w0 w R):St w0 (w.alloc (.cells #[.int .i64 0,.int .u64 0,.int .u64 0,.int .u64 0,.int .u64 0,.int .u64 0,.int .i64 0,.bool false,.slice none 0 0,.slice none 0 0,.slice none 0 0] T.c)) (ja w.heap.size (pkC pkZ).toArray T.c :: R):=S.mkB (pkC pkZ).toArray T.c
theorem we{q:Pk}(S:St w0 w (ja b (pkC q).toArray T.c :: R))(K:KV):ldN P 11 b 0 w K=K (pkA q) w:=S.ldA (pkC q) rfl rfl K
theorem bmg{q:Pk}(S:St w0 w (ja b (pkC q).toArray T.c :: R))(K:KV):mi P T.c (.pointer (some ⟨b,0,none⟩)) w K=K (pkA q) w:=by rw[ail];exact we S K
theorem bjc{cs:Array Value}{q:Pk}(S:St w0 w (ja b cs T.c :: R))(hs:cs.size=11)(h1: ∀u∈pkC q,kw u=true){K:KV}(h: ∀w',St w0 w' (ja b (pkC q).toArray T.c :: R)->K (pkA q) w'):
  stN P b 0 (pkC q) w fun _ w=>mi P T.c (.pointer (some ⟨b,0,none⟩)) w fun r0 w'=>w'=w/\K r0 w:=
 awg S hs h1 fun w' S'=>by rw[bmg S'];exact⟨rfl,h w' S'⟩
end
def xd(l1 l2:List Spn):Bool:=decide (l1.length=l2.length) && (List.zipWith xf l1 l2).all id
theorem bah{l1 l2:List Spn}{i:Nat}(h1:i < l1.length)(h2:i < l2.length)(h:xf l1[i] l2[i]=false):xd l1 l2=false:=by
 unfold xd
 have:(List.zipWith xf l1 l2).all id=false:=by
  rw[List.all_eq_false]
  refine⟨xf l1[i] l2[i],?_,by simp[h]⟩
  rw[List.mem_iff_getElem]
  exact⟨i,by simp;omega,by simp⟩
 rw[this,Bool.and_false]
theorem akl{l1 l2:List Spn}(hl:l1.length=l2.length)(h: ∀j (h1:j < l1.length) (h2:j < l2.length),xf l1[j] l2[j]=true):xd l1 l2=true:=by
 unfold xd
 rw[decide_eq_true hl,Bool.true_and,List.all_eq_true]
 intro x hx
 obtain⟨j,hj,rfl⟩:=List.getElem_of_mem hx
 simp only[List.length_zipWith] at hj
 rw[List.getElem_zipWith]
 exact h j (by omega) (by omega)
theorem aiz(l:List Spn):xd l l=true:=akl rfl fun j _ _=>afp _
def ly(p q:Pk):Bool:=decide (p.jh=q.jh) && (decide (p.tr=q.tr) && (decide (p.b=q.b) && (decide (p.jt=q.jt) && (decide (p.v=q.v) && (p.ok == q.ok)))))
def zr(p q:Pk)(ls ls':List Spn)(lm lm':List Mem)(lu lu':List Int):Bool:=decide (lm=lm') && (decide (lu=lu') && (xd ls ls' && ly p q))
theorem bjt{α:Type}{l1 l2:List α}(hl:l1.length=l2.length)(h: ∀j (h1:j < l1.length) (h2:j < l2.length),l1[j]=l2[j]):l1=l2:=List.ext_getElem hl h
def rq(p:Pk):Pk:=⟨p.jh,if p.jh=3 then 0 else p.tr,if p.jh=4\/p.jh=5\/p.jh=6\/p.jh=7\/p.jh=9 then p.b else jc,if p.jh=5\/p.jh=7 then p.jt else jc,if p.jh=5\/p.jh=6\/p.jh=8 then p.v else 0,if p.jh=5\/p.jh=7 then p.ok else false,
 if p.jh=1\/p.jh=2\/p.jh=9 then p.sv else .slice none 0 0,if p.jh=3 then p.mv else .slice none 0 0,if p.jh=10 then p.iv else .slice none 0 0⟩
def qj(p:Pk)(l:List Spn):List Spn:=if p.jh=1\/p.jh=2\/p.jh=9 then l else []
def qh(p:Pk)(l:List Mem):List Mem:=if p.jh=3 then l else []
def ql(p:Pk)(l:List Int):List Int:=if p.jh=10 then l else []
theorem bji(b:Nat)(q:Pk)(w:World)(K:KV):stT P T.c (.pointer (some ⟨b,0,none⟩)) (pkA q) w K=stN P b 0 (pkC q) w K:=by simp[pkA,pkC]
def bni(W:World)(l1 l2:List Spn):KL:=fun x w1=> ∃(u0 u1:Value)(i:Nat),x=[u0,u1,.int .i64 (i:Nat)]/\i<=l1.length/\(∀j (h1:j < l1.length) (h2:j < l2.length),j < i->xf l1[j] l2[j]=true)/\Fz W w1
def bnt(W:World)(l1 l2:List Int):KL:=fun x w1=> ∃(u0 u1:Value)(i:Nat),x=[u0,u1,.int .i64 (i:Nat)]/\i<=l1.length/\(∀j (h1:j < l1.length) (h2:j < l2.length),j < i->l1[j]=l2[j])/\Fz W w1
theorem azs{w:World}{v1 v2:Value}{l1 l2:List Spn}(s1:SlS w v1 l1)(s2:SlS w v2 l2)(hlen:l1.length<=1000000){K:KV}(h: ∀w',Fz w w'->K (.bool (xd l1 l2)) w'):ig P F.ba [v1,v2] w K:=by
 rw[M.i.fcall]
 apply M.i.calls
 unfold M.i
 simp only[im]
 rw[s1.jp (by kernel_rfl),s2.jp (by kernel_rfl)]
 by_cases hne:l1.length=l2.length
 ·simp[hne]
  unfold M.i.j0
  simp only[im]
  rw[s1.jp (by kernel_rfl)]
  refine⟨bni w l1 l2,fun x _=>l1.length - ms x 2,⟨_,_,0,rfl,Nat.zero_le _,fun j _ _ h=>by omega,Fr.refl _ _⟩,?_⟩
  rintro x w1 ⟨u0,u1,i,rfl,hi,hpre,f1⟩
  by_cases hil:i < l1.length
  ·have hili:(i:Int) < (l1.length:Int):=by omega
   obtain⟨b1,o1,cap1,hv1,_,_,e1⟩:=(s1.fr f1 fun _ _ _ h=>h:SlS w1 v1 l1).at hil
   obtain⟨b2,o2,cap2,hv2,_,_,e2⟩:=(s2.fr f1 fun _ _ _ h=>h:SlS w1 v2 l2).at (show i < l2.length by omega)
   have hl2i:i < l2.length:=by omega
   have q1: ∀w' K,iaT P T.j v1 (.int .i64 (i:Nat)) w' K=K (.pointer (some ⟨b1,o1+i * 8,none⟩)) w':=fun w' K=>by rw[hv1];simp[hil]
   have q2: ∀w' K,iaT P T.j v2 (.int .i64 (i:Nat)) w' K=K (.pointer (some ⟨b2,o2+i * 8,none⟩)) w':=fun w' K=>by rw[hv2];simp[hl2i]
   have g1: ∀K,ldN P 8 b1 (o1+i * 8) (dr w1 1) K=K (ki l1[i]) (dr w1 1):=fun K=>ldS (fun k v hk=>by rw[abd];exact e1 k v hk) K
   have g2: ∀K,ldN P 8 b2 (o2+i * 8) (dr w1 1) K=K (ki l2[i]) (dr w1 1):=fun K=>ldS (fun k v hk=>by rw[abd];exact e2 k v hk) K
   have hw:IntKind.i64.wrap ((i:Int)+1)=((i+1:Nat):Int):=by rw[iy];omega
   simp[hili]
   unfold M.i.j3
   simp[q1,q2,g1,g2,bio]
   cases hs:xf l1[i] l2[i] with
   | true=>
    simp
    rw[hw]
    refine⟨⟨_,_,i+1,rfl,hil,fun j a1 a2 hj=>?_,f1.dr 1⟩,by simp[ms,gv];omega⟩
    by_cases hji:j=i
    ·subst hji;exact hs
    ·exact hpre j a1 a2 (by omega)
   | false=>
    simp
    have:=h _ (f1.dr 1)
    rw[bah hil hl2i hs] at this
    exact this
  ·have hili: ¬(i:Int) < (l1.length:Int):=by omega
   simp[hili]
   have:=h w1 f1
   rw[akl hne fun j a1 a2=>hpre j a1 a2 (by omega)] at this
   exact this
 ·have hni: ¬(l1.length:Int)=(l2.length:Int):=by omega
  simp[hni]
  have:=h w (Fr.refl _ _)
  have hz:xd l1 l2=false:=by unfold xd;simp[hne]
  rw[hz] at this
  exact this
theorem ayd{w:World}{v1 v2:Value}{l1 l2:List Int}(s1:SlU w v1 l1)(s2:SlU w v2 l2)(hlen:l1.length<=1000000){K:KV}(h: ∀w',Fz w w'->K (.bool (decide (l1=l2))) w'):ig P F.bl [v1,v2] w K:=by
 rw[M.p.fcall]
 apply M.p.calls
 unfold M.p
 simp only[im]
 rw[s1.jp (by kernel_rfl),s2.jp (by kernel_rfl)]
 by_cases hne:l1.length=l2.length
 ·simp[hne]
  unfold M.p.j0
  simp only[im]
  rw[s1.jp (by kernel_rfl)]
  refine⟨bnt w l1 l2,fun x _=>l1.length - ms x 2,⟨_,_,0,rfl,Nat.zero_le _,fun j _ _ h=>by omega,Fr.refl _ _⟩,?_⟩
  rintro x w1 ⟨u0,u1,i,rfl,hi,hpre,f1⟩
  by_cases hil:i < l1.length
  ·have hili:(i:Int) < (l1.length:Int):=by omega
   have hl2i:i < l2.length:=by omega
   obtain⟨b1,o1,cap1,hv1,_,e1⟩:=bap (s1.fr f1 fun _ _ _ h=>h:SlU w1 v1 l1) hil
   obtain⟨b2,o2,cap2,hv2,_,e2⟩:=bap (s2.fr f1 fun _ _ _ h=>h:SlU w1 v2 l2) hl2i
   have q1: ∀w' K,iaT P T.i v1 (.int .i64 (i:Nat)) w' K=K (.pointer (some ⟨b1,o1+i,none⟩)) w':=fun w' K=>by rw[hv1];simp[hil]
   have q2: ∀w' K,iaT P T.i v2 (.int .i64 (i:Nat)) w' K=K (.pointer (some ⟨b2,o2+i,none⟩)) w':=fun w' K=>by rw[hv2];simp[hl2i]
   have hw:IntKind.i64.wrap ((i:Int)+1)=((i+1:Nat):Int):=by rw[iy];omega
   simp[hili]
   unfold M.p.j3
   simp[q1,q2,e1,e2]
   by_cases hs:l1[i]=l2[i]
   ·simp[hs]
    rw[hw]
    refine⟨⟨_,_,i+1,rfl,hil,fun j a1 a2 hj=>?_,f1.dr 1⟩,by simp[ms,gv];omega⟩
    by_cases hji:j=i
    ·subst hji;exact hs
    ·exact hpre j a1 a2 (by omega)
   ·simp[hs]
    have:=h _ (f1.dr 1)
    rw[decide_eq_false fun he=>hs (by simp[he])] at this
    exact this
  ·have hili: ¬(i:Int) < (l1.length:Int):=by omega
   simp[hili]
   have:=h w1 f1
   rw[decide_eq_true (bjt hne fun j a1 a2=>hpre j a1 a2 (by omega))] at this
   exact this
 ·have hni: ¬(l1.length:Int)=(l2.length:Int):=by omega
  simp[hni]
  have:=h w (Fr.refl _ _)
  rw[decide_eq_false fun he=>hne (congrArg List.length he)] at this
  exact this
theorem bcs{w:World}{p q:Pk}{ls ls':List Spn}{lm lm':List Mem}{lu lu':List Int}(hp:aai w p ls lm lu)(hq:aai w q ls' lm' lu'){K:KV}
  (h: ∀w',Fz w w'->K (.bool (zr p q ls ls' lm lm' lu lu')) w'):ig P F.ew [pkA p,pkA q] w K:=by
 rw[M.dw.fcall]
 apply M.dw.calls
 unfold M.dw
 rw[aqo hp,aqo (hq.fr ((Fr.refl _ w).alloc _))]
 have S1:St w (w.alloc (.cells (pkC p).toArray T.c)) (ja w.heap.size (pkC p).toArray T.c :: []):=(St.jy w).add ((Fr.refl _ w).alloc _) (B:=fun x=>x=w.heap.size) ⟨by rw[iz,if_pos rfl],rfl⟩ fun x hx=>by subst hx;rw[jd];omega
 generalize w.alloc (.cells (pkC p).toArray T.c)=w1 at *
 have S2:St w (w1.alloc (.cells (pkC q).toArray T.c)) (ja w1.heap.size (pkC q).toArray T.c :: _):=S1.add ((Fr.refl _ w1).alloc _) (B:=fun x=>x=w1.heap.size) ⟨by rw[iz,if_pos rfl],rfl⟩ fun x hx=>by subst hx;rw[jd];omega
 generalize w1.alloc (.cells (pkC q).toArray T.c)=w2 at *
 generalize w.heap.size=pb at *
 generalize w1.heap.size=qb at *
 obtain⟨q0,q1,q2,q4,q6,q7,q8,q9,q10,_⟩:=re S2
 obtain⟨p0,p1,p2,p4,p6,p7,p8,p9,p10,_⟩:=re S2.swap
 have hbo:aln P T.br=true:=by kernel_rfl
 have no: ∀bb:Bool,bb=false->(ly p q=false)->K (.bool bb) w2:=fun bb hb hl=>by
  subst hb
  have:=h w2 S2.fr
  unfold zr at this
  rw[hl,Bool.and_false,Bool.and_false,Bool.and_false] at this
  exact this
 by_cases a0:p.jh=q.jh
 case neg=>
  simp[p0,q0,a0]
  exact no false rfl (by simp[ly,a0])
 by_cases a1:p.tr=q.tr
 case neg=>
  simp[p0,q0,a0,p1,q1,a1]
  exact no false rfl (by simp[ly,a1])
 by_cases a2:p.b=q.b
 case neg=>
  simp[p0,q0,a0,p1,q1,a1,p2,q2,abg,a2]
  exact no false rfl (by simp[ly,a2])
 by_cases a3:p.jt=q.jt
 case neg=>
  simp[p0,q0,a0,p1,q1,a1,p2,q2,abg,a2,p4,q4,a3]
  exact no false rfl (by simp[ly,a3])
 by_cases a4:p.v=q.v
 case neg=>
  simp[p0,q0,a0,p1,q1,a1,p2,q2,abg,a2,p4,q4,a3,p6,q6,a4]
  exact no false rfl (by simp[ly,a4])
 by_cases a5:p.ok=q.ok
 case neg=>
  have a5':(p.ok == q.ok)=false:=by simpa using a5
  simp[p0,q0,a0,p1,q1,a1,p2,q2,abg,a2,p4,q4,a3,p6,q6,a4,p7,q7,afj hbo,a5']
  exact no false rfl (by simp[ly,a5])
 obtain⟨⟨sa,sc,es⟩,⟨ma,mc,em⟩,ua,uc,eu⟩:=hp.one
 obtain⟨⟨sa',sc',es'⟩,⟨ma',mc',em'⟩,ua',uc',eu'⟩:=hq.one
 simp[p0,q0,a0,p1,q1,a1,p2,q2,abg,a2,p4,q4,a3,p6,q6,a4,p7,q7,afj hbo,a5,p8,q8]
 have hp2:=hp.fr S2.fr
 have hq2:=hq.fr S2.fr
 have fb:ly p q=true:=by simp[ly,a0,a1,a2,a3,a4,a5]
 have fin:=h
 unfold zr at fin
 rw[fb] at fin
 refine azs hp2.s hq2.s hp.ls fun w3 f3=>?_
 have S3:=S2.ju f3
 obtain⟨_,_,_,_,_,_,_,q9,_,_⟩:=re S3
 obtain⟨_,_,_,_,_,_,_,p9,_,_⟩:=re S3.swap
 have hp3:=hp.fr S3.fr
 have hq3:=hq.fr S3.fr
 cases hb1:xd ls ls' with
 | false=>
  simp
  have:=fin w3 S3.fr
  rw[hb1] at this
  simpa using this
 | true=>
 rw[hb1] at fin
 simp[p9,q9]
 refine ani hp3.m hq3.m hp.lm fun w4 f4=>?_
 have S4:=S3.ju f4
 obtain⟨_,_,_,_,_,_,_,_,q10,_⟩:=re S4
 obtain⟨_,_,_,_,_,_,_,_,p10,_⟩:=re S4.swap
 have hp4:=hp.fr S4.fr
 have hq4:=hq.fr S4.fr
 by_cases hm:lm=lm'
 case neg=>
  simp[hm]
  have:=fin w4 S4.fr
  simpa [hm] using this
 simp[hm,p10,q10]
 refine ayd hp4.u hq4.u hp.lu fun w5 f5=>?_
 have:=fin w5 (S4.ju f5).fr
 simpa [hm] using this
def byt(s:ByteArray)(k:Nat):Nat:=(s.get! k).toNat
theorem ard(s:ByteArray){i:Nat}(h:i < s.size){k:IntKind}(w:World)(K:KV):ixT P T.m (.string s) (.int k (i:Int)) w K=K (.int .u8 (byt s i)) w:=by
 have hu:P.underlying T.m=some .string:=vw amk
 have hg:s[i]? =some (s.get! i):=by
  rw[getElem?_pos s i h]
  have e:s.get! i=s[i]'h:=by
   simp[ByteArray.get!,getElem!_pos,h]
   rfl
  rw[e]
 simp[ixT,jm,Instr.index,asIntOf,Sem.run_bind,jf hu,Result.andThen,Sem.run_pure,hg,byt]
theorem bjh{s d:TypeId}{ks k2:IntKind}(hs:P.underlying s=some (.int ks))(hd:P.underlying d=some (.int k2))(k:IntKind)(x:Int)(w:World)(K:KV):cvT P s d (.int k x) w K=K (.int k2 (k2.wrap x)) w:=by
 simp[cvT,jm,convert,Sem.run_bind,jf hs,jf hd,Result.andThen,Conv.intToInt,Sem.run_pure]
def kh(t:ByteArray)(r:Nat):Nat->Nat
 | 0=>r
 | k+1=>kh t r k * 64+byt t (k+1) - 128
def tz(t:ByteArray)(k:Nat):Bool:=decide (128<=byt t k) && decide (byt t k<=191)
def nk(b0:Nat):Nat×Nat×Nat:=if 194<=b0/\b0<=223 then (2,128,b0 - 192) else if 224<=b0/\b0<=239 then (3,2048,b0 - 224) else if 240<=b0/\b0<=244 then (4,65536,b0 - 240) else (0,0,0)
def tl(t:ByteArray):Nat->Bool
 | 0=>true
 | k+1=>tl t k && tz t (k+1)
def rr(t:ByteArray):Nat×Nat:=
 if t.size=0 then (0,0) else if byt t 0 < 128 then (byt t 0,1) else
 if (nk (byt t 0)).1=0\/t.size < (nk (byt t 0)).1 then (0,0) else
 if tl t ((nk (byt t 0)).1 - 1)=false then (0,0) else
 if kh t (nk (byt t 0)).2.2 ((nk (byt t 0)).1 - 1) < (nk (byt t 0)).2.1\/1114111 < kh t (nk (byt t 0)).2.2 ((nk (byt t 0)).1 - 1)\/(55296<=kh t (nk (byt t 0)).2.2 ((nk (byt t 0)).1 - 1)/\kh t (nk (byt t 0)).2.2 ((nk (byt t 0)).1 - 1)<=57343) then (0,0) else (kh t (nk (byt t 0)).2.2 ((nk (byt t 0)).1 - 1),(nk (byt t 0)).1)
theorem aha(t:ByteArray)(k:Nat):byt t k < 256:=UInt8.toNat_lt _
theorem ari(t:ByteArray){r:Nat}(hr:r<=31): ∀k,tl t k=true->kh t r k+1<=32 * 64 ^ k
 | 0,_=>by simp[kh];omega
 | k+1,h=>by
  simp only[tl,Bool.and_eq_true,tz,decide_eq_true_eq] at h
  have:=ari t hr k h.1
  simp only[kh,Nat.pow_succ]
  omega
theorem aiq(x:Int)(w:World)(K:KV):cvT P T.ac T.bi (.int .u8 x) w K=K (.int .i32 (IntKind.i32.wrap x)) w:=bjh (ks:= .u8) (by kernel_rfl) (by kernel_rfl) .u8 x w K
theorem wo{x:Int}(h0: -2147483648<=x)(h1:x < 2147483648):IntKind.i32.wrap x=x:=by
 show (if (true && decide (x % 4294967296≥2147483648))=true then x % 4294967296 - 4294967296 else x % 4294967296)=x
 by_cases h:x % 4294967296≥2147483648
 ·simp[h];omega
 ·simp[h];omega
theorem ajh{t:ByteArray}{k:Nat}(h:tz t (k+1)=false): ∀{n:Nat},k+1 < n->tl t (n - 1)=false
 | 0,hn=>by omega
 | n+1,hn=>by
  rw[Nat.add_sub_cancel]
  by_cases hk:k+1=n
  ·subst hk;simp[tl,h]
  ·have:=ajh h (n:=n) (by omega)
   cases n with
   | zero=>omega
   | succ n=>rw[Nat.add_sub_cancel] at this;simp[tl,this]
def bly(w:World)(t:ByteArray)(r n:Nat):KL:=fun x w1=> ∃(a b:Value)(k:Nat),x=[a,b,.int .i32 (kh t r k:Nat),.int .i64 ((k+1:Nat):Int)]/\w1=w/\k+1<=n/\tl t k=true
theorem axz{w:World}{t:ByteArray}{n least r:Nat}(hn:2<=n)(hn4:n<=4)(hr:r<=31)(hl:least<=65536)(hsz:n<=t.size){x3 x2:List Value}(e1:gv x2 1= .int .i64 (n:Nat))(e2:gv x2 2= .int .i32 (least:Nat))(e3:gv x2 3= .int .i32 (r:Nat)){K:KV}
  (h:K (.tuple #[.int .i32 ((if tl t (n - 1)=false then 0 else if kh t r (n - 1) < least\/1114111 < kh t r (n - 1)\/(55296<=kh t r (n - 1)/\kh t r (n - 1)<=57343) then 0 else kh t r (n - 1):Nat):Int),.int .i64 ((if tl t (n - 1)=false then 0 else if kh t r (n - 1) < least\/1114111 < kh t r (n - 1)\/(55296<=kh t r (n - 1)/\kh t r (n - 1)<=57343) then 0 else n:Nat):Int)]) w):
  M.h.j3 x3 x2 (.string t) w K:=by
 unfold M.h.j3
 simp only[im,e3]
 refine⟨bly w t r n,fun x _=>n - ms x 3,⟨_,_,0,rfl,rfl,by omega,rfl⟩,?_⟩
 rintro x w1 ⟨a,b,k,rfl,rfl,hk,hc⟩
 have g2:gv [a,b,.int .i32 (kh t r k:Nat),.int .i64 ((k+1:Nat):Int)] 2= .int .i32 (kh t r k:Nat):=rfl
 have g3:gv [a,b,.int .i32 (kh t r k:Nat),.int .i64 ((k+1:Nat):Int)] 3= .int .i64 ((k+1:Nat):Int):=rfl
 simp only[e1,g3]
 have hb:=ari t hr k hc
 have hp:(64:Nat) ^ k<=64 ^ 3:=Nat.pow_le_pow_right (by omega) (by omega)
 by_cases hlt:k+1 < n
 ·have hlt':((k+1:Nat):Int) < n:=by omega
  have hix: ∀K,ixT P T.m (.string t) (.int .i64 ((k+1:Nat):Int)) w1 K=K (.int .u8 (byt t (k+1))) w1:=fun K=>ard t (by omega) w1 K
  simp only[nj,hlt',decide_true,Eng.cond_true]
  unfold M.h.j6
  have hix':=hix
  push_cast at hix'
  have hbl:=aha t (k+1)
  have hw:IntKind.i64.wrap (((k+1:Nat):Int)+1)=((k+1+1:Nat):Int):=by rw[iy];rfl
  simp only[im,g2,g3,hix]
  by_cases h1:byt t (k+1) < 128
  ·have h1':(byt t (k+1):Int) < 128:=by omega
   have hcf:tl t (n - 1)=false:=ajh (by simp[tz];omega) hlt
   simp[h1']
   rw[hcf] at h
   simpa using h
  ·have h1': ¬(byt t (k+1):Int) < 128:=by omega
   by_cases h2:191 < byt t (k+1)
   ·have h2':(191:Int) < byt t (k+1):=by omega
    have hcf:tl t (n - 1)=false:=ajh (by simp[tz];omega) hlt
    simp[h1',hix',h2']
    rw[hcf] at h
    simpa using h
   ·have h2': ¬(191:Int) < byt t (k+1):=by omega
    simp[h1',hix',h2']
    unfold M.h.j8
    have hm1:IntKind.i32.wrap ((kh t r k:Int) * 64)=(kh t r k:Int) * 64:=wo (by omega) (by omega)
    have hm2:IntKind.i32.wrap (byt t (k+1):Int)=byt t (k+1):=wo (by omega) (by omega)
    have hm3:IntKind.i32.wrap ((kh t r k:Int) * 64+byt t (k+1))=(kh t r k:Int) * 64+byt t (k+1):=wo (by omega) (by omega)
    have hm4:IntKind.i32.wrap ((kh t r k:Int) * 64+byt t (k+1) - 128)=((kh t r (k+1):Nat):Int):=by
     rw[wo (by omega) (by omega)]
     simp only[kh];omega
    push_cast at g2 g3 hw
    simp only[g2,g3,hix',aiq,vq,mf,nq,hm1,hm2,hm3,hm4,hw]
    refine⟨⟨_,_,k+1,rfl,rfl,by omega,by simp[tl,hc,tz];omega⟩,?_⟩
    simp[ms,gv];omega
 ·have hke:n - 1=k:=by omega
  have hlt': ¬((k+1:Nat):Int) < n:=by omega
  rw[hke,hc] at h
  simp only[nj,hlt',decide_false,Eng.cond_false]
  unfold M.h.j4
  have q3: ∀p q s u:Value,gv [p,q,s,u] 3=u:=fun _ _ _ _=>rfl
  simp only[im,q3,g2,e1,e2]
  generalize kh t r k=v at *
  simp only[Bool.true_eq_false,if_false] at h
  by_cases a1:v < least
  ·have a1':(v:Int) < least:=by omega
   simp[a1,a1'] at h⊢
   exact h
  by_cases a2:1114111 < v
  ·have a1': ¬(v:Int) < least:=by omega
   have a2':(1114111:Int) < v:=by omega
   simp[a1,a1',a2,a2'] at h⊢
   exact h
  by_cases a3:55296<=v
  ·by_cases a4:v<=57343
   ·have a1': ¬(v:Int) < least:=by omega
    have a2': ¬(1114111:Int) < v:=by omega
    have a3':(55296:Int)<=v:=by omega
    have a4':(v:Int)<=57343:=by omega
    simp[a1,a1',a2,a2',a3,a3',a4,a4'] at h⊢
    exact h
   ·have a1': ¬(v:Int) < least:=by omega
    have a2': ¬(1114111:Int) < v:=by omega
    have a3':(55296:Int)<=v:=by omega
    have a4': ¬(v:Int)<=57343:=by omega
    simp[a1,a1',a2,a2',a3,a3',a4,a4'] at h⊢
    exact h
  ·have a1': ¬(v:Int) < least:=by omega
   have a2': ¬(1114111:Int) < v:=by omega
   have a3': ¬(55296:Int)<=v:=by omega
   simp[a1,a1',a2,a2',a3,a3'] at h⊢
   exact h
theorem bhg{w:World}(t:ByteArray){K:KV}(h:K (.tuple #[.int .i32 ((rr t).1:Nat),.int .i64 ((rr t).2:Nat)]) w):jr P F.er [.string t] w K:=by
 apply M.h.calls
 unfold M.h
 simp only[im]
 unfold rr at h
 by_cases h0:t.size=0
 ·simp[h0] at h⊢
  exact h
 have hsz:0 < t.size:=by omega
 have hix: ∀K,ixT P T.m (.string t) (.int .i64 0) w K=K (.int .u8 (byt t 0)) w:=fun K=>ard t hsz w K
 have hbl:=aha t 0
 have hw0:IntKind.i32.wrap (byt t 0:Int)=byt t 0:=wo (by omega) (by omega)
 simp[h0] at h⊢
 unfold M.h.j0
 simp only[im,hix]
 by_cases h1:byt t 0 < 128
 ·have h1':(byt t 0:Int) < 128:=by omega
  simp[h1,h1',aiq,hw0] at h⊢
  exact h
 have h1': ¬(byt t 0:Int) < 128:=by omega
 simp[h1,h1'] at h⊢
 unfold M.h.j1
 simp only[im]
 have fin: ∀(n least r:Nat)(x2:List Value),nk (byt t 0)=(n,least,r)->n≠0->2<=n->n<=4->r<=31->least<=65536->gv x2 1= .int .i64 (n:Nat)->gv x2 2= .int .i32 (least:Nat)->gv x2 3= .int .i32 (r:Nat)->M.h.j2 x2 (.string t) [.int .i32 0,.int .i64 0] w K:=by
  intro n least r x2 hc hn0 hn hn4 hr hl e1 e2 e3
  rw[hc] at h
  unfold M.h.j2
  have hn0': ¬(n:Int)=0:=by omega
  by_cases hs:t.size < n
  ·have hs':(t.size:Int) < n:=by omega
   simp[e1,hn0,hn0',hs,hs'] at h⊢
   exact h
  ·have hs': ¬(t.size:Int) < n:=by omega
   simp only[im]
   simp[e1,hn0,hn0',hs,hs'] at h⊢
   refine axz hn hn4 hr hl (by omega) e1 e2 e3 ?_
   by_cases hcs:tl t (n - 1)=false
   ·simp[hcs] at h⊢;exact h
   ·by_cases hv:kh t r (n - 1) < least\/1114111 < kh t r (n - 1)\/(55296<=kh t r (n - 1)/\kh t r (n - 1)<=57343)
    ·simp[hcs,hv] at h⊢;exact h
    ·simp[hcs,hv] at h⊢;exact h
 generalize hb0:byt t 0=b0 at *
 have hsub: ∀(y:Int),0<=y->y < 300->(b0:Int) - y=(((b0:Int) - y)):=fun _ _ _=>rfl
 by_cases c1:194<=b0/\b0<=223
 ·have p1:(194:Int)<=b0:=by omega
  have p2:(b0:Int)<=223:=by omega
  have hw1:IntKind.i32.wrap ((b0:Int) - 192)=((b0 - 192:Nat):Int):=by rw[wo (by omega) (by omega)];omega
  simp[p1,p2,aiq,hw0,hw1]
  refine fin 2 128 (b0 - 192) _ (by simp[nk,c1]) (by decide) (by decide) (by decide) (by omega) (by decide) rfl rfl rfl
 have hz: ∀x2,gv x2 1= .int .i64 0->nk b0=(0,0,0)->M.h.j2 x2 (.string t) [.int .i32 0,.int .i64 0] w K:=by
  intro x2 e1 hc
  rw[hc] at h
  unfold M.h.j2
  simp only[im]
  simp[e1] at h⊢
  exact h
 by_cases d1:224<=b0
 ·have p1:(194:Int)<=b0:=by omega
  have p2: ¬(b0:Int)<=223:=by omega
  have p3:(224:Int)<=b0:=by omega
  by_cases d2:b0<=239
  ·have p4:(b0:Int)<=239:=by omega
   have hw1:IntKind.i32.wrap ((b0:Int) - 224)=((b0 - 224:Nat):Int):=by rw[wo (by omega) (by omega)];omega
   simp[p1,p2,p3,p4,aiq,hw0,hw1]
   exact fin 3 2048 (b0 - 224) _ (by simp[nk,c1,d1,d2]) (by decide) (by decide) (by decide) (by omega) (by decide) rfl rfl rfl
  ·have p4: ¬(b0:Int)<=239:=by omega
   have p5:(240:Int)<=b0:=by omega
   by_cases d3:b0<=244
   ·have p6:(b0:Int)<=244:=by omega
    have hw1:IntKind.i32.wrap ((b0:Int) - 240)=((b0 - 240:Nat):Int):=by rw[wo (by omega) (by omega)];omega
    simp[p1,p2,p3,p4,p5,p6,aiq,hw0,hw1]
    exact fin 4 65536 (b0 - 240) _ (by unfold nk;rw[if_neg c1,if_neg (by omega),if_pos (by omega)]) (by decide) (by decide) (by decide) (by omega) (by decide) rfl rfl rfl
   ·have p6: ¬(b0:Int)<=244:=by omega
    simp[p1,p2,p3,p4,p5,p6,aiq,hw0]
    exact hz _ rfl (by unfold nk;rw[if_neg c1,if_neg (by omega),if_neg (by omega)])
 ·have p1: ¬(194:Int)<=b0:=by omega
  have p3: ¬(224:Int)<=b0:=by omega
  have p5: ¬(240:Int)<=b0:=by omega
  simp[p1,p3,p5]
  exact hz _ rfl (by unfold nk;rw[if_neg c1,if_neg (by omega),if_neg (by omega)])
theorem aky{t:ByteArray}(h0:0 < t.size)(h1: ¬byt t 0 < 128){n least r:Nat}(hc:nk (byt t 0)=(n,least,r)):
  rr t=if n=0\/t.size < n then (0,0) else if tl t (n - 1)=false then (0,0) else if kh t r (n - 1) < least\/1114111 < kh t r (n - 1)\/(55296<=kh t r (n - 1)/\kh t r (n - 1)<=57343) then (0,0) else (kh t r (n - 1),n):=by
 unfold rr
 rw[if_neg (by omega),if_neg h1,hc]
theorem bcv(v:Nat):Utf8.valid (v:Int)=decide (¬(1114111 < v\/(55296<=v/\v<=57343))):=by
 unfold Utf8.valid
 rw[Bool.eq_iff_iff]
 simp only[Bool.or_eq_true,Bool.and_eq_true,decide_eq_true_eq]
 omega
def om(t:ByteArray)(k:Nat):Bool:=decide (k < t.size) && tz t k
def ajq(least n v:Nat):Nat×Nat:=if least<=v/\¬(1114111 < v\/(55296<=v/\v<=57343)) then (v,n) else (65533,1)
theorem abb(t:ByteArray):Utf8.decode t 0=if byt t 0 < 128 then (byt t 0,1) else if byt t 0 / 32=6/\om t 1=true then (if 128<=byt t 0 % 32 * 64+byt t 1 % 64 then (byt t 0 % 32 * 64+byt t 1 % 64,2) else (65533,1))
  else if byt t 0 / 16=14/\om t 1=true/\om t 2=true then ajq 2048 3 (byt t 0 % 16 * 4096+byt t 1 % 64 * 64+byt t 2 % 64)
  else if byt t 0 / 8=30/\om t 1=true/\om t 2=true/\om t 3=true then ajq 65536 4 (byt t 0 % 8 * 262144+byt t 1 % 64 * 4096+byt t 2 % 64 * 64+byt t 3 % 64) else (65533,1):=by
 have e: ∀k,(t.get! (0+k)).toNat=byt t k:=fun k=>by rw[Nat.zero_add];rfl
 have c0: ∀k,(decide (0+k < t.size) && byt t k / 64 == 2)=om t k:=fun k=>by
  have:=aha t k
  have:(byt t k / 64 == 2)=tz t k:=by
   unfold tz
   by_cases h:128<=byt t k <;>by_cases h':byt t k<=191
   ·have:byt t k / 64=2:=by omega
    simp[h,h',this]
   ·have: ¬byt t k / 64=2:=by omega
    simp[h,h',this]
   ·have: ¬byt t k / 64=2:=by omega
    simp[h,h',this]
   ·omega
  rw[this,Nat.zero_add];rfl
 unfold Utf8.decode ajq
 simp only[e,c0,bcv,Bool.and_eq_true,beq_iff_eq,and_assoc,decide_eq_true_eq,ge_iff_le,Utf8.runeError]
theorem ya{t:ByteArray}{k:Nat}(h:om t k=true):k < t.size/\tz t k=true/\128<=byt t k/\byt t k<=191:=by
 unfold om tz at h
 simp only[Bool.and_eq_true,decide_eq_true_eq] at h
 exact⟨h.1,by unfold tz;simp[h.2],h.2.1,h.2.2⟩
def aee(c:Nat×Nat):Nat×Nat:=if c.2=0 then (65533,1) else c
theorem alr{least n v:Nat}(hn:n≠0):ajq least n v=aee (if v < least\/1114111 < v\/(55296<=v/\v<=57343) then (0,0) else (v,n)):=by
 unfold ajq aee
 by_cases g:v < least\/1114111 < v\/(55296<=v/\v<=57343)
 ·rw[if_pos g,if_neg (by omega)];rfl
 ·rw[if_neg g,if_pos (by omega)];simp[hn]
theorem ags{t:ByteArray}: ∀{n:Nat},tl t n=true↔∀k,1<=k->k<=n->tz t k=true
 | 0=>⟨fun _ k h1 h2=>by omega,fun _=>rfl⟩
 | n+1=>by
  simp only[tl,Bool.and_eq_true,ags (n:=n)]
  constructor
  ·rintro⟨h1,h2⟩ k hk1 hk2
   by_cases hk:k=n+1
   ·subst hk;exact h2
   ·exact h1 k hk1 (by omega)
  ·intro h
   exact⟨fun k h1 h2=>h k h1 (by omega),h (n+1) (by omega) (by omega)⟩
theorem aew{t:ByteArray}(h0:0 < t.size)(h1: ¬byt t 0 < 128){n least r:Nat}(hc:nk (byt t 0)=(n,least,r))(hn:2<=n)(h: ∀k,1<=k->k<=n - 1->om t k=true):
  rr t=if kh t r (n - 1) < least\/1114111 < kh t r (n - 1)\/(55296<=kh t r (n - 1)/\kh t r (n - 1)<=57343) then (0,0) else (kh t r (n - 1),n):=by
 rw[aky h0 h1 hc]
 have:=(ya (h (n - 1) (by omega) (by omega))).1
 rw[if_neg (by omega),if_neg]
 rw[ags.2 fun k h1 h2=>(ya (h k h1 h2)).2.1];simp
theorem aij{t:ByteArray}(h0:0 < t.size)(h1: ¬byt t 0 < 128){n least r:Nat}(hc:nk (byt t 0)=(n,least,r))(hn:2<=n)(h: ¬∀k,1<=k->k<=n - 1->om t k=true):rr t=(0,0):=by
 rw[aky h0 h1 hc]
 by_cases hs:t.size < n
 ·rw[if_pos (.inr hs)]
 ·rw[if_neg (by omega),if_pos]
  cases hcs:tl t (n - 1) with
  | false=>rfl
  | true=>
   refine absurd (fun k h1 h2=>?_) h
   unfold om
   rw[ags.1 hcs k h1 h2]
   simp;omega
theorem auy{p:Nat->Prop}:(∀k,1<=k->k<=2 - 1->p k)↔p 1:=⟨fun h=>h 1 (by omega) (by omega),fun h k h1 h2=>by
 obtain rfl:k=1:=by omega
 exact h⟩
theorem awb{p:Nat->Prop}:(∀k,1<=k->k<=3 - 1->p k)↔p 1/\p 2:=⟨fun h=>⟨h 1 (by omega) (by omega),h 2 (by omega) (by omega)⟩,fun h k h1 h2=>by
 have:k=1\/k=2:=by omega
 rcases this with rfl|rfl
 ·exact h.1
 ·exact h.2⟩
theorem auv{p:Nat->Prop}:(∀k,1<=k->k<=4 - 1->p k)↔p 1/\p 2/\p 3:=⟨fun h=>⟨h 1 (by omega) (by omega),h 2 (by omega) (by omega),h 3 (by omega) (by omega)⟩,fun h k h1 h2=>by
 have:k=1\/k=2\/k=3:=by omega
 rcases this with rfl|rfl|rfl
 ·exact h.1
 ·exact h.2.1
 ·exact h.2.2⟩
theorem aib{x:Nat}(h1:128<=x)(h2:x<=191):x % 64=x - 128:=by omega
theorem rf1(t:ByteArray)(r:Nat):kh t r 1=r * 64+byt t 1 - 128:=rfl
theorem rf2(t:ByteArray)(r:Nat):kh t r 2=(r * 64+byt t 1 - 128) * 64+byt t 2 - 128:=rfl
theorem rf3(t:ByteArray)(r:Nat):kh t r 3=((r * 64+byt t 1 - 128) * 64+byt t 2 - 128) * 64+byt t 3 - 128:=rfl
theorem bms{t:ByteArray}(h0:0 < t.size)(c1:194<=byt t 0/\byt t 0<=223):Utf8.decode t 0=aee (rr t):=by
 have h1: ¬byt t 0 < 128:=by omega
 have hc:nk (byt t 0)=(2,128,byt t 0 - 192):=by unfold nk;rw[if_pos c1]
 rw[abb,if_neg h1]
 by_cases hd:om t 1=true
 ·rw[aew h0 h1 hc (by decide) (auy.2 hd),if_pos ⟨by omega,hd⟩,<-alr (by decide)]
  obtain⟨_,_,g1,g2⟩:=ya hd
  have hv:kh t (byt t 0 - 192) (2 - 1)=byt t 0 % 32 * 64+byt t 1 % 64:=by
   show kh t (byt t 0 - 192) 1=_
   rw[rf1,aib g1 g2];omega
  rw[hv]
  have hle:byt t 0 % 32 * 64+byt t 1 % 64 < 55296:=by omega
  unfold ajq
  by_cases hg:128<=byt t 0 % 32 * 64+byt t 1 % 64
  ·rw[if_pos hg,if_pos ⟨hg,by omega⟩]
  ·rw[if_neg hg,if_neg fun h=>hg h.1]
 ·rw[if_neg fun h=>hd h.2,if_neg (by omega),if_neg (by omega),aij h0 h1 hc (by decide) fun h=>hd (auy.1 h)];rfl
theorem bng{t:ByteArray}(h0:0 < t.size)(c1:224<=byt t 0/\byt t 0<=239):Utf8.decode t 0=aee (rr t):=by
 have h1: ¬byt t 0 < 128:=by omega
 have hc:nk (byt t 0)=(3,2048,byt t 0 - 224):=by unfold nk;rw[if_neg (by omega),if_pos c1]
 rw[abb,if_neg h1,if_neg (by omega)]
 by_cases hd:om t 1=true/\om t 2=true
 ·rw[aew h0 h1 hc (by decide) (awb.2 hd),if_pos ⟨by omega,hd⟩,<-alr (by decide)]
  obtain⟨_,_,g1,g2⟩:=ya hd.1
  obtain⟨_,_,g3,g4⟩:=ya hd.2
  have hv:kh t (byt t 0 - 224) (3 - 1)=byt t 0 % 16 * 4096+byt t 1 % 64 * 64+byt t 2 % 64:=by
   show kh t (byt t 0 - 224) 2=_
   rw[rf2,aib g1 g2,aib g3 g4];omega
  rw[hv]
 ·rw[if_neg fun h=>hd h.2,if_neg (by omega),aij h0 h1 hc (by decide) fun h=>hd (awb.1 h)];rfl
theorem boe{t:ByteArray}(h0:0 < t.size)(c1:240<=byt t 0/\byt t 0<=244):Utf8.decode t 0=aee (rr t):=by
 have h1: ¬byt t 0 < 128:=by omega
 have hc:nk (byt t 0)=(4,65536,byt t 0 - 240):=by unfold nk;rw[if_neg (by omega),if_neg (by omega),if_pos c1]
 rw[abb,if_neg h1,if_neg (by omega),if_neg (by omega)]
 by_cases hd:om t 1=true/\om t 2=true/\om t 3=true
 ·rw[aew h0 h1 hc (by decide) (auv.2 hd),if_pos ⟨by omega,hd⟩,<-alr (by decide)]
  obtain⟨_,_,g1,g2⟩:=ya hd.1
  obtain⟨_,_,g3,g4⟩:=ya hd.2.1
  obtain⟨_,_,g5,g6⟩:=ya hd.2.2
  have hv:kh t (byt t 0 - 240) (4 - 1)=byt t 0 % 8 * 262144+byt t 1 % 64 * 4096+byt t 2 % 64 * 64+byt t 3 % 64:=by
   show kh t (byt t 0 - 240) 3=_
   rw[rf3,aib g1 g2,aib g3 g4,aib g5 g6];omega
  rw[hv]
 ·rw[if_neg fun h=>hd h.2,aij h0 h1 hc (by decide) fun h=>hd (auv.1 h)];rfl
theorem bbl(t:ByteArray)(h0:0 < t.size):Utf8.decode t 0=aee (rr t):=by
 by_cases h1:byt t 0 < 128
 ·have hr:rr t=(byt t 0,1):=by unfold rr;rw[if_neg (by omega),if_pos h1]
  rw[abb,if_pos h1,hr];rfl
 by_cases c1:194<=byt t 0/\byt t 0<=223
 ·exact bms h0 c1
 by_cases c2:224<=byt t 0/\byt t 0<=239
 ·exact bng h0 c2
 by_cases c3:240<=byt t 0/\byt t 0<=244
 ·exact boe h0 c3
 have hc:nk (byt t 0)=(0,0,0):=by unfold nk;rw[if_neg c1,if_neg c2,if_neg c3]
 have hr:rr t=(0,0):=by rw[aky h0 h1 hc];simp
 have hb:=aha t 0
 rw[hr,abb,if_neg h1]
 show _=(65533,1)
 by_cases d1:byt t 0 / 32=6/\om t 1=true
 ·obtain⟨_,_,g1,g2⟩:=ya d1.2
  rw[if_pos d1,if_neg (by omega)]
 ·rw[if_neg d1,if_neg (by omega)]
  by_cases d3:byt t 0 / 8=30/\om t 1=true/\om t 2=true/\om t 3=true
  ·rw[if_pos d3]
   unfold ajq
   rw[if_neg (by omega)]
  ·rw[if_neg d3]
def kt(s:ByteArray)(i:Nat):ByteArray:=s.extract i s.size
theorem aho(s:ByteArray)(i:Nat):(kt s i).size=s.size - i:=by simp[kt]
theorem ase(s:ByteArray)(k:Nat):s.get! k=s.data[k]! :=by cases s;rfl
theorem bfe(s:ByteArray)(i k:Nat):byt (kt s i) k=byt s (i+k):=by
 unfold byt
 rw[ase,ase]
 have h:(kt s i).data=s.data.extract i s.size:=by simp[kt]
 rw[h,getElem!_def,getElem!_def,Array.getElem?_extract]
 have hs:s.size=s.data.size:=rfl
 by_cases hk:k < min s.size s.data.size - i
 ·rw[if_pos (by omega)]
 ·rw[if_neg (by omega),Array.getElem?_eq_none (by omega)]
theorem azo(s:ByteArray)(i n:Nat):kt (kt s i) n=kt s (i+n):=by
 unfold kt
 rw[ByteArray.extract_extract]
 congr 1
 simp;omega
theorem ate(s:ByteArray)(i:Nat):Utf8.decode s i=Utf8.decode (kt s i) 0:=by
 have e: ∀k,(s.get! (i+k)).toNat=byt (kt s i) k:=fun k=>by rw[bfe];rfl
 have e': ∀k,((kt s i).get! (0+k)).toNat=byt (kt s i) k:=fun k=>by rw[Nat.zero_add];rfl
 have c: ∀k,decide (i+k < s.size)=decide (0+k < (kt s i).size):=fun k=>by
  rw[aho,decide_eq_decide];omega
 unfold Utf8.decode
 simp only[e,e',c]
theorem bhj(t:ByteArray):wz t xh=true↔3<=t.size/\byt t 0=239/\byt t 1=191/\byt t 2=189:=by
 have hs:t.size=t.data.toList.length:=Array.length_toList.symm
 have hr:xh.toList=[239,191,189]:=by decide+kernel
 have hz:xh.size=3:=rfl
 unfold wz
 rw[hr,hz,Bool.and_eq_true,decide_eq_true_eq,beq_iff_eq]
 have he:(t.extract 0 3).toList=t.data.toList.take 3:=by
  rw[ByteArray.toList_eq]
  simp
 rw[he]
 have b: ∀k,byt t k=(t.data.toList[k]?.getD default).toNat:=fun k=>by
  unfold byt
  rw[ase,getElem!_def]
  simp only[Array.getElem?_toList]
  cases t.data[k]? <;>rfl
 rw[b,b,b,hs]
 have u: ∀(x:UInt8)(n:Nat)(h:n < 256),x.toNat=n↔x=UInt8.ofNat n:=fun x n h=>by
  constructor
  ·intro hx;rw[<-hx];simp
  ·rintro rfl;simp;omega
 match t.data.toList with
 | []=>simp
 | [x]=>simp
 | [x,y]=>simp
 | x :: y :: z :: r=>
  simp[u x 239 (by decide),u y 191 (by decide),u z 189 (by decide)]
theorem bkf(t:ByteArray)(h0:0 < t.size):((rr t).2≠0/\(rr t).1=65533)↔(3<=t.size/\byt t 0=239/\byt t 1=191/\byt t 2=189):=by
 have hb:=aha t 0
 by_cases h1:byt t 0 < 128
 ·have hr:rr t=(byt t 0,1):=by unfold rr;rw[if_neg (by omega),if_pos h1]
  rw[hr];simp;omega
 by_cases c1:194<=byt t 0/\byt t 0<=223
 ·have hc:nk (byt t 0)=(2,128,byt t 0 - 192):=by unfold nk;rw[if_pos c1]
  by_cases hd:om t 1=true
  ·rw[aew h0 h1 hc (by decide) (auy.2 hd)]
   obtain⟨_,_,g1,g2⟩:=ya hd
   have hv:kh t (byt t 0 - 192) (2 - 1)=(byt t 0 - 192) * 64+byt t 1 - 128:=rfl
   rw[hv]
   split <;>simp <;>omega
  ·rw[aij h0 h1 hc (by decide) fun h=>hd (auy.1 h)];simp;omega
 by_cases c2:224<=byt t 0/\byt t 0<=239
 ·have hc:nk (byt t 0)=(3,2048,byt t 0 - 224):=by unfold nk;rw[if_neg (by omega),if_pos c2]
  by_cases hd:om t 1=true/\om t 2=true
  ·rw[aew h0 h1 hc (by decide) (awb.2 hd)]
   obtain⟨_,_,g1,g2⟩:=ya hd.1
   obtain⟨g5,_,g3,g4⟩:=ya hd.2
   have hv:kh t (byt t 0 - 224) (3 - 1)=((byt t 0 - 224) * 64+byt t 1 - 128) * 64+byt t 2 - 128:=rfl
   rw[hv]
   split <;>simp <;>omega
  ·rw[aij h0 h1 hc (by decide) fun h=>hd (awb.1 h)]
   simp only[ne_eq,not_true_eq_false,false_and,false_iff]
   rintro⟨k0,k1,k2,k3⟩
   apply hd
   unfold om tz
   simp[k2,k3];omega
 by_cases c3:240<=byt t 0/\byt t 0<=244
 ·have hc:nk (byt t 0)=(4,65536,byt t 0 - 240):=by unfold nk;rw[if_neg (by omega),if_neg (by omega),if_pos c3]
  by_cases hd:om t 1=true/\om t 2=true/\om t 3=true
  ·rw[aew h0 h1 hc (by decide) (auv.2 hd)]
   generalize kh t (byt t 0 - 240) (4 - 1)=v
   split <;>simp <;>omega
  ·rw[aij h0 h1 hc (by decide) fun h=>hd (auv.1 h)];simp;omega
 have hc:nk (byt t 0)=(0,0,0):=by unfold nk;rw[if_neg c1,if_neg c2,if_neg c3]
 have hr:rr t=(0,0):=by rw[aky h0 h1 hc];simp
 rw[hr];simp;omega
theorem bee(t:ByteArray):(rr t).2<=t.size:=by
 unfold rr
 by_cases h0:t.size=0
 ·rw[if_pos h0];omega
 rw[if_neg h0]
 split
 ·simp;omega
 split
 ·simp
 split
 ·simp
 split
 ·simp
 ·simp;omega
def rrs(s:ByteArray)(i:Nat):Option (List Nat):=
 if h:i < s.size then (if h2:(rr (kt s i)).2=0 then none else (rrs s (i+(rr (kt s i)).2)).map ((rr (kt s i)).1 :: ·)) else some []
termination_by s.size - i
decreasing_by omega
def ctl(c:Nat):Bool:=decide (c < 32) || (decide (127<=c) && decide (c<=159))
theorem bdw(s:ByteArray): ∀(m i:Nat),s.size - i<=m->tw s i=match rrs s i with
  | none=>false
  | some l=>l.all fun c=>!ctl c:=by
 intro m
 induction m with
 | zero=>
  intro i hm
  unfold tw rrs
  rw[dif_neg (by omega),dif_neg (by omega)];rfl
 | succ m ih=>
  intro i hm
  unfold tw rrs
  by_cases hi:i < s.size
  ·rw[dif_pos hi,dif_pos hi]
   have ht:0 < (kt s i).size:=by rw[aho];omega
   have hd:Utf8.decode s i=aee (rr (kt s i)):=by rw[ate,bbl _ ht]
   have he:=bkf (kt s i) ht
   rw[<-bhj] at he
   unfold aci
   have hrest:s.extract i s.size=kt s i:=rfl
   rw[hrest,hd]
   by_cases h2:(rr (kt s i)).2=0
   ·rw[dif_pos h2]
    have hp:wz (kt s i) xh=false:=by
     cases hq:wz (kt s i) xh with
     | false=>rfl
     | true=>exact absurd h2 (he.2 hq).1
    simp[aee,h2,hp]
   ·rw[dif_neg h2]
    have hf:aee (rr (kt s i))=rr (kt s i):=by simp[aee,h2]
    rw[hf,ih (i+(rr (kt s i)).2) (by omega)]
    have hb:(decide ((rr (kt s i)).1 < 32) || (decide (127<=(rr (kt s i)).1) && decide ((rr (kt s i)).1<=159) || decide ((rr (kt s i)).1=65533) && !wz (kt s i) xh))=ctl (rr (kt s i)).1:=by
     unfold ctl
     by_cases hc:(rr (kt s i)).1=65533
     ·rw[he.1 ⟨h2,hc⟩,hc];decide
     ·simp[hc]
    rw[hb]
    cases rrs s (i+(rr (kt s i)).2) with
    | none=>simp
    | some l=>simp
  ·rw[dif_neg hi,dif_neg hi];rfl
def bdx(c:Nat):List Value:=[.int .i32 (c:Nat)]
abbrev OwR(w:World)(base:Nat)(v:Value)(l:List Nat):Prop:=Ow w base T.bi 1 bdx v l
def ald(v:Value):Nat:=match v with
 | .string s=>s.size
 | _=>0
def bno(w:World)(s:ByteArray):KL:=fun x w1=> ∃(i:Nat)(l:List Nat),x.length=6/\gv x 5= .string (kt s i)/\OwR w1 w.heap.size (gv x 4) l/\Fz w w1/\i<=s.size/\l.length<=i/\rrs s 0=(rrs s i).map (l ++ ·)
theorem bev{w:World}{s:ByteArray}(hs:s.size < 100000){K:KV}(h0:rrs s 0=none->∀w',Fz w w'->K (.tuple #[.slice none 0 0,.bool false]) w')
  (h1: ∀l,rrs s 0=some l->l.length<=s.size->∀w' v,OwR w' w.heap.size v l->Fz w w'->K (.tuple #[v,.bool true]) w'):jr P F.eh [.string s] w K:=by
 apply M.av.calls
 unfold M.av
 rw[im]
 refine⟨bno w s,fun x _=>ald (gv x 5),⟨0,[],rfl,?_,Ow.none,Fr.refl _ _,Nat.zero_le _,Nat.le_refl _,by simp⟩,?_⟩
 ·show Value.string s=_
  unfold kt;simp
 rintro x w1 ⟨i,l,hx,e5,o1,f1,hi,hl,hR⟩
 unfold M.av.j1
 simp only[im,e5,bje]
 have hsz:=aho s i
 by_cases hlt:i < s.size
 ·have hlt':(0:Int) < ((kt s i).size:Int):=by omega
  simp only[vp,hlt',decide_true,Eng.cond_true]
  unfold M.av.j2
  rw[e5,M.h.fcall]
  refine bhg _ ?_
  simp only[aba,aau,im,aak]
  rw[show rrs s i=_ from rrs.eq_1 s i,dif_pos hlt] at hR
  by_cases h2:(rr (kt s i)).2=0
  ·have h2':(((rr (kt s i)).2:Nat):Int)=0:=by omega
   simp only[h2',decide_true,Eng.cond_true]
   rw[dif_pos h2] at hR
   exact h0 hR w1 f1
  ·have h2': ¬(((rr (kt s i)).2:Nat):Int)=0:=by omega
   simp only[h2',decide_false,Eng.cond_false]
   rw[dif_neg h2] at hR
   have hwd:=bee (kt s i)
   unfold M.av.j3
   simp[e5]
   have fa:Fz w1 (w1.alloc (.cells #[.int .i32 ((rr (kt s i)).1:Nat)] T.bi)):=(Fr.refl _ w1).alloc _
   have hge:=f1.size
   refine zf et.bq (fun _=>rfl) (fun x u hu=>by simp[bdx] at hu;subst hu;rfl) (o1.fr fa fun _ _ h=>h) (Sl.one (x:=(rr (kt s i)).1) rfl rfl) (by simp;omega) (by decide) (by simp;omega) _ fun v' w2 o2 f2 g2=>?_
   rw[ahw (i:=(rr (kt s i)).2) amk (.inr ⟨_,rfl⟩) (.inl ⟨rfl,rfl⟩) hwd (Nat.le_refl _)]
   refine⟨⟨i+(rr (kt s i)).2,l ++ [(rr (kt s i)).1],rfl,?_,o2,?_,by omega,by simp;omega,?_⟩,?_⟩
   ·show Value.string _=_
    rw[<-azo];rfl
   ·refine f1.jv ((fa.mono fun _ _ h=>h.elim).trans f2) fun b hb he=>?_
    have:=(o1.lt he).1;omega
   ·rw[hR]
    cases rrs s (i+(rr (kt s i)).2) <;>simp
   ·show ald (.string ((kt s i).extract (rr (kt s i)).2 (kt s i).size)) < ald (.string (kt s i))
    simp only[ald,ByteArray.size_extract]
    omega
 ·have hlt': ¬(0:Int) < ((kt s i).size:Int):=by omega
  simp only[vp,hlt',decide_false,Eng.cond_false]
  rw[show rrs s i=_ from rrs.eq_1 s i,dif_neg hlt] at hR
  exact h1 l (by simpa using hR) (by omega) w1 _ o1 f1
def NmI(w:World)(l:List Nat):KL:=fun x w1=> ∃(u:Value)(i:Nat),x=[u,.int .i64 (i:Nat)]/\w1=w/\i<=l.length/\∀j c,l[j]? =some c->j < i->ctl c=false
theorem akj{w:World}(s:ByteArray){K:KV}(h: ∀w',Fz w w'->K (.int .i64 (qe s)) w'):jr P F.dk [.string s] w K:=by
 apply M.bq.calls
 unfold M.bq
 unfold qe at h
 simp only[im,bje,nj]
 by_cases h0:s.size=0
 ·have:(s.size:Int) < 1:=by omega
  simp[h0] at h⊢
  exact h w (Fr.refl _ _)
 have h0': ¬(s.size:Int) < 1:=by omega
 by_cases h1:32 < s.size
 ·have h1':(32:Int) < s.size:=by omega
  simp[h0,h0',h1,h1'] at h⊢
  exact h w (Fr.refl _ _)
 have h1': ¬(32:Int) < s.size:=by omega
 simp[h0,h0',h1,h1'] at h⊢
 unfold M.bq.j0
 rw[M.av.fcall]
 rw[bdw s _ 0 (Nat.le_refl _)] at h
 refine bev (by omega) (fun hr w1 f1=>?_) fun l hr hll w1 v o1 f1=>?_
 ·rw[hr] at h
  simp only[aba,aau,im]
  refine⟨fun x w2=>gv x 1= .int .i64 0/\w2=w1,fun _ _=>0,⟨rfl,rfl⟩,?_⟩
  rintro x w2 ⟨e1,rfl⟩
  simp[e1]
  have:=h w2 f1
  simpa using this
 ·rw[hr] at h
  simp only[aba,aau,im]
  have hsl:Sl w1 1 bdx v l:=o1.sl fun _=>rfl
  refine⟨NmI w1 l,fun x _=>l.length - ms x 1,⟨_,0,rfl,rfl,Nat.zero_le _,fun j c _ h=>by omega⟩,?_⟩
  rintro x w2 ⟨u,i,rfl,rfl,hi,hall⟩
  have q0: ∀a b:Value,gv [a,b] 0=a:=fun _ _=>rfl
  have q1: ∀a b:Value,gv [a,b] 1=b:=fun _ _=>rfl
  simp only[q0,q1]
  rw[hsl.jp (by simp)]
  by_cases hil:i < l.length
  ·have hil':(i:Int) < l.length:=by omega
   simp only[nj,hil',decide_true,Eng.cond_true]
   unfold M.bq.j3
   obtain⟨b,o,cap,rfl,hb,_,hc⟩:=hsl.at hil
   have c0:=hc 0 _ rfl
   simp only[Nat.mul_one,Nat.add_zero] at c0
   generalize hli:l[i]=c at *
   have hgi:l[i]? =some c:=by rw[List.getElem?_eq_getElem hil,hli]
   have hw:IntKind.i64.wrap ((i:Int)+1)=((i+1:Nat):Int):=by rw[iy];rfl
   have bad:ctl c=true->K (.int .i64 5) w2:=fun hct=>by
    have:(l.all fun c=>!ctl c)=false:=by
     rw[List.all_eq_false]
     exact⟨c,List.mem_of_getElem? hgi,by simp[hct]⟩
    have hh:=h w2 f1
    simpa [this] using hh
   have zj:ctl c=false->∀u,NmI w2 l [u,.int .i64 ((i:Int)+1)] w2/\l.length - ms [u,.int .i64 ((i:Int)+1)] 1 < l.length - ms [u,.int .i64 (i:Int)] 1:=fun hct u=>by
    refine⟨⟨u,i+1,rfl,rfl,by omega,fun j c' hj hlt=>?_⟩,by simp[ms,gv];omega⟩
    by_cases hji:j=i
    ·subst hji;rw[hgi] at hj;cases hj;exact hct
    ·exact hall j c' hj (by omega)
   by_cases d1:c < 32
   ·have d1':(c:Int) < 32:=by omega
    simp[q0,q1,hil,c0,d1']
    exact bad (by simp[ctl,d1])
   have d1': ¬(c:Int) < 32:=by omega
   by_cases d2:127<=c
   ·have d2':(127:Int)<=c:=by omega
    by_cases d3:c<=159
    ·have d3':(c:Int)<=159:=by omega
     simp[q0,q1,hil,c0,d1',d2',d3']
     exact bad (by simp[ctl,d2,d3])
    ·have d3': ¬(c:Int)<=159:=by omega
     simp[q0,q1,hil,c0,d1',d2',d3',hw]
     exact zj (by simp[ctl,d1,d3]) _
   ·have d2': ¬(127:Int)<=c:=by omega
    simp[q0,q1,hil,c0,d1',d2',hw]
    exact zj (by simp[ctl,d1,d2]) _
  ·have hil': ¬(i:Int) < l.length:=by omega
   simp only[nj,hil',decide_false,Eng.cond_false]
   have:(l.all fun c=>!ctl c)=true:=by
    rw[List.all_eq_true]
    intro c hc
    obtain⟨j,hj,rfl⟩:=List.mem_iff_getElem.1 hc
    rw[hall j _ (List.getElem?_eq_getElem hj) (by omega)];rfl
   simp
   have hh:=h w2 f1
   simpa [this] using hh
theorem bna(a b:Int):orK [a,b]=if a=0 then b else a:=by
 unfold orK
 by_cases ha:a=0 <;>by_cases hb:b=0 <;>simp[List.find?,ha,hb]
theorem apl(s:ByteArray):qe s=0\/qe s=5:=by
 unfold qe
 split
 ·exact .inr rfl
 split
 ·exact .inl rfl
 ·exact .inr rfl
theorem aiu{w:World}(s:Spn){K:KV}(h: ∀w',Fz w w'->K (.int .i64 (kv s)) w'):jr P F.dg [ki s] w K:=by
 apply M.ck.calls
 unfold M.ck
 rw[amz]
 have hb:=ajk w s
 have hf:Fz w (w.alloc (.cells #[.int .u64 s.je,.int .u64 s.id,.int .u64 s.me,.int .u64 s.jy,.int .u64 s.len,.string s.kp,.string s.name,.bool s.ny] T.f)):=(Fr.refl _ w).alloc _
 generalize w.alloc (.cells #[.int .u64 s.je,.int .u64 s.id,.int .u64 s.me,.int .u64 s.jy,.int .u64 s.len,.string s.kp,.string s.name,.bool s.ny] T.f)=wa at *
 have c0:=qp hb 0 _ rfl
 have c1:=qp hb 1 _ rfl
 have c3:=qp hb 3 _ rfl
 have c4:=qp hb 4 _ rfl
 have c5:=qp hb 5 _ rfl
 unfold kv at h
 simp only[im]
 by_cases h0:s.je=0
 ·simp[c0,h0] at h⊢
  exact h wa hf
 by_cases h1:s.id=0
 ·simp[c0,c1,h0,h1] at h⊢
  exact h wa hf
 by_cases h2:1099511627776 < s.jy
 ·have h3:1099511627776 < max s.jy s.len:=by omega
  simp[c0,c1,c3,h0,h1,h2,h3] at h⊢
  exact h wa hf
 by_cases h2':1099511627776 < s.len
 ·have h3:1099511627776 < max s.jy s.len:=by omega
  simp[c0,c1,c3,c4,h0,h1,h2,h2',h3] at h⊢
  exact h wa hf
 have h3: ¬1099511627776 < max s.jy s.len:=by omega
 rw[if_neg (by simp[h0,h1,h3]),bna] at h
 simp[c0,c1,c3,c4,h0,h1,h2,h2']
 unfold M.ck.j0
 simp[c5]
 rw[M.bq.fcall]
 refine akj _ fun w2 f2=>?_
 have hb2:aag w2 w.heap.size s:=f2.heap hb fun h=>h
 have d6:=qp hb2 6 _ rfl
 by_cases n1:qe s.kp=0
 ·simp[n1,d6] at h⊢
  rw[M.bq.fcall]
  refine akj _ fun w3 f3=>?_
  have hh:=h w3 ((hf.trans f2).trans f3)
  rcases apl s.name with n2|n2
  ·simp[n2] at hh⊢;exact hh
  ·simp[n2] at hh⊢;exact hh
 ·have n5:qe s.kp=5:=(apl _).resolve_left n1
  have hh:=h w2 (hf.trans f2)
  simp[n5] at hh⊢
  exact hh
def aqg(ok:Bool)(jt:Bal)(v:Int):Bool:=(decide (v=0) || (xj v && !(decide (jt=jc)))) && (if ok=true then !(decide (v=0)) || decide (jt=jc) else decide (v=0) && !(decide (jt=jc)))
def wd(p:Pk)(ls:List Spn)(lm:List Mem)(lu:List Int):Bool:=
 if p.jh=1\/p.jh=2 then xt p.tr ls else if p.jh=3 then wt lm else if p.jh=4 then decide (0 < p.b.n) else if p.jh=5 then decide (0 < p.b.n) && aqg p.ok p.jt p.v else if p.jh=6 then decide (0 < p.b.n) && xj p.v else if p.jh=7 then decide (0 < p.b.n) && (p.ok == decide (p.jt=jc)) else if p.jh=8 then xj p.v else if p.jh=9 then decide (0 < p.b.n) && xt p.tr ls else if p.jh=10 then zx 0 lu && (decide (0 < lu.length) && decide (lu.length<=16)) else false
def axb(p:Pk)(ls:List Spn)(lm:List Mem)(lu:List Int):Bool:=zr p (rq p) ls (qj p ls) lm (qh p lm) lu (ql p lu)
def xw(p:Pk)(ls:List Spn)(lm:List Mem)(lu:List Int):Bool:=(axb p ls lm lu && (decide (p.jh=3) || decide (0 < p.tr))) && wd p ls lm lu
def apz(p:Pk)(ls:List Spn)(lm:List Mem)(lu:List Int):Int:=if xw p ls lm lu=true then 0 else 6
def qv(p:Pk):Pk:=if p.jh=4\/p.jh=6 then ⟨if p.v=0 then 4 else 6,p.tr,p.b,jc,p.v,false,ke,ke,ke⟩ else if p.jh=5\/p.jh=7 then ⟨p.jh,p.tr,p.b,p.jt,p.v,p.ok,ke,ke,ke⟩ else rq p
theorem bby{p:Pk}{ls:List Spn}{lm:List Mem}{lu:List Int}(hr:ala p)(hk:1<=p.jh/\p.jh<=10):(ta p ls lm lu && zr p (qv p) ls (qj p ls) lm (qh p lm) lu (ql p lu))=xw p ls lm lu:=by
 have h1:=hr.tr.1
 have h2:=hr.b.1.1
 have core:(ta p ls lm lu && ly p (qv p))=((ly p (rq p) && (decide (p.jh=3) || decide (0 < p.tr))) && wd p ls lm lu):=by
  obtain⟨k,tr,b,jt,v,ok,sv,mv,iv⟩:=p
  simp only at hk h1 h2
  have hcase:k=1\/k=2\/k=3\/k=4\/k=5\/k=6\/k=7\/k=8\/k=9\/k=10:=by omega
  rcases hcase with rfl|rfl|rfl|rfl|rfl|rfl|rfl|rfl|rfl|rfl
  ·simp[ta,wd,qv,rq,ly,agz]
   cases xt tr ls <;>by_cases ht:0 < tr <;>by_cases hb:b=jc <;>by_cases hs:jt=jc <;>by_cases hv:v=0 <;>cases ok <;>simp[ht,hb,hs,hv]
  ·simp[ta,wd,qv,rq,ly,agz]
   cases xt tr ls <;>by_cases ht:0 < tr <;>by_cases hb:b=jc <;>by_cases hs:jt=jc <;>by_cases hv:v=0 <;>cases ok <;>simp[ht,hb,hs,hv]
  ·simp[ta,wd,qv,rq,ly]
   cases wt lm <;>by_cases ht:tr=0 <;>by_cases hb:b=jc <;>by_cases hs:jt=jc <;>by_cases hv:v=0 <;>cases ok <;>simp[ht,hb,hs,hv]
  ·simp[ta,wd,qv,rq,ly,arm]
   by_cases ht:0 < tr <;>by_cases hb:0 < b.n <;>by_cases hs:jt=jc <;>by_cases hv:v=0 <;>cases ok <;>simp[ht,hb,hs,hv]
  ·simp[ta,wd,qv,rq,ly,ahx,aqg]
   by_cases ht:tr=0 <;>by_cases hb:b.n=0 <;>by_cases hs:jt=jc <;>by_cases hv:v=0 <;>cases ok <;>cases htl:xj v <;>simp[ht,hb,hs,hv,htl] <;>first|omega| (subst hv;simp[xj] at htl)|skip
  ·simp[ta,wd,qv,rq,ly,arm]
   by_cases ht:0 < tr <;>by_cases hb:0 < b.n <;>by_cases hs:jt=jc <;>by_cases hv:v=0 <;>cases ok <;>simp[ht,hb,hs,hv] <;>first|rfl| (simp[xj];done)|skip
  ·simp[ta,wd,qv,rq,ly,ahx]
   by_cases ht:tr=0 <;>by_cases hb:b.n=0 <;>by_cases hs:jt=jc <;>by_cases hv:v=0 <;>cases ok <;>simp[ht,hb,hs,hv] <;>first|omega|skip
  ·simp[ta,wd,qv,rq,ly,apa]
   by_cases ht:0 < tr <;>by_cases hb:b=jc <;>by_cases hs:jt=jc <;>cases ok <;>simp[ht,hb,hs]
  ·simp[ta,wd,qv,rq,ly,aic]
   cases xt tr ls <;>by_cases ht:0 < tr <;>by_cases hb:0 < b.n <;>by_cases hs:jt=jc <;>by_cases hv:v=0 <;>cases ok <;>simp[ht,hb,hs,hv]
  ·simp[ta,wd,qv,rq,ly,akq]
   cases zx 0 lu <;>by_cases ht:0 < tr <;>by_cases hb:b=jc <;>by_cases hs:jt=jc <;>by_cases hv:v=0 <;>cases ok <;>simp[ht,hb,hs,hv]
 unfold xw axb zr
 generalize decide (lm=qh p lm)=A
 generalize decide (lu=ql p lu)=B
 generalize xd ls (qj p ls)=C
 cases A <;>cases B <;>cases C <;>simp <;>simpa using core
theorem wj{p q q':Pk}(h1:q.jh=q'.jh)(h2:q.tr=q'.tr)(h3:q.b=q'.b)(h4:q.jt=q'.jt)(h5:q.v=q'.v)(h6:q.ok=q'.ok):ly p q=ly p q':=by
 unfold ly;rw[h1,h2,h3,h4,h5,h6]
theorem ayf{w:World}{p:Pk}{ls:List Spn}{lm:List Mem}{lu:List Int}{t:Value}(ht:ThR w p ls lm lu t)(hk:1<=p.jh/\p.jh<=10)(l1:ls.length<=1000000)(l2:lm.length<=1000000)(l3:lu.length<=1000000){K:KV}
  (h: ∀w' q,aai w' q (qj p ls) (qh p lm) (ql p lu)->(∀x,ly x q=ly x (qv p))->Fz w w'->K (pkA q) w'):ig P F.bd [t] w K:=by
 have e0:([]:List Spn).length<=1000000:=by simp
 have e1:([]:List Mem).length<=1000000:=by simp
 have e2:([]:List Int).length<=1000000:=by simp
 cases ht with
 | kg v q hs=>
  have hS:qj p ls=ls:=by unfold qj;rw[if_pos (by omega)]
  have hM:qh p lm=[]:=by unfold qh;rw[if_neg (by omega)]
  have hU:ql p lu=[]:=by unfold ql;rw[if_neg (by omega)]
  rw[hS,hM,hU] at h
  refine amf hs l1 fun w' v' s f=>h w' _ ⟨s,Sl.nil,Sl.nil,l1,e1,e2⟩ (fun x=>wj ?_ ?_ ?_ ?_ ?_ ?_) f
  all_goals rcases q with q|q <;>simp[qv,rq,q]
 | aka v q hs=>
  have hS:qj p ls=[]:=by unfold qj;rw[if_neg (by omega)]
  have hM:qh p lm=lm:=by unfold qh;rw[if_pos (by omega)]
  have hU:ql p lu=[]:=by unfold ql;rw[if_neg (by omega)]
  rw[hS,hM,hU] at h
  refine akh hs l2 fun w' v' s f=>h w' ⟨3,0,jc,jc,0,false,ke,v',ke⟩ ⟨Sl.nil,s,Sl.nil,e0,l2,e2⟩ (fun x=>wj ?_ ?_ ?_ ?_ ?_ ?_) f
  all_goals simp[qv,rq,q]
 | ask q=>
  have hS:qj p ls=[]:=by unfold qj;rw[if_neg (by omega)]
  have hM:qh p lm=[]:=by unfold qh;rw[if_neg (by omega)]
  have hU:ql p lu=[]:=by unfold ql;rw[if_neg (by omega)]
  rw[hS,hM,hU] at h
  refine aqn fun w' f=>h w' _ ⟨Sl.nil,Sl.nil,Sl.nil,e0,e1,e2⟩ (fun x=>wj ?_ ?_ ?_ ?_ ?_ ?_) f
  all_goals rcases q with q|q <;>simp[qv,bew,q]
 | aao q=>
  have hS:qj p ls=[]:=by unfold qj;rw[if_neg (by omega)]
  have hM:qh p lm=[]:=by unfold qh;rw[if_neg (by omega)]
  have hU:ql p lu=[]:=by unfold ql;rw[if_neg (by omega)]
  rw[hS,hM,hU] at h
  refine amw fun w' f=>h w' _ ⟨Sl.nil,Sl.nil,Sl.nil,e0,e1,e2⟩ (fun x=>wj ?_ ?_ ?_ ?_ ?_ ?_) f
  all_goals rcases q with q|q <;>simp[qv,q]
 | sn q=>
  have hS:qj p ls=[]:=by unfold qj;rw[if_neg (by omega)]
  have hM:qh p lm=[]:=by unfold qh;rw[if_neg (by omega)]
  have hU:ql p lu=[]:=by unfold ql;rw[if_neg (by omega)]
  rw[hS,hM,hU] at h
  refine aos fun w' f=>h w' _ ⟨Sl.nil,Sl.nil,Sl.nil,e0,e1,e2⟩ (fun x=>wj ?_ ?_ ?_ ?_ ?_ ?_) f
  all_goals simp[qv,rq,q]
 | xy v q hs=>
  have hS:qj p ls=ls:=by unfold qj;rw[if_pos (by omega)]
  have hM:qh p lm=[]:=by unfold qh;rw[if_neg (by omega)]
  have hU:ql p lu=[]:=by unfold ql;rw[if_neg (by omega)]
  rw[hS,hM,hU] at h
  refine ale hs l1 fun w' v' s f=>h w' _ ⟨s,Sl.nil,Sl.nil,l1,e1,e2⟩ (fun x=>wj ?_ ?_ ?_ ?_ ?_ ?_) f
  all_goals simp[qv,rq,q]
 | aaq v q hs=>
  have hS:qj p ls=[]:=by unfold qj;rw[if_neg (by omega)]
  have hM:qh p lm=[]:=by unfold qh;rw[if_neg (by omega)]
  have hU:ql p lu=lu:=by unfold ql;rw[if_pos (by omega)]
  rw[hS,hM,hU] at h
  refine amn hs l3 fun w' v' s f=>h w' _ ⟨Sl.nil,Sl.nil,s,e0,e1,l3⟩ (fun x=>wj ?_ ?_ ?_ ?_ ?_ ?_) f
  all_goals simp[qv,rq,q]
 | none q=>exact absurd hk q
theorem ayg{p:Pk}{ls:List Spn}{lm:List Mem}{lu:List Int}(h: ¬(1<=p.jh/\p.jh<=10)):xw p ls lm lu=false:=by
 unfold xw wd
 rw[if_neg (by omega),if_neg (by omega),if_neg (by omega),if_neg (by omega),if_neg (by omega),if_neg (by omega),if_neg (by omega),if_neg (by omega),if_neg (by omega),Bool.and_false]
theorem apy{w:World}{p:Pk}{ls:List Spn}{lm:List Mem}{lu:List Int}(hp:aai w p ls lm lu)(hr:ala p){K:KV}(h: ∀w',Fz w w'->K (.int .i64 (apz p ls lm lu)) w'):ig P F.dr [pkA p] w K:=by
 rw[M.dv.fcall]
 apply M.dv.calls
 unfold M.dv
 refine St.td (St.jy w) fun pb w1 S1=>?_
 have S1':St w w1 (ja pb (pkC p).toArray T.c :: []):=S1
 have pl:=fun K=>we S1' K
 simp[pl]
 refine aok (hp.fr S1.fr) fun w2 t ht _ f2=>?_
 have S2:=S1'.ju f2
 have S3:=S2.ju ((Fr.refl _ w2).dr 1)
 unfold apz at h
 by_cases hk:1<=p.jh/\p.jh<=10
 case neg=>
  rw[ht.bmn hk]
  rw[ayg hk] at h
  simp[bil]
  exact h _ S3.fr
 rw[<-bby hr hk] at h
 simp[ht.eqn hk]
 have ht3:=ht.fr ((Fr.refl _ w2).dr 1)
 refine bhf ht3 hk hp.ls hp.lm hp.lu fun w4 f4=>?_
 have S4:=S3.ju f4
 have pl4:=fun K=>we S4 K
 cases hb:ta p ls lm lu with
 | false=>
  rw[hb] at h
  simp
  exact h _ S4.fr
 | true=>
 rw[hb,Bool.true_and] at h
 simp[pl4]
 refine ayf (ht3.fr f4) hk hp.ls hp.lm hp.lu fun w5 q hq hf f5=>?_
 have S5:=S4.ju f5
 have pl5:=fun K=>we S5 K
 simp[pl5]
 refine bcs (hp.fr S5.fr) hq fun w6 f6=>?_
 have S6:=S5.ju f6
 have fin:=h w6 S6.fr
 have e:zr p q ls (qj p ls) lm (qh p lm) lu (ql p lu)=zr p (qv p) ls (qj p ls) lm (qh p lm) lu (ql p lu):=by unfold zr;rw[hf p]
 rw[e]
 generalize zr p (qv p) ls (qj p ls) lm (qh p lm) lu (ql p lu)=bb at *
 cases bb with
 | true=>simp at fin⊢;exact fin
 | false=>simp at fin⊢;exact fin
theorem arv{w:World}{p:Pk}{ls:List Spn}{lm:List Mem}{lu:List Int}(hp:aai w p ls lm lu)(hr:ala p){K:KV}(h1:xw p ls lm lu=true->∀w' t,ThR w' p ls lm lu t->ajz w t->Fz w w'->K (.tuple #[t,.int .i64 0]) w')(h0:xw p ls lm lu=false->∀w',Fz w w'->K (.tuple #[.nilIface,.int .i64 6]) w'):ig P F.gb [pkA p] w K:=by
 rw[M.fp.fcall]
 apply M.fp.calls
 unfold M.fp
 refine St.td (St.jy w) fun pb w1 S1=>?_
 have S1':St w w1 (ja pb (pkC p).toArray T.c :: []):=S1
 have pl:=fun K=>we S1' K
 simp[pl]
 refine apy (hp.fr S1.fr) hr fun w2 f2=>?_
 have S2:=S1'.ju f2
 unfold apz
 cases he:xw p ls lm lu with
 | false=>
  simp
  exact h0 he w2 S2.fr
 | true=>
  simp
  have pl2:=fun K=>we S2 K
  simp[pl2]
  refine aok (hp.fr S2.fr) fun w3 t ht ho f3=>?_
  exact h1 he w3 t ht (ho.mono S2.fr.size) (S2.ju f3).fr
structure Evn where
 jh:Int
 at':Int
 jk:Int
 tr:Int
 b:Bal
 v:Int
 s:Spn
 k:Int
def evC(e:Evn):List Value:=[.int .i64 e.jh,.int .u64 e.at',.int .u64 e.jk,.int .u64 e.tr,.int .u64 e.b.n,.int .u64 e.b.jk,.int .i64 e.v,.int .u64 e.s.je,.int .u64 e.s.id,.int .u64 e.s.me,.int .u64 e.s.jy,.int .u64 e.s.len,.string e.s.kp,.string e.s.name,.bool e.s.ny,.int .i64 e.k]
theorem aek(e:Evn):(evC e).length=16:=rfl
theorem aly(e:Evn): ∀u∈evC e,kw u=true:=fun u hu=>by
 simp only[evC,List.mem_cons,List.not_mem_nil,or_false] at hu
 rcases hu with rfl|rfl|rfl|rfl|rfl|rfl|rfl|rfl|rfl|rfl|rfl|rfl|rfl|rfl|rfl|rfl <;>rfl
abbrev mu(v:Value)(l:List Evn):Asn:=ph T.ap 16 evC v l
structure Ltr where
 frm:Int
 to:Int
 p:Pk
 ok: ∀u∈pkC p,kw u=true
def ltC(l:Ltr):List Value:=[.int .u64 l.frm,.int .u64 l.to] ++ pkC l.p
theorem acf(l:Ltr):(ltC l).length=13:=rfl
theorem bid(l:Ltr): ∀u∈ltC l,kw u=true:=fun u hu=>by
 unfold ltC at hu
 rcases List.mem_append.1 hu with hu|hu
 ·simp only[List.mem_cons,List.not_mem_nil,or_false] at hu
  rcases hu with rfl|rfl <;>rfl
 ·exact l.ok u hu
abbrev mm(v:Value)(l:List Ltr):Asn:=ph T.bm 13 ltC v l
structure Cl where
 inc:Int
 tr:Int
 sp:Int
 pol:ByteArray
 rep:Value
 rul:Value
 tb:Nat
 hb:Nat
 kb:Nat
 ru:Nat
 se:Nat
 un:Nat
 kj:Bal
 tm:Int
 now:Int
 out:Value
 ev:Value
 bad:Int
 bdt:Int
def clC(q:Cl):Array Value:= #[.int .u64 1,.int .u64 q.inc,q.rep,.int .u64 200,.int .i64 3,.int .u64 5,.int .u64 20,.int .u64 10,.int .u64 4,.int .i64 q.tr,.int .i64 q.sp,.int .i64 4,.string q.pol,q.rul,.pointer (some ⟨q.tb,0,none⟩),.pointer (some ⟨q.hb,0,none⟩),.pointer (some ⟨q.kb,0,none⟩),.map (some q.ru),.map (some q.se),.map (some q.un),.int .u64 q.kj.n,.int .u64 q.kj.jk,.int .u64 q.tm,.int .u64 q.now,q.out,q.ev,.int .u64 q.bad,.int .u64 q.bdt]
abbrev clA(p:Nat)(q:Cl):Asn:=ja p (clC q) T.b
abbrev km(p:Nat):Value:= .pointer (some ⟨p,0,none⟩)
def ahg(a0:Int)(r:Nat):Array Value:= #[.int .u64 a0,.int .u64 0,.int .u64 0,.int .u64 0,.int .u64 0,.int .u64 0,.int .u64 0,.int .u64 0,.int .u64 0,.int .u64 0,.int .u64 0,.int .u64 0,.int .u64 0,.int .u64 0,.int .u64 0,.int .u64 0,.int .u64 0,.int .u64 0,.int .u64 0,.int .u64 0,.int .u64 0,.int .u64 0,.int .u64 0,.int .u64 0,.int .u64 0,.int .u64 0,.int .u64 0,.int .u64 0,.int .u64 0,.int .u64 0,.int .u64 0,.int .u64 0,.int .u64 0,.int .u64 0,.int .u64 0,.int .u64 0,.int .u64 0,.int .u64 0,.int .u64 0,.int .u64 0,.int .u64 0,.int .u64 0,.int .u64 0,.int .u64 0,.int .u64 0,.int .u64 0,.int .u64 0,.int .u64 0,.int .u64 0,.int .u64 0,.int .u64 0,.int .u64 0,.int .u64 0,.int .u64 0,.int .u64 0,.int .u64 0,.int .u64 0,.int .u64 0,.int .u64 0,.int .u64 0,.int .u64 0,.int .u64 0,.int .u64 0,.int .u64 0,.int .i64 0,.int .i64 4,.map (some r)]
def pd(kb:Nat)(a0:Int)(m:MP):Asn where
 ok w B:= ∃r,Rs [ja kb (ahg a0 r) T.ay,jl r .u64 m] w B
 ji:=by
  rintro w w' B S ⟨r,h⟩ hf hn
  exact⟨r,h.ji hf hn⟩
section
variable {w0 w : World} {R : List Asn} {kb : Nat} {a0 : Int} {m : MP}
theorem bfy(S:St w0 w (pd kb a0 m :: R)): ∃r,St w0 w (ja kb (ahg a0 r) T.ay :: jl r .u64 m :: R):=by
 obtain⟨B,⟨r,h⟩,_,cl⟩:=S.open
 exact⟨r,cl w [ja kb (ahg a0 r) T.ay,jl r .u64 m] (Fr.refl _ _) (h.mono fun b hb=> .inl hb)⟩
theorem bfs{r:Nat}(S:St w0 w (ja kb (ahg a0 r) T.ay :: jl r .u64 m :: R)):St w0 w (pd kb a0 m :: R):=by
 obtain⟨U,h1,_,g⟩:=St.akg (L:=[ja kb (ahg a0 r) T.ay,jl r .u64 m]) (R:=R) S
 exact g w [pd kb a0 m] (Fr.refl _ _) ⟨U,⟨r,h1⟩,fun b hb=> .inl hb,trivial⟩
theorem atw(S:St w0 w R){K:KV}(h: ∀w' kb,St w0 w' (pd kb 0 [] :: R)->K (.tuple #[.pointer (some ⟨kb,0,none⟩),.int .i64 0]) w'):ig P F.gl [.int .i64 4] w K:=by
 rw[M.fz.fcall]
 apply M.fz.calls
 unfold M.fz
 have S1:=S.aif .u64
 have S2:=S1.mkB (ahg 0 w.heap.size) T.ay
 simp only[jd] at S2
 simp[zz]
 exact h _ _ (bfs S2)
theorem alp(S:St w0 w (pd kb a0 m :: R))(t:Int){K:KV}(h:K ((kl m t).getD (.int .i64 0)) w):ig P F.ct [.pointer (some ⟨kb,0,none⟩),.int .u64 t] w K:=by
 obtain⟨r,S1⟩:=bfy S
 rw[M.ei.fcall]
 apply M.ei.calls
 unfold M.ei
 have c:il w kb 66=some (.map (some r)):=by rw[S1.cell];rfl
 simp[c]
 rw[tp mt.al S1.swap.mp]
 exact h
theorem bgs(S:St w0 w (pd kb 0 [] :: R)){t v:Int}(ht:t≠0)(hv:1<=v/\v<=3){K:KV}(h: ∀w',St w0 w' (pd kb t [(t,.int .i64 v)] :: R)->K (.bool true) w'):ig P F.ep [.pointer (some ⟨kb,0,none⟩),.int .u64 t,.int .i64 v] w K:=by
 obtain⟨r,S1⟩:=bfy S
 rw[M.bw.fcall]
 apply M.bw.calls
 unfold M.bw
 have c:il w kb 66=some (.map (some r)):=by rw[S1.cell];rfl
 have c65:il w kb 65=some (.int .i64 4):=by rw[S1.cell];rfl
 have v1: ¬v < 1:=by omega
 have v2: ¬3 < v:=by omega
 simp[ht,v1,v2]
 unfold M.bw.j0
 simp[c]
 rw[att mt.al S1.swap.mp]
 simp[kl]
 unfold M.bw.j1
 have ia: ∀w' K,iaT P T.bw (.pointer (some ⟨kb,0,none⟩)) (.int .i64 0) w' K=K (.pointer (some ⟨kb,0,none⟩)) w':=fun w' K=>kr
 have hl:=fun cs K=>adw (ty:=T.d) mt.al S1.swap.mp cs K
 simp[c,hl,c65,ia]
 refine St.nh S1 rfl (by simp[ahg]) fun w2 S2=>?_
 have S3:St w0 w2 (ja kb (ahg t r) T.ay :: jl r .u64 [] :: R):=S2
 have d:il w2 kb 66=some (.map (some r)):=by rw[S3.cell];rfl
 simp[d]
 exact St.avv mt.al S3.swap t _ fun w4 S4=>h w4 (bfs S4.swap)
end
open Go.Eng Go.Proofs.YtgepcfcicngceaaGreatDoor.Sint
theorem akt: ∀l:List Int,(l.flatMap ng).length=l.length * 8
 | []=>rfl
 | x :: l=>by rw[List.flatMap_cons,List.length_append,sy,akt l,List.length_cons];omega
section
variable {w0 w : World} {R : List Asn}
end
def ado(b:Bool):Int:=if b=true then 1 else 0
def adc(s:ByteArray):List Int:=(s.size:Int) :: yw s
def rt(s:Spn):List Int:=[s.je,s.id,s.me,s.jy,s.len]
def afn(s:Spn):List Int:=(rt s).flatMap ng ++ [ado s.ny] ++ adc s.kp ++ adc s.name
theorem anw{s:Spn}(h:kv s=0):s.kp.size<=32/\s.name.size<=32:=by
 unfold kv at h
 split at h
 ·cases h
 ·unfold orK at h
  have hn: ∀b:ByteArray,qe b=0->b.size<=32:=fun b hb=>by
   unfold qe at hb
   split at hb
   ·cases hb
   ·rename_i hh
    have:=not_or.1 hh
    omega
  by_cases ha:qe s.kp=0
  ·by_cases hb:qe s.name=0
   ·exact⟨hn _ ha,hn _ hb⟩
   ·simp[ha,hb] at h
  ·simp[ha] at h
section
variable {w0 w : World} {R : List Asn}
end
theorem bbs(l:List UInt8)(a:ByteArray):((l.map fun b=>(b.toNat:Int)).foldl (fun r n=>r.push (UInt8.ofNat n.toNat)) a).data.toList=a.data.toList ++ l:=by
 induction l generalizing a with
 | nil=>simp
 | cons x t ih=>
  rw[List.map_cons,List.foldl_cons,ih]
  simp[ByteArray.push]
theorem bak(s:ByteArray):afw (yw s)=s:=by
 have h:=bbs s.data.toList ByteArray.empty
 have h2:(afw (yw s)).data.toList=s.data.toList:=by
  unfold afw yw
  rw[h]
  rfl
 cases s with
 | mk d=>
  have h3:(afw (yw ⟨d⟩)).data=d:=Array.toList_inj.1 h2
  generalize afw (yw ⟨d⟩)=z at *
  cases z with
  | mk e=>simp only at h3;rw[h3]
section
variable {w0 w : World} {R X : List Asn}
def Rdv(w0:World)(R:List Asn)(v:Value)(l:List Int):Prop:= ∀w' L,St w0 w' (L ++ R)->SlB w' v l
theorem yz{v:Value}{l:List Int}{L0:List Asn}(S:St w0 w (L0 ++ R))(hs:Rdv w0 R v l){lo hi:Option Value}{i j:Nat}(hlo:lo=none/\i=0\/∃k,lo=some (.int k (i:Int)))(hhi:hi=none/\j=l.length\/∃k,hi=some (.int k (j:Int)))(h0:i<=j)(h1:j<=l.length):
  ∃v',(∀w1 K,slT P T.g v lo hi none w1 K=K v' w1)/\Rdv w0 R v' ((l.drop i).take (j - i)):=by
 obtain⟨v',_,_,e1⟩:=(hs w L0 S).sub (P:=P) (t:=T.g) (by kernel_rfl) (by kernel_rfl) hlo hhi h0 h1
 refine⟨v',e1,fun w' L S'=>?_⟩
 obtain⟨v2,s2,_,e2⟩:=(hs w' L S').sub (P:=P) (t:=T.g) (by kernel_rfl) (by kernel_rfl) hlo hhi h0 h1
 have h3:=e1 w' fun v _=>v=v2
 rw[e2 w'] at h3
 have h4:v'=v2:=by
  have:(v2=v2)=(v'=v2):=h3
  rw[<-this]
 rw[h4]
 exact s2
abbrev rdr(b:Nat)(v:Value):Asn:=ja b #[v,.int .i64 0] T.av
theorem ajs{b n:Nat}{v:Value}{l:List Int}(S:St w0 w (rdr b v :: (X ++ R)))(hs:Rdv w0 R v l)(hn:n<=l.length){K:KV}
  (h: ∀w' v1 v2,Rdv w0 R v1 (l.take n)->Rdv w0 R v2 (l.drop n)->St w0 w' (rdr b v2 :: (X ++ R))->K v1 w'):ig P F.bx [.pointer (some ⟨b,0,none⟩),.int .i64 (n:Nat)] w K:=by
 rw[M.ag.fcall]
 apply M.ag.calls
 unfold M.ag
 have c0:il w b 0=some v:=by rw[S.cell];rfl
 have c1:il w b 1=some (.int .i64 0):=by rw[S.cell];rfl
 have hlen: ∀w' K,biT P .len #[T.g] T.d [false] [v] w' K=K (.int .i64 l.length) w':=fun w' K=>(hs w (_ :: X) S).jp (by kernel_rfl) [false]
 have hlt: ¬(l.length:Int) < (n:Int):=by omega
 simp[c0,c1,hlen,hlt]
 unfold M.ag.j0
 simp[c1]
 unfold M.ag.j1
 obtain⟨v1,e1,r1⟩:=yz (L0:=rdr b v :: X) S hs (lo:=none) (hi:=some (.int .i64 (n:Nat))) (i:=0) (j:=n) (.inl ⟨rfl,rfl⟩) (.inr ⟨_,rfl⟩) (Nat.zero_le _) hn
 obtain⟨v2,e2,r2⟩:=yz (L0:=rdr b v :: X) S hs (lo:=some (.int .i64 (n:Nat))) (hi:=none) (i:=n) (j:=l.length) (.inr ⟨_,rfl⟩) (.inl ⟨rfl,rfl⟩) hn (Nat.le_refl _)
 rw[List.drop_zero,Nat.sub_zero] at r1
 rw[List.take_of_length_le (by simp)] at r2
 have hv2:kw v2=true:=by
  obtain⟨_,_,e,_⟩:=r2 w (_ :: X) S
  rw[e];rfl
 have hst: ∀w' K,stT P T.g (.pointer (some ⟨b,0,none⟩)) v2 w' K=st1 P b 0 v2 w' K:=fun w' K=>by
  obtain⟨a,c,e,_⟩:=r2 w (_ :: X) S
  rw[e]
  simp
 simp[c0,e1,e2,hst]
 exact St.nh S hv2 (by simp) fun w3 S3=>h w3 v1 v2 r1 r2 S3
theorem abi{b:Nat}{v:Value}{x:Int}{r:List Int}(S:St w0 w (rdr b v :: (X ++ R)))(hx:ym x)(hs:Rdv w0 R v (ng x ++ r)){K:KV}
  (h: ∀w' v2,Rdv w0 R v2 r->St w0 w' (rdr b v2 :: (X ++ R))->K (.int .u64 x) w'):ig P F.ar [.pointer (some ⟨b,0,none⟩)] w K:=by
 rw[M.cg.fcall]
 apply M.cg.calls
 unfold M.cg
 refine ajs (n:=8) S hs (by rw[List.length_append,sy];omega) fun w1 v1 v2 r1 r2 S1=>?_
 rw[List.take_left' (sy x)] at r1
 rw[List.drop_left' (sy x)] at r2
 refine axs (r1 w1 (_ :: X) S1) (by rw[sy];omega) ?_
 have:=bcf hx []
 rw[List.append_nil] at this
 rw[this]
 exact h w1 v2 r2 S1
theorem arb{b:Nat}{v:Value}{x lo hi:Int}{r:List Int}(S:St w0 w (rdr b v :: (X ++ R)))(h0:lo<=x)(h1:x<=hi)(hs:Rdv w0 R v (x :: r)){K:KV}
  (h: ∀w' v2,Rdv w0 R v2 r->St w0 w' (rdr b v2 :: (X ++ R))->K (.int .u8 x) w'):ig P F.ch [.pointer (some ⟨b,0,none⟩),.int .u8 lo,.int .u8 hi] w K:=by
 rw[M.cp.fcall]
 apply M.cp.calls
 unfold M.cp
 refine ajs (n:=1) S hs (by simp) fun w1 v1 v2 r1 r2 S1=>?_
 have c1:il w1 b 1=some (.int .i64 0):=by rw[S1.cell];rfl
 obtain⟨ab,ao,ac,e1,_,_,hc⟩:=(r1 w1 (_ :: X) S1).at (i:=0) (by simp)
 have hcell:il w1 ab ao=some (.int .u8 x):=by simpa using hc 0 _ rfl
 have hia: ∀w' K,iaT P T.g v1 (.int .i64 0) w' K=K (.pointer (some ⟨ab,ao,none⟩)) w':=fun w' K=>by rw[e1];simp
 have n0: ¬x < lo:=by omega
 have n1: ¬hi < x:=by omega
 simp[hia,hcell,c1,n0,n1]
 exact h w1 v2 (by simpa using r2) S1
theorem atn{b:Nat}{v:Value}{s:ByteArray}{r:List Int}(S:St w0 w (rdr b v :: (X ++ R)))(h0:1<=s.size)(h1:s.size<=32)(hs:Rdv w0 R v (adc s ++ r)){K:KV}
  (h: ∀w' v2,Rdv w0 R v2 r->St w0 w' (rdr b v2 :: (X ++ R))->K (.string s) w'):ig P F.cp [.pointer (some ⟨b,0,none⟩)] w K:=by
 rw[M.cu.fcall]
 apply M.cu.calls
 unfold M.cu
 refine arb (lo:=1) (hi:=32) (x:=(s.size:Int)) (r:=yw s ++ r) S (by omega) (by omega) hs fun w1 v1 r1 S1=>?_
 have c1:il w1 b 1=some (.int .i64 0):=by rw[S1.cell];rfl
 simp[c1]
 have hcv: ∀w' K',cvT P T.ac T.d (.int .u8 (s.size:Int)) w' K'=K' (.int .i64 (s.size:Int)) w':=fun w' K'=>by
  rw[od (ks:= .u8) (kd:= .i64) (by kernel_rfl) (by kernel_rfl),iy]
 simp[hcv]
 refine ajs (n:=s.size) S1 r1 (by rw[List.length_append,acq];omega) fun w2 v2 v3 r2 r3 S2=>?_
 rw[List.take_left' (acq s)] at r2
 rw[List.drop_left' (acq s)] at r3
 rw[avk (by kernel_rfl) (by kernel_rfl) (r2 w2 (_ :: X) S2),bak]
 exact h w2 v3 r3 S2
end
theorem azl{s:Spn}(h:kv s=0):1<=s.kp.size/\1<=s.name.size:=by
 unfold kv at h
 split at h
 ·cases h
 ·unfold orK at h
  have hn: ∀b:ByteArray,qe b=0->1<=b.size:=fun b hb=>by
   unfold qe at hb
   split at hb
   ·cases hb
   ·rename_i hh
    have:=not_or.1 hh
    omega
  by_cases ha:qe s.kp=0
  ·by_cases hb:qe s.name=0
   ·exact⟨hn _ ha,hn _ hb⟩
   ·simp[ha,hb] at h
  ·simp[ha] at h
section
variable {w0 w : World} {R : List Asn}
abbrev spB(b:Nat)(s:Spn):Asn:=ja b (jj s).toArray T.f
theorem avw{v:Value}{s:Spn}{r:List Int}(S:St w0 w R)(hs:Rdv w0 R v (afn s ++ r))(hr:kv s=0)(hR:aga s)(hl:r.length<=10000000){K:KV}
  (h: ∀w' v',St w0 w' (zp v' r :: R)->K (.tuple #[ki s,v',.int .i64 0]) w'):ig P F.gs [v] w K:=by
 obtain⟨n1,n2⟩:=anw hr
 obtain⟨m1,m2⟩:=azl hr
 obtain⟨s0,s1,s2,s3,s4,sv,nm,fl⟩:=s
 simp only at n1 n2 m1 m2
 rw[M.db.fcall]
 apply M.db.calls
 unfold M.db
 have hb: ∀w' K,jg P T.av #[(0,v)] w' K=K (.agg #[v,.int .i64 0]) w':=fun w' K=>by
  obtain⟨_,_,e,_⟩:=hs w [] S
  rw[e]
  simp
 simp[hb]
 have S1:St w0 (w.alloc (.cells #[.int .u64 0,.int .u64 0,.int .u64 0,.int .u64 0,.int .u64 0,.string ⟨#[]⟩,.string ⟨#[]⟩,.bool false] T.f)) (spB w.heap.size ⟨0,0,0,0,0,⟨#[]⟩,⟨#[]⟩,false⟩ :: R):=S.mkB (jj ⟨0,0,0,0,0,⟨#[]⟩,⟨#[]⟩,false⟩).toArray T.f
 have S2:=S1.mkB #[v,.int .i64 0] T.av
 rw[jd] at S2
 generalize w.heap.size=tb at *
 generalize hrb:tb+1=rb at *
 generalize (World.alloc _ (.cells #[v,.int .i64 0] T.av))=w2 at *
 have hs0:Rdv w0 R v (ng s0 ++ (ng s1 ++ (ng s2 ++ (ng s3 ++ (ng s4 ++ (ado fl :: (adc sv ++ (adc nm ++ r)))))))):=by
  have e:afn ⟨s0,s1,s2,s3,s4,sv,nm,fl⟩ ++ r=ng s0 ++ (ng s1 ++ (ng s2 ++ (ng s3 ++ (ng s4 ++ (ado fl :: (adc sv ++ (adc nm ++ r))))))):=by
   simp[afn,rt]
  rw[<-e]
  exact hs
 refine abi (X:=[_]) S2 hR.tr hs0 fun w3 v3 r3 S3=>?_
 refine abi (X:=[_]) S3 hR.id r3 fun w4 v4 r4 S4=>?_
 refine abi (X:=[_]) S4 hR.par r4 fun w5 v5 r5 S5=>?_
 refine abi (X:=[_]) S5 hR.st r5 fun w6 v6 r6 S6=>?_
 refine abi (X:=[_]) S6 hR.ln r6 fun w7 v7 r7 S7=>?_
 simp
 have S7':St w0 w7 (spB tb ⟨0,0,0,0,0,⟨#[]⟩,⟨#[]⟩,false⟩ :: rdr rb v7 :: R):=S7.swap
 refine St.put (vs:=jj ⟨s0,s1,s2,s3,s4,⟨#[]⟩,⟨#[]⟩,false⟩) (cs':=(jj ⟨s0,s1,s2,s3,s4,⟨#[]⟩,⟨#[]⟩,false⟩).toArray) S7' (ni _) (by simp[jj]) rfl fun w8 S8=>?_
 refine arb (X:=[_]) S8.swap (x:=ado fl) (by unfold ado;split <;>omega) (by unfold ado;split <;>omega) r7 fun w9 v9 r9 S9=>?_
 have hfl:decide (ado fl=1)=fl:=by cases fl <;>rfl
 simp[hfl]
 refine St.nh S9.swap rfl (by simp[jj]) fun w10 S10=>?_
 have S10':St w0 w10 (spB tb ⟨s0,s1,s2,s3,s4,⟨#[]⟩,⟨#[]⟩,fl⟩ :: rdr rb v9 :: R):=S10
 refine atn (X:=[_]) S10'.swap m1 n1 r9 fun w11 v11 r11 S11=>?_
 simp
 refine St.nh S11.swap rfl (by simp[jj]) fun w12 S12=>?_
 have S12':St w0 w12 (spB tb ⟨s0,s1,s2,s3,s4,sv,⟨#[]⟩,fl⟩ :: rdr rb v11 :: R):=S12
 refine atn (X:=[_]) S12'.swap m2 n2 r11 fun w13 v13 r13 S13=>?_
 simp
 refine St.nh S13.swap rfl (by simp[jj]) fun w14 S14=>?_
 have S14':St w0 w14 (spB tb ⟨s0,s1,s2,s3,s4,sv,nm,fl⟩ :: rdr rb v13 :: R):=S14
 have c1:il w14 rb 1=some (.int .i64 0):=by rw[S14'.swap.cell];rfl
 have sl: ∀{w':World}{L:List Asn},St w0 w' (spB tb ⟨s0,s1,s2,s3,s4,sv,nm,fl⟩ :: L)->∀K,ldN P 8 tb 0 w' K=K (ki ⟨s0,s1,s2,s3,s4,sv,nm,fl⟩) w':=fun S' K=>S'.ldA (n:=8) (i:=0) (jj ⟨s0,s1,s2,s3,s4,sv,nm,fl⟩) rfl rfl K
 simp[c1,sl S14']
 rw[M.du.fcall]
 refine agf _ fun w15 f15=>?_
 rw[hr]
 have S15:=S14'.ju f15
 simp
 refine St.nh S15.swap rfl (by simp) fun w16 S16=>?_
 have S16':St w0 w16 (rdr rb v13 :: spB tb ⟨s0,s1,s2,s3,s4,sv,nm,fl⟩ :: R):=S16
 have d1:il w16 rb 1=some (.int .i64 0):=by rw[S16'.cell];rfl
 unfold M.db.j0
 simp[d1]
 unfold M.db.j1
 have S17:=S16'.ju ((Fr.refl _ w16).dr 1)
 have d0:il (dr w16 1) rb 0=some v13:=by rw[S17.cell];rfl
 simp[sl S17.swap,d0]
 refine aob S17 (r13 _ [_,_] S17) (by omega) fun w18 v18 S18=>?_
 simp[sl S18.up2]
 have hst: ∀w' K,stT P T.f (.pointer (some ⟨tb,0,none⟩)) (ki ⟨s0,s1,s2,s3,s4,sv,nm,fl⟩) w' K=stN P tb 0 (jj ⟨s0,s1,s2,s3,s4,sv,nm,fl⟩) w' K:=fun w' K=>by
  unfold ki
  simp[jj]
 rw[hst]
 refine St.put (vs:=jj ⟨s0,s1,s2,s3,s4,sv,nm,fl⟩) (cs':=(jj ⟨s0,s1,s2,s3,s4,sv,nm,fl⟩).toArray) S18.up2 (ni _) (by simp[jj]) rfl fun w19 S19=>?_
 have hres: ∀w' K,mi P T.f (.pointer (some ⟨tb,0,none⟩)) w' K=ldN P 8 tb 0 w' K:=fun w' K=>kr
 simp[hres,sl S19]
 exact h w19 v18 (S19.drop.swap.drop)
end
def ud(b:Bal):List Value:=[.int .u64 b.n,.int .u64 b.jk]
theorem anx(b:Bal):(ud b).length=2:=rfl
def wk(a:Bal)(l:List Bal):Bal:=l.foldl (fun a x=>if a.apk x=true then x else a) a
section
variable {w0 w : World} {R : List Asn}
abbrev baB(b:Nat)(x:Bal):Asn:=ja b #[.int .u64 x.n,.int .u64 x.jk] T.e
theorem adg{b:Nat}{x y:Bal}(S:St w0 w (baB b x :: R)){K:KV}(h: ∀w',St w0 w' (baB b y :: R)->K undef w'):stT P T.e (.pointer (some ⟨b,0,none⟩)) (kq y) w K:=by
 unfold kq
 simp
 exact St.put (vs:=[.int .u64 y.n,.int .u64 y.jk]) (cs':= #[.int .u64 y.n,.int .u64 y.jk]) S (by simp[kw]) (by simp) rfl h
theorem aby(S:St w0 w R):St w0 (w.alloc (.cells #[.int .u64 0,.int .u64 0] T.e)) (baB w.heap.size jc :: R):=S.mkB #[.int .u64 0,.int .u64 0] T.e
def GrI(w0:World)(a:Bal)(l:List Bal)(tb:Nat)(R:List Asn):KL:=fun x w1=> ∃(i:Nat),x=[.int .i64 (i:Nat)]/\i<=l.length/\St w0 w1 (baB tb (wk a (l.take i)) :: R)
theorem atf(S:St w0 w R){v:Value}{l:List Bal}(hs: ∀w' L,St w0 w' (L ++ R)->Sl w' 2 ud v l)(hl:l.length<=1000000)(a:Bal){K:KV}(h: ∀w',St w0 w' R->K (kq (wk a l)) w'):ig P F.fg [kq a,v] w K:=by
 rw[M.dh.fcall]
 apply M.dh.calls
 unfold M.dh
 refine St.td S fun tb w1 S1=>?_
 have S1':St w0 w1 (baB tb a :: R):=S1
 simp
 have S2:=aby S1'
 generalize w1.heap.size=rb at *
 generalize w1.alloc _=w2 at *
 have hlen: ∀w' K,biT P .len #[T.bn] T.d [false] [v] w' K=K (.int .i64 l.length) w':=fun w' K=>(hs w2 [_,_] S2).jp (by kernel_rfl) [false]
 simp[hlen]
 refine⟨GrI w0 a l tb (baB rb jc :: R),fun x _=>l.length - ms x 0,⟨0,rfl,Nat.zero_le _,S2.swap⟩,?_⟩
 rintro x w3 ⟨i,rfl,hi,S3⟩
 by_cases hil:i < l.length
 ·have hwi:IntKind.i64.wrap ((i:Int)+1)=((i+1:Nat):Int):=by rw[iy];rfl
  simp[hil]
  unfold M.dh.j2
  obtain⟨ab,ao,cap,hv,_,_,hc⟩:=(hs w3 [_,_] S3).at hil
  have hia: ∀w' K,iaT P T.bn v (.int .i64 (i:Nat)) w' K=K (.pointer (some ⟨ab,ao+i * 2,none⟩)) w':=fun w' K=>by
   rw[hv,awt (by kernel_rfl) (by omega) (by omega),show szE P T.bn=2 from by kernel_rfl]
   simp
  have hld: ∀K,ldN P 2 ab (ao+i * 2) w3 K=K (kq l[i]) w3:=fun K=>sm (ud l[i]) 2 rfl hc K
  have e:wk a (l.take (i+1))=if (wk a (l.take i)).apk l[i]=true then l[i] else wk a (l.take i):=by
   rw[List.take_add_one,List.getElem?_eq_getElem hil]
   unfold wk
   rw[List.foldl_append]
   rfl
  simp[hia,hld]
  have S4:=aby S3
  generalize w3.heap.size=qb at *
  generalize w3.alloc _=w4 at *
  refine adg (y:=l[i]) S4 fun w5 S5=>?_
  obtain⟨_,_,b1⟩:=yi S5
  obtain⟨_,_,b2⟩:=yi S5.swap
  simp[b1,b2]
  refine bbr _ _ fun w6 f6=>?_
  have S6:=S5.ju f6
  obtain⟨_,_,d1⟩:=yi S6
  simp
  rw[beb]
  have fin: ∀w',St w0 w' (baB tb (wk a (l.take (i+1))) :: baB rb jc :: R)->GrI w0 a l tb (baB rb jc :: R) [.int .i64 ((i+1:Nat):Int)] w'/\l.length - ms [.int .i64 ((i+1:Nat):Int)] 0 < l.length - ms [.int .i64 (i:Nat)] 0:=fun w' S'=>⟨⟨i+1,rfl,by omega,S'⟩,by simp[ms,gv];omega⟩
  cases hb:(wk a (l.take i)).apk l[i] with
  | true=>
   rw[hb] at e
   simp only[if_true] at e
   simp[d1]
   refine adg (y:=l[i]) S6.swap fun w7 S7=>?_
   rw[hwi]
   refine fin w7 ?_
   rw[e]
   exact S7.swap.drop
  | false=>
   rw[hb] at e
   simp only[Bool.false_eq_true,if_false] at e
   simp
   rw[hwi]
   refine fin w6 ?_
   rw[e]
   exact S6.drop
 ·have hie:i=l.length:=by omega
  subst hie
  rw[List.take_length] at S3
  obtain⟨_,_,b1⟩:=yi S3
  simp[b1]
  refine adg (y:=wk a l) S3.swap fun w5 S5=>?_
  obtain⟨_,_,b2⟩:=yi S5
  have hres: ∀w' K,mi P T.e (.pointer (some ⟨rb,0,none⟩)) w' K=ldN P 2 rb 0 w' K:=fun w' K=>kr
  simp[hres,b2]
  exact h w5 S5.drop.drop
theorem bjv(S:St w0 w R){v:Value}{l:List Bal}(hs: ∀w' L,St w0 w' (L ++ R)->Sl w' 2 ud v l)(hl:l.length<=1000000){K:KV}(h: ∀w',St w0 w' R->K (kq (wk jc l)) w'):ig P F.dv [v] w K:=by
 rw[M.fs.fcall]
 apply M.fs.calls
 unfold M.fs
 simp
 have S2:=aby S
 generalize w.heap.size=rb at *
 generalize w.alloc _=w2 at *
 refine atf (a:=jc) S2 (fun w' L S'=>hs w' (L ++ [_]) (by simpa using S')) hl fun w3 S3=>?_
 refine adg (y:=wk jc l) S3 fun w5 S5=>?_
 obtain⟨_,_,b2⟩:=yi S5
 have hres: ∀w' K,mi P T.e (.pointer (some ⟨rb,0,none⟩)) w' K=ldN P 2 rb 0 w' K:=fun w' K=>kr
 simp[hres,b2]
 exact h w5 S5.drop
end
def abr(tr:Int)(b:Bal)(v:Int)(rv:Value)(half:Int)(hm:Nat):Array Value:= #[.int .u64 tr,.int .u64 b.n,.int .u64 b.jk,.int .i64 v,rv,.int .i64 half,.map (some hm),.int .u64 0,.int .u64 0,.int .u64 0,.int .u64 0]
def pq(rb:Nat)(tr:Int)(b:Bal)(v half:Int):Asn where
 ok w B:= ∃rv hm,Rs [ja rb (abr tr b v rv half hm) T.r,rdA 1 mh rv [101],jl hm .u64 []] w B
 ji:=by
  rintro w w' B S ⟨rv,hm,h⟩ hf hn
  exact⟨rv,hm,h.ji hf hn⟩
section
variable {w0 w : World} {R : List Asn} {rb : Nat} {tr v half : Int} {b : Bal}
theorem aio(S:St w0 w (pq rb tr b v half :: R)): ∃rv hm,St w0 w (ja rb (abr tr b v rv half hm) T.r :: rdA 1 mh rv [101] :: jl hm .u64 [] :: R):=by
 obtain⟨B,⟨rv,hm,h⟩,_,cl⟩:=S.open
 exact⟨rv,hm,cl w [ja rb (abr tr b v rv half hm) T.r,rdA 1 mh rv [101],jl hm .u64 []] (Fr.refl _ _) (h.mono fun b hb=> .inl hb)⟩
theorem alj{rv:Value}{hm:Nat}(S:St w0 w (ja rb (abr tr b v rv half hm) T.r :: rdA 1 mh rv [101] :: jl hm .u64 [] :: R)):St w0 w (pq rb tr b v half :: R):=by
 obtain⟨U,h1,_,g⟩:=St.akg (L:=[ja rb (abr tr b v rv half hm) T.r,rdA 1 mh rv [101],jl hm .u64 []]) (R:=R) S
 exact g w [pq rb tr b v half] (Fr.refl _ _) ⟨U,⟨rv,hm,h1⟩,fun b hb=> .inl hb,trivial⟩
theorem ws{rv:Value}(h:SlU w rv [101]): ∃g o c,rv= .slice (some ⟨g,o,none⟩) 1 c/\il w g o=some (.int .u64 101):=by
 obtain⟨g,o,c,e,_,_,hc⟩:=h.at (i:=0) (by simp)
 exact⟨g,o,c,e,by simpa [mh] using hc 0 _ rfl⟩
def PsI(w0:World)(R:List Asn)(v1 v2:Value):KL:=fun x w1=> ∃(u:Value)(i:Nat),x=[u,v1,v2,.int .u64 (if i=0 then 0 else 101),.int .i64 (i:Nat)]/\i<=1/\St w0 w1 R
theorem bdd{av:Value}(S:St w0 w R)(hs: ∀w' L,St w0 w' (L ++ R)->SlU w' av [101])(h1:tr≠0)(h2:b.n≠0)(h3:1<=v/\v<=3){K:KV}(h: ∀w' rb,St w0 w' (pq rb tr b v 0 :: R)->K (.tuple #[.pointer (some ⟨rb,0,none⟩),.int .i64 0]) w'):ig P F.fr [.int .u64 tr,kq b,.int .i64 v,av] w K:=by
 rw[M.br.fcall]
 apply M.br.calls
 unfold M.br kq
 refine St.td S fun bb w1 S1=>?_
 have S1':St w0 w1 (baB bb b :: R):=S1
 have hsl: ∀w' L,St w0 w' (L ++ (baB bb b :: R))->SlU w' av [101]:=fun w' L S=>hs w' (L ++ [baB bb b]) (by simpa using S)
 have hlen: ∀w' K,biT P .len #[T.i] T.d [false] [av] w' K=K (.int .i64 1) w':=fun w' K=>(hs w [] S).jp (by kernel_rfl) [false]
 obtain⟨g,o,c,e,_⟩:=ws (hs w [] S)
 have hia: ∀w' K,iaT P T.i av (.int .i64 0) w' K=K (.pointer (some ⟨g,o,none⟩)) w':=fun w' K=>by rw[e];simp
 simp only[im,hlen]
 refine⟨PsI w0 (baB bb b :: R) (.pointer none) (.int .i64 0),fun x _=>1 - ms x 4,⟨_,0,rfl,Nat.zero_le _,S1'⟩,?_⟩
 rintro x w2 ⟨u,i,rfl,hi,S2⟩
 by_cases hi0:i=0
 ·subst hi0
  obtain⟨g2,o2,c2,e2,hc2⟩:=ws (hsl w2 [] S2)
  rw[e] at e2
  injection e2 with e2 _ _
  injection e2 with e2
  injection e2 with e2 e3 _
  subst e2 e3
  simp
  unfold M.br.j2
  simp[hia,hc2]
  exact⟨⟨_,1,rfl,Nat.le_refl _,S2⟩,by simp[ms,gv,show IntKind.i64.wrap 1=1 from by decide]⟩
 ·have hi1:i=1:=by omega
  subst hi1
  simp
  unfold M.br.j0
  have c0:il w2 bb 0=some (.int .u64 b.n):=by rw[S2.cell];rfl
  have n1: ¬v < 1:=by omega
  have n2: ¬3 < v:=by omega
  simp[h1,c0,h2,n1,n2,hlen]
  unfold M.br.j5
  have S3:=S2.ju ((Fr.refl _ w2).dr 1)
  have lb: ∀{w':World}{L:List Asn},St w0 w' (baB bb b :: L)->∀K,ldN P 2 bb 0 w' K=K (kq b) w':=fun S' K=>S'.ldA (n:=2) (i:=0) (ud b) rfl rfl K
  simp[lb S3,kq]
  have fin: ∀(rv:Value)(hm:Nat) w',St w0 w' (rdA 1 mh rv [101] :: jl hm .u64 [] :: R)->K (.tuple #[.pointer (some ⟨w'.heap.size,0,none⟩),.int .i64 0]) (w'.alloc (.cells (abr tr b v rv 0 hm) T.r)):=fun rv hm w' S'=>h _ _ (alj (S'.mkB _ _))
  refine⟨?_,?_⟩
  ·refine abk (hsl _ [] S3) (by simp) fun w4 rv s4 n4 f4=>?_
   obtain⟨g4,o4,c4,rfl,_⟩:=ws s4
   have S4:St w0 w4 (rdA 1 mh (.slice (some ⟨g4,o4,none⟩) 1 c4) [101] :: baB bb b :: R):=S3.add f4 (a:=rdA 1 mh (.slice (some ⟨g4,o4,none⟩) 1 c4) [101]) (B:=fun x=>(Value.slice (some ⟨g4,o4,none⟩) 1 c4).ownBlock=some x) ⟨s4,fun b hb=>hb⟩ fun x hx=>⟨n4 x hx,by
    obtain⟨g,hg,hlt⟩:=s4.lt (x:=101) (by simp)
    rw[hx] at hg;cases hg;exact hlt⟩
   have S5:=S4.aif .u64
   simp[lb S4.swap,lb S5.up2,kq,zz]
   have hf:=fin _ w4.heap.size _ (S5.swap.up2.drop)
   simp only[jd] at hf
   exact hf
  ·have S4:=S3.aif .u64
   rw[zz]
   generalize (dr w2 1).heap.size=hm at *
   generalize (dr w2 1).alloc (.map #[] 0)=w4 at *
   simp[lb S4.swap,kq]
   refine abk (hsl _ [_] S4) (by simp) fun w5 rv s5 n5 f5=>?_
   obtain⟨g5,o5,c5,rfl,_⟩:=ws s5
   have S5:St w0 w5 (rdA 1 mh (.slice (some ⟨g5,o5,none⟩) 1 c5) [101] :: jl hm .u64 [] :: baB bb b :: R):=S4.add f5 (a:=rdA 1 mh (.slice (some ⟨g5,o5,none⟩) 1 c5) [101]) (B:=fun x=>(Value.slice (some ⟨g5,o5,none⟩) 1 c5).ownBlock=some x) ⟨s5,fun b hb=>hb⟩ fun x hx=>⟨n5 x hx,by
    obtain⟨g,hg,hlt⟩:=s5.lt (x:=101) (by simp)
    rw[hx] at hg;cases hg;exact hlt⟩
   simp[lb S5.up2,kq]
   exact fin _ hm w5 (S5.up2.drop)
def sq(tr:Int)(b:Bal)(v half:Int):Pk:=⟨if half=1 then 6 else 4,tr,b,jc,if half=1 then v else 0,false,.slice none 0 0,.slice none 0 0,.slice none 0 0⟩
theorem og{rv:Value}{hm:Nat}{L:List Asn}(S':St w0 w (ja rb (abr tr b v rv half hm) T.r :: L)):il w rb 0=some (.int .u64 tr)/\il w rb 3=some (.int .i64 v)/\il w rb 4=some rv/\il w rb 5=some (.int .i64 half)/\il w rb 6=some (.map (some hm))/\(∀K,ldN P 2 rb 1 w K=K (kq b) w)/\∀K,ldN P 2 rb 7 w K=K (kq jc) w:=by
 refine⟨?_,?_,?_,?_,?_,fun K=>S'.ldA (n:=2) (i:=1) (ud b) rfl rfl K,fun K=>S'.ldA (n:=2) (i:=7) (ud jc) rfl rfl K⟩ <;>rw[S'.cell] <;>rfl
theorem px: ∀u∈pkC (sq tr b v half),kw u=true:=aud _ _ _ _ _ _
theorem alx(S:St w0 w (pq rb tr b v half :: R))(hh:half=0\/half=1){K:KV}(h: ∀w',St w0 w' (pq rb tr b v half :: R)->K (pkA (sq tr b v half)) w'):ig P F.bw [.pointer (some ⟨rb,0,none⟩)] w K:=by
 obtain⟨rv,hm,S1⟩:=aio S
 rw[M.ct.fcall]
 apply M.ct.calls
 unfold M.ct
 obtain⟨_,_,_,c5,_,_⟩:=og S1
 have hgt: ¬1 < half:=by omega
 have S2:=aww S1
 simp
 generalize w.heap.size=q at *
 generalize w.alloc _=w2 at *
 obtain⟨_,_,_,d5,_,_⟩:=og S2.swap
 simp[d5,hgt]
 unfold M.ct.j0
 have S3:=S2.ju ((Fr.refl _ w2).dr 1)
 obtain⟨e0,e3,_,e5,_,e1,_⟩:=og S3.swap
 simp[e0,e1,kq]
 have S4:=aww S3
 have hz:(dr w2 1).heap.size=w2.heap.size:=rfl
 rw[hz] at S4
 generalize w2.heap.size=pb at *
 generalize World.alloc _ _=w4 at *
 obtain⟨f0,f3,_,f5,_,f1,_⟩:=og S4.up2
 simp[f0,f1,kq]
 refine awg (q:=sq tr b v 0) S4 rfl px fun w5 S5=>?_
 obtain⟨g0,g3,_,g5,_,g1,_⟩:=og S5.up2
 have fin: ∀w',St w0 w' (ja pb (pkC (sq tr b v half)).toArray T.c :: ja q (pkC pkZ).toArray T.c :: ja rb (abr tr b v rv half hm) T.r :: rdA 1 mh rv [101] :: jl hm .u64 [] :: R)->ldT P T.c (.pointer (some ⟨pb,0,none⟩)) w' fun t34 w=>stT P T.c (.pointer (some ⟨q,0,none⟩)) t34 w fun _ w=>ic (fun K'=>mi P T.c (.pointer (some ⟨q,0,none⟩)) w K') w fun r0=>K r0 w:=fun w' S'=>by
  simp[we S']
  exact bjc (q:=sq tr b v half) S'.swap rfl px fun w'' S''=>h w'' (alj (S''.drop.drop))
 rcases hh with rfl|rfl
 ·simp[g5]
  have:=fin w5 S5
  simpa using this
 ·have S6:=S5.ju ((Fr.refl _ w5).dr 1)
  obtain⟨_,i3,_,_,_,_,_⟩:=og S6.up2
  simp[g5,i3]
  refine St.nh S6 rfl (by simp[pkC]) fun w7 S7=>?_
  obtain⟨_,k3,_,_,_,_,_⟩:=og S7.up2
  simp[k3]
  refine St.nh S7 rfl (by simp[pkC]) fun w8 S8=>?_
  have:=fin w8 S8
  simpa using this
def OpI(w0:World)(R:List Asn):KL:=fun x w1=> ∃(u ov:Value)(i:Nat),x=[u,ov,.int .i64 (i:Nat)]/\i<=1/\St w0 w1 (rk ov ((List.replicate i 101)) :: R)
theorem aqx(S:St w0 w (pq rb tr b v half :: R))(hh:half=0\/half=1){K:KV}(h: ∀w' ov,St w0 w' (rk ov [101] :: pq rb tr b v half :: R)->K ov w'):ig P F.cg [.pointer (some ⟨rb,0,none⟩)] w K:=by
 obtain⟨rv,hm,S1⟩:=aio S
 rw[M.bm.fcall]
 apply M.bm.calls
 unfold M.bm
 obtain⟨_,_,_,c5,_,_⟩:=og S1
 have hgt: ¬1 < half:=by omega
 simp[c5,hgt]
 unfold M.bm.j0
 obtain⟨_,_,c4,_,c6,_⟩:=og S1
 obtain⟨g,o,c,e,_⟩:=ws S1.swap.rd
 have hln: ∀w' K,biT P .len #[T.i] T.d [false] [rv] w' K=K (.int .i64 1) w':=fun w' K=>(S1.swap.rd:SlU w rv [101]).jp (by kernel_rfl) [false]
 have hia: ∀w' K,iaT P T.i rv (.int .i64 0) w' K=K (.pointer (some ⟨g,o,none⟩)) w':=fun w' K=>by rw[e];simp
 simp[c4,hln]
 refine⟨OpI w0 (ja rb (abr tr b v rv half hm) T.r :: rdA 1 mh rv [101] :: jl hm .u64 [] :: R),fun x _=>1 - ms x 2,⟨_,_,0,rfl,Nat.zero_le _,by simpa using Go.Eng.wg S1⟩,?_⟩
 rintro x w2 ⟨u,ov,i,rfl,hi,S2⟩
 by_cases hi0:i=0
 ·subst hi0
  obtain⟨g2,o2,c2,e2,hc2⟩:=ws S2.up2.rd
  rw[e] at e2
  injection e2 with e2 _ _
  injection e2 with e2
  injection e2 with e2 e3 _
  subst e2 e3
  obtain⟨_,_,_,_,d6,_⟩:=og S2.swap
  simp
  unfold M.bm.j3
  simp[hia,hc2,d6]
  rw[tp mt.am S2.up3.mp]
  simp[kl]
  have S3:St w0 (w2.alloc (.cells #[.int .u64 101] T.a)) (rk (.slice (some ⟨w2.heap.size,0,none⟩) 1 1) [101] :: _):=St.ug (l:=[(101:Int)]) S2 (fun _=>rfl) rfl (by simp[maxLen])
  refine ack S3.swap (S3.row (fun _=>rfl)) (by simp) fun w5 v5 S5=>?_
  exact⟨⟨_,_,1,rfl,Nat.le_refl _,by simpa using S5.swap.drop⟩,by simp[ms,gv,show IntKind.i64.wrap 1=1 from by decide]⟩
 ·have hi1:i=1:=by omega
  subst hi1
  simp
  exact h w2 ov (alj S2.dn3).swap
end
def afg(s:Bal)(ver jk:Int):Bal×Int:=if jk=0 then (jc,1) else if max s.n ver=18446744073709551615 then (jc,12) else (⟨max (s.n+1) ver,jk⟩,0)
section
variable {w0 w : World} {R : List Asn}
theorem bnh(rb:Nat)(w':World)(K:KV):mi P T.e (.pointer (some ⟨rb,0,none⟩)) w' K=ldN P 2 rb 0 w' K:=kr
theorem bkw{b:Nat}{cs:Array Value}{y:Bal}(S:St w0 w (ja b cs T.e :: R))(hs:cs.size=2){K:KV}(h: ∀w',St w0 w' (baB b y :: R)->K (kq y) w'):
  stN P b 0 [.int .u64 y.n,.int .u64 y.jk] w fun _ w=>mi P T.e (.pointer (some ⟨b,0,none⟩)) w fun r w'=>w'=w/\K r w:=by
 refine St.put (vs:=[.int .u64 y.n,.int .u64 y.jk]) (cs':= #[.int .u64 y.n,.int .u64 y.jk]) S (by simp[kw]) (by simp[hs]) (by
  have hl:cs.toList.length=2:=by simpa using hs
  simp[hl]) fun w' S'=>?_
 rw[bnh]
 obtain⟨_,_,b2⟩:=yi S'
 rw[b2]
 exact⟨rfl,h w' S'⟩
theorem bhi(S:St w0 w R)(s:Bal){ver jk:Int}(hs:0<=s.n/\s.n < 18446744073709551616)(hv:0<=ver/\ver < 18446744073709551616){K:KV}(h: ∀w',St w0 w' R->K (.tuple #[kq (afg s ver jk).1,.int .i64 (afg s ver jk).2]) w'):ig P F.cj [kq s,.int .u64 ver,.int .u64 jk] w K:=by
 rw[M.es.fcall]
 apply M.es.calls
 unfold M.es kq
 refine St.td S fun tb w1 S1=>?_
 have S1':St w0 w1 (baB tb s :: R):=S1
 simp
 have S2:=aby S1'
 generalize w1.heap.size=rb at *
 generalize w1.alloc _=w2 at *
 have c0:il w2 tb 0=some (.int .u64 s.n):=by rw[S2.swap.cell];rfl
 have fin: ∀(y:Bal)(k:Int),afg s ver jk=(y,k)->stN P rb 0 [.int .u64 y.n,.int .u64 y.jk] w2 fun _ w=>mi P T.e (.pointer (some ⟨rb,0,none⟩)) w fun r w'=>w'=w/\K (.tuple #[r,.int .i64 k]) w:=fun y k e=>bkw (K:=fun r w=>K (.tuple #[r,.int .i64 k]) w) S2 rfl fun w' S'=>by
  have:=h w' S'.drop.drop
  rw[e] at this
  exact this
 by_cases hn:jk=0
 ·simp[hn]
  exact fin jc 1 (by unfold afg;rw[if_pos hn])
 ·by_cases hm:max s.n ver=18446744073709551615
  ·simp[hn,c0,si,hm]
   exact fin jc 12 (by unfold afg;rw[if_neg hn,if_pos hm])
  ·have hw:IntKind.u64.wrap (s.n+1)=s.n+1:=by rw[lq (by omega) (by omega)]
   simp[hn,c0,si,hm]
   unfold M.es.j0
   simp[c0,hw,si]
   exact fin ⟨max (s.n+1) ver,jk⟩ 0 (by unfold afg;rw[if_neg hn,if_neg hm])
end
def qo(tr:Int)(b:Bal)(half:Int):Pk:=pk0 (if half=1 then 7 else 5) tr b jc 0 true
theorem aoe{tr:Int}{b:Bal}{half:Int}(h1:0 < tr)(h2:0 < b.n):xw (qo tr b half) [] [] []=true:=by
 unfold qo xw axb zr wd
 by_cases h:half=1
 ·simp[h,pk0,rq,qj,qh,ql,ly,aiz,h1,h2,jc]
 ·simp[h,pk0,rq,qj,qh,ql,ly,aiz,h1,h2,aqg,jc]
def vy(tr:Int)(b:Bal)(half:Int):List Value:=[.int .u64 tr,.int .u64 b.n,.int .u64 b.jk,.bool true,.int .u64 0,.int .u64 0,.int .i64 0,.bool (decide (half=1))]
theorem anz{w:World}{tr:Int}{b:Bal}{half:Int}{t:Value}(h:ThR w (qo tr b half) [] [] [] t):t= .iface T.l (.agg (vy tr b half).toArray):=by
 have hk:(qo tr b half).jh=5\/(qo tr b half).jh=7:=by
  unfold qo pk0
  by_cases h:half=1
  ·simp[h]
  ·simp[h]
 generalize hp:qo tr b half=p at *
 cases h with
 | kg v q _=>omega
 | aka v q _=>omega
 | ask q=>omega
 | aao q=>
  rw[<-hp]
  unfold qo pk0 vy jc
  by_cases h:half=1
  ·simp[h]
  ·simp[h]
 | sn q=>omega
 | xy v q _=>omega
 | aaq v q _=>omega
 | none q=>omega
section
variable {w0 w : World} {R : List Asn} {rb : Nat} {tr v half : Int} {b : Bal}
theorem bha{rv:Value}(h:SlU w rv [101]){K:KV}(hK:K (.bool true) w):ig P F.bp [rv,.int .u64 101] w K:=by
 rw[M.bx.fcall]
 apply M.bx.calls
 unfold M.bx
 rw[M.az.fcall]
 apply M.az.calls
 unfold M.az
 have hln: ∀w' K,biT P .len #[T.i] T.d [false] [rv] w' K=K (.int .i64 1) w':=fun w' K=>h.jp (by kernel_rfl) [false]
 obtain⟨g,o,c,e,hc⟩:=ws h
 have hia: ∀w' K,iaT P T.i rv (.int .i64 0) w' K=K (.pointer (some ⟨g,o,none⟩)) w':=fun w' K=>by rw[e];simp
 simp only[im,hln]
 refine⟨fun x w1=>gv x 2= .int .i64 0/\w1=w,fun _ _=>0,⟨rfl,rfl⟩,?_⟩
 rintro x w1 ⟨x2,rfl⟩
 rw[x2]
 simp
 unfold M.az.j2
 rw[x2]
 simp[hia,hc]
 exact hK
theorem bku(x y:Bool)(rx ry:Operand)(w:World)(K:KV):iq P .eql T.br rx ry (.bool x) (.bool y) w K=K (.bool (x == y)) w:=afj (by kernel_rfl)
theorem bhu(S:St w0 w (pq rb tr b v half :: R)){K:KV}(h: ∀w',St w0 w' (pq rb tr b v half :: R)->K (.bool true) w'):ig P F.dx [.pointer (some ⟨rb,0,none⟩),.int .u64 101,.agg (vy tr b half).toArray] w K:=by
 obtain⟨rv,hm,S1⟩:=aio S
 rw[M.dy.fcall]
 apply M.dy.calls
 unfold M.dy
 refine St.td S1 fun ab w1 S2=>?_
 have S3:=S2.ju ((Fr.refl _ w1).dr 1)
 obtain⟨c0,_,c4,c5,c6,c1,_⟩:=og S3.swap
 have a0:il (dr w1 1) ab 0=some (.int .u64 tr):=by rw[S3.cell];rfl
 have a7:il (dr w1 1) ab 7=some (.bool (decide (half=1))):=by rw[S3.cell];rfl
 have a1: ∀K,ldN P 2 ab 1 (dr w1 1) K=K (kq b) (dr w1 1):=fun K=>S3.ldA (n:=2) (i:=1) (ud b) rfl rfl K
 have eqb: ∀rx ry w K,iq P .eql T.e rx ry (kq b) (kq b) w K=K (.bool true) w:=fun rx ry w K=>by rw[abg];simp
 simp[a0,a7,a1,c0,c4,c5,c6,c1,bku,eqb]
 refine bha S3.up2.rd ?_
 simp[c6]
 rw[tp mt.am S3.up3.mp]
 simp[kl]
 exact h _ (alj S3.drop)
theorem anp(S:St w0 w (pq rb tr b v half :: R)){K:KV}(h2:half=2->K (.tuple #[.int .i64 v,.bool true]) w)(h0:half≠2->K (.tuple #[.int .i64 0,.bool false]) w):ig P F.di [.pointer (some ⟨rb,0,none⟩)] w K:=by
 obtain⟨rv,hm,S1⟩:=aio S
 rw[M.dr.fcall]
 apply M.dr.calls
 unfold M.dr
 obtain⟨_,c3,_,c5,_⟩:=og S1
 by_cases hh:half=2
 ·have:=h2 hh
  simp[c5,c3,hh]
  exact this
 ·have:=h0 hh
  simp[c5,hh]
  exact this
theorem bco(S:St w0 w (pq rb tr b v half :: R))(hh:half=0\/half=1)(ht:0 < tr/\tr < 18446744073709551616)(hb:b.rng)(hb0:0 < b.n){K:KV}(h: ∀w',St w0 w' (pq rb tr b v (half+1) :: R)->K (.bool true) w'):ig P F.dw [.pointer (some ⟨rb,0,none⟩),.int .u64 101,pkA (qo tr b half)] w K:=by
 rw[M.aq.fcall]
 apply M.aq.calls
 unfold M.aq pkA
 refine St.td S fun pb w1 S1=>?_
 have S1':St w0 w1 (ja pb (pkC (qo tr b half)).toArray T.c :: pq rb tr b v half :: R):=S1
 simp[we S1']
 have hrng:ala (qo tr b half):=⟨⟨by show 0<=tr;omega,ht.2⟩,hb,show jc.rng from⟨⟨by decide,by decide⟩,⟨by decide,by decide⟩⟩⟩
 refine arv (p:=qo tr b half) (ls:=[]) (lm:=[]) (lu:=[]) (ayu _ _ _ _ _ _ _) hrng (fun hr w2 t hth _ f2=>?_) fun hr=>absurd (aoe ht.1 hb0) (by rw[hr];simp)
 have S2:=S1'.ju f2
 rw[anz hth]
 have S3:=S2.mkB #[.int .u64 0,.int .u64 0,.int .u64 0,.bool false,.int .u64 0,.int .u64 0,.int .i64 0,.bool false] T.l
 unfold vy
 simp
 generalize w2.heap.size=ab at *
 generalize w2.alloc _=w3 at *
 refine St.put (vs:=vy tr b half) (cs':=(vy tr b half).toArray) S3 (by simp[vy,kw]) (by simp[vy]) (by simp[vy]) fun w4 S4=>?_
 obtain⟨rv,hm,S5⟩:=aio S4.up2
 obtain⟨_,_,_,c5,_⟩:=og S5
 have hgt: ¬1 < half:=by omega
 have ld8: ∀K,ldN P 8 ab 0 w4 K=K (.agg (vy tr b half).toArray) w4:=fun K=>S4.ldA (n:=8) (i:=0) (vy tr b half) rfl rfl K
 simp[c5,hgt,ld8]
 refine bhu S4.up2 fun w5 S6=>?_
 simp
 unfold M.aq.j0
 have a3:il w5 ab 3=some (.bool true):=by rw[S6.swap.cell];rfl
 simp[a3]
 unfold M.aq.j1
 obtain⟨rv,hm,S7⟩:=aio S6
 obtain⟨_,_,_,_,d6,_⟩:=og S7
 simp[d6]
 refine St.avv mt.am S7.up2 _ _ fun w6 S8=>?_
 have S9:=S8.ju ((Fr.refl _ w6).dr 1)
 have a6:il (dr w6 1) ab 6=some (.int .i64 0):=by rw[S9.up3.cell];rfl
 simp[a6]
 unfold M.aq.j2
 have S10:St w0 (dr (dr w6 1) 1) (jl hm .u64 [(101,.bool true)] :: ja rb (abr tr b v rv half hm) T.r :: rdA 1 mh rv [101] :: ja ab (vy tr b half).toArray T.l :: ja pb (pkC (qo tr b half)).toArray T.c :: R):=S9.ju ((Fr.refl _ (dr w6 1)).dr 1)
 obtain⟨_,_,e4,e5,e6,_⟩:=og S10.swap
 have hl:=fun cs K=>adw (ty:=T.d) mt.am S10.mp cs K
 have hln: ∀w' K,biT P .len #[T.i] T.d [false] [rv] w' K=K (.int .i64 1) w':=fun w' K=>(S10.up2.rd:SlU (dr (dr w6 1) 1) rv [101]).jp (by kernel_rfl) [false]
 have hw:IntKind.i64.wrap (half+1)=half+1:=by rw[iy]
 have h2:IntKind.i64.wrap 2=2:=by decide
 simp[e4,e5,e6,hl,hln,h2,hw]
 refine St.nh S10.swap rfl (by simp[abr]) fun w8 S11=>?_
 have S12:St w0 w8 (ja rb (abr tr b v rv (half+1) hm) T.r :: jl hm .u64 [(101,.bool true)] :: _):=S11
 obtain⟨_,_,_,_,g6,_⟩:=og S12
 simp[g6]
 refine St.bma mt.am S12.swap fun w9 S13=>?_
 exact h w9 (alj S13.dn2).swap.drop.swap.drop
end
end Go.Proofs.YtgepcfcicngceaaGreatDoor
set_option maxRecDepth 100000
namespace Go.Proofs.YtgepcfcicngceaaGreatDoor.Ring
open Go.Eng Go.Proofs.YtgepcfcicngceaaGreatDoor
structure Pnt where
 at':Int
 id:Int
def yc(p:Pnt):List Value:=[.int .u64 p.at',.int .u64 p.id]
def xi(p:Pnt):Value:= .agg #[.int .u64 p.at',.int .u64 p.id]
theorem xa(p:Pnt):(yc p).length=2:=rfl
theorem anf(p:Pnt): ∀u∈yc p,kw u=true:=fun u hu=>by
 simp[yc] at hu
 rcases hu with rfl|rfl <;>rfl
abbrev ue(v:Value)(l:List Pnt):Asn:=ph T.au 2 yc v l
abbrev awu(w:World)(v:Value)(l:List Pnt):Prop:=Sl w 2 yc v l
def leS(x y:Pnt):Prop:=x.at' < y.at'\/(x.at'=y.at'/\x.id<=y.id)
def alv(x y:Pnt):Int:=if wh x.at' y.at'≠0 then wh x.at' y.at' else wh x.id y.id
theorem aun{x y:Pnt}:alv x y < 0↔¬leS y x:=by
 unfold alv wh leS
 by_cases h1:x.at' < y.at'
 ·have h2: ¬y.at' < x.at':=by omega
  simp[h1,h2]
  omega
 ·by_cases h2:y.at' < x.at'
  ·simp[h1,h2]
  ·have h3:y.at'=x.at':=by omega
   by_cases h4:x.id < y.id
   ·simp[h3,h4]
   ·by_cases h5:y.id < x.id
    ·simp[h3,h4,h5] <;>omega
    ·simp[h3,h4,h5] <;>omega
theorem leS.trans{x y z:Pnt}(h:leS x y)(h':leS y z):leS x z:=by unfold leS at *;omega
theorem leS.of{x y:Pnt}(h: ¬leS y x):leS x y:=by unfold leS at *;omega
abbrev acy(l:List Pnt):Prop:=l.Pairwise leS
def bem(l:List Pnt)(i j:Nat)(hi:i < l.length)(hj:j < l.length):List Pnt:=(l.set i l[j]).set j l[i]
theorem bis(P Q R:List Pnt)(x y:Pnt){l:List Pnt}{i j:Nat}(hl:l=P ++ x :: (Q ++ y :: R))(hi:i=P.length)(hj:j=P.length+1+Q.length)(h1:i < l.length)(h2:j < l.length):bem l i j h1 h2=P ++ y :: (Q ++ x :: R):=by
 subst hl hi hj
 have e1:(P ++ x :: (Q ++ y :: R))[P.length]'h1=x:=by simp
 have e2:(P ++ x :: (Q ++ y :: R))[P.length+1+Q.length]'h2=y:=by
  rw[List.getElem_append_right (by omega)]
  have:P.length+1+Q.length - P.length=Q.length+1:=by omega
  simp[this]
 unfold bem
 rw[e1,e2]
 have:(P ++ x :: (Q ++ y :: R)).set P.length y=P ++ y :: (Q ++ y :: R):=by simp
 rw[this]
 rw[List.set_append_right _ _ (by omega)]
 have:P.length+1+Q.length - P.length=Q.length+1:=by omega
 rw[this]
 simp
theorem ayi{w:World}(x y:Pnt){K:KV}(h: ∀w',Fz w w'->K (.int .i64 (alv x y)) w'):ig P F.ed [xi x,xi y] w K:=by
 rw[M.fj.fcall]
 apply M.fj.calls
 unfold M.fj
 refine St.td (St.jy w) fun b1 w1 S1=>?_
 refine St.td S1 fun b2 w2 S2=>?_
 have S3:St w (dr w2 1) (ja b2 (yc y).toArray T.au :: ja b1 (yc x).toArray T.au :: []):=S2.ju ((Fr.refl _ w2).dr 1)
 have x0:il (dr w2 1) b1 0=some (.int .u64 x.at'):=by rw[S3.swap.cell];rfl
 have x1:il (dr w2 1) b1 1=some (.int .u64 x.id):=by rw[S3.swap.cell];rfl
 have y0:il (dr w2 1) b2 0=some (.int .u64 y.at'):=by rw[S3.cell];rfl
 have y1:il (dr w2 1) b2 1=some (.int .u64 y.id):=by rw[S3.cell];rfl
 simp[x0,x1,y0,y1]
 refine ajo _ _ ?_
 simp[x0,x1,y0,y1]
 refine ajo _ _ ?_
 simp
 have S4:=S3.mkB #[.int .i64 (wh x.at' y.at'),.int .i64 (wh x.id y.id)] T.d
 rw[show (dr w2 1).heap.size=w2.heap.size from rfl] at S4
 have hsl:Sl ((dr w2 1).alloc (.cells #[.int .i64 (wh x.at' y.at'),.int .i64 (wh x.id y.id)] T.d)) 1 aqj (.slice (some ⟨w2.heap.size,0,none⟩) 2 2) [wh x.at' y.at',wh x.id y.id]:=by
  have hh:=S4.blk
  refine⟨some ⟨w2.heap.size,0,none⟩,2,rfl,by simp,by simp[maxLen],fun i z hz=>⟨w2.heap.size,0,rfl,ll hh,fun j u hj=>?_⟩⟩
  rw[iu hh]
  match i,j with
  | 0,0=>simp[aqj] at hz hj⊢;rw[hz];exact hj
  | 1,0=>simp[aqj] at hz hj⊢;rw[hz];exact hj
  | i+2,_=>simp at hz
  | _,j+1=>simp[aqj] at hj
 exact bjm hsl (h _ S4.fr)
set_option maxRecDepth 100000
open Go.Eng
abbrev vS(g n cap:Nat):Value:= .slice (some ⟨g,0,none⟩) n cap
abbrev CF:Value:= .func (.func F.ed) #[] #[]
theorem bfq{g n cap i:Nat}(h:i < n)(w:World)(K:KV):iaT P T.an (vS g n cap) (.int .i64 (i:Nat)) w K=K (.pointer (some ⟨g,i * 2,none⟩)) w:=by simp[h]
theorem bkp(b o:Nat)(x:Pnt)(w:World)(K:KV):stT P T.au (.pointer (some ⟨b,o,none⟩)) (xi x) w K=stN P b o (yc x) w K:=by
 unfold xi
 simp[yc]
theorem wr1{x:Nat}(h:x < 1000000):IntKind.i64.wrap ((x:Int)+1)=((x+1:Nat):Int):=by rw[iy];rfl
theorem bnc{x:Nat}(h:1<=x)(hx:x < 1000000):IntKind.i64.wrap ((x:Int) - 1)=((x - 1:Nat):Int):=by rw[iy];omega
section
variable {w0 w : World} {R : List Asn} {g n cap : Nat} {l : List Pnt}
theorem apf(S:St w0 w (ue (vS g n cap) l :: R)){i:Nat}(hi:i < l.length)(K:KV):ldN P 2 g (i * 2) w K=K (xi l[i]) w:=by
 obtain⟨b,o,c,hv,_,_,hc⟩:=(S.row xa:awu w (vS g n cap) l).at hi
 injection hv with h1 h2 h3
 injection h1 with h1
 injection h1 with h1 h4
 subst h1 h4
 exact sm (yc l[i]) 2 rfl (fun k u hk=>by have:=hc k u hk;rwa [Nat.zero_add] at this) K
theorem ayp(S:St w0 w (ue (vS g n cap) l :: R)){i:Nat}(hi:i < l.length)(x:Pnt){K:KV}(h: ∀w',St w0 w' (ue (vS g n cap) (l.set i x) :: R)->K undef w'):stT P T.au (.pointer (some ⟨g,i * 2,none⟩)) (xi x) w K:=by
 obtain⟨b,c,hv,hs⟩:=St.bmk xa anf S hi x
 injection hv with h1 h2 h3
 injection h1 with h1
 injection h1 with h1 h4
 subst h1
 rw[bkp]
 have:=hs K h
 rwa [Nat.zero_add] at this
theorem bkl(S:St w0 w R)(x y:Pnt){K:KV}(h: ∀w',St w0 w' R->K (.int .i64 (alv x y)) w'):zw P CF [xi x,xi y] w K:=by
 have:=bcy (P:=P) F.ed [] [] [xi x,xi y] w K
 rw[show (CF:Value)= .func (.func F.ed) ([]:List Value).toArray ([]:List Value).toArray from rfl,this]
 exact ayi x y fun w' f=>h w' (S.ju f)
theorem auo(S:St w0 w (ue (vS g n cap) l :: R)):l.length=n:=by
 obtain⟨_,_,hv,_⟩:=(S.row xa:awu w (vS g n cap) l)
 injection hv with _ h _
 exact h.symm
end
def bnk(w0:World)(g n cap a:Nat)(X Z S:List Pnt)(x:Pnt)(R:List Asn):KL:=fun v w1=> ∃(j:Nat)(S1 S2:List Pnt),v=[.int .i64 (j:Nat)]/\j=a+S1.length/\X.length=a/\acy (S1 ++ S2)/\(∀y∈S2,leS x y)/\(S1 ++ S2).Perm S/\St w0 w1 (ue (vS g n cap) (X ++ (S1 ++ x :: S2) ++ Z) :: R)
def bja(w0:World)(g n cap a b:Nat)(X A Y:List Pnt)(R:List Asn):KL:=fun v w1=> ∃(u:Value)(i:Nat)(S Q:List Pnt),v=[u,.int .i64 (i:Nat)]/\i=a+S.length/\S.length+Q.length=A.length/\1<=S.length/\acy S/\(S ++ Q).Perm A/\St w0 w1 (ue (vS g n cap) (X ++ S ++ Q ++ Y) :: R)
section
variable {w0 w : World} {R : List Asn} {g n cap : Nat} {l : List Pnt}
theorem bkd{a b:Nat}{X A Y:List Pnt}(S:St w0 w (ue (vS g n cap) (X ++ A ++ Y) :: R))(hn:n < 100000)(ha:X.length=a)(hb:a+A.length=b){K:KV}
  (h: ∀w' C,acy C->C.Perm A->St w0 w' (ue (vS g n cap) (X ++ C ++ Y) :: R)->K (.tuple #[]) w'):ig P F.av [vS g n cap,.int .i64 (a:Nat),.int .i64 (b:Nat),CF] w K:=by
 have hlen:=auo S
 simp only[List.length_append] at hlen
 rw[M.e.fcall]
 apply M.e.calls
 unfold M.e
 simp only[mf,wr1 (show a < 1000000 by omega)]
 by_cases hA:A=[]
 ·subst hA
  simp only[List.length_nil] at hb
  refine⟨fun v w1=>v=[undef,.int .i64 ((a+1:Nat):Int)]/\w1=w,fun _ _=>0,⟨rfl,rfl⟩,?_⟩
  rintro v w1 ⟨rfl,rfl⟩
  unfold M.e.j0
  have g1:gv [undef,Value.int .i64 ((a+1:Nat):Int)] 1= .int .i64 ((a+1:Nat):Int):=rfl
  have hlt: ¬((a+1:Nat):Int) < (b:Int):=by omega
  simp only[im,g1,nj,hlt,decide_false,Eng.cond_false]
  exact h w1 [] List.Pairwise.nil (List.Perm.refl _) S
 have hAl:0 < A.length:=List.length_pos_iff.2 hA
 refine⟨bja w0 g n cap a b X A Y R,fun v _=>b - ms v 1,⟨_,a+1,[A[0]],A.drop 1,rfl,rfl,by simp;omega,by simp,by simp,?_,?_⟩,?_⟩
 ·rw[List.singleton_append,show A[0] :: A.drop 1=A from by rw[<-List.drop_eq_getElem_cons hAl,List.drop_zero]]
 ·have e:X ++ [A[0]] ++ A.drop 1 ++ Y=X ++ A ++ Y:=by
   rw[List.append_assoc X,List.singleton_append,show A[0] :: A.drop 1=A from by rw[<-List.drop_eq_getElem_cons hAl,List.drop_zero]]
  rw[e];exact S
 rintro v w1 ⟨u,i,S0,Q,rfl,hi,hl0,h1,hS,hp,T1⟩
 have g1:gv [u,Value.int .i64 (i:Nat)] 1= .int .i64 (i:Nat):=rfl
 unfold M.e.j0
 simp only[im,g1,nj]
 by_cases hib:i < b
 ·have hib':(i:Int) < b:=by omega
  have hQ:0 < Q.length:=by omega
  obtain⟨x,Q',rfl⟩:=List.exists_cons_of_length_pos hQ
  simp only[hib',decide_true,Eng.cond_true]
  refine⟨bnk w0 g n cap a X (Q' ++ Y) S0 x R,fun v _=>ms v 0,⟨i,S0,[],rfl,hi,ha,by simpa using hS,by simp,by simp,by simpa using T1⟩,?_⟩
  rintro v w2 ⟨j,S1,S2,rfl,hj,_,hs12,hle,hp12,T2⟩
  have hl12:=hp12.length_eq
  rw[List.length_append] at hl12
  simp only[List.length_cons] at hl0
  have done: ∀v w3,acy (S1 ++ x :: S2)->St w0 w3 (ue (vS g n cap) (X ++ (S1 ++ x :: S2) ++ (Q' ++ Y)) :: R)->bja w0 g n cap a b X A Y R [v,.int .i64 (IntKind.i64.wrap ((i:Int)+1))] w3/\b - ms [v,.int .i64 (IntKind.i64.wrap ((i:Int)+1))] 1 < b - ms [u,.int .i64 (i:Nat)] 1:=by
   intro v w3 hasc T3
   rw[wr1 (by omega)]
   refine⟨⟨v,i+1,S1 ++ x :: S2,Q',rfl,by simp;omega,by simp;omega,by simp;omega,hasc,?_,by simpa using T3⟩,by simp[ms,gv];omega⟩
   refine List.Perm.trans ?_ hp
   rw[show S0 ++ x :: Q'=(S0 ++ [x]) ++ Q' from by simp]
   refine List.Perm.append_right _ ?_
   refine List.Perm.trans List.perm_middle ?_
   refine List.Perm.trans (List.Perm.cons x hp12) ?_
   exact (List.perm_append_comm (l₁:=S0) (l₂:=[x])).symm
  have g0:gv [Value.int .i64 (j:Nat)] 0= .int .i64 (j:Nat):=rfl
  unfold M.e.j3
  simp only[im,g0]
  have T3:=T2.ju ((Fr.refl _ w2).dr 1)
  by_cases hja:a < j
  ·have hS1:0 < S1.length:=by omega
   obtain⟨S1',y,rfl⟩: ∃S1' y,S1=S1' ++ [y]:=⟨S1.dropLast,S1.getLast (List.ne_nil_of_length_pos hS1),(List.dropLast_concat_getLast _).symm⟩
   have hja':(a:Int) < (j:Int):=by omega
   simp only[List.length_append,List.length_singleton] at hj hl12
   have ej:j - 1=X.length+S1'.length:=by omega
   have eL:X ++ (S1' ++ [y] ++ x :: S2) ++ (Q' ++ Y)=(X ++ S1') ++ y :: ([] ++ x :: (S2 ++ (Q' ++ Y))):=by simp
   have eL2:X ++ (S1' ++ x :: (y :: S2)) ++ (Q' ++ Y)=(X ++ S1') ++ x :: ([] ++ y :: (S2 ++ (Q' ++ Y))):=by simp
   have j1:j < (X ++ (S1' ++ [y] ++ x :: S2) ++ (Q' ++ Y)).length:=by simp;omega
   have j2:j - 1 < (X ++ (S1' ++ [y] ++ x :: S2) ++ (Q' ++ Y)).length:=by omega
   have r1:(X ++ (S1' ++ [y] ++ x :: S2) ++ (Q' ++ Y))[j]=x:=by
    have hjj:j=(X ++ S1' ++ [y]).length:=by simp;omega
    have e:X ++ (S1' ++ [y] ++ x :: S2) ++ (Q' ++ Y)=(X ++ S1' ++ [y]) ++ x :: (S2 ++ (Q' ++ Y)):=by simp
    simp only[e,hjj]
    simp
   have r2:(X ++ (S1' ++ [y] ++ x :: S2) ++ (Q' ++ Y))[j - 1]=y:=by
    have hjj:j - 1=(X ++ S1').length:=by simp;omega
    have e:X ++ (S1' ++ [y] ++ x :: S2) ++ (Q' ++ Y)=(X ++ S1') ++ y :: (x :: S2 ++ (Q' ++ Y)):=by simp
    simp only[e,hjj]
    simp
   have d1:=apf T3 j1
   have d2:=apf T3 j2
   rw[r1] at d1
   rw[r2] at d2
   have i1:=fun w K=>bfq (g:=g) (cap:=cap) (show j < n by omega) w K
   have i2:=fun w K=>bfq (g:=g) (cap:=cap) (show j - 1 < n by omega) w K
   have hw:=bnc (x:=j) (by omega) (by omega)
   have b1:(j:Int) < n:=by omega
   have b2:((j - 1:Nat):Int) < n:=by omega
   simp[hja,hja',hw,i1,i2,b1,b2,d1,d2]
   refine bkl T3 x y fun w4 T4=>?_
   by_cases hc:leS y x
   ·have hlt: ¬alv x y < 0:=fun hh=>aun.1 hh hc
    simp[hlt]
    refine done _ _ ?_ T4
    have h12:=List.pairwise_append.1 hs12
    refine List.pairwise_append.2 ⟨h12.1,List.pairwise_cons.2 ⟨hle,h12.2.1⟩,fun c hcm q hq=>?_⟩
    rcases List.mem_cons.1 hq with rfl|hq
    ·rcases List.mem_append.1 hcm with hcm|hcm
     ·exact ((List.pairwise_append.1 h12.1).2.2 c hcm y (by simp)).trans hc
     ·rw[List.mem_singleton.1 hcm];exact hc
    ·exact h12.2.2 c hcm q hq
   ·have hlt:alv x y < 0:=aun.2 hc
    simp[hlt]
    unfold M.e.j4
    have T5:=T4.ju ((Fr.refl _ w4).dr 1)
    have d1:=apf T5 j1
    have d2:=apf T5 j2
    rw[r1] at d1
    rw[r2] at d2
    simp[hw,i1,i2,b1,b2,d1,d2]
    refine ayp T5 j1 y fun w6 T6=>?_
    refine ayp T6 (by simpa using j2) x fun w7 T7=>?_
    have e:((X ++ (S1' ++ [y] ++ x :: S2) ++ (Q' ++ Y)).set j y).set (j - 1) x=X ++ (S1' ++ x :: (y :: S2)) ++ (Q' ++ Y):=by
     have:=bis (X ++ S1') [] (S2 ++ (Q' ++ Y)) y x (l:=X ++ (S1' ++ [y] ++ x :: S2) ++ (Q' ++ Y)) (i:=j - 1) (j:=j) eL (by simp;omega) (by simp;omega) j2 j1
     unfold bem at this
     rw[r1,r2] at this
     rw[eL2,<-this,List.set_comm _ _ (by omega)]
    rw[e] at T7
    refine⟨⟨j - 1,S1',y :: S2,rfl,by omega,ha,by simpa using hs12,fun z hz=>?_,by simpa using hp12,T7⟩,by simp[ms,gv];omega⟩
    rcases List.mem_cons.1 hz with rfl|hz
    ·exact leS.of hc
    ·exact hle z hz
  ·have hja': ¬(a:Int) < (j:Int):=by omega
   have hS1:S1=[]:=List.length_eq_zero_iff.1 (by omega)
   subst hS1
   simp[hja,hja']
   have:=done (.int .i64 (j:Nat)) _ (List.pairwise_cons.2 ⟨hle,by simpa using hs12⟩) T3
   simpa using this
 ·have hib': ¬(i:Int) < b:=by omega
  have hQ:Q=[]:=List.length_eq_zero_iff.1 (by omega)
  subst hQ
  simp only[hib',decide_false,Eng.cond_false]
  exact h w1 S0 hS (by simpa using hp) (by simpa using T1)
end
def ava(x y:Int):Int:=IntKind.u64.wrap (BitVec.ofInt IntKind.u64.bits x ^^^ BitVec.ofInt IntKind.u64.bits y).toNat
def shU(x:Int)(k:Nat):Int:=x.fdiv (2 ^ min k IntKind.u64.bits)
def bnn(a:Int):Int:=ava a (shU a 31)
def bnm(a:Int):Int:=bnn (IntKind.u64.wrap (ava a (shU a 27) * 10723151780598845931))
def bns(a:Int):Int:=bnm (IntKind.u64.wrap (ava a (shU a 30) * 13787848793156543929))
def ajl(n:Int):Int:=bns (IntKind.u64.wrap (n+11400714819323198485))
theorem app{w:World}(n:Int){K:KV}(h:K (.int .u64 (ajl n)) w):ig P F.fq [.int .u64 n] w K:=by
 rw[M.fv.fcall]
 apply M.fv.calls
 unfold M.fv
 have sh: ∀(t:TypeId)(rx ry:Operand)(x y:Int)(hy:0<=y)(w:World)(K:KV),iq P .shr t rx ry (.int .u64 x) (.int .u64 y) w K=K (.int .u64 (shU x y.toNat)) w:=fun t rx ry x y hy w K=>by rw[acj hy];rfl
 have xo: ∀(t:TypeId)(rx ry:Operand)(x y:Int)(w:World)(K:KV),iq P .xor t rx ry (.int .u64 x) (.int .u64 y) w K=K (.int .u64 (ava x y)) w:=fun t rx ry x y w K=>by rw[atk];rfl
 simp only[mf,sh _ _ _ _ 30 (by decide),sh _ _ _ _ 27 (by decide),sh _ _ _ _ 31 (by decide),xo,vq]
 exact h
def atI(id:Int)(i:Nat):Int:=ajl (IntKind.u64.wrap (ajl id+(i:Int)))
theorem ave{w:World}(id:Int){i:Nat}(hi:i < 1000){K:KV}(h:K (.int .u64 (atI id i)) w):ig P F.gz [.int .u64 id,.int .i64 (i:Nat)] w K:=by
 rw[M.gh.fcall]
 apply M.gh.calls
 unfold M.gh
 refine app id ?_
 have hw:IntKind.u64.wrap (i:Int)=(i:Int):=lq (by omega) (by omega)
 have hc: ∀w K,cvT P T.d T.a (.int .i64 (i:Nat)) w K=K (.int .u64 (i:Nat)) w:=fun w K=>by rw[od (ks:= .i64) (kd:= .u64) (by kernel_rfl) (by kernel_rfl),hw]
 simp only[hc,mf]
 exact app _ h
def abn(id:Int)(n:Nat):List Pnt:=(List.range n).map fun i=>⟨atI id i,id⟩
def abo(ids:List Int)(n:Nat):List Pnt:=ids.flatMap fun id=>abn id n
theorem afi(id:Int)(n:Nat):(abn id n).length=n:=by simp[abn]
theorem afk(ids:List Int)(n:Nat):(abo ids n).length=ids.length * n:=by
 unfold abo
 induction ids with
 | nil=>simp
 | cons a l ih=>rw[List.flatMap_cons,List.length_append,ih,afi,List.length_cons,Nat.add_mul];omega
theorem bav(id:Int){n i:Nat}(hi:i < n):(abn id n).take (i+1)=(abn id n).take i ++ [⟨atI id i,id⟩]:=by
 rw[List.take_succ_eq_append_getElem (by rw[afi];exact hi)]
 simp[abn]
theorem azm{ids:List Int}{n i:Nat}(hi:i < ids.length):abo (ids.take (i+1)) n=abo (ids.take i) n ++ abn ids[i] n:=by
 unfold abo
 rw[List.take_succ_eq_append_getElem hi,List.flatMap_append]
 simp
section
variable {w0 w : World} {R : List Asn}
theorem bjr(x:Pnt)(w':World)(K:KV):bsT P T.an 1 #[(0,.agg #[.int .u64 x.at',.int .u64 x.id])] w' K=K (.slice (some ⟨w'.heap.size,0,none⟩) 1 1) (w'.alloc (.cells #[.int .u64 x.at',.int .u64 x.id] T.au)):=kr
theorem bey{g n cap:Nat}{l:List Pnt}(S:St w0 w (ue (vS g n cap) l :: R))(hn:n<=12){K:KV}(h: ∀w' l',acy l'->l'.Perm l->St w0 w' (ue (vS g n cap) l' :: R)->K (.tuple #[]) w'):ig P F.ak [vS g n cap,CF] w K:=by
 have hlen:=auo S
 rw[M.bb.fcall]
 apply M.bb.calls
 unfold M.bb
 have hw:IntKind.u64.wrap (n:Int)=(n:Int):=lq (by omega) (by omega)
 have hc: ∀w K,cvT P T.d T.bs (.int .i64 (n:Nat)) w K=K (.int .u64 (n:Nat)) w:=fun w K=>by rw[od (ks:= .i64) (kd:= .u64) (by kernel_rfl) (by kernel_rfl),hw]
 simp[hc]
 rw[M.dx.fcall]
 refine ain (x:=n) (by omega) ?_
 rw[M.b.fcall]
 apply M.b.calls
 unfold M.b
 refine⟨fun x w1=>(gv x 5= .int .i64 ((0:Nat):Int)/\gv x 13= .int .i64 (n:Nat))/\w1=w,fun _ _=>0,⟨⟨rfl,rfl⟩,rfl⟩,?_⟩
 rintro x w1 ⟨⟨x5,x13⟩,rfl⟩
 unfold M.b.j0
 have hs:IntKind.i64.wrap ((n:Int) - 0)=n:=by rw[iy];omega
 have h12:(n:Int)<=12:=by omega
 simp only[im,x5,x13,nq]
 simp only[Int.natCast_zero,hs,aet,h12,decide_true,Eng.cond_true,ij]
 refine bkd (X:=[]) (A:=l) (Y:=[]) (a:=0) (b:=n) (by simpa using S) (by omega) rfl (by omega) fun w' C h1 h2 S'=>h w' C h1 h2 (by simpa using S')
end
end Go.Proofs.YtgepcfcicngceaaGreatDoor.Ring
