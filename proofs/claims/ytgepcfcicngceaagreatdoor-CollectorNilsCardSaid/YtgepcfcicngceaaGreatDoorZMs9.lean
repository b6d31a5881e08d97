/-
  Packets: the packet of a thing with a row (spans, stored, acked). No condition. Printed by ms9.py.
-/
import Derived.Test.YtgepcfcicngceaaGreatDoorZTim4
import Derived.Test.YtgepcfcicngceaaGreatDoorZSpn0
import Derived.Test.YtgepcfcicngceaaGreatDoorZEngSl
import Derived.Test.YtgepcfcicngceaaGreatDoorZSgE
import Derived.Test.YtgepcfcicngceaaGreatDoorM
import Derived.Test.YtgepcfcicngceaaGreatDoorFacts
set_option maxRecDepth 100000
namespace Go.Proofs.YtgepcfcicngceaaGreatDoor
open Go.Eng
theorem aln{w:World}{tr:Int}{d:Bool}{v:Value}{l:List Spn}(hs:SlS w v l)(hlen:l.length<=1000000){K:KV}(h: ∀w' v',SlS w' v' l->Fz w w'->K (pkA ⟨if d=true then 2 else 1,tr,je,je,0,false,v',ka,ka⟩) w'):ig P F.bf [.iface T.x (.agg #[.int .u64 tr,.bool d,v])] w K:=by
 rw[M.ad.fcall]
 apply M.ad.calls
 unfold M.ad
 obtain⟨a,c,hv,_⟩:=id hs
 rw[hv]
 simp
 have S0:=agb w
 have z0:(w.alloc (.cells #[.int .i64 0,.int .u64 0,.int .u64 0,.int .u64 0,.int .u64 0,.int .u64 0,.int .i64 0,.bool false,.slice none 0 0,.slice none 0 0,.slice none 0 0] T.c)).heap.size=w.heap.size+1:=jc _ _
 generalize w.alloc (.cells #[.int .i64 0,.int .u64 0,.int .u64 0,.int .u64 0,.int .u64 0,.int .u64 0,.int .i64 0,.bool false,.slice none 0 0,.slice none 0 0,.slice none 0 0] T.c)=w1 at *
 have S1:=adq S0 #[.int .u64 0,.bool false,.slice none 0 0] T.x
 rw[z0] at S1
 generalize w.heap.size=pb at *
 generalize pb+1=ob at *
 refine jw (vs:=[Value.int .u64 tr,.bool d,.slice a l.length c]) S1.blk rfl (by simp[kq]) fun w2 b2 f2=>?_
 have S2:=S1.nh f2 b2
 have thC: ∀{W:World}{R:List Asn},St w W (ja ob [Value.int .u64 tr,.bool d,.slice a l.length c].toArray T.x :: R)->il W ob 0=some (.int .u64 tr)/\il W ob 1=some (.bool d)/\il W ob 2=some (.slice a l.length c):=fun{W R} S'=>by
  have hh:=S'.blk
  exact⟨by rw[ir hh];rfl,by rw[ir hh];rfl,by rw[ir hh];rfl⟩
 have hpl:pb < w2.heap.size:=(Array.getElem?_eq_some_iff.1 S2.swap.blk).1
 have fd:Fz w2 (dr w2 1):=(Fr.refl _ w2).dr 1
 have Sd:=S2.jv fd
 obtain⟨c0,c1,c2⟩:=thC S2
 obtain⟨e0,e1,e2⟩:=thC Sd
 simp[c0,c2,e0,e2]
 rw[<-hv]
 rw[M.v.fcall]
 refine ya ((hs.fr Sd.fr fun _ _ _ h=>h)) hlen fun w3 v3 s3 n3 f3=>?_
 obtain⟨a3,c3,hv3,_⟩:=id s3
 have S3:=Sd.jv f3
 obtain⟨g0,g1,g2⟩:=thC S3
 have hnn: ∀b,v3.ownBlock=some b->b≠pb:=fun b hb=>by
  have:=n3 b hb
  have:=fd.size
  omega
 rw[hv3] at s3 hnn⊢
 simp[g0,g2]
 refine jw (vs:=pkC ⟨1,tr,je,je,0,false,.slice a3 l.length c3,ka,ka⟩) S3.swap.blk rfl uz fun w4 b4 f4=>?_
 have S4:=S3.swap.nh f4 b4
 have s4:SlS w4 (.slice a3 l.length c3) l:=s3.fr f4 fun b hb _=>hnn b hb
 obtain⟨i0,i1,i2⟩:=thC S4.swap
 cases d with
 | false=>
  simp[i0,i2,i1]
  rw[yj S4]
  have e:pkA ⟨1,tr,je,je,0,false,.slice a3 l.length c3,ka,ka⟩= .agg #[.int .i64 1,.int .u64 tr,.int .u64 0,.int .u64 0,.int .u64 0,.int .u64 0,.int .i64 0,.bool false,.slice a3 l.length c3,.slice none 0 0,.slice none 0 0]:=rfl
  rw[e]
  simp
  refine jw (vs:=pkC ⟨1,tr,je,je,0,false,.slice a3 l.length c3,ka,ka⟩) S4.blk rfl uz fun w5 b5 f5=>?_
  have S5:=S4.nh f5 b5
  rw[abw S5]
  exact⟨rfl,h w5 _ (s4.fr f5 fun b hb _=>hnn b hb) S5.fr⟩
 | true=>
  have e0:=zy S4.blk 0 _ rfl
  have ez:=lj S4.blk
  simp[i0,i2,i1,e0,ez]
  have f6:Fr (fun x=>x=pb) w4 (w4.setCell ⟨pb,0,none⟩ (.int .i64 2)):=(Fr.refl (fun x=>x=pb) w4).setCell (.inl rfl) _ _
  have S6:St w (w4.setCell ⟨pb,0,none⟩ (.int .i64 2)) (ja pb (pkC ⟨2,tr,je,je,0,false,.slice a3 l.length c3,ka,ka⟩).toArray T.c :: _):=S4.nh f6 ((lz S4.blk).trans rfl)
  have s6:SlS (w4.setCell ⟨pb,0,none⟩ (.int .i64 2)) (.slice a3 l.length c3) l:=s4.fr f6 fun b hb _=>hnn b hb
  rw[yj S6]
  have e:pkA ⟨2,tr,je,je,0,false,.slice a3 l.length c3,ka,ka⟩= .agg #[.int .i64 2,.int .u64 tr,.int .u64 0,.int .u64 0,.int .u64 0,.int .u64 0,.int .i64 0,.bool false,.slice a3 l.length c3,.slice none 0 0,.slice none 0 0]:=rfl
  rw[e]
  simp
  refine jw (vs:=pkC ⟨2,tr,je,je,0,false,.slice a3 l.length c3,ka,ka⟩) S6.blk rfl uz fun w5 b5 f5=>?_
  have S5:=S6.nh f5 b5
  rw[abw S5]
  exact⟨rfl,h w5 _ (s6.fr f5 fun b hb _=>hnn b hb) S5.fr⟩
theorem aju{w:World}{tr:Int}{b:Bal}{v:Value}{l:List Spn}(hs:SlS w v l)(hlen:l.length<=1000000){K:KV}(h: ∀w' v',SlS w' v' l->Fz w w'->K (pkA ⟨9,tr,b,je,0,false,v',ka,ka⟩) w'):ig P F.bf [.iface T.s (.agg #[.int .u64 tr,.int .u64 b.n,.int .u64 b.ji,v])] w K:=by
 rw[M.ad.fcall]
 apply M.ad.calls
 unfold M.ad
 obtain⟨a,c,hv,_⟩:=id hs
 rw[hv]
 simp[acm,abb,afh,aco,adr]
 have S0:=agb w
 have z0:(w.alloc (.cells #[.int .i64 0,.int .u64 0,.int .u64 0,.int .u64 0,.int .u64 0,.int .u64 0,.int .i64 0,.bool false,.slice none 0 0,.slice none 0 0,.slice none 0 0] T.c)).heap.size=w.heap.size+1:=jc _ _
 generalize w.alloc (.cells #[.int .i64 0,.int .u64 0,.int .u64 0,.int .u64 0,.int .u64 0,.int .u64 0,.int .i64 0,.bool false,.slice none 0 0,.slice none 0 0,.slice none 0 0] T.c)=w1 at *
 have S1:=adq S0 #[.int .u64 0,.int .u64 0,.int .u64 0,.slice none 0 0] T.s
 rw[z0] at S1
 generalize w.heap.size=pb at *
 generalize pb+1=ob at *
 refine jw (vs:=[Value.int .u64 tr,.int .u64 b.n,.int .u64 b.ji,.slice a l.length c]) S1.blk rfl (by simp[kq]) fun w2 b2 f2=>?_
 have S2:=S1.nh f2 b2
 have thC: ∀{W:World}{R:List Asn},St w W (ja ob [Value.int .u64 tr,.int .u64 b.n,.int .u64 b.ji,.slice a l.length c].toArray T.s :: R)->il W ob 0=some (.int .u64 tr)/\(∀K,ldN P 2 ob 1 W K=K (.agg #[.int .u64 b.n,.int .u64 b.ji]) W)/\il W ob 3=some (.slice a l.length c):=fun{W R} S'=>by
  have hh:=S'.blk
  exact⟨by rw[ir hh];rfl,fun K=>zf (by rw[ir hh];rfl) (by rw[ir hh];rfl) K,by rw[ir hh];rfl⟩
 have hpl:pb < w2.heap.size:=(Array.getElem?_eq_some_iff.1 S2.swap.blk).1
 have fd:Fz w2 (dr w2 1):=(Fr.refl _ w2).dr 1
 have Sd:=S2.jv fd
 obtain⟨c0,c1,c2⟩:=thC S2
 obtain⟨e0,e1,e2⟩:=thC Sd
 simp[c0,c1,c2,e0,e1,e2]
 rw[<-hv]
 rw[M.v.fcall]
 refine ya ((hs.fr Sd.fr fun _ _ _ h=>h)) hlen fun w3 v3 s3 n3 f3=>?_
 obtain⟨a3,c3,hv3,_⟩:=id s3
 have S3:=Sd.jv f3
 obtain⟨g0,g1,g2⟩:=thC S3
 have hnn: ∀b,v3.ownBlock=some b->b≠pb:=fun b hb=>by
  have:=n3 b hb
  have:=fd.size
  omega
 rw[hv3] at s3 hnn⊢
 simp[g0,g1,g2]
 refine jw (vs:=pkC ⟨9,tr,b,je,0,false,.slice a3 l.length c3,ka,ka⟩) S3.swap.blk rfl uz fun w4 b4 f4=>?_
 have S4:=S3.swap.nh f4 b4
 have s4:SlS w4 (.slice a3 l.length c3) l:=s3.fr f4 fun b hb _=>hnn b hb
 rw[yj S4]
 have e:pkA ⟨9,tr,b,je,0,false,.slice a3 l.length c3,ka,ka⟩= .agg #[.int .i64 9,.int .u64 tr,.int .u64 b.n,.int .u64 b.ji,.int .u64 0,.int .u64 0,.int .i64 0,.bool false,.slice a3 l.length c3,.slice none 0 0,.slice none 0 0]:=rfl
 rw[e]
 simp
 refine jw (vs:=pkC ⟨9,tr,b,je,0,false,.slice a3 l.length c3,ka,ka⟩) S4.blk rfl uz fun w5 b5 f5=>?_
 have S5:=S4.nh f5 b5
 rw[abw S5]
 exact⟨rfl,h w5 _ (s4.fr f5 fun b hb _=>hnn b hb) S5.fr⟩
theorem ali{w:World}{tr:Int}{v:Value}{l:List Int}(hs:SlU w v l)(hlen:l.length<=1000000){K:KV}(h: ∀w' v',SlU w' v' l->Fz w w'->K (pkA ⟨10,tr,je,je,0,false,ka,ka,v'⟩) w'):ig P F.bf [.iface T.aa (.agg #[.int .u64 tr,v])] w K:=by
 rw[M.ad.fcall]
 apply M.ad.calls
 unfold M.ad
 obtain⟨a,c,hv,_⟩:=id hs
 rw[hv]
 simp[aec,abt,agy,aee,afk,acv]
 have S0:=agb w
 have z0:(w.alloc (.cells #[.int .i64 0,.int .u64 0,.int .u64 0,.int .u64 0,.int .u64 0,.int .u64 0,.int .i64 0,.bool false,.slice none 0 0,.slice none 0 0,.slice none 0 0] T.c)).heap.size=w.heap.size+1:=jc _ _
 generalize w.alloc (.cells #[.int .i64 0,.int .u64 0,.int .u64 0,.int .u64 0,.int .u64 0,.int .u64 0,.int .i64 0,.bool false,.slice none 0 0,.slice none 0 0,.slice none 0 0] T.c)=w1 at *
 have S1:=adq S0 #[.int .u64 0,.slice none 0 0] T.aa
 rw[z0] at S1
 generalize w.heap.size=pb at *
 generalize pb+1=ob at *
 refine jw (vs:=[Value.int .u64 tr,.slice a l.length c]) S1.blk rfl (by simp[kq]) fun w2 b2 f2=>?_
 have S2:=S1.nh f2 b2
 have thC: ∀{W:World}{R:List Asn},St w W (ja ob [Value.int .u64 tr,.slice a l.length c].toArray T.aa :: R)->il W ob 0=some (.int .u64 tr)/\il W ob 1=some (.slice a l.length c):=fun{W R} S'=>by
  have hh:=S'.blk
  exact⟨by rw[ir hh];rfl,by rw[ir hh];rfl⟩
 have hpl:pb < w2.heap.size:=(Array.getElem?_eq_some_iff.1 S2.swap.blk).1
 have fd:Fz w2 (dr w2 1):=(Fr.refl _ w2).dr 1
 have Sd:=S2.jv fd
 obtain⟨c0,c1⟩:=thC S2
 obtain⟨e0,e1⟩:=thC Sd
 simp[c0,c1,e0,e1]
 rw[<-hv]
 refine aaf ((hs.fr Sd.fr fun _ _ _ h=>h)) hlen fun w3 v3 s3 n3 f3=>?_
 obtain⟨a3,c3,hv3,_⟩:=id s3
 have S3:=Sd.jv f3
 obtain⟨g0,g1⟩:=thC S3
 have hnn: ∀b,v3.ownBlock=some b->b≠pb:=fun b hb=>by
  have:=n3 b hb
  have:=fd.size
  omega
 rw[hv3] at s3 hnn⊢
 simp[g0,g1]
 refine jw (vs:=pkC ⟨10,tr,je,je,0,false,ka,ka,.slice a3 l.length c3⟩) S3.swap.blk rfl uz fun w4 b4 f4=>?_
 have S4:=S3.swap.nh f4 b4
 have s4:SlU w4 (.slice a3 l.length c3) l:=s3.fr f4 fun b hb _=>hnn b hb
 rw[yj S4]
 have e:pkA ⟨10,tr,je,je,0,false,ka,ka,.slice a3 l.length c3⟩= .agg #[.int .i64 10,.int .u64 tr,.int .u64 0,.int .u64 0,.int .u64 0,.int .u64 0,.int .i64 0,.bool false,.slice none 0 0,.slice none 0 0,.slice a3 l.length c3]:=rfl
 rw[e]
 simp
 refine jw (vs:=pkC ⟨10,tr,je,je,0,false,ka,ka,.slice a3 l.length c3⟩) S4.blk rfl uz fun w5 b5 f5=>?_
 have S5:=S4.nh f5 b5
 rw[abw S5]
 exact⟨rfl,h w5 _ (s4.fr f5 fun b hb _=>hnn b hb) S5.fr⟩
set_option maxRecDepth 100000
def sj(p:Pk)(ls:List Spn)(lm:List Mem)(lu:List Int):Bool:=
 if p.jg=1\/p.jg=2 then agm p.tr ls else if p.jg=3 then vp lm else if p.jg=4\/p.jg=6 then aox p.tr p.b p.v else if p.jg=5\/p.jg=7 then agr p.tr p.b p.ok p.jq p.v (decide (p.jg=7)) else if p.jg=8 then anv p.tr p.v else if p.jg=9 then ahh p.tr p.b ls else if p.jg=10 then ajq p.tr lu else false
theorem ThR.fr{w w':World}{p:Pk}{ls:List Spn}{lm:List Mem}{lu:List Int}{t:Value}(h:ThR w p ls lm lu t)(hf:Fz w w'):ThR w' p ls lm lu t:=by
 cases h with
 | ki v hk hs=>exact .ki v hk (hs.fr hf fun _ _ _ h=>h)
 | ait v hk hs=>exact .ait v hk (hs.fr hf fun _ _ _ h=>h)
 | ask hk=>exact .ask hk
 | zz hk=>exact .zz hk
 | wj hk=>exact .wj hk
 | xe v hk hs=>exact .xe v hk (hs.fr hf fun _ _ _ h=>h)
 | zx v hk hs=>exact .zx v hk (hs.fr hf fun _ _ _ h=>h)
 | none hk=>exact .none hk
theorem bgo(n:Nat)(w:World)(K:KV):iq P .eql T.bg (.tmp n) (.const .nilIface) .nilIface .nilIface w K=K (.bool true) w:=kr
theorem ThR.eqn{w:World}{p:Pk}{ls:List Spn}{lm:List Mem}{lu:List Int}{t:Value}(h:ThR w p ls lm lu t)(hk:1<=p.jg/\p.jg<=10)(rx ry:Operand)(w1:World)(K:KV):iq P .eql T.bg rx ry t .nilIface w1 K=K (.bool false) w1:=by
 cases h with
 | ki v hk hs=>exact awt _ _ _ _ _
 | ait v hk hs=>exact arv _ _ _ _ _
 | ask hk=>exact bhi _ _ _ _ _
 | zz hk=>exact ayy _ _ _ _ _
 | wj hk=>exact bau _ _ _ _ _
 | xe v hk hs=>exact avx _ _ _ _ _
 | zx v hk hs=>exact axx _ _ _ _ _
 | none hn=>exact absurd hk hn
theorem ThR.blh{w:World}{p:Pk}{ls:List Spn}{lm:List Mem}{lu:List Int}{t:Value}(h:ThR w p ls lm lu t)(hk: ¬(1<=p.jg/\p.jg<=10)):t= .nilIface:=by
 cases h with
 | none hn=>rfl
 | _=>omega
theorem bhb{w:World}{p:Pk}{ls:List Spn}{lm:List Mem}{lu:List Int}{t:Value}(ht:ThR w p ls lm lu t)(hk:1<=p.jg/\p.jg<=10)(l1:ls.length<=1000000)(l2:lm.length<=1000000)(l3:lu.length<=1000000){K:KV}
  (h: ∀w',Fz w w'->K (.bool (sj p ls lm lu)) w'):ig P F.bi [t] w K:=by
 unfold sj at h
 cases ht with
 | ki v q hs=>simp only[if_pos q] at h;exact anm hs l1 h
 | ait v q hs=>simp only[q,show¬((3:Int)=1\/(3:Int)=2) by omega,if_false,if_true] at h;exact anb hs l2 h
 | ask q=>rw[if_neg (by omega),if_neg (by omega),if_pos q] at h;exact aqy h
 | zz q=>rw[if_neg (by omega),if_neg (by omega),if_neg (by omega),if_pos q] at h;exact anq h
 | wj q=>rw[if_neg (by omega),if_neg (by omega),if_neg (by omega),if_neg (by omega),if_pos q] at h;exact apd h
 | xe v q hs=>rw[if_neg (by omega),if_neg (by omega),if_neg (by omega),if_neg (by omega),if_neg (by omega),if_pos q] at h;exact akz hs l1 h
 | zx v q hs=>rw[if_neg (by omega),if_neg (by omega),if_neg (by omega),if_neg (by omega),if_neg (by omega),if_neg (by omega),if_pos q] at h;exact ans hs l3 h
 | none q=>exact absurd hk q
structure ala(w:World)(p:Pk)(ls:List Spn)(lm:List Mem)(lu:List Int):Prop where
 s:SlS w p.sv ls
 m:SlM w p.mv lm
 u:SlU w p.iv lu
structure aex(p:Pk):Prop where
 tr:wg p.tr
 b:p.b.rng
 jq:p.jq.rng
theorem ala.fr{w w':World}{p:Pk}{ls:List Spn}{lm:List Mem}{lu:List Int}(h:ala w p ls lm lu)(hf:Fz w w'):ala w' p ls lm lu:=
 ⟨h.s.fr hf fun _ _ _ h=>h,h.m.fr hf fun _ _ _ h=>h,h.u.fr hf fun _ _ _ h=>h⟩
theorem wfP{x:Int}(h:(Lit.int .u64 x).wf=true):0<=x/\x<=18446744073709551615:=by
 simp[Lit.wf,IntKind.min,IntKind.max,IntKind.bits,IntKind.signed] at h
 omega
theorem ym{x:Int}(h:(Lit.int .u64 x).wf=true):wg x:=by
 have:=wfP h
 exact⟨this.1,by omega⟩
theorem alb{α:Type}{w:World}{sz:Nat}{enc:α->List Value}{Q:α->Prop}{v:Value}{l:List α}(h:aat w sz (fun w b o x=>rdE enc w b o x/\Q x) v l):Sl w sz enc v l/\∀x∈l,Q x:=by
 refine⟨aat.mono h fun b o x hx=>hx.1,fun x hx=>?_⟩
 obtain⟨i,hi,rfl⟩:=List.getElem_of_mem hx
 obtain⟨a,cap,_,_,_,h3⟩:=h
 obtain⟨b,o,_,_,hr⟩:=h3 i _ (List.getElem?_eq_getElem hi)
 exact hr.2
theorem bdy{w:World}{n:Nat}{v:Value}(h:TV P w n T.h [v]): ∃l,SlU w v l/\∀x∈l,wg x:=by
 have: ∃l:List Int,aat w 1 (fun w b o x=>rdE lq w b o x/\wg x) v l:=by
  refine afe (sz:=1) (rd:=fun w b o x=>rdE lq w b o x/\wg x) (e:=T.a) (by kernel_rfl) (by kernel_rfl) (by decide) (fun n b o cs ht hl hc=>?_) h
  obtain⟨x,hx,hw⟩:=si (k:= .u64) (by kernel_rfl) ht
  subst hx
  exact⟨x,fun j u hj=>hc j u hj,ym hw⟩
 obtain⟨l,hl⟩:=this
 exact⟨l,alb hl⟩
structure aha(s:Spn):Prop where
 tr:wg s.jh
 id:wg s.id
 par:wg s.mm
 st:wg s.kl
 ln:wg s.len
theorem axc{w:World}{n:Nat}{v:Value}(h:TV P w n T.g [v]): ∃l,SlS w v l/\∀s∈l,aha s:=by
 suffices hh: ∃l:List Spn,aat w 8 (fun w b o x=>rdE kp w b o x/\aha x) v l by
  obtain⟨l,hl⟩:=hh
  exact⟨l,alb hl⟩
 refine afe (sz:=8) (rd:=fun w b o x=>rdE kp w b o x/\aha x) Tryz.underlying27 (by kernel_rfl) (by decide) (fun n b o cs ht hl hc=>?_) h
 obtain⟨_,hf⟩:=ach Tryz.underlying59 ht
 obtain⟨m0,t0⟩:=hf 0 _ rfl
 obtain⟨m1,t1⟩:=hf 1 _ rfl
 obtain⟨m2,t2⟩:=hf 2 _ rfl
 obtain⟨m3,t3⟩:=hf 3 _ rfl
 obtain⟨m4,t4⟩:=hf 4 _ rfl
 obtain⟨m5,t5⟩:=hf 5 _ rfl
 obtain⟨m6,t6⟩:=hf 6 _ rfl
 obtain⟨m7,t7⟩:=hf 7 _ rfl
 obtain⟨x0,e0,g0⟩:=si Tryz.underlying23 t0
 obtain⟨x1,e1,g1⟩:=si Tryz.underlying23 t1
 obtain⟨x2,e2,g2⟩:=si Tryz.underlying23 t2
 obtain⟨x3,e3,g3⟩:=si Tryz.underlying23 t3
 obtain⟨x4,e4,g4⟩:=si Tryz.underlying23 t4
 obtain⟨x5,e5,_⟩:=amj Tryz.underlying9 t5
 obtain⟨x6,e6,_⟩:=amj Tryz.underlying9 t6
 obtain⟨x7,e7⟩:=atl Tryz.underlying4 t7
 have c0:Tryz.prog.cellsOf T.a=1:=by kernel_rfl
 have c1:Tryz.prog.cellsOf T.l=1:=by kernel_rfl
 have c2:Tryz.prog.cellsOf T.bp=1:=by kernel_rfl
 match cs,hl with
 | [u0,u1,u2,u3,u4,u5,u6,u7],_=>
  simp[c0,c1,c2] at e0 e1 e2 e3 e4 e5 e6 e7
  subst e0 e1 e2 e3 e4 e5 e6 e7
  exact⟨⟨x0,x1,x2,x3,x4,x5,x6,x7⟩,fun j u hj=>hc j u hj,ym g0,ym g1,ym g2,ym g3,ym g4⟩
theorem bhf{w:World}{n:Nat}{c:Array Value}(ht:TV P w n T.m c.toList): ∃m,Value.agg c=ol m/\0<=m.id/\0<=m.inc:=by
 obtain⟨hl,hf⟩:=ach Tryz.underlying68 ht
 have hl3:Tryz.prog.cellsOf T.m=3:=by kernel_rfl
 rw[hl3] at hl
 obtain⟨m0,t0⟩:=hf 0 _ rfl
 obtain⟨m1,t1⟩:=hf 1 _ rfl
 obtain⟨m2,t2⟩:=hf 2 _ rfl
 obtain⟨x0,e0,y0⟩:=si (k:= .u64) (by kernel_rfl) t0
 obtain⟨x1,e1,y1⟩:=si (k:= .u64) (by kernel_rfl) t1
 obtain⟨x2,e2,_⟩:=si (k:= .i64) (by kernel_rfl) t2
 have c0:Tryz.prog.cellsOf T.a=1:=by kernel_rfl
 have c1:Tryz.prog.cellsOf T.d=1:=by kernel_rfl
 refine⟨⟨x0,x1,x2⟩,?_,(wfP y0).1,(wfP y1).1⟩
 unfold ol
 congr 1
 apply Array.toList_inj.1
 match hcl:c.toList,hl with
 | [u0,u1,u2],_=>
  rw[hcl] at e0 e1 e2
  simp[c0,c1] at e0 e1 e2
  subst e0 e1 e2
  rfl
theorem ara{w:World}{n:Nat}{v:Value}(h:TV P w n T.o [v]): ∃l,SlM w v l/\∀m∈l,0<=m.id/\0<=m.inc:=by
 suffices hh: ∃l:List Mem,aat w 3 (fun w b o x=>rdE yg w b o x/\(0<=x.id/\0<=x.inc)) v l by
  obtain⟨l,hl⟩:=hh
  exact⟨l,alb hl⟩
 refine afe (sz:=3) (rd:=fun w b o x=>rdE yg w b o x/\(0<=x.id/\0<=x.inc)) et.o.ty (by kernel_rfl) (by decide) (fun n b o cs ht hl hc=>?_) h
 obtain⟨m,hm,hr⟩:=bhf (c:=cs.toArray) (by simpa using ht)
 unfold ol at hm
 injection hm with hm
 have:cs=yg m:=by
  have:=congrArg Array.toList hm
  simpa [yg] using this
 subst this
 exact⟨m,fun j u hj=>hc j u hj,hr⟩
structure LsR(ls:List Spn)(lm:List Mem)(lu:List Int):Prop where
 s: ∀x∈ls,aha x
 m: ∀x∈lm,0<=x.id/\0<=x.inc
 u: ∀x∈lu,wg x
theorem bao{w:World}{n:Nat}{cs:List Value}(ht:TV P w n T.e cs): ∃b:Bal,cs=[.int .u64 b.n,.int .u64 b.ji]/\b.rng:=by
 obtain⟨hl,hf⟩:=ach Tryz.underlying25 ht
 have hl2:Tryz.prog.cellsOf T.e=2:=by kernel_rfl
 rw[hl2] at hl
 obtain⟨m0,t0⟩:=hf 0 _ rfl
 obtain⟨m1,t1⟩:=hf 1 _ rfl
 obtain⟨x0,e0,h0⟩:=si (k:= .u64) (by kernel_rfl) t0
 obtain⟨x1,e1,h1⟩:=si (k:= .u64) (by kernel_rfl) t1
 have c0:Tryz.prog.cellsOf T.a=1:=by kernel_rfl
 match cs,hl with
 | [u0,u1],_=>
  simp[c0] at e0 e1
  subst e0 e1
  exact⟨⟨x0,x1⟩,rfl,ym h0,ym h1⟩
theorem bkz{w:World}{n:Nat}{cs:List Value}(ht:TV P w n T.c cs): ∃p ls lm lu,cs=pkC p/\ala w p ls lm lu/\aex p/\LsR ls lm lu:=by
 obtain⟨hl,hf⟩:=ach Tryz.underlying31 ht
 have hl11:Tryz.prog.cellsOf T.c=11:=by kernel_rfl
 rw[hl11] at hl
 obtain⟨m0,t0⟩: ∃m,TV P w m T.d ((cs.drop 0).take (P.cellsOf T.d)):=hf 0 _ rfl
 obtain⟨m1,t1⟩: ∃m,TV P w m T.a ((cs.drop 1).take (P.cellsOf T.a)):=hf 1 _ rfl
 obtain⟨m2,t2⟩: ∃m,TV P w m T.e ((cs.drop 2).take (P.cellsOf T.e)):=hf 2 _ rfl
 obtain⟨m3,t3⟩: ∃m,TV P w m T.e ((cs.drop 4).take (P.cellsOf T.e)):=hf 3 _ rfl
 obtain⟨m4,t4⟩: ∃m,TV P w m T.z ((cs.drop 6).take (P.cellsOf T.z)):=hf 4 _ rfl
 obtain⟨m5,t5⟩: ∃m,TV P w m T.bp ((cs.drop 7).take (P.cellsOf T.bp)):=hf 5 _ rfl
 obtain⟨m6,t6⟩: ∃m,TV P w m T.g ((cs.drop 8).take (P.cellsOf T.g)):=hf 6 _ rfl
 obtain⟨m7,t7⟩: ∃m,TV P w m T.o ((cs.drop 9).take (P.cellsOf T.o)):=hf 7 _ rfl
 obtain⟨m8,t8⟩: ∃m,TV P w m T.h ((cs.drop 10).take (P.cellsOf T.h)):=hf 8 _ rfl
 have c0:P.cellsOf T.d=1:=by kernel_rfl
 have c1:P.cellsOf T.a=1:=by kernel_rfl
 have c2:P.cellsOf T.e=2:=by kernel_rfl
 have c3:P.cellsOf T.z=1:=by kernel_rfl
 have c4:P.cellsOf T.bp=1:=by kernel_rfl
 have c5:P.cellsOf T.g=1:=by kernel_rfl
 have c6:P.cellsOf T.o=1:=by kernel_rfl
 have c7:P.cellsOf T.h=1:=by kernel_rfl
 match cs,hl with
 | [u0,u1,u2,u3,u4,u5,u6,u7,u8,u9,u10],_=>
  simp only[c0,c1,c2,c3,c4,c5,c6,c7,List.drop_zero,List.drop_succ_cons,List.take_succ_cons,List.take_zero] at t0 t1 t2 t3 t4 t5 t6 t7 t8
  obtain⟨x0,e0,_⟩:=si (k:= .i64) (by kernel_rfl) t0
  obtain⟨x1,e1,g1⟩:=si (k:= .u64) (by kernel_rfl) t1
  obtain⟨b2,e2,g2⟩:=bao t2
  obtain⟨b3,e3,g3⟩:=bao t3
  obtain⟨x4,e4,_⟩:=si (k:= .i64) (by kernel_rfl) t4
  obtain⟨x5,e5⟩:=atl (by kernel_rfl) t5
  obtain⟨ls,s6,f6⟩:=axc t6
  obtain⟨lm,s7,f7⟩:=ara t7
  obtain⟨lu,s8,f8⟩:=bdy t8
  simp only[List.cons.injEq,and_true] at e0 e1 e2 e3 e4 e5
  obtain⟨rfl,rfl⟩:=e2
  obtain⟨rfl,rfl⟩:=e3
  subst e0 e1 e4 e5
  exact⟨⟨x0,x1,b2,b3,x4,x5,u8,u9,u10⟩,ls,lm,lu,rfl,⟨s6,s7,s8⟩,⟨ym g1,g2,g3⟩,f6,f7,f8⟩
def bda(p:Nat):Value:= .pointer (some ⟨p,0,none⟩)
theorem app{w0 w:World}{R:List Asn}(S:St w0 w R)(cs:Array Value)(e:TypeId):St w0 (w.alloc (.cells cs e)) (ja w.heap.size cs e :: R):=S.add ((Fr.refl _ w).alloc _) (B:=fun x=>x=w.heap.size) ⟨by rw[iy,if_pos rfl],rfl⟩ fun x hx=>by subst hx;rw[jc];omega
def yd(a b:Int):Int:=if a < b then -1 else if b < a then 1 else 0
theorem aic{w:World}(a b:Int){K:KV}(h:K (.int .i64 (yd a b)) w):ig P F.az [.int .u64 a,.int .u64 b] w K:=by
 have nan: ∀(z:Int){K:KV},K (.bool false) w->ig P F.ae [.int .u64 z] w K:=fun z K hK=>by
  rw[M.cz.fcall]
  apply M.cz.calls
  unfold M.cz
  simpa using hK
 rw[M.bc.fcall]
 apply M.bc.calls
 unfold M.bc
 refine nan a ?_
 refine nan b ?_
 simp
 unfold M.bc.j2
 unfold yd at h
 by_cases h1:a < b
 ·simp[h1] at h⊢;exact h
 ·by_cases h2:b < a
  ·simp[h1,h2] at h⊢;exact h
  ·simp[h1,h2] at h⊢;exact h
theorem bii{w:World}{v:Value}{l:List Int}(hs:Sl w 1 acg v l)(hlen:l.length<=1000){K:KV}(h:K (.int .i64 (orK l)) w):jp P F.fn [v] w K:=by
 apply M.dm.calls
 unfold M.dm
 simp only[im]
 rw[hs.jr (by simp)]
 refine⟨OrI w l,fun x _=>l.length - ms x 2,⟨_,_,0,rfl,rfl,Nat.zero_le _,fun j k _ h=>by omega⟩,?_⟩
 rintro x w1 ⟨a,b,i,rfl,rfl,hi,hz⟩
 have gv2:gv [a,b,.int .i64 (i:Int)] 2= .int .i64 (i:Int):=rfl
 simp only[gv2]
 by_cases hil:i < l.length
 ·obtain⟨bb,o,cap,rfl,hb,_,hr⟩:=hs.at hil
  have e0:=hr 0 _ rfl
  simp only[Nat.mul_one,Nat.add_zero] at e0
  have hw:IntKind.i64.wrap ((i:Int)+1)=((i+1:Nat):Int):=by rw[iz];rfl
  simp[hil]
  unfold M.dm.j2
  simp only[im,gv2]
  by_cases hk:l[i]=0
  ·simp[hil,e0,hk,hw]
   refine⟨⟨_,_,i+1,rfl,rfl,by omega,fun j k hj hlt=>?_⟩,by simp[ms,gv];omega⟩
   by_cases hji:j=i
   ·subst hji
    rw[List.getElem?_eq_getElem hil] at hj
    cases hj;exact hk
   ·exact hz j k hj (by omega)
  ·simp[hil,e0,hk]
   have:orK l=l[i]:=by
    unfold orK
    have:l.find? (fun k=>!decide (k=0))=some l[i]:=by
     rw[List.find?_eq_some_iff_getElem]
     refine⟨by simpa using hk,i,hil,rfl,fun j hj=>?_⟩
     have:=hz j _ (List.getElem?_eq_getElem (by omega)) hj
     simp[this]
    rw[this];rfl
   rw[this] at h;exact h
 ·simp[hil]
  have:orK l=0:=by
   unfold orK
   have:l.find? (fun k=>!decide (k=0))=none:=by
    rw[List.find?_eq_none]
    intro k hk
    obtain⟨j,hj,rfl⟩:=List.mem_iff_getElem.1 hk
    have:=hz j _ (List.getElem?_eq_getElem hj) (by omega)
    simp[this]
   rw[this];rfl
  rw[this] at h;exact h
theorem or2(a b:Int):orK [a,b]=if a=0 then b else a:=by
 unfold orK
 by_cases ha:a=0 <;>by_cases hb:b=0 <;>simp[ha,hb]
theorem bcc{a b:Bal}:decide ((orK [yd a.n b.n,yd a.ji b.ji]) < 0)=a.apm b:=by
 rw[or2]
 unfold yd Bal.apm
 apply decide_eq_decide.2
 repeat' split
 all_goals omega
theorem ame{w:World}{b:Nat}{x:Bal}{f:Nat×Nat}(h:w.heap[b]? =some (.cells #[.int .u64 x.n,.int .u64 x.ji] T.e f)):il w b 0=some (.int .u64 x.n)/\il w b 1=some (.int .u64 x.ji)/\∀K,ldN P 2 b 0 w K=K (kj x) w:=
 ⟨by rw[ir h];rfl,by rw[ir h];rfl,fun K=>zf (by rw[ir h];rfl) (by rw[ir h];rfl) K⟩
theorem bmr(x y:Bal){w:World}{Q:Value->Value->World->Prop}(h: ∀w1 b1 b2,St w w1 (ja b2 #[.int .u64 y.n,.int .u64 y.ji] T.e :: ja b1 #[.int .u64 x.n,.int .u64 x.ji] T.e :: [])->Q (bda b1) (bda b2) w1):
  kz P T.e (kj x) w fun v1 w1=>kz P T.e (kj y) w1 fun v2 w2=>Q v1 v2 w2:=by
 rw[tm,tm]
 exact h _ _ _ (app (app (St.kl w) #[.int .u64 x.n,.int .u64 x.ji] T.e) #[.int .u64 y.n,.int .u64 y.ji] T.e)
theorem bac{w:World}(x y:Bal){K:KV}(h: ∀w',Fz w w'->K (.int .i64 (orK [yd x.n y.n,yd x.ji y.ji])) w'):ig P F.gf [kj x,kj y] w K:=by
 rw[M.ff.fcall]
 apply M.ff.calls
 unfold M.ff
 refine bmr x y fun w1 b1 b2 S1=>?_
 have S2:=S1.jv ((Fr.refl _ w1).dr 1)
 obtain⟨y0,y1,_⟩:=ame S2.blk
 obtain⟨x0,x1,_⟩:=ame S2.swap.blk
 simp only[bda]
 rw[qa]
 simp only[acq] at x0 x1 y0 y1
 simp[x0,x1,y0,y1]
 refine aic _ _ ?_
 simp[x1,y1]
 refine aic _ _ ?_
 simp
 have S3:St w ((dr w1 1).alloc (.cells #[.int .i64 (yd x.n y.n),.int .i64 (yd x.ji y.ji)] T.d)) _:=app S2 #[.int .i64 (yd x.n y.n),.int .i64 (yd x.ji y.ji)] T.d
 have hsl:Sl ((dr w1 1).alloc (.cells #[.int .i64 (yd x.n y.n),.int .i64 (yd x.ji y.ji)] T.d)) 1 acg (.slice (some ⟨w1.heap.size,0,none⟩) 2 2) [yd x.n y.n,yd x.ji y.ji]:=by
  have hh:=S3.blk
  rw[show (dr w1 1).heap.size=w1.heap.size from rfl] at hh
  refine⟨some ⟨w1.heap.size,0,none⟩,2,rfl,by simp,by simp[maxLen],fun i z hz=>⟨w1.heap.size,0,rfl,li hh,fun j u hj=>?_⟩⟩
  rw[ir hh]
  match i,j with
  | 0,0=>simp[acg] at hz hj⊢;rw[hz];exact hj
  | 1,0=>simp[acg] at hz hj⊢;rw[hz];exact hj
  | i+2,_=>simp at hz
  | _,j+1=>simp[acg] at hj
 rw[M.dm.fcall]
 exact bii hsl (by simp) (h _ S3.fr)
section
variable {w0 w : World} {b : Nat} {t : TypeId} {R : List Asn}
theorem xu{x:Bal}(S:St w0 w (ja b #[.int .u64 x.n,.int .u64 x.ji] t :: R)):il w b 0=some (.int .u64 x.n)/\il w b 1=some (.int .u64 x.ji)/\∀K,ldN P 2 b 0 w K=K (kj x) w:=
 ⟨by rw[S.cell];rfl,by rw[S.cell];rfl,fun K=>S.ldA [.int .u64 x.n,.int .u64 x.ji] rfl rfl K⟩
end
def pk0(k tr:Int)(x s:Bal)(v:Int)(ok:Bool):Pk:=⟨k,tr,x,s,v,ok,.slice none 0 0,.slice none 0 0,.slice none 0 0⟩
theorem atj(k tr:Int)(x s:Bal)(v:Int)(ok:Bool): ∀u∈pkC (pk0 k tr x s v ok),kq u=true:=fun u hu=>by
 simp only[pkC,pk0,List.mem_cons,List.not_mem_nil,or_false] at hu
 rcases hu with rfl|rfl|rfl|rfl|rfl|rfl|rfl|rfl|rfl|rfl|rfl <;>rfl
theorem azp(w:World)(k tr:Int)(x s:Bal)(v:Int)(ok:Bool):zo w (pk0 k tr x s v ok) [] [] []:=⟨Sl.nil,Sl.nil,Sl.nil,by simp,by simp,by simp⟩
def pkZ:Pk:=pk0 0 0 je je 0 false
section
variable {w0 w : World} {b : Nat} {R : List Asn}
theorem atp{cs:Array Value}{q:Pk}(S:St w0 w (ja b cs T.c :: R))(hs:cs.size=11)(h1: ∀u∈pkC q,kq u=true){K:KV}(h: ∀w',St w0 w' (ja b (pkC q).toArray T.c :: R)->K undef w'):stN P b 0 (pkC q) w K:=
 S.put h1 (by simp[pkC,hs]) (by
  have hl:cs.toList.length=11:=by simpa using hs
  have h2:(pkC q).length=11:=rfl
  rw[h2,List.take_zero,List.nil_append,List.drop_eq_nil_of_le (by omega),List.append_nil]) h
theorem avf(S:St w0 w R):St w0 (w.alloc (.cells #[.int .i64 0,.int .u64 0,.int .u64 0,.int .u64 0,.int .u64 0,.int .u64 0,.int .i64 0,.bool false,.slice none 0 0,.slice none 0 0,.slice none 0 0] T.c)) (ja w.heap.size (pkC pkZ).toArray T.c :: R):=S.mkB (pkC pkZ).toArray T.c
theorem ud{q:Pk}(S:St w0 w (ja b (pkC q).toArray T.c :: R))(K:KV):ldN P 11 b 0 w K=K (pkA q) w:=S.ldA (pkC q) rfl rfl K
theorem blg{q:Pk}(S:St w0 w (ja b (pkC q).toArray T.c :: R))(K:KV):ni P T.c (.pointer (some ⟨b,0,none⟩)) w K=K (pkA q) w:=by rw[ahm];exact ud S K
theorem bin{cs:Array Value}{q:Pk}(S:St w0 w (ja b cs T.c :: R))(hs:cs.size=11)(h1: ∀u∈pkC q,kq u=true){K:KV}(h: ∀w',St w0 w' (ja b (pkC q).toArray T.c :: R)->K (pkA q) w'):
  stN P b 0 (pkC q) w fun _ w=>ni P T.c (.pointer (some ⟨b,0,none⟩)) w fun r0 w'=>w'=w/\K r0 w:=
 atp S hs h1 fun w' S'=>by rw[blg S'];exact⟨rfl,h w' S'⟩
end
def vu(l1 l2:List Spn):Bool:=decide (l1.length=l2.length) && (List.zipWith xq l1 l2).all id
theorem azd{l1 l2:List Spn}{i:Nat}(h1:i < l1.length)(h2:i < l2.length)(h:xq l1[i] l2[i]=false):vu l1 l2=false:=by
 unfold vu
 have:(List.zipWith xq l1 l2).all id=false:=by
  rw[List.all_eq_false]
  refine⟨xq l1[i] l2[i],?_,by simp[h]⟩
  rw[List.mem_iff_getElem]
  exact⟨i,by simp;omega,by simp⟩
 rw[this,Bool.and_false]
theorem ajs{l1 l2:List Spn}(hl:l1.length=l2.length)(h: ∀j (h1:j < l1.length) (h2:j < l2.length),xq l1[j] l2[j]=true):vu l1 l2=true:=by
 unfold vu
 rw[decide_eq_true hl,Bool.true_and,List.all_eq_true]
 intro x hx
 obtain⟨j,hj,rfl⟩:=List.getElem_of_mem hx
 simp only[List.length_zipWith] at hj
 rw[List.getElem_zipWith]
 exact h j (by omega) (by omega)
theorem ahw(l:List Spn):vu l l=true:=ajs rfl fun j _ _=>auj _
def lk(p q:Pk):Bool:=decide (p.jg=q.jg) && (decide (p.tr=q.tr) && (decide (p.b=q.b) && (decide (p.jq=q.jq) && (decide (p.v=q.v) && (p.ok == q.ok)))))
def yp(p q:Pk)(ls ls':List Spn)(lm lm':List Mem)(lu lu':List Int):Bool:=decide (lm=lm') && (decide (lu=lu') && (vu ls ls' && lk p q))
theorem bjv{α:Type}{l1 l2:List α}(hl:l1.length=l2.length)(h: ∀j (h1:j < l1.length) (h2:j < l2.length),l1[j]=l2[j]):l1=l2:=List.ext_getElem hl h
def re(p:Pk):Pk:=⟨p.jg,if p.jg=3 then 0 else p.tr,if p.jg=4\/p.jg=5\/p.jg=6\/p.jg=7\/p.jg=9 then p.b else je,if p.jg=5\/p.jg=7 then p.jq else je,if p.jg=5\/p.jg=6\/p.jg=8 then p.v else 0,if p.jg=5\/p.jg=7 then p.ok else false,
 if p.jg=1\/p.jg=2\/p.jg=9 then p.sv else .slice none 0 0,if p.jg=3 then p.mv else .slice none 0 0,if p.jg=10 then p.iv else .slice none 0 0⟩
def pz(p:Pk)(l:List Spn):List Spn:=if p.jg=1\/p.jg=2\/p.jg=9 then l else []
def qd(p:Pk)(l:List Mem):List Mem:=if p.jg=3 then l else []
def pu(p:Pk)(l:List Int):List Int:=if p.jg=10 then l else []
theorem bhs(b:Nat)(q:Pk)(w:World)(K:KV):stT P T.c (.pointer (some ⟨b,0,none⟩)) (pkA q) w K=stN P b 0 (pkC q) w K:=by simp[pkA,pkC]
def bmj(W:World)(l1 l2:List Spn):KL:=fun x w1=> ∃(u0 u1:Value)(i:Nat),x=[u0,u1,.int .i64 (i:Nat)]/\i<=l1.length/\(∀j (h1:j < l1.length) (h2:j < l2.length),j < i->xq l1[j] l2[j]=true)/\Fz W w1
def bmx(W:World)(l1 l2:List Int):KL:=fun x w1=> ∃(u0 u1:Value)(i:Nat),x=[u0,u1,.int .i64 (i:Nat)]/\i<=l1.length/\(∀j (h1:j < l1.length) (h2:j < l2.length),j < i->l1[j]=l2[j])/\Fz W w1
theorem axd{w:World}{v1 v2:Value}{l1 l2:List Spn}(s1:SlS w v1 l1)(s2:SlS w v2 l2)(hlen:l1.length<=1000000){K:KV}(h: ∀w',Fz w w'->K (.bool (vu l1 l2)) w'):ig P F.ba [v1,v2] w K:=by
 rw[M.h.fcall]
 apply M.h.calls
 unfold M.h
 simp only[im]
 rw[s1.jr (by kernel_rfl),s2.jr (by kernel_rfl)]
 by_cases hne:l1.length=l2.length
 ·simp[hne]
  unfold M.h.j0
  simp only[im]
  rw[s1.jr (by kernel_rfl)]
  refine⟨bmj w l1 l2,fun x _=>l1.length - ms x 2,⟨_,_,0,rfl,Nat.zero_le _,fun j _ _ h=>by omega,Fr.refl _ _⟩,?_⟩
  rintro x w1 ⟨u0,u1,i,rfl,hi,hpre,f1⟩
  by_cases hil:i < l1.length
  ·have hili:(i:Int) < (l1.length:Int):=by omega
   obtain⟨b1,o1,cap1,hv1,_,_,e1⟩:=(s1.fr f1 fun _ _ _ h=>h:SlS w1 v1 l1).at hil
   obtain⟨b2,o2,cap2,hv2,_,_,e2⟩:=(s2.fr f1 fun _ _ _ h=>h:SlS w1 v2 l2).at (show i < l2.length by omega)
   have hl2i:i < l2.length:=by omega
   have q1: ∀w' K,iaT P T.g v1 (.int .i64 (i:Nat)) w' K=K (.pointer (some ⟨b1,o1+i * 8,none⟩)) w':=fun w' K=>by rw[hv1];simp[hil]
   have q2: ∀w' K,iaT P T.g v2 (.int .i64 (i:Nat)) w' K=K (.pointer (some ⟨b2,o2+i * 8,none⟩)) w':=fun w' K=>by rw[hv2];simp[hl2i]
   have g1: ∀K,ldN P 8 b1 (o1+i * 8) (dr w1 1) K=K (lx l1[i]) (dr w1 1):=fun K=>ldS (fun k v hk=>by rw[acq];exact e1 k v hk) K
   have g2: ∀K,ldN P 8 b2 (o2+i * 8) (dr w1 1) K=K (lx l2[i]) (dr w1 1):=fun K=>ldS (fun k v hk=>by rw[acq];exact e2 k v hk) K
   have hw:IntKind.i64.wrap ((i:Int)+1)=((i+1:Nat):Int):=by rw[iz];omega
   simp[hili]
   unfold M.h.j3
   simp[q1,q2,g1,g2,bha]
   cases hs:xq l1[i] l2[i] with
   | true=>
    simp
    rw[hw]
    refine⟨⟨_,_,i+1,rfl,hil,fun j a1 a2 hj=>?_,f1.dr 1⟩,by simp[ms,gv];omega⟩
    by_cases hji:j=i
    ·subst hji;exact hs
    ·exact hpre j a1 a2 (by omega)
   | false=>
    simp
    have:=h _ (f1.dr 1)
    rw[azd hil hl2i hs] at this
    exact this
  ·have hili: ¬(i:Int) < (l1.length:Int):=by omega
   simp[hili]
   have:=h w1 f1
   rw[ajs hne fun j a1 a2=>hpre j a1 a2 (by omega)] at this
   exact this
 ·have hni: ¬(l1.length:Int)=(l2.length:Int):=by omega
  simp[hni]
  have:=h w (Fr.refl _ _)
  have hz:vu l1 l2=false:=by unfold vu;simp[hne]
  rw[hz] at this
  exact this
theorem axp{w:World}{v1 v2:Value}{l1 l2:List Int}(s1:SlU w v1 l1)(s2:SlU w v2 l2)(hlen:l1.length<=1000000){K:KV}(h: ∀w',Fz w w'->K (.bool (decide (l1=l2))) w'):ig P F.bj [v1,v2] w K:=by
 rw[M.p.fcall]
 apply M.p.calls
 unfold M.p
 simp only[im]
 rw[s1.jr (by kernel_rfl),s2.jr (by kernel_rfl)]
 by_cases hne:l1.length=l2.length
 ·simp[hne]
  unfold M.p.j0
  simp only[im]
  rw[s1.jr (by kernel_rfl)]
  refine⟨bmx w l1 l2,fun x _=>l1.length - ms x 2,⟨_,_,0,rfl,Nat.zero_le _,fun j _ _ h=>by omega,Fr.refl _ _⟩,?_⟩
  rintro x w1 ⟨u0,u1,i,rfl,hi,hpre,f1⟩
  by_cases hil:i < l1.length
  ·have hili:(i:Int) < (l1.length:Int):=by omega
   have hl2i:i < l2.length:=by omega
   obtain⟨b1,o1,cap1,hv1,_,e1⟩:=axw (s1.fr f1 fun _ _ _ h=>h:SlU w1 v1 l1) hil
   obtain⟨b2,o2,cap2,hv2,_,e2⟩:=axw (s2.fr f1 fun _ _ _ h=>h:SlU w1 v2 l2) hl2i
   have q1: ∀w' K,iaT P T.h v1 (.int .i64 (i:Nat)) w' K=K (.pointer (some ⟨b1,o1+i,none⟩)) w':=fun w' K=>by rw[hv1];simp[hil]
   have q2: ∀w' K,iaT P T.h v2 (.int .i64 (i:Nat)) w' K=K (.pointer (some ⟨b2,o2+i,none⟩)) w':=fun w' K=>by rw[hv2];simp[hl2i]
   have hw:IntKind.i64.wrap ((i:Int)+1)=((i+1:Nat):Int):=by rw[iz];omega
   simp[hili]
   unfold M.p.j3
   simp[q1,q2,e1,e2]
   by_cases hs:l1[i]=l2[i]
   ·simp[hs]
    rw[hw]
    refine⟨⟨_,_,i+1,rfl,hil,fun j a1 a2 hj=>?_,f1.dr 1⟩,by simp[ms,gv];omega⟩
    by_cases hji:j=i
    ·subst hji;exact hs
    ·exact hpre j a1 a2 (by omega)
   ·simp[hs]
    have:=h _ (f1.dr 1)
    rw[decide_eq_false fun he=>hs (by simp[he])] at this
    exact this
  ·have hili: ¬(i:Int) < (l1.length:Int):=by omega
   simp[hili]
   have:=h w1 f1
   rw[decide_eq_true (bjv hne fun j a1 a2=>hpre j a1 a2 (by omega))] at this
   exact this
 ·have hni: ¬(l1.length:Int)=(l2.length:Int):=by omega
  simp[hni]
  have:=h w (Fr.refl _ _)
  rw[decide_eq_false fun he=>hne (congrArg List.length he)] at this
  exact this
theorem bbh{w:World}{p q:Pk}{ls ls':List Spn}{lm lm':List Mem}{lu lu':List Int}(hp:zo w p ls lm lu)(hq:zo w q ls' lm' lu'){K:KV}
  (h: ∀w',Fz w w'->K (.bool (yp p q ls ls' lm lm' lu lu')) w'):ig P F.eu [pkA p,pkA q] w K:=by
 rw[M.dr.fcall]
 apply M.dr.calls
 unfold M.dr
 rw[aqc hp,aqc (hq.fr ((Fr.refl _ w).alloc _))]
 have S1:St w (w.alloc (.cells (pkC p).toArray T.c)) (ja w.heap.size (pkC p).toArray T.c :: []):=(St.kl w).add ((Fr.refl _ w).alloc _) (B:=fun x=>x=w.heap.size) ⟨by rw[iy,if_pos rfl],rfl⟩ fun x hx=>by subst hx;rw[jc];omega
 generalize w.alloc (.cells (pkC p).toArray T.c)=w1 at *
 have S2:St w (w1.alloc (.cells (pkC q).toArray T.c)) (ja w1.heap.size (pkC q).toArray T.c :: _):=S1.add ((Fr.refl _ w1).alloc _) (B:=fun x=>x=w1.heap.size) ⟨by rw[iy,if_pos rfl],rfl⟩ fun x hx=>by subst hx;rw[jc];omega
 generalize w1.alloc (.cells (pkC q).toArray T.c)=w2 at *
 generalize w.heap.size=pb at *
 generalize w1.heap.size=qb at *
 obtain⟨q0,q1,q2,q4,q6,q7,q8,q9,q10,_⟩:=pd S2
 obtain⟨p0,p1,p2,p4,p6,p7,p8,p9,p10,_⟩:=pd S2.swap
 have hbo:ajv P T.bp=true:=by kernel_rfl
 have no: ∀bb:Bool,bb=false->(lk p q=false)->K (.bool bb) w2:=fun bb hb hl=>by
  subst hb
  have:=h w2 S2.fr
  unfold yp at this
  rw[hl,Bool.and_false,Bool.and_false,Bool.and_false] at this
  exact this
 by_cases a0:p.jg=q.jg
 case neg=>
  simp[p0,q0,a0]
  exact no false rfl (by simp[lk,a0])
 by_cases a1:p.tr=q.tr
 case neg=>
  simp[p0,q0,a0,p1,q1,a1]
  exact no false rfl (by simp[lk,a1])
 by_cases a2:p.b=q.b
 case neg=>
  simp[p0,q0,a0,p1,q1,a1,p2,q2,aak,a2]
  exact no false rfl (by simp[lk,a2])
 by_cases a3:p.jq=q.jq
 case neg=>
  simp[p0,q0,a0,p1,q1,a1,p2,q2,aak,a2,p4,q4,a3]
  exact no false rfl (by simp[lk,a3])
 by_cases a4:p.v=q.v
 case neg=>
  simp[p0,q0,a0,p1,q1,a1,p2,q2,aak,a2,p4,q4,a3,p6,q6,a4]
  exact no false rfl (by simp[lk,a4])
 by_cases a5:p.ok=q.ok
 case neg=>
  have a5':(p.ok == q.ok)=false:=by simpa using a5
  simp[p0,q0,a0,p1,q1,a1,p2,q2,aak,a2,p4,q4,a3,p6,q6,a4,p7,q7,aeo hbo,a5']
  exact no false rfl (by simp[lk,a5])
 obtain⟨⟨sa,sc,es⟩,⟨ma,mc,em⟩,ua,uc,eu⟩:=hp.one
 obtain⟨⟨sa',sc',es'⟩,⟨ma',mc',em'⟩,ua',uc',eu'⟩:=hq.one
 simp[p0,q0,a0,p1,q1,a1,p2,q2,aak,a2,p4,q4,a3,p6,q6,a4,p7,q7,aeo hbo,a5,p8,q8]
 have hp2:=hp.fr S2.fr
 have hq2:=hq.fr S2.fr
 have fb:lk p q=true:=by simp[lk,a0,a1,a2,a3,a4,a5]
 have fin:=h
 unfold yp at fin
 rw[fb] at fin
 refine axd hp2.s hq2.s hp.ls fun w3 f3=>?_
 have S3:=S2.jv f3
 obtain⟨_,_,_,_,_,_,_,q9,_,_⟩:=pd S3
 obtain⟨_,_,_,_,_,_,_,p9,_,_⟩:=pd S3.swap
 have hp3:=hp.fr S3.fr
 have hq3:=hq.fr S3.fr
 cases hb1:vu ls ls' with
 | false=>
  simp
  have:=fin w3 S3.fr
  rw[hb1] at this
  simpa using this
 | true=>
 rw[hb1] at fin
 simp[p9,q9]
 refine amt hp3.m hq3.m hp.lm fun w4 f4=>?_
 have S4:=S3.jv f4
 obtain⟨_,_,_,_,_,_,_,_,q10,_⟩:=pd S4
 obtain⟨_,_,_,_,_,_,_,_,p10,_⟩:=pd S4.swap
 have hp4:=hp.fr S4.fr
 have hq4:=hq.fr S4.fr
 by_cases hm:lm=lm'
 case neg=>
  simp[hm]
  have:=fin w4 S4.fr
  simpa [hm] using this
 simp[hm,p10,q10]
 refine axp hp4.u hq4.u hp.lu fun w5 f5=>?_
 have:=fin w5 (S4.jv f5).fr
 simpa [hm] using this
def byt(s:ByteArray)(k:Nat):Nat:=(s.get! k).toNat
theorem apv(s:ByteArray){i:Nat}(h:i < s.size){k:IntKind}(w:World)(K:KV):ixT P T.l (.string s) (.int k (i:Int)) w K=K (.int .u8 (byt s i)) w:=by
 have hu:P.underlying T.l=some .string:=vf alc
 have hg:s[i]? =some (s.get! i):=by
  rw[getElem?_pos s i h]
  have e:s.get! i=s[i]'h:=by
   simp[ByteArray.get!,getElem!_pos,h]
   rfl
  rw[e]
 simp[ixT,jl,Instr.index,asIntOf,Sem.run_bind,jd hu,Result.andThen,Sem.run_pure,hg,byt]
theorem bhr{s d:TypeId}{ks k2:IntKind}(hs:P.underlying s=some (.int ks))(hd:P.underlying d=some (.int k2))(k:IntKind)(x:Int)(w:World)(K:KV):cvT P s d (.int k x) w K=K (.int k2 (k2.wrap x)) w:=by
 simp[cvT,jl,convert,Sem.run_bind,jd hs,jd hd,Result.andThen,Conv.intToInt,Sem.run_pure]
def kc(t:ByteArray)(r:Nat):Nat->Nat
 | 0=>r
 | k+1=>kc t r k * 64+byt t (k+1) - 128
def tj(t:ByteArray)(k:Nat):Bool:=decide (128<=byt t k) && decide (byt t k<=191)
def mr(b0:Nat):Nat×Nat×Nat:=if 194<=b0/\b0<=223 then (2,128,b0 - 192) else if 224<=b0/\b0<=239 then (3,2048,b0 - 224) else if 240<=b0/\b0<=244 then (4,65536,b0 - 240) else (0,0,0)
def sy(t:ByteArray):Nat->Bool
 | 0=>true
 | k+1=>sy t k && tj t (k+1)
def rr(t:ByteArray):Nat×Nat:=
 if t.size=0 then (0,0) else if byt t 0 < 128 then (byt t 0,1) else
 if (mr (byt t 0)).1=0\/t.size < (mr (byt t 0)).1 then (0,0) else
 if sy t ((mr (byt t 0)).1 - 1)=false then (0,0) else
 if kc t (mr (byt t 0)).2.2 ((mr (byt t 0)).1 - 1) < (mr (byt t 0)).2.1\/1114111 < kc t (mr (byt t 0)).2.2 ((mr (byt t 0)).1 - 1)\/(55296<=kc t (mr (byt t 0)).2.2 ((mr (byt t 0)).1 - 1)/\kc t (mr (byt t 0)).2.2 ((mr (byt t 0)).1 - 1)<=57343) then (0,0) else (kc t (mr (byt t 0)).2.2 ((mr (byt t 0)).1 - 1),(mr (byt t 0)).1)
theorem afz(t:ByteArray)(k:Nat):byt t k < 256:=UInt8.toNat_lt _
theorem aqm(t:ByteArray){r:Nat}(hr:r<=31): ∀k,sy t k=true->kc t r k+1<=32 * 64 ^ k
 | 0,_=>by simp[kc];omega
 | k+1,h=>by
  simp only[sy,Bool.and_eq_true,tj,decide_eq_true_eq] at h
  have:=aqm t hr k h.1
  simp only[kc,Nat.pow_succ]
  omega
theorem ahn(x:Int)(w:World)(K:KV):cvT P T.bc T.bi (.int .u8 x) w K=K (.int .i32 (IntKind.i32.wrap x)) w:=bhr (ks:= .u8) (by kernel_rfl) (by kernel_rfl) .u8 x w K
theorem wk{x:Int}(h0: -2147483648<=x)(h1:x < 2147483648):IntKind.i32.wrap x=x:=by
 show (if (true && decide (x % 4294967296≥2147483648))=true then x % 4294967296 - 4294967296 else x % 4294967296)=x
 by_cases h:x % 4294967296≥2147483648
 ·simp[h];omega
 ·simp[h];omega
theorem aiv{t:ByteArray}{k:Nat}(h:tj t (k+1)=false): ∀{n:Nat},k+1 < n->sy t (n - 1)=false
 | 0,hn=>by omega
 | n+1,hn=>by
  rw[Nat.add_sub_cancel]
  by_cases hk:k+1=n
  ·subst hk;simp[sy,h]
  ·have:=aiv h (n:=n) (by omega)
   cases n with
   | zero=>omega
   | succ n=>rw[Nat.add_sub_cancel] at this;simp[sy,this]
def bkv(w:World)(t:ByteArray)(r n:Nat):KL:=fun x w1=> ∃(a b:Value)(k:Nat),x=[a,b,.int .i32 (kc t r k:Nat),.int .i64 ((k+1:Nat):Int)]/\w1=w/\k+1<=n/\sy t k=true
theorem awz{w:World}{t:ByteArray}{n least r:Nat}(hn:2<=n)(hn4:n<=4)(hr:r<=31)(hl:least<=65536)(hsz:n<=t.size){x3 x2:List Value}(e1:gv x2 1= .int .i64 (n:Nat))(e2:gv x2 2= .int .i32 (least:Nat))(e3:gv x2 3= .int .i32 (r:Nat)){K:KV}
  (h:K (.tuple #[.int .i32 ((if sy t (n - 1)=false then 0 else if kc t r (n - 1) < least\/1114111 < kc t r (n - 1)\/(55296<=kc t r (n - 1)/\kc t r (n - 1)<=57343) then 0 else kc t r (n - 1):Nat):Int),.int .i64 ((if sy t (n - 1)=false then 0 else if kc t r (n - 1) < least\/1114111 < kc t r (n - 1)\/(55296<=kc t r (n - 1)/\kc t r (n - 1)<=57343) then 0 else n:Nat):Int)]) w):
  M.g.j3 x3 x2 (.string t) w K:=by
 unfold M.g.j3
 simp only[im,e3]
 refine⟨bkv w t r n,fun x _=>n - ms x 3,⟨_,_,0,rfl,rfl,by omega,rfl⟩,?_⟩
 rintro x w1 ⟨a,b,k,rfl,rfl,hk,hc⟩
 have g2:gv [a,b,.int .i32 (kc t r k:Nat),.int .i64 ((k+1:Nat):Int)] 2= .int .i32 (kc t r k:Nat):=rfl
 have g3:gv [a,b,.int .i32 (kc t r k:Nat),.int .i64 ((k+1:Nat):Int)] 3= .int .i64 ((k+1:Nat):Int):=rfl
 simp only[e1,g3]
 have hb:=aqm t hr k hc
 have hp:(64:Nat) ^ k<=64 ^ 3:=Nat.pow_le_pow_right (by omega) (by omega)
 by_cases hlt:k+1 < n
 ·have hlt':((k+1:Nat):Int) < n:=by omega
  have hix: ∀K,ixT P T.l (.string t) (.int .i64 ((k+1:Nat):Int)) w1 K=K (.int .u8 (byt t (k+1))) w1:=fun K=>apv t (by omega) w1 K
  simp only[oc,hlt',decide_true,Eng.cond_true]
  unfold M.g.j6
  have hix':=hix
  push_cast at hix'
  have hbl:=afz t (k+1)
  have hw:IntKind.i64.wrap (((k+1:Nat):Int)+1)=((k+1+1:Nat):Int):=by rw[iz];rfl
  simp only[im,g2,g3,hix]
  by_cases h1:byt t (k+1) < 128
  ·have h1':(byt t (k+1):Int) < 128:=by omega
   have hcf:sy t (n - 1)=false:=aiv (by simp[tj];omega) hlt
   simp[h1']
   rw[hcf] at h
   simpa using h
  ·have h1': ¬(byt t (k+1):Int) < 128:=by omega
   by_cases h2:191 < byt t (k+1)
   ·have h2':(191:Int) < byt t (k+1):=by omega
    have hcf:sy t (n - 1)=false:=aiv (by simp[tj];omega) hlt
    simp[h1',hix',h2']
    rw[hcf] at h
    simpa using h
   ·have h2': ¬(191:Int) < byt t (k+1):=by omega
    simp[h1',hix',h2']
    unfold M.g.j8
    have hm1:IntKind.i32.wrap ((kc t r k:Int) * 64)=(kc t r k:Int) * 64:=wk (by omega) (by omega)
    have hm2:IntKind.i32.wrap (byt t (k+1):Int)=byt t (k+1):=wk (by omega) (by omega)
    have hm3:IntKind.i32.wrap ((kc t r k:Int) * 64+byt t (k+1))=(kc t r k:Int) * 64+byt t (k+1):=wk (by omega) (by omega)
    have hm4:IntKind.i32.wrap ((kc t r k:Int) * 64+byt t (k+1) - 128)=((kc t r (k+1):Nat):Int):=by
     rw[wk (by omega) (by omega)]
     simp only[kc];omega
    push_cast at g2 g3 hw
    simp only[g2,g3,hix',ahn,vh,lr,na,hm1,hm2,hm3,hm4,hw]
    refine⟨⟨_,_,k+1,rfl,rfl,by omega,by simp[sy,hc,tj];omega⟩,?_⟩
    simp[ms,gv];omega
 ·have hke:n - 1=k:=by omega
  have hlt': ¬((k+1:Nat):Int) < n:=by omega
  rw[hke,hc] at h
  simp only[oc,hlt',decide_false,Eng.cond_false]
  unfold M.g.j4
  have q3: ∀p q s u:Value,gv [p,q,s,u] 3=u:=fun _ _ _ _=>rfl
  simp only[im,q3,g2,e1,e2]
  generalize kc t r k=v at *
  simp only[Bool.true_eq_false,if_false] at h
  by_cases a1:v < least
  ·have a1':(v:Int) < least:=by omega
   simp[a1,a1'] at h⊢
   exact h
  by_cases a2:1114111 < v
  ·have a1': ¬(v:Int) < least:=by omega
   have a2':(1114111:Int) < v:=by omega
   simp[a1,a1',a2,a2'] at h⊢
   exact h
  by_cases a3:55296<=v
  ·by_cases a4:v<=57343
   ·have a1': ¬(v:Int) < least:=by omega
    have a2': ¬(1114111:Int) < v:=by omega
    have a3':(55296:Int)<=v:=by omega
    have a4':(v:Int)<=57343:=by omega
    simp[a1,a1',a2,a2',a3,a3',a4,a4'] at h⊢
    exact h
   ·have a1': ¬(v:Int) < least:=by omega
    have a2': ¬(1114111:Int) < v:=by omega
    have a3':(55296:Int)<=v:=by omega
    have a4': ¬(v:Int)<=57343:=by omega
    simp[a1,a1',a2,a2',a3,a3',a4,a4'] at h⊢
    exact h
  ·have a1': ¬(v:Int) < least:=by omega
   have a2': ¬(1114111:Int) < v:=by omega
   have a3': ¬(55296:Int)<=v:=by omega
   simp[a1,a1',a2,a2',a3,a3'] at h⊢
   exact h
theorem bhj{w:World}(t:ByteArray){K:KV}(h:K (.tuple #[.int .i32 ((rr t).1:Nat),.int .i64 ((rr t).2:Nat)]) w):jp P F.ep [.string t] w K:=by
 apply M.g.calls
 unfold M.g
 simp only[im]
 unfold rr at h
 by_cases h0:t.size=0
 ·simp[h0] at h⊢
  exact h
 have hsz:0 < t.size:=by omega
 have hix: ∀K,ixT P T.l (.string t) (.int .i64 0) w K=K (.int .u8 (byt t 0)) w:=fun K=>apv t hsz w K
 have hbl:=afz t 0
 have hw0:IntKind.i32.wrap (byt t 0:Int)=byt t 0:=wk (by omega) (by omega)
 simp[h0] at h⊢
 unfold M.g.j0
 simp only[im,hix]
 by_cases h1:byt t 0 < 128
 ·have h1':(byt t 0:Int) < 128:=by omega
  simp[h1,h1',ahn,hw0] at h⊢
  exact h
 have h1': ¬(byt t 0:Int) < 128:=by omega
 simp[h1,h1'] at h⊢
 unfold M.g.j1
 simp only[im]
 have fin: ∀(n least r:Nat)(x2:List Value),mr (byt t 0)=(n,least,r)->n≠0->2<=n->n<=4->r<=31->least<=65536->gv x2 1= .int .i64 (n:Nat)->gv x2 2= .int .i32 (least:Nat)->gv x2 3= .int .i32 (r:Nat)->M.g.j2 x2 (.string t) [.int .i32 0,.int .i64 0] w K:=by
  intro n least r x2 hc hn0 hn hn4 hr hl e1 e2 e3
  rw[hc] at h
  unfold M.g.j2
  have hn0': ¬(n:Int)=0:=by omega
  by_cases hs:t.size < n
  ·have hs':(t.size:Int) < n:=by omega
   simp[e1,hn0,hn0',hs,hs'] at h⊢
   exact h
  ·have hs': ¬(t.size:Int) < n:=by omega
   simp only[im]
   simp[e1,hn0,hn0',hs,hs'] at h⊢
   refine awz hn hn4 hr hl (by omega) e1 e2 e3 ?_
   by_cases hcs:sy t (n - 1)=false
   ·simp[hcs] at h⊢;exact h
   ·by_cases hv:kc t r (n - 1) < least\/1114111 < kc t r (n - 1)\/(55296<=kc t r (n - 1)/\kc t r (n - 1)<=57343)
    ·simp[hcs,hv] at h⊢;exact h
    ·simp[hcs,hv] at h⊢;exact h
 generalize hb0:byt t 0=b0 at *
 have hsub: ∀(y:Int),0<=y->y < 300->(b0:Int) - y=(((b0:Int) - y)):=fun _ _ _=>rfl
 by_cases c1:194<=b0/\b0<=223
 ·have p1:(194:Int)<=b0:=by omega
  have p2:(b0:Int)<=223:=by omega
  have hw1:IntKind.i32.wrap ((b0:Int) - 192)=((b0 - 192:Nat):Int):=by rw[wk (by omega) (by omega)];omega
  simp[p1,p2,ahn,hw0,hw1]
  refine fin 2 128 (b0 - 192) _ (by simp[mr,c1]) (by decide) (by decide) (by decide) (by omega) (by decide) rfl rfl rfl
 have hz: ∀x2,gv x2 1= .int .i64 0->mr b0=(0,0,0)->M.g.j2 x2 (.string t) [.int .i32 0,.int .i64 0] w K:=by
  intro x2 e1 hc
  rw[hc] at h
  unfold M.g.j2
  simp only[im]
  simp[e1] at h⊢
  exact h
 by_cases d1:224<=b0
 ·have p1:(194:Int)<=b0:=by omega
  have p2: ¬(b0:Int)<=223:=by omega
  have p3:(224:Int)<=b0:=by omega
  by_cases d2:b0<=239
  ·have p4:(b0:Int)<=239:=by omega
   have hw1:IntKind.i32.wrap ((b0:Int) - 224)=((b0 - 224:Nat):Int):=by rw[wk (by omega) (by omega)];omega
   simp[p1,p2,p3,p4,ahn,hw0,hw1]
   exact fin 3 2048 (b0 - 224) _ (by simp[mr,c1,d1,d2]) (by decide) (by decide) (by decide) (by omega) (by decide) rfl rfl rfl
  ·have p4: ¬(b0:Int)<=239:=by omega
   have p5:(240:Int)<=b0:=by omega
   by_cases d3:b0<=244
   ·have p6:(b0:Int)<=244:=by omega
    have hw1:IntKind.i32.wrap ((b0:Int) - 240)=((b0 - 240:Nat):Int):=by rw[wk (by omega) (by omega)];omega
    simp[p1,p2,p3,p4,p5,p6,ahn,hw0,hw1]
    exact fin 4 65536 (b0 - 240) _ (by unfold mr;rw[if_neg c1,if_neg (by omega),if_pos (by omega)]) (by decide) (by decide) (by decide) (by omega) (by decide) rfl rfl rfl
   ·have p6: ¬(b0:Int)<=244:=by omega
    simp[p1,p2,p3,p4,p5,p6,ahn,hw0]
    exact hz _ rfl (by unfold mr;rw[if_neg c1,if_neg (by omega),if_neg (by omega)])
 ·have p1: ¬(194:Int)<=b0:=by omega
  have p3: ¬(224:Int)<=b0:=by omega
  have p5: ¬(240:Int)<=b0:=by omega
  simp[p1,p3,p5]
  exact hz _ rfl (by unfold mr;rw[if_neg c1,if_neg (by omega),if_neg (by omega)])
theorem ajt{t:ByteArray}(h0:0 < t.size)(h1: ¬byt t 0 < 128){n least r:Nat}(hc:mr (byt t 0)=(n,least,r)):
  rr t=if n=0\/t.size < n then (0,0) else if sy t (n - 1)=false then (0,0) else if kc t r (n - 1) < least\/1114111 < kc t r (n - 1)\/(55296<=kc t r (n - 1)/\kc t r (n - 1)<=57343) then (0,0) else (kc t r (n - 1),n):=by
 unfold rr
 rw[if_neg (by omega),if_neg h1,hc]
theorem bcr(v:Nat):Utf8.valid (v:Int)=decide (¬(1114111 < v\/(55296<=v/\v<=57343))):=by
 unfold Utf8.valid
 rw[Bool.eq_iff_iff]
 simp only[Bool.or_eq_true,Bool.and_eq_true,decide_eq_true_eq]
 omega
def nn(t:ByteArray)(k:Nat):Bool:=decide (k < t.size) && tj t k
def ajc(least n v:Nat):Nat×Nat:=if least<=v/\¬(1114111 < v\/(55296<=v/\v<=57343)) then (v,n) else (65533,1)
theorem aaj(t:ByteArray):Utf8.decode t 0=if byt t 0 < 128 then (byt t 0,1) else if byt t 0 / 32=6/\nn t 1=true then (if 128<=byt t 0 % 32 * 64+byt t 1 % 64 then (byt t 0 % 32 * 64+byt t 1 % 64,2) else (65533,1))
  else if byt t 0 / 16=14/\nn t 1=true/\nn t 2=true then ajc 2048 3 (byt t 0 % 16 * 4096+byt t 1 % 64 * 64+byt t 2 % 64)
  else if byt t 0 / 8=30/\nn t 1=true/\nn t 2=true/\nn t 3=true then ajc 65536 4 (byt t 0 % 8 * 262144+byt t 1 % 64 * 4096+byt t 2 % 64 * 64+byt t 3 % 64) else (65533,1):=by
 have e: ∀k,(t.get! (0+k)).toNat=byt t k:=fun k=>by rw[Nat.zero_add];rfl
 have c0: ∀k,(decide (0+k < t.size) && byt t k / 64 == 2)=nn t k:=fun k=>by
  have:=afz t k
  have:(byt t k / 64 == 2)=tj t k:=by
   unfold tj
   by_cases h:128<=byt t k <;>by_cases h':byt t k<=191
   ·have:byt t k / 64=2:=by omega
    simp[h,h',this]
   ·have: ¬byt t k / 64=2:=by omega
    simp[h,h',this]
   ·have: ¬byt t k / 64=2:=by omega
    simp[h,h',this]
   ·omega
  rw[this,Nat.zero_add];rfl
 unfold Utf8.decode ajc
 simp only[e,c0,bcr,Bool.and_eq_true,beq_iff_eq,and_assoc,decide_eq_true_eq,ge_iff_le,Utf8.runeError]
theorem xp{t:ByteArray}{k:Nat}(h:nn t k=true):k < t.size/\tj t k=true/\128<=byt t k/\byt t k<=191:=by
 unfold nn tj at h
 simp only[Bool.and_eq_true,decide_eq_true_eq] at h
 exact⟨h.1,by unfold tj;simp[h.2],h.2.1,h.2.2⟩
def adk(c:Nat×Nat):Nat×Nat:=if c.2=0 then (65533,1) else c
theorem akt{least n v:Nat}(hn:n≠0):ajc least n v=adk (if v < least\/1114111 < v\/(55296<=v/\v<=57343) then (0,0) else (v,n)):=by
 unfold ajc adk
 by_cases g:v < least\/1114111 < v\/(55296<=v/\v<=57343)
 ·rw[if_pos g,if_neg (by omega)];rfl
 ·rw[if_neg g,if_pos (by omega)];simp[hn]
theorem agj{t:ByteArray}: ∀{n:Nat},sy t n=true↔∀k,1<=k->k<=n->tj t k=true
 | 0=>⟨fun _ k h1 h2=>by omega,fun _=>rfl⟩
 | n+1=>by
  simp only[sy,Bool.and_eq_true,agj (n:=n)]
  constructor
  ·rintro⟨h1,h2⟩ k hk1 hk2
   by_cases hk:k=n+1
   ·subst hk;exact h2
   ·exact h1 k hk1 (by omega)
  ·intro h
   exact⟨fun k h1 h2=>h k h1 (by omega),h (n+1) (by omega) (by omega)⟩
theorem adw{t:ByteArray}(h0:0 < t.size)(h1: ¬byt t 0 < 128){n least r:Nat}(hc:mr (byt t 0)=(n,least,r))(hn:2<=n)(h: ∀k,1<=k->k<=n - 1->nn t k=true):
  rr t=if kc t r (n - 1) < least\/1114111 < kc t r (n - 1)\/(55296<=kc t r (n - 1)/\kc t r (n - 1)<=57343) then (0,0) else (kc t r (n - 1),n):=by
 rw[ajt h0 h1 hc]
 have:=(xp (h (n - 1) (by omega) (by omega))).1
 rw[if_neg (by omega),if_neg]
 rw[agj.2 fun k h1 h2=>(xp (h k h1 h2)).2.1];simp
theorem ahb{t:ByteArray}(h0:0 < t.size)(h1: ¬byt t 0 < 128){n least r:Nat}(hc:mr (byt t 0)=(n,least,r))(hn:2<=n)(h: ¬∀k,1<=k->k<=n - 1->nn t k=true):rr t=(0,0):=by
 rw[ajt h0 h1 hc]
 by_cases hs:t.size < n
 ·rw[if_pos (.inr hs)]
 ·rw[if_neg (by omega),if_pos]
  cases hcs:sy t (n - 1) with
  | false=>rfl
  | true=>
   refine absurd (fun k h1 h2=>?_) h
   unfold nn
   rw[agj.1 hcs k h1 h2]
   simp;omega
theorem auq{p:Nat->Prop}:(∀k,1<=k->k<=2 - 1->p k)↔p 1:=⟨fun h=>h 1 (by omega) (by omega),fun h k h1 h2=>by
 obtain rfl:k=1:=by omega
 exact h⟩
theorem avl{p:Nat->Prop}:(∀k,1<=k->k<=3 - 1->p k)↔p 1/\p 2:=⟨fun h=>⟨h 1 (by omega) (by omega),h 2 (by omega) (by omega)⟩,fun h k h1 h2=>by
 have:k=1\/k=2:=by omega
 rcases this with rfl|rfl
 ·exact h.1
 ·exact h.2⟩
theorem awh{p:Nat->Prop}:(∀k,1<=k->k<=4 - 1->p k)↔p 1/\p 2/\p 3:=⟨fun h=>⟨h 1 (by omega) (by omega),h 2 (by omega) (by omega),h 3 (by omega) (by omega)⟩,fun h k h1 h2=>by
 have:k=1\/k=2\/k=3:=by omega
 rcases this with rfl|rfl|rfl
 ·exact h.1
 ·exact h.2.1
 ·exact h.2.2⟩
theorem aho{x:Nat}(h1:128<=x)(h2:x<=191):x % 64=x - 128:=by omega
theorem rf1(t:ByteArray)(r:Nat):kc t r 1=r * 64+byt t 1 - 128:=rfl
theorem rf2(t:ByteArray)(r:Nat):kc t r 2=(r * 64+byt t 1 - 128) * 64+byt t 2 - 128:=rfl
theorem rf3(t:ByteArray)(r:Nat):kc t r 3=((r * 64+byt t 1 - 128) * 64+byt t 2 - 128) * 64+byt t 3 - 128:=rfl
theorem bnb{t:ByteArray}(h0:0 < t.size)(c1:194<=byt t 0/\byt t 0<=223):Utf8.decode t 0=adk (rr t):=by
 have h1: ¬byt t 0 < 128:=by omega
 have hc:mr (byt t 0)=(2,128,byt t 0 - 192):=by unfold mr;rw[if_pos c1]
 rw[aaj,if_neg h1]
 by_cases hd:nn t 1=true
 ·rw[adw h0 h1 hc (by decide) (auq.2 hd),if_pos ⟨by omega,hd⟩,<-akt (by decide)]
  obtain⟨_,_,g1,g2⟩:=xp hd
  have hv:kc t (byt t 0 - 192) (2 - 1)=byt t 0 % 32 * 64+byt t 1 % 64:=by
   show kc t (byt t 0 - 192) 1=_
   rw[rf1,aho g1 g2];omega
  rw[hv]
  have hle:byt t 0 % 32 * 64+byt t 1 % 64 < 55296:=by omega
  unfold ajc
  by_cases hg:128<=byt t 0 % 32 * 64+byt t 1 % 64
  ·rw[if_pos hg,if_pos ⟨hg,by omega⟩]
  ·rw[if_neg hg,if_neg fun h=>hg h.1]
 ·rw[if_neg fun h=>hd h.2,if_neg (by omega),if_neg (by omega),ahb h0 h1 hc (by decide) fun h=>hd (auq.1 h)];rfl
theorem bme{t:ByteArray}(h0:0 < t.size)(c1:224<=byt t 0/\byt t 0<=239):Utf8.decode t 0=adk (rr t):=by
 have h1: ¬byt t 0 < 128:=by omega
 have hc:mr (byt t 0)=(3,2048,byt t 0 - 224):=by unfold mr;rw[if_neg (by omega),if_pos c1]
 rw[aaj,if_neg h1,if_neg (by omega)]
 by_cases hd:nn t 1=true/\nn t 2=true
 ·rw[adw h0 h1 hc (by decide) (avl.2 hd),if_pos ⟨by omega,hd⟩,<-akt (by decide)]
  obtain⟨_,_,g1,g2⟩:=xp hd.1
  obtain⟨_,_,g3,g4⟩:=xp hd.2
  have hv:kc t (byt t 0 - 224) (3 - 1)=byt t 0 % 16 * 4096+byt t 1 % 64 * 64+byt t 2 % 64:=by
   show kc t (byt t 0 - 224) 2=_
   rw[rf2,aho g1 g2,aho g3 g4];omega
  rw[hv]
 ·rw[if_neg fun h=>hd h.2,if_neg (by omega),ahb h0 h1 hc (by decide) fun h=>hd (avl.1 h)];rfl
theorem bmc{t:ByteArray}(h0:0 < t.size)(c1:240<=byt t 0/\byt t 0<=244):Utf8.decode t 0=adk (rr t):=by
 have h1: ¬byt t 0 < 128:=by omega
 have hc:mr (byt t 0)=(4,65536,byt t 0 - 240):=by unfold mr;rw[if_neg (by omega),if_neg (by omega),if_pos c1]
 rw[aaj,if_neg h1,if_neg (by omega),if_neg (by omega)]
 by_cases hd:nn t 1=true/\nn t 2=true/\nn t 3=true
 ·rw[adw h0 h1 hc (by decide) (awh.2 hd),if_pos ⟨by omega,hd⟩,<-akt (by decide)]
  obtain⟨_,_,g1,g2⟩:=xp hd.1
  obtain⟨_,_,g3,g4⟩:=xp hd.2.1
  obtain⟨_,_,g5,g6⟩:=xp hd.2.2
  have hv:kc t (byt t 0 - 240) (4 - 1)=byt t 0 % 8 * 262144+byt t 1 % 64 * 4096+byt t 2 % 64 * 64+byt t 3 % 64:=by
   show kc t (byt t 0 - 240) 3=_
   rw[rf3,aho g1 g2,aho g3 g4,aho g5 g6];omega
  rw[hv]
 ·rw[if_neg fun h=>hd h.2,ahb h0 h1 hc (by decide) fun h=>hd (awh.1 h)];rfl
theorem awu(t:ByteArray)(h0:0 < t.size):Utf8.decode t 0=adk (rr t):=by
 by_cases h1:byt t 0 < 128
 ·have hr:rr t=(byt t 0,1):=by unfold rr;rw[if_neg (by omega),if_pos h1]
  rw[aaj,if_pos h1,hr];rfl
 by_cases c1:194<=byt t 0/\byt t 0<=223
 ·exact bnb h0 c1
 by_cases c2:224<=byt t 0/\byt t 0<=239
 ·exact bme h0 c2
 by_cases c3:240<=byt t 0/\byt t 0<=244
 ·exact bmc h0 c3
 have hc:mr (byt t 0)=(0,0,0):=by unfold mr;rw[if_neg c1,if_neg c2,if_neg c3]
 have hr:rr t=(0,0):=by rw[ajt h0 h1 hc];simp
 have hb:=afz t 0
 rw[hr,aaj,if_neg h1]
 show _=(65533,1)
 by_cases d1:byt t 0 / 32=6/\nn t 1=true
 ·obtain⟨_,_,g1,g2⟩:=xp d1.2
  rw[if_pos d1,if_neg (by omega)]
 ·rw[if_neg d1,if_neg (by omega)]
  by_cases d3:byt t 0 / 8=30/\nn t 1=true/\nn t 2=true/\nn t 3=true
  ·rw[if_pos d3]
   unfold ajc
   rw[if_neg (by omega)]
  ·rw[if_neg d3]
def km(s:ByteArray)(i:Nat):ByteArray:=s.extract i s.size
theorem afx(s:ByteArray)(i:Nat):(km s i).size=s.size - i:=by simp[km]
theorem apn(s:ByteArray)(k:Nat):s.get! k=s.data[k]! :=by cases s;rfl
theorem bbk(s:ByteArray)(i k:Nat):byt (km s i) k=byt s (i+k):=by
 unfold byt
 rw[apn,apn]
 have h:(km s i).data=s.data.extract i s.size:=by simp[km]
 rw[h,getElem!_def,getElem!_def,Array.getElem?_extract]
 have hs:s.size=s.data.size:=rfl
 by_cases hk:k < min s.size s.data.size - i
 ·rw[if_pos (by omega)]
 ·rw[if_neg (by omega),Array.getElem?_eq_none (by omega)]
theorem ayx(s:ByteArray)(i n:Nat):km (km s i) n=km s (i+n):=by
 unfold km
 rw[ByteArray.extract_extract]
 congr 1
 simp;omega
theorem arp(s:ByteArray)(i:Nat):Utf8.decode s i=Utf8.decode (km s i) 0:=by
 have e: ∀k,(s.get! (i+k)).toNat=byt (km s i) k:=fun k=>by rw[bbk];rfl
 have e': ∀k,((km s i).get! (0+k)).toNat=byt (km s i) k:=fun k=>by rw[Nat.zero_add];rfl
 have c: ∀k,decide (i+k < s.size)=decide (0+k < (km s i).size):=fun k=>by
  rw[afx,decide_eq_decide];omega
 unfold Utf8.decode
 simp only[e,e',c]
theorem bfw(t:ByteArray):vn t wv=true↔3<=t.size/\byt t 0=239/\byt t 1=191/\byt t 2=189:=by
 have hs:t.size=t.data.toList.length:=Array.length_toList.symm
 have hr:wv.toList=[239,191,189]:=by decide+kernel
 have hz:wv.size=3:=rfl
 unfold vn
 rw[hr,hz,Bool.and_eq_true,decide_eq_true_eq,beq_iff_eq]
 have he:(t.extract 0 3).toList=t.data.toList.take 3:=by
  rw[ByteArray.toList_eq]
  simp
 rw[he]
 have b: ∀k,byt t k=(t.data.toList[k]?.getD default).toNat:=fun k=>by
  unfold byt
  rw[apn,getElem!_def]
  simp only[Array.getElem?_toList]
  cases t.data[k]? <;>rfl
 rw[b,b,b,hs]
 have u: ∀(x:UInt8)(n:Nat)(h:n < 256),x.toNat=n↔x=UInt8.ofNat n:=fun x n h=>by
  constructor
  ·intro hx;rw[<-hx];simp
  ·rintro rfl;simp;omega
 match t.data.toList with
 | []=>simp
 | [x]=>simp
 | [x,y]=>simp
 | x :: y :: z :: r=>
  simp[u x 239 (by decide),u y 191 (by decide),u z 189 (by decide)]
theorem bio(t:ByteArray)(h0:0 < t.size):((rr t).2≠0/\(rr t).1=65533)↔(3<=t.size/\byt t 0=239/\byt t 1=191/\byt t 2=189):=by
 have hb:=afz t 0
 by_cases h1:byt t 0 < 128
 ·have hr:rr t=(byt t 0,1):=by unfold rr;rw[if_neg (by omega),if_pos h1]
  rw[hr];simp;omega
 by_cases c1:194<=byt t 0/\byt t 0<=223
 ·have hc:mr (byt t 0)=(2,128,byt t 0 - 192):=by unfold mr;rw[if_pos c1]
  by_cases hd:nn t 1=true
  ·rw[adw h0 h1 hc (by decide) (auq.2 hd)]
   obtain⟨_,_,g1,g2⟩:=xp hd
   have hv:kc t (byt t 0 - 192) (2 - 1)=(byt t 0 - 192) * 64+byt t 1 - 128:=rfl
   rw[hv]
   split <;>simp <;>omega
  ·rw[ahb h0 h1 hc (by decide) fun h=>hd (auq.1 h)];simp;omega
 by_cases c2:224<=byt t 0/\byt t 0<=239
 ·have hc:mr (byt t 0)=(3,2048,byt t 0 - 224):=by unfold mr;rw[if_neg (by omega),if_pos c2]
  by_cases hd:nn t 1=true/\nn t 2=true
  ·rw[adw h0 h1 hc (by decide) (avl.2 hd)]
   obtain⟨_,_,g1,g2⟩:=xp hd.1
   obtain⟨g5,_,g3,g4⟩:=xp hd.2
   have hv:kc t (byt t 0 - 224) (3 - 1)=((byt t 0 - 224) * 64+byt t 1 - 128) * 64+byt t 2 - 128:=rfl
   rw[hv]
   split <;>simp <;>omega
  ·rw[ahb h0 h1 hc (by decide) fun h=>hd (avl.1 h)]
   simp only[ne_eq,not_true_eq_false,false_and,false_iff]
   rintro⟨k0,k1,k2,k3⟩
   apply hd
   unfold nn tj
   simp[k2,k3];omega
 by_cases c3:240<=byt t 0/\byt t 0<=244
 ·have hc:mr (byt t 0)=(4,65536,byt t 0 - 240):=by unfold mr;rw[if_neg (by omega),if_neg (by omega),if_pos c3]
  by_cases hd:nn t 1=true/\nn t 2=true/\nn t 3=true
  ·rw[adw h0 h1 hc (by decide) (awh.2 hd)]
   generalize kc t (byt t 0 - 240) (4 - 1)=v
   split <;>simp <;>omega
  ·rw[ahb h0 h1 hc (by decide) fun h=>hd (awh.1 h)];simp;omega
 have hc:mr (byt t 0)=(0,0,0):=by unfold mr;rw[if_neg c1,if_neg c2,if_neg c3]
 have hr:rr t=(0,0):=by rw[ajt h0 h1 hc];simp
 rw[hr];simp;omega
theorem bdl(t:ByteArray):(rr t).2<=t.size:=by
 unfold rr
 by_cases h0:t.size=0
 ·rw[if_pos h0];omega
 rw[if_neg h0]
 split
 ·simp;omega
 split
 ·simp
 split
 ·simp
 split
 ·simp
 ·simp;omega
def rrs(s:ByteArray)(i:Nat):Option (List Nat):=
 if h:i < s.size then (if h2:(rr (km s i)).2=0 then none else (rrs s (i+(rr (km s i)).2)).map ((rr (km s i)).1 :: ·)) else some []
termination_by s.size - i
decreasing_by omega
def ctl(c:Nat):Bool:=decide (c < 32) || (decide (127<=c) && decide (c<=159))
theorem bce(s:ByteArray): ∀(m i:Nat),s.size - i<=m->tg s i=match rrs s i with
  | none=>false
  | some l=>l.all fun c=>!ctl c:=by
 intro m
 induction m with
 | zero=>
  intro i hm
  unfold tg rrs
  rw[dif_neg (by omega),dif_neg (by omega)];rfl
 | succ m ih=>
  intro i hm
  unfold tg rrs
  by_cases hi:i < s.size
  ·rw[dif_pos hi,dif_pos hi]
   have ht:0 < (km s i).size:=by rw[afx];omega
   have hd:Utf8.decode s i=adk (rr (km s i)):=by rw[arp,awu _ ht]
   have he:=bio (km s i) ht
   rw[<-bfw] at he
   unfold abl
   have hrest:s.extract i s.size=km s i:=rfl
   rw[hrest,hd]
   by_cases h2:(rr (km s i)).2=0
   ·rw[dif_pos h2]
    have hp:vn (km s i) wv=false:=by
     cases hq:vn (km s i) wv with
     | false=>rfl
     | true=>exact absurd h2 (he.2 hq).1
    simp[adk,h2,hp]
   ·rw[dif_neg h2]
    have hf:adk (rr (km s i))=rr (km s i):=by simp[adk,h2]
    rw[hf,ih (i+(rr (km s i)).2) (by omega)]
    have hb:(decide ((rr (km s i)).1 < 32) || (decide (127<=(rr (km s i)).1) && decide ((rr (km s i)).1<=159) || decide ((rr (km s i)).1=65533) && !vn (km s i) wv))=ctl (rr (km s i)).1:=by
     unfold ctl
     by_cases hc:(rr (km s i)).1=65533
     ·rw[he.1 ⟨h2,hc⟩,hc];decide
     ·simp[hc]
    rw[hb]
    cases rrs s (i+(rr (km s i)).2) with
    | none=>simp
    | some l=>simp
  ·rw[dif_neg hi,dif_neg hi];rfl
def bbi(c:Nat):List Value:=[.int .i32 (c:Nat)]
abbrev OwR(w:World)(base:Nat)(v:Value)(l:List Nat):Prop:=Ow w base T.bi 1 bbi v l
def akf(v:Value):Nat:=match v with
 | .string s=>s.size
 | _=>0
def bmh(w:World)(s:ByteArray):KL:=fun x w1=> ∃(i:Nat)(l:List Nat),x.length=6/\gv x 5= .string (km s i)/\OwR w1 w.heap.size (gv x 4) l/\Fz w w1/\i<=s.size/\l.length<=i/\rrs s 0=(rrs s i).map (l ++ ·)
theorem baz{w:World}{s:ByteArray}(hs:s.size < 100000){K:KV}(h0:rrs s 0=none->∀w',Fz w w'->K (.tuple #[.slice none 0 0,.bool false]) w')
  (h1: ∀l,rrs s 0=some l->l.length<=s.size->∀w' v,OwR w' w.heap.size v l->Fz w w'->K (.tuple #[v,.bool true]) w'):jp P F.eg [.string s] w K:=by
 apply M.au.calls
 unfold M.au
 rw[im]
 refine⟨bmh w s,fun x _=>akf (gv x 5),⟨0,[],rfl,?_,Ow.none,Fr.refl _ _,Nat.zero_le _,Nat.le_refl _,by simp⟩,?_⟩
 ·show Value.string s=_
  unfold km;simp
 rintro x w1 ⟨i,l,hx,e5,o1,f1,hi,hl,hR⟩
 unfold M.au.j1
 simp only[im,e5,bhx]
 have hsz:=afx s i
 by_cases hlt:i < s.size
 ·have hlt':(0:Int) < ((km s i).size:Int):=by omega
  simp only[ve,hlt',decide_true,Eng.cond_true]
  unfold M.au.j2
  rw[e5,M.g.fcall]
  refine bhj _ ?_
  simp only[aam,aae,im,zv]
  rw[show rrs s i=_ from rrs.eq_1 s i,dif_pos hlt] at hR
  by_cases h2:(rr (km s i)).2=0
  ·have h2':(((rr (km s i)).2:Nat):Int)=0:=by omega
   simp only[h2',decide_true,Eng.cond_true]
   rw[dif_pos h2] at hR
   exact h0 hR w1 f1
  ·have h2': ¬(((rr (km s i)).2:Nat):Int)=0:=by omega
   simp only[h2',decide_false,Eng.cond_false]
   rw[dif_neg h2] at hR
   have hwd:=bdl (km s i)
   unfold M.au.j3
   simp[e5]
   have fa:Fz w1 (w1.alloc (.cells #[.int .i32 ((rr (km s i)).1:Nat)] T.bi)):=(Fr.refl _ w1).alloc _
   have hge:=f1.size
   refine zg et.bq (fun _=>rfl) (fun x u hu=>by simp[bbi] at hu;subst hu;rfl) (o1.fr fa fun _ _ h=>h) (Sl.one (x:=(rr (km s i)).1) rfl rfl) (by simp;omega) (by decide) (by simp;omega) _ fun v' w2 o2 f2 g2=>?_
   rw[age (i:=(rr (km s i)).2) alc (.inr ⟨_,rfl⟩) (.inl ⟨rfl,rfl⟩) hwd (Nat.le_refl _)]
   refine⟨⟨i+(rr (km s i)).2,l ++ [(rr (km s i)).1],rfl,?_,o2,?_,by omega,by simp;omega,?_⟩,?_⟩
   ·show Value.string _=_
    rw[<-ayx];rfl
   ·refine f1.jt ((fa.mono fun _ _ h=>h.elim).trans f2) fun b hb he=>?_
    have:=(o1.lt he).1;omega
   ·rw[hR]
    cases rrs s (i+(rr (km s i)).2) <;>simp
   ·show akf (.string ((km s i).extract (rr (km s i)).2 (km s i).size)) < akf (.string (km s i))
    simp only[akf,ByteArray.size_extract]
    omega
 ·have hlt': ¬(0:Int) < ((km s i).size:Int):=by omega
  simp only[ve,hlt',decide_false,Eng.cond_false]
  rw[show rrs s i=_ from rrs.eq_1 s i,dif_neg hlt] at hR
  exact h1 l (by simpa using hR) (by omega) w1 _ o1 f1
def NmI(w:World)(l:List Nat):KL:=fun x w1=> ∃(u:Value)(i:Nat),x=[u,.int .i64 (i:Nat)]/\w1=w/\i<=l.length/\∀j c,l[j]? =some c->j < i->ctl c=false
theorem ajw{w:World}(s:ByteArray){K:KV}(h: ∀w',Fz w w'->K (.int .i64 (qc s)) w'):jp P F.dh [.string s] w K:=by
 apply M.bp.calls
 unfold M.bp
 unfold qc at h
 simp only[im,bhx,oc]
 by_cases h0:s.size=0
 ·have:(s.size:Int) < 1:=by omega
  simp[h0] at h⊢
  exact h w (Fr.refl _ _)
 have h0': ¬(s.size:Int) < 1:=by omega
 by_cases h1:32 < s.size
 ·have h1':(32:Int) < s.size:=by omega
  simp[h0,h0',h1,h1'] at h⊢
  exact h w (Fr.refl _ _)
 have h1': ¬(32:Int) < s.size:=by omega
 simp[h0,h0',h1,h1'] at h⊢
 unfold M.bp.j0
 rw[M.au.fcall]
 rw[bce s _ 0 (Nat.le_refl _)] at h
 refine baz (by omega) (fun hr w1 f1=>?_) fun l hr hll w1 v o1 f1=>?_
 ·rw[hr] at h
  simp only[aam,aae,im]
  refine⟨fun x w2=>gv x 1= .int .i64 0/\w2=w1,fun _ _=>0,⟨rfl,rfl⟩,?_⟩
  rintro x w2 ⟨e1,rfl⟩
  simp[e1]
  have:=h w2 f1
  simpa using this
 ·rw[hr] at h
  simp only[aam,aae,im]
  have hsl:Sl w1 1 bbi v l:=o1.sl fun _=>rfl
  refine⟨NmI w1 l,fun x _=>l.length - ms x 1,⟨_,0,rfl,rfl,Nat.zero_le _,fun j c _ h=>by omega⟩,?_⟩
  rintro x w2 ⟨u,i,rfl,rfl,hi,hall⟩
  have q0: ∀a b:Value,gv [a,b] 0=a:=fun _ _=>rfl
  have q1: ∀a b:Value,gv [a,b] 1=b:=fun _ _=>rfl
  simp only[q0,q1]
  rw[hsl.jr (by simp)]
  by_cases hil:i < l.length
  ·have hil':(i:Int) < l.length:=by omega
   simp only[oc,hil',decide_true,Eng.cond_true]
   unfold M.bp.j3
   obtain⟨b,o,cap,rfl,hb,_,hc⟩:=hsl.at hil
   have c0:=hc 0 _ rfl
   simp only[Nat.mul_one,Nat.add_zero] at c0
   generalize hli:l[i]=c at *
   have hgi:l[i]? =some c:=by rw[List.getElem?_eq_getElem hil,hli]
   have hw:IntKind.i64.wrap ((i:Int)+1)=((i+1:Nat):Int):=by rw[iz];rfl
   have bad:ctl c=true->K (.int .i64 5) w2:=fun hct=>by
    have:(l.all fun c=>!ctl c)=false:=by
     rw[List.all_eq_false]
     exact⟨c,List.mem_of_getElem? hgi,by simp[hct]⟩
    have hh:=h w2 f1
    simpa [this] using hh
   have za:ctl c=false->∀u,NmI w2 l [u,.int .i64 ((i:Int)+1)] w2/\l.length - ms [u,.int .i64 ((i:Int)+1)] 1 < l.length - ms [u,.int .i64 (i:Int)] 1:=fun hct u=>by
    refine⟨⟨u,i+1,rfl,rfl,by omega,fun j c' hj hlt=>?_⟩,by simp[ms,gv];omega⟩
    by_cases hji:j=i
    ·subst hji;rw[hgi] at hj;cases hj;exact hct
    ·exact hall j c' hj (by omega)
   by_cases d1:c < 32
   ·have d1':(c:Int) < 32:=by omega
    simp[q0,q1,hil,c0,d1']
    exact bad (by simp[ctl,d1])
   have d1': ¬(c:Int) < 32:=by omega
   by_cases d2:127<=c
   ·have d2':(127:Int)<=c:=by omega
    by_cases d3:c<=159
    ·have d3':(c:Int)<=159:=by omega
     simp[q0,q1,hil,c0,d1',d2',d3']
     exact bad (by simp[ctl,d2,d3])
    ·have d3': ¬(c:Int)<=159:=by omega
     simp[q0,q1,hil,c0,d1',d2',d3',hw]
     exact za (by simp[ctl,d1,d3]) _
   ·have d2': ¬(127:Int)<=c:=by omega
    simp[q0,q1,hil,c0,d1',d2',hw]
    exact za (by simp[ctl,d1,d2]) _
  ·have hil': ¬(i:Int) < l.length:=by omega
   simp only[oc,hil',decide_false,Eng.cond_false]
   have:(l.all fun c=>!ctl c)=true:=by
    rw[List.all_eq_true]
    intro c hc
    obtain⟨j,hj,rfl⟩:=List.mem_iff_getElem.1 hc
    rw[hall j _ (List.getElem?_eq_getElem hj) (by omega)];rfl
   simp
   have hh:=h w2 f1
   simpa [this] using hh
theorem bmv(a b:Int):orK [a,b]=if a=0 then b else a:=by
 unfold orK
 by_cases ha:a=0 <;>by_cases hb:b=0 <;>simp[List.find?,ha,hb]
theorem aog(s:ByteArray):qc s=0\/qc s=5:=by
 unfold qc
 split
 ·exact .inr rfl
 split
 ·exact .inl rfl
 ·exact .inr rfl
theorem art{w:World}(s:Spn){K:KV}(h: ∀w',Fz w w'->K (.int .i64 (ly s)) w'):jp P F.ec [lx s] w K:=by
 apply M.cp.calls
 unfold M.cp
 rw[alq]
 have hb:=aih w s
 have hf:Fz w (w.alloc (.cells #[.int .u64 s.jh,.int .u64 s.id,.int .u64 s.mm,.int .u64 s.kl,.int .u64 s.len,.string s.jx,.string s.name,.bool s.ny] T.i)):=(Fr.refl _ w).alloc _
 generalize w.alloc (.cells #[.int .u64 s.jh,.int .u64 s.id,.int .u64 s.mm,.int .u64 s.kl,.int .u64 s.len,.string s.jx,.string s.name,.bool s.ny] T.i)=wa at *
 have c0:=qg hb 0 _ rfl
 have c1:=qg hb 1 _ rfl
 have c3:=qg hb 3 _ rfl
 have c4:=qg hb 4 _ rfl
 have c5:=qg hb 5 _ rfl
 unfold ly at h
 simp only[im]
 by_cases h0:s.jh=0
 ·simp[c0,h0] at h⊢
  exact h wa hf
 by_cases h1:s.id=0
 ·simp[c0,c1,h0,h1] at h⊢
  exact h wa hf
 by_cases h2:1099511627776 < s.kl
 ·have h3:1099511627776 < max s.kl s.len:=by omega
  simp[c0,c1,c3,h0,h1,h2,h3] at h⊢
  exact h wa hf
 by_cases h2':1099511627776 < s.len
 ·have h3:1099511627776 < max s.kl s.len:=by omega
  simp[c0,c1,c3,c4,h0,h1,h2,h2',h3] at h⊢
  exact h wa hf
 have h3: ¬1099511627776 < max s.kl s.len:=by omega
 rw[if_neg (by simp[h0,h1,h3]),bmv] at h
 simp[c0,c1,c3,c4,h0,h1,h2,h2']
 unfold M.cp.j0
 simp[c5]
 rw[M.bp.fcall]
 refine ajw _ fun w2 f2=>?_
 have hb2:zn w2 w.heap.size s:=f2.heap hb fun h=>h
 have d6:=qg hb2 6 _ rfl
 by_cases n1:qc s.jx=0
 ·simp[n1,d6] at h⊢
  rw[M.bp.fcall]
  refine ajw _ fun w3 f3=>?_
  have hh:=h w3 ((hf.trans f2).trans f3)
  rcases aog s.name with n2|n2
  ·simp[n2] at hh⊢;exact hh
  ·simp[n2] at hh⊢;exact hh
 ·have n5:qc s.jx=5:=(aog _).resolve_left n1
  have hh:=h w2 (hf.trans f2)
  simp[n5] at hh⊢
  exact hh
def aof(ok:Bool)(jq:Bal)(v:Int):Bool:=(decide (v=0) || (wx v && !(decide (jq=je)))) && (if ok=true then !(decide (v=0)) || decide (jq=je) else decide (v=0) && !(decide (jq=je)))
def vk(p:Pk)(ls:List Spn)(lm:List Mem)(lu:List Int):Bool:=
 if p.jg=1\/p.jg=2 then xd p.tr ls else if p.jg=3 then vp lm else if p.jg=4 then decide (0 < p.b.n) else if p.jg=5 then decide (0 < p.b.n) && aof p.ok p.jq p.v else if p.jg=6 then decide (0 < p.b.n) && wx p.v else if p.jg=7 then decide (0 < p.b.n) && (p.ok == decide (p.jq=je)) else if p.jg=8 then wx p.v else if p.jg=9 then decide (0 < p.b.n) && xd p.tr ls else if p.jg=10 then yv 0 lu && (decide (0 < lu.length) && decide (lu.length<=16)) else false
def atu(p:Pk)(ls:List Spn)(lm:List Mem)(lu:List Int):Bool:=yp p (re p) ls (pz p ls) lm (qd p lm) lu (pu p lu)
def xi(p:Pk)(ls:List Spn)(lm:List Mem)(lu:List Int):Bool:=(atu p ls lm lu && (decide (p.jg=3) || decide (0 < p.tr))) && vk p ls lm lu
def aqb(p:Pk)(ls:List Spn)(lm:List Mem)(lu:List Int):Int:=if xi p ls lm lu=true then 0 else 6
def ql(p:Pk):Pk:=if p.jg=4\/p.jg=6 then ⟨if p.v=0 then 4 else 6,p.tr,p.b,je,p.v,false,ka,ka,ka⟩ else if p.jg=5\/p.jg=7 then ⟨p.jg,p.tr,p.b,p.jq,p.v,p.ok,ka,ka,ka⟩ else re p
theorem bbd{p:Pk}{ls:List Spn}{lm:List Mem}{lu:List Int}(hr:aex p)(hk:1<=p.jg/\p.jg<=10):(sj p ls lm lu && yp p (ql p) ls (pz p ls) lm (qd p lm) lu (pu p lu))=xi p ls lm lu:=by
 have h1:=hr.tr.1
 have h2:=hr.b.1.1
 have core:(sj p ls lm lu && lk p (ql p))=((lk p (re p) && (decide (p.jg=3) || decide (0 < p.tr))) && vk p ls lm lu):=by
  obtain⟨k,tr,b,jq,v,ok,sv,mv,iv⟩:=p
  simp only at hk h1 h2
  have hcase:k=1\/k=2\/k=3\/k=4\/k=5\/k=6\/k=7\/k=8\/k=9\/k=10:=by omega
  rcases hcase with rfl|rfl|rfl|rfl|rfl|rfl|rfl|rfl|rfl|rfl
  ·simp[sj,vk,ql,re,lk,agm]
   cases xd tr ls <;>by_cases ht:0 < tr <;>by_cases hb:b=je <;>by_cases hs:jq=je <;>by_cases hv:v=0 <;>cases ok <;>simp[ht,hb,hs,hv]
  ·simp[sj,vk,ql,re,lk,agm]
   cases xd tr ls <;>by_cases ht:0 < tr <;>by_cases hb:b=je <;>by_cases hs:jq=je <;>by_cases hv:v=0 <;>cases ok <;>simp[ht,hb,hs,hv]
  ·simp[sj,vk,ql,re,lk]
   cases vp lm <;>by_cases ht:tr=0 <;>by_cases hb:b=je <;>by_cases hs:jq=je <;>by_cases hv:v=0 <;>cases ok <;>simp[ht,hb,hs,hv]
  ·simp[sj,vk,ql,re,lk,aox]
   by_cases ht:0 < tr <;>by_cases hb:0 < b.n <;>by_cases hs:jq=je <;>by_cases hv:v=0 <;>cases ok <;>simp[ht,hb,hs,hv]
  ·simp[sj,vk,ql,re,lk,agr,aof]
   by_cases ht:tr=0 <;>by_cases hb:b.n=0 <;>by_cases hs:jq=je <;>by_cases hv:v=0 <;>cases ok <;>cases htl:wx v <;>simp[ht,hb,hs,hv,htl] <;>first|omega| (subst hv;simp[wx] at htl)|skip
  ·simp[sj,vk,ql,re,lk,aox]
   by_cases ht:0 < tr <;>by_cases hb:0 < b.n <;>by_cases hs:jq=je <;>by_cases hv:v=0 <;>cases ok <;>simp[ht,hb,hs,hv] <;>first|rfl| (simp[wx];done)|skip
  ·simp[sj,vk,ql,re,lk,agr]
   by_cases ht:tr=0 <;>by_cases hb:b.n=0 <;>by_cases hs:jq=je <;>by_cases hv:v=0 <;>cases ok <;>simp[ht,hb,hs,hv] <;>first|omega|skip
  ·simp[sj,vk,ql,re,lk,anv]
   by_cases ht:0 < tr <;>by_cases hb:b=je <;>by_cases hs:jq=je <;>cases ok <;>simp[ht,hb,hs]
  ·simp[sj,vk,ql,re,lk,ahh]
   cases xd tr ls <;>by_cases ht:0 < tr <;>by_cases hb:0 < b.n <;>by_cases hs:jq=je <;>by_cases hv:v=0 <;>cases ok <;>simp[ht,hb,hs,hv]
  ·simp[sj,vk,ql,re,lk,ajq]
   cases yv 0 lu <;>by_cases ht:0 < tr <;>by_cases hb:b=je <;>by_cases hs:jq=je <;>by_cases hv:v=0 <;>cases ok <;>simp[ht,hb,hs,hv]
 unfold xi atu yp
 generalize decide (lm=qd p lm)=A
 generalize decide (lu=pu p lu)=B
 generalize vu ls (pz p ls)=C
 cases A <;>cases B <;>cases C <;>simp <;>simpa using core
theorem vx{p q q':Pk}(h1:q.jg=q'.jg)(h2:q.tr=q'.tr)(h3:q.b=q'.b)(h4:q.jq=q'.jq)(h5:q.v=q'.v)(h6:q.ok=q'.ok):lk p q=lk p q':=by
 unfold lk;rw[h1,h2,h3,h4,h5,h6]
theorem bam{w:World}{p:Pk}{ls:List Spn}{lm:List Mem}{lu:List Int}{t:Value}(ht:ThR w p ls lm lu t)(hk:1<=p.jg/\p.jg<=10)(l1:ls.length<=1000000)(l2:lm.length<=1000000)(l3:lu.length<=1000000){K:KV}
  (h: ∀w' q,zo w' q (pz p ls) (qd p lm) (pu p lu)->(∀x,lk x q=lk x (ql p))->Fz w w'->K (pkA q) w'):ig P F.bf [t] w K:=by
 have e0:([]:List Spn).length<=1000000:=by simp
 have e1:([]:List Mem).length<=1000000:=by simp
 have e2:([]:List Int).length<=1000000:=by simp
 cases ht with
 | ki v q hs=>
  have hS:pz p ls=ls:=by unfold pz;rw[if_pos (by omega)]
  have hM:qd p lm=[]:=by unfold qd;rw[if_neg (by omega)]
  have hU:pu p lu=[]:=by unfold pu;rw[if_neg (by omega)]
  rw[hS,hM,hU] at h
  refine aln hs l1 fun w' v' s f=>h w' _ ⟨s,Sl.nil,Sl.nil,l1,e1,e2⟩ (fun x=>vx ?_ ?_ ?_ ?_ ?_ ?_) f
  all_goals rcases q with q|q <;>simp[ql,re,q]
 | ait v q hs=>
  have hS:pz p ls=[]:=by unfold pz;rw[if_neg (by omega)]
  have hM:qd p lm=lm:=by unfold qd;rw[if_pos (by omega)]
  have hU:pu p lu=[]:=by unfold pu;rw[if_neg (by omega)]
  rw[hS,hM,hU] at h
  refine aki hs l2 fun w' v' s f=>h w' ⟨3,0,je,je,0,false,ka,v',ka⟩ ⟨Sl.nil,s,Sl.nil,e0,l2,e2⟩ (fun x=>vx ?_ ?_ ?_ ?_ ?_ ?_) f
  all_goals simp[ql,re,q]
 | ask q=>
  have hS:pz p ls=[]:=by unfold pz;rw[if_neg (by omega)]
  have hM:qd p lm=[]:=by unfold qd;rw[if_neg (by omega)]
  have hU:pu p lu=[]:=by unfold pu;rw[if_neg (by omega)]
  rw[hS,hM,hU] at h
  refine aoi fun w' f=>h w' _ ⟨Sl.nil,Sl.nil,Sl.nil,e0,e1,e2⟩ (fun x=>vx ?_ ?_ ?_ ?_ ?_ ?_) f
  all_goals rcases q with q|q <;>simp[ql,bcm,q]
 | zz q=>
  have hS:pz p ls=[]:=by unfold pz;rw[if_neg (by omega)]
  have hM:qd p lm=[]:=by unfold qd;rw[if_neg (by omega)]
  have hU:pu p lu=[]:=by unfold pu;rw[if_neg (by omega)]
  rw[hS,hM,hU] at h
  refine alx fun w' f=>h w' _ ⟨Sl.nil,Sl.nil,Sl.nil,e0,e1,e2⟩ (fun x=>vx ?_ ?_ ?_ ?_ ?_ ?_) f
  all_goals rcases q with q|q <;>simp[ql,q]
 | wj q=>
  have hS:pz p ls=[]:=by unfold pz;rw[if_neg (by omega)]
  have hM:qd p lm=[]:=by unfold qd;rw[if_neg (by omega)]
  have hU:pu p lu=[]:=by unfold pu;rw[if_neg (by omega)]
  rw[hS,hM,hU] at h
  refine ant fun w' f=>h w' _ ⟨Sl.nil,Sl.nil,Sl.nil,e0,e1,e2⟩ (fun x=>vx ?_ ?_ ?_ ?_ ?_ ?_) f
  all_goals simp[ql,re,q]
 | xe v q hs=>
  have hS:pz p ls=ls:=by unfold pz;rw[if_pos (by omega)]
  have hM:qd p lm=[]:=by unfold qd;rw[if_neg (by omega)]
  have hU:pu p lu=[]:=by unfold pu;rw[if_neg (by omega)]
  rw[hS,hM,hU] at h
  refine aju hs l1 fun w' v' s f=>h w' _ ⟨s,Sl.nil,Sl.nil,l1,e1,e2⟩ (fun x=>vx ?_ ?_ ?_ ?_ ?_ ?_) f
  all_goals simp[ql,re,q]
 | zx v q hs=>
  have hS:pz p ls=[]:=by unfold pz;rw[if_neg (by omega)]
  have hM:qd p lm=[]:=by unfold qd;rw[if_neg (by omega)]
  have hU:pu p lu=lu:=by unfold pu;rw[if_pos (by omega)]
  rw[hS,hM,hU] at h
  refine ali hs l3 fun w' v' s f=>h w' _ ⟨Sl.nil,Sl.nil,s,e0,e1,l3⟩ (fun x=>vx ?_ ?_ ?_ ?_ ?_ ?_) f
  all_goals simp[ql,re,q]
 | none q=>exact absurd hk q
theorem ayp{p:Pk}{ls:List Spn}{lm:List Mem}{lu:List Int}(h: ¬(1<=p.jg/\p.jg<=10)):xi p ls lm lu=false:=by
 unfold xi vk
 rw[if_neg (by omega),if_neg (by omega),if_neg (by omega),if_neg (by omega),if_neg (by omega),if_neg (by omega),if_neg (by omega),if_neg (by omega),if_neg (by omega),Bool.and_false]
theorem aor{w:World}{p:Pk}{ls:List Spn}{lm:List Mem}{lu:List Int}(hp:zo w p ls lm lu)(hr:aex p){K:KV}(h: ∀w',Fz w w'->K (.int .i64 (aqb p ls lm lu)) w'):ig P F.dn [pkA p] w K:=by
 rw[M.dq.fcall]
 apply M.dq.calls
 unfold M.dq
 refine St.qt (St.kl w) fun pb w1 S1=>?_
 have S1':St w w1 (ja pb (pkC p).toArray T.c :: []):=S1
 have pl:=fun K=>ud S1' K
 simp[pl]
 refine amc (hp.fr S1.fr) fun w2 t ht _ f2=>?_
 have S2:=S1'.jv f2
 have S3:=S2.jv ((Fr.refl _ w2).dr 1)
 unfold aqb at h
 by_cases hk:1<=p.jg/\p.jg<=10
 case neg=>
  rw[ht.blh hk]
  rw[ayp hk] at h
  simp[bgo]
  exact h _ S3.fr
 rw[<-bbd hr hk] at h
 simp[ht.eqn hk]
 have ht3:=ht.fr ((Fr.refl _ w2).dr 1)
 refine bhb ht3 hk hp.ls hp.lm hp.lu fun w4 f4=>?_
 have S4:=S3.jv f4
 have pl4:=fun K=>ud S4 K
 cases hb:sj p ls lm lu with
 | false=>
  rw[hb] at h
  simp
  exact h _ S4.fr
 | true=>
 rw[hb,Bool.true_and] at h
 simp[pl4]
 refine bam (ht3.fr f4) hk hp.ls hp.lm hp.lu fun w5 q hq hf f5=>?_
 have S5:=S4.jv f5
 have pl5:=fun K=>ud S5 K
 simp[pl5]
 refine bbh (hp.fr S5.fr) hq fun w6 f6=>?_
 have S6:=S5.jv f6
 have fin:=h w6 S6.fr
 have e:yp p q ls (pz p ls) lm (qd p lm) lu (pu p lu)=yp p (ql p) ls (pz p ls) lm (qd p lm) lu (pu p lu):=by unfold yp;rw[hf p]
 rw[e]
 generalize yp p (ql p) ls (pz p ls) lm (qd p lm) lu (pu p lu)=bb at *
 cases bb with
 | true=>simp at fin⊢;exact fin
 | false=>simp at fin⊢;exact fin
theorem aon{w:World}{p:Pk}{ls:List Spn}{lm:List Mem}{lu:List Int}(hp:zo w p ls lm lu)(hr:aex p){K:KV}(h1:xi p ls lm lu=true->∀w' t,ThR w' p ls lm lu t->aiu w t->Fz w w'->K (.tuple #[t,.int .i64 0]) w')(h0:xi p ls lm lu=false->∀w',Fz w w'->K (.tuple #[.nilIface,.int .i64 6]) w'):ig P F.ga [pkA p] w K:=by
 rw[M.fo.fcall]
 apply M.fo.calls
 unfold M.fo
 refine St.qt (St.kl w) fun pb w1 S1=>?_
 have S1':St w w1 (ja pb (pkC p).toArray T.c :: []):=S1
 have pl:=fun K=>ud S1' K
 simp[pl]
 refine aor (hp.fr S1.fr) hr fun w2 f2=>?_
 have S2:=S1'.jv f2
 unfold aqb
 cases he:xi p ls lm lu with
 | false=>
  simp
  exact h0 he w2 S2.fr
 | true=>
  simp
  have pl2:=fun K=>ud S2 K
  simp[pl2]
  refine amc (hp.fr S2.fr) fun w3 t ht ho f3=>?_
  exact h1 he w3 t ht (ho.mono S2.fr.size) (S2.jv f3).fr
structure bki(ls:List Spn)(lm:List Mem)(lu:List Int):Prop where
 s:ls.length<=40
 m:lm.length<=100
 u:lu.length<=100
 nm: ∀x∈ls,x.name.size<=200/\x.jx.size<=200
def LiI(W:World)(pb:Nat)(p:Pk)(ls:List Spn):KL:=fun x w1=> ∃(u:Value)(i:Nat),x=[u,.int .i64 (i:Nat)]/\i<=ls.length/\(∀j (h:j < ls.length),j < i->ls[j].name.size<=200/\ls[j].jx.size<=200)/\St W w1 (ja pb (pkC p).toArray T.c :: [])
theorem axf{w:World}{p:Pk}{ls:List Spn}{lm:List Mem}{lu:List Int}(hp:ala w p ls lm lu){K:KV}(h: ∀bb w',(bb=true->bki ls lm lu)->Fz w w'->K (.bool bb) w'):ig P F.ea [pkA p] w K:=by
 rw[M.br.fcall]
 apply M.br.calls
 unfold M.br
 refine St.qt (St.kl w) fun pb w1 S1=>?_
 have S1':St w w1 (ja pb (pkC p).toArray T.c :: []):=S1
 obtain⟨_,_,_,_,_,_,c8,c9,c10,_⟩:=pd S1'
 have l1: ∀w' K,biT P .len #[T.g] T.d [false] [p.sv] w' K=K (.int .i64 ls.length) w':=fun w' K=>hp.s.jr (by kernel_rfl) [false]
 have l2: ∀w' K,biT P .len #[T.o] T.d [false] [p.mv] w' K=K (.int .i64 lm.length) w':=fun w' K=>hp.m.jr (by kernel_rfl) [false]
 have l3: ∀w' K,biT P .len #[T.h] T.d [false] [p.iv] w' K=K (.int .i64 lu.length) w':=fun w' K=>hp.u.jr (by kernel_rfl) [false]
 have no: ∀w',Fz w w'->K (.bool false) w':=fun w' f=>h false w' (fun h=>by cases h) f
 by_cases h1:40 < ls.length
 ·have h1':(40:Int) < ls.length:=by omega
  simp[c8,l1,h1']
  exact no _ S1.fr
 have h1': ¬(40:Int) < ls.length:=by omega
 by_cases h2:100 < lm.length
 ·have h2':(100:Int) < lm.length:=by omega
  simp[c8,l1,h1',c9,l2,h2']
  exact no _ S1.fr
 have h2': ¬(100:Int) < lm.length:=by omega
 by_cases h3:100 < lu.length
 ·have h3':(100:Int) < lu.length:=by omega
  simp[c8,l1,h1',c9,l2,h2',c10,l3,h3']
  exact no _ S1.fr
 have h3': ¬(100:Int) < lu.length:=by omega
 simp[c8,l1,h1',c9,l2,h2',c10,l3,h3']
 refine⟨LiI w pb p ls,fun x _=>ls.length - ms x 1,⟨_,0,rfl,Nat.zero_le _,fun j _ h=>by omega,S1'⟩,?_⟩
 rintro x w2 ⟨u,i,rfl,hi,hpre,S2⟩
 unfold M.br.j2
 obtain⟨_,_,_,_,_,_,c8,_⟩:=pd S2
 by_cases hil:i < ls.length
 ·have hili:(i:Int) < (ls.length:Int):=by omega
  have hwi:IntKind.i64.wrap ((i:Int)+1)=((i+1:Nat):Int):=by rw[iz];rfl
  obtain⟨b,o,cap,hv,_,_,k1⟩:=(hp.fr S2.fr).s.at hil
  have hia: ∀w' K,iaT P T.g p.sv (.int .i64 (i:Nat)) w' K=K (.pointer (some ⟨b,o+i * 8,none⟩)) w':=fun w' K=>by rw[hv];simp[hil]
  have n6:=k1 6 _ rfl
  have n5:=k1 5 _ rfl
  have lstr: ∀(s:ByteArray) w' K,biT P .len #[T.l] T.d [false] [.string s] w' K=K (.int .i64 s.size) w':=fun s w' K=>asd (by kernel_rfl) [false] s w' K
  simp[c8,l1,hil]
  unfold M.br.j3
  by_cases q1:200 < ls[i].name.size
  ·have q1':(200:Int) < (ls[i].name.size:Int):=by omega
   simp[c8,hia,n6,lstr,q1']
   exact no _ S2.fr
  have q1': ¬(200:Int) < (ls[i].name.size:Int):=by omega
  by_cases q2:200 < ls[i].jx.size
  ·have q2':(200:Int) < (ls[i].jx.size:Int):=by omega
   simp[c8,hia,n6,n5,lstr,q1',q2']
   exact no _ S2.fr
  have q2': ¬(200:Int) < (ls[i].jx.size:Int):=by omega
  simp[c8,hia,n6,n5,lstr,q1',q2',hwi]
  refine⟨⟨_,i+1,rfl,by omega,fun j hj hlt=>?_,S2⟩,by simp[ms,gv];omega⟩
  by_cases hji:j=i
  ·subst hji;omega
  ·exact hpre j hj (by omega)
 ·have hili: ¬(i:Int) < (ls.length:Int):=by omega
  simp[c8,l1,hil]
  refine h true _ (fun _=>⟨by omega,by omega,by omega,fun x hx=>?_⟩) S2.fr
  obtain⟨j,hj,rfl⟩:=List.getElem_of_mem hx
  exact hpre j hj (by omega)
structure Evn where
 jg:Int
 at':Int
 ji:Int
 tr:Int
 b:Bal
 v:Int
 s:Spn
 k:Int
def evC(e:Evn):List Value:=[.int .i64 e.jg,.int .u64 e.at',.int .u64 e.ji,.int .u64 e.tr,.int .u64 e.b.n,.int .u64 e.b.ji,.int .i64 e.v,.int .u64 e.s.jh,.int .u64 e.s.id,.int .u64 e.s.mm,.int .u64 e.s.kl,.int .u64 e.s.len,.string e.s.jx,.string e.s.name,.bool e.s.ny,.int .i64 e.k]
theorem ahe(e:Evn):(evC e).length=16:=rfl
theorem asu(e:Evn): ∀u∈evC e,kq u=true:=fun u hu=>by
 simp only[evC,List.mem_cons,List.not_mem_nil,or_false] at hu
 rcases hu with rfl|rfl|rfl|rfl|rfl|rfl|rfl|rfl|rfl|rfl|rfl|rfl|rfl|rfl|rfl|rfl <;>rfl
abbrev pg(v:Value)(l:List Evn):Asn:=ot T.av 16 evC v l
structure Ltr where
 frm:Int
 to:Int
 p:Pk
 ok: ∀u∈pkC p,kq u=true
def ltC(l:Ltr):List Value:=[.int .u64 l.frm,.int .u64 l.to] ++ pkC l.p
theorem abm(l:Ltr):(ltC l).length=13:=rfl
theorem bgm(l:Ltr): ∀u∈ltC l,kq u=true:=fun u hu=>by
 unfold ltC at hu
 rcases List.mem_append.1 hu with hu|hu
 ·simp only[List.mem_cons,List.not_mem_nil,or_false] at hu
  rcases hu with rfl|rfl <;>rfl
 ·exact l.ok u hu
abbrev mu(v:Value)(l:List Ltr):Asn:=ot T.bm 13 ltC v l
structure Cl where
 inc:Int
 tr:Int
 sp:Int
 pol:ByteArray
 rep:Value
 rul:Value
 tb:Nat
 hb:Nat
 kb:Nat
 ru:Nat
 se:Nat
 un:Nat
 ke:Bal
 sr:Int
 now:Int
 out:Value
 ev:Value
 bad:Int
 bkb:Int
def clC(q:Cl):Array Value:= #[.int .u64 1,.int .u64 q.inc,q.rep,.int .u64 200,.int .i64 3,.int .u64 5,.int .u64 20,.int .u64 10,.int .u64 4,.int .i64 q.tr,.int .i64 q.sp,.int .i64 4,.string q.pol,q.rul,.pointer (some ⟨q.tb,0,none⟩),.pointer (some ⟨q.hb,0,none⟩),.pointer (some ⟨q.kb,0,none⟩),.map (some q.ru),.map (some q.se),.map (some q.un),.int .u64 q.ke.n,.int .u64 q.ke.ji,.int .u64 q.sr,.int .u64 q.now,q.out,q.ev,.int .u64 q.bad,.int .u64 q.bkb]
abbrev clA(p:Nat)(q:Cl):Asn:=ja p (clC q) T.b
abbrev lf(p:Nat):Value:= .pointer (some ⟨p,0,none⟩)
def afq(a0:Int)(r:Nat):Array Value:= #[.int .u64 a0,.int .u64 0,.int .u64 0,.int .u64 0,.int .u64 0,.int .u64 0,.int .u64 0,.int .u64 0,.int .u64 0,.int .u64 0,.int .u64 0,.int .u64 0,.int .u64 0,.int .u64 0,.int .u64 0,.int .u64 0,.int .u64 0,.int .u64 0,.int .u64 0,.int .u64 0,.int .u64 0,.int .u64 0,.int .u64 0,.int .u64 0,.int .u64 0,.int .u64 0,.int .u64 0,.int .u64 0,.int .u64 0,.int .u64 0,.int .u64 0,.int .u64 0,.int .u64 0,.int .u64 0,.int .u64 0,.int .u64 0,.int .u64 0,.int .u64 0,.int .u64 0,.int .u64 0,.int .u64 0,.int .u64 0,.int .u64 0,.int .u64 0,.int .u64 0,.int .u64 0,.int .u64 0,.int .u64 0,.int .u64 0,.int .u64 0,.int .u64 0,.int .u64 0,.int .u64 0,.int .u64 0,.int .u64 0,.int .u64 0,.int .u64 0,.int .u64 0,.int .u64 0,.int .u64 0,.int .u64 0,.int .u64 0,.int .u64 0,.int .u64 0,.int .i64 0,.int .i64 4,.map (some r)]
def qp(kb:Nat)(a0:Int)(m:MP):Asn where
 ok w B:= ∃r,Rs [ja kb (afq a0 r) T.au,jk r .u64 m] w B
 jf:=by
  rintro w w' B S ⟨r,h⟩ hf hn
  exact⟨r,h.jf hf hn⟩
section
variable {w0 w : World} {R : List Asn} {kb : Nat} {a0 : Int} {m : MP}
theorem beh(S:St w0 w (qp kb a0 m :: R)): ∃r,St w0 w (ja kb (afq a0 r) T.au :: jk r .u64 m :: R):=by
 obtain⟨B,⟨r,h⟩,_,cl⟩:=S.open
 exact⟨r,cl w [ja kb (afq a0 r) T.au,jk r .u64 m] (Fr.refl _ _) (h.mono fun b hb=> .inl hb)⟩
theorem bej{r:Nat}(S:St w0 w (ja kb (afq a0 r) T.au :: jk r .u64 m :: R)):St w0 w (qp kb a0 m :: R):=by
 obtain⟨U,h1,_,g⟩:=St.aje (L:=[ja kb (afq a0 r) T.au,jk r .u64 m]) (R:=R) S
 exact g w [qp kb a0 m] (Fr.refl _ _) ⟨U,⟨r,h1⟩,fun b hb=> .inl hb,trivial⟩
theorem atf(S:St w0 w R){K:KV}(h: ∀w' kb,St w0 w' (qp kb 0 [] :: R)->K (.tuple #[.pointer (some ⟨kb,0,none⟩),.int .i64 0]) w'):ig P F.gk [.int .i64 4] w K:=by
 rw[M.fy.fcall]
 apply M.fy.calls
 unfold M.fy
 have S1:=S.ahr .u64
 have S2:=S1.mkB (afq 0 w.heap.size) T.au
 simp only[jc] at S2
 simp[yt]
 exact h _ _ (bej S2)
theorem ata(S:St w0 w (qp kb a0 m :: R))(t:Int){K:KV}(h:K ((kg m t).getD (.int .i64 0)) w):ig P F.cq [.pointer (some ⟨kb,0,none⟩),.int .u64 t] w K:=by
 obtain⟨r,S1⟩:=beh S
 rw[M.eg.fcall]
 apply M.eg.calls
 unfold M.eg
 have c:il w kb 66=some (.map (some r)):=by rw[S1.cell];rfl
 simp[c]
 rw[ss mt.ak S1.swap.mp]
 exact h
theorem bgj(S:St w0 w (qp kb 0 [] :: R)){t v:Int}(ht:t≠0)(hv:1<=v/\v<=3){K:KV}(h: ∀w',St w0 w' (qp kb t [(t,.int .i64 v)] :: R)->K (.bool true) w'):ig P F.eo [.pointer (some ⟨kb,0,none⟩),.int .u64 t,.int .i64 v] w K:=by
 obtain⟨r,S1⟩:=beh S
 rw[M.bw.fcall]
 apply M.bw.calls
 unfold M.bw
 have c:il w kb 66=some (.map (some r)):=by rw[S1.cell];rfl
 have c65:il w kb 65=some (.int .i64 4):=by rw[S1.cell];rfl
 have v1: ¬v < 1:=by omega
 have v2: ¬3 < v:=by omega
 simp[ht,v1,v2]
 unfold M.bw.j0
 simp[c]
 rw[asm mt.ak S1.swap.mp]
 simp[kg]
 unfold M.bw.j1
 have ia: ∀w' K,iaT P T.bv (.pointer (some ⟨kb,0,none⟩)) (.int .i64 0) w' K=K (.pointer (some ⟨kb,0,none⟩)) w':=fun w' K=>kr
 have hl:=fun cs K=>acj (ty:=T.d) mt.ak S1.swap.mp cs K
 simp[c,hl,c65,ia]
 refine St.qk S1 rfl (by simp[afq]) fun w2 S2=>?_
 have S3:St w0 w2 (ja kb (afq t r) T.au :: jk r .u64 [] :: R):=S2
 have d:il w2 kb 66=some (.map (some r)):=by rw[S3.cell];rfl
 simp[d]
 exact St.awe mt.ak S3.swap t _ fun w4 S4=>h w4 (bej S4.swap)
end
open Go.Eng Go.Proofs.YtgepcfcicngceaaGreatDoor.Sint
theorem akc: ∀l:List Int,(l.flatMap mo).length=l.length * 8
 | []=>rfl
 | x :: l=>by rw[List.flatMap_cons,List.length_append,rt,akc l,List.length_cons];omega
section
variable {w0 w : World} {R : List Asn}
end
def acu(b:Bool):Int:=if b=true then 1 else 0
def acd(s:ByteArray):List Int:=(s.size:Int) :: yc s
def rg(s:Spn):List Int:=[s.jh,s.id,s.mm,s.kl,s.len]
def aer(s:Spn):List Int:=(rg s).flatMap mo ++ [acu s.ny] ++ acd s.jx ++ acd s.name
theorem ank{s:Spn}(h:ly s=0):s.jx.size<=32/\s.name.size<=32:=by
 unfold ly at h
 split at h
 ·cases h
 ·unfold orK at h
  have hn: ∀b:ByteArray,qc b=0->b.size<=32:=fun b hb=>by
   unfold qc at hb
   split at hb
   ·cases hb
   ·rename_i hh
    have:=not_or.1 hh
    omega
  by_cases ha:qc s.jx=0
  ·by_cases hb:qc s.name=0
   ·exact⟨hn _ ha,hn _ hb⟩
   ·simp[ha,hb] at h
  ·simp[ha] at h
section
variable {w0 w : World} {R : List Asn}
end
theorem bag(l:List UInt8)(a:ByteArray):((l.map fun b=>(b.toNat:Int)).foldl (fun r n=>r.push (UInt8.ofNat n.toNat)) a).data.toList=a.data.toList ++ l:=by
 induction l generalizing a with
 | nil=>simp
 | cons x t ih=>
  rw[List.map_cons,List.foldl_cons,ih]
  simp[ByteArray.push]
theorem azt(s:ByteArray):ail (yc s)=s:=by
 have h:=bag s.data.toList ByteArray.empty
 have h2:(ail (yc s)).data.toList=s.data.toList:=by
  unfold ail yc
  rw[h]
  rfl
 cases s with
 | mk d=>
  have h3:(ail (yc ⟨d⟩)).data=d:=Array.toList_inj.1 h2
  generalize ail (yc ⟨d⟩)=z at *
  cases z with
  | mk e=>simp only at h3;rw[h3]
section
variable {w0 w : World} {R X : List Asn}
def Rdv(w0:World)(R:List Asn)(v:Value)(l:List Int):Prop:= ∀w' L,St w0 w' (L ++ R)->SlB w' v l
theorem asr{v:Value}{l:List Int}{L0:List Asn}(S:St w0 w (L0 ++ R))(hs:Rdv w0 R v l){lo hi:Option Value}{i j:Nat}(hlo:lo=none/\i=0\/∃k,lo=some (.int k (i:Int)))(hhi:hi=none/\j=l.length\/∃k,hi=some (.int k (j:Int)))(h0:i<=j)(h1:j<=l.length):
  ∃v',(∀w1 K,slT P T.y v lo hi none w1 K=K v' w1)/\Rdv w0 R v' ((l.drop i).take (j - i)):=by
 obtain⟨v',_,_,e1⟩:=(hs w L0 S).sub (P:=P) (t:=T.y) (by kernel_rfl) (by kernel_rfl) hlo hhi h0 h1
 refine⟨v',e1,fun w' L S'=>?_⟩
 obtain⟨v2,s2,_,e2⟩:=(hs w' L S').sub (P:=P) (t:=T.y) (by kernel_rfl) (by kernel_rfl) hlo hhi h0 h1
 have h3:=e1 w' fun v _=>v=v2
 rw[e2 w'] at h3
 have h4:v'=v2:=by
  have:(v2=v2)=(v'=v2):=h3
  rw[<-this]
 rw[h4]
 exact s2
abbrev rdr(b:Nat)(v:Value):Asn:=ja b #[v,.int .i64 0] T.aw
theorem aiq{b n:Nat}{v:Value}{l:List Int}(S:St w0 w (rdr b v :: (X ++ R)))(hs:Rdv w0 R v l)(hn:n<=l.length){K:KV}
  (h: ∀w' v1 v2,Rdv w0 R v1 (l.take n)->Rdv w0 R v2 (l.drop n)->St w0 w' (rdr b v2 :: (X ++ R))->K v1 w'):ig P F.cn [.pointer (some ⟨b,0,none⟩),.int .i64 (n:Nat)] w K:=by
 rw[M.bs.fcall]
 apply M.bs.calls
 unfold M.bs
 have c0:il w b 0=some v:=by rw[S.cell];rfl
 have c1:il w b 1=some (.int .i64 0):=by rw[S.cell];rfl
 have hlen: ∀w' K,biT P .len #[T.y] T.d [false] [v] w' K=K (.int .i64 l.length) w':=fun w' K=>(hs w (_ :: X) S).jr (by kernel_rfl) [false]
 have hlt: ¬(l.length:Int) < (n:Int):=by omega
 simp[c0,c1,hlen,hlt]
 unfold M.bs.j0
 simp[c1]
 unfold M.bs.j1
 obtain⟨v1,e1,r1⟩:=asr (L0:=rdr b v :: X) S hs (lo:=none) (hi:=some (.int .i64 (n:Nat))) (i:=0) (j:=n) (.inl ⟨rfl,rfl⟩) (.inr ⟨_,rfl⟩) (Nat.zero_le _) hn
 obtain⟨v2,e2,r2⟩:=asr (L0:=rdr b v :: X) S hs (lo:=some (.int .i64 (n:Nat))) (hi:=none) (i:=n) (j:=l.length) (.inr ⟨_,rfl⟩) (.inl ⟨rfl,rfl⟩) hn (Nat.le_refl _)
 rw[List.drop_zero,Nat.sub_zero] at r1
 rw[List.take_of_length_le (by simp)] at r2
 have hv2:kq v2=true:=by
  obtain⟨_,_,e,_⟩:=r2 w (_ :: X) S
  rw[e];rfl
 have hst: ∀w' K,stT P T.y (.pointer (some ⟨b,0,none⟩)) v2 w' K=st1 P b 0 v2 w' K:=fun w' K=>by
  obtain⟨a,c,e,_⟩:=r2 w (_ :: X) S
  rw[e]
  simp
 simp[c0,e1,e2,hst]
 exact St.qk S hv2 (by simp) fun w3 S3=>h w3 v1 v2 r1 r2 S3
theorem aai{b:Nat}{v:Value}{x:Int}{r:List Int}(S:St w0 w (rdr b v :: (X ++ R)))(hx:wg x)(hs:Rdv w0 R v (mo x ++ r)){K:KV}
  (h: ∀w' v2,Rdv w0 R v2 r->St w0 w' (rdr b v2 :: (X ++ R))->K (.int .u64 x) w'):ig P F.bb [.pointer (some ⟨b,0,none⟩)] w K:=by
 rw[M.dn.fcall]
 apply M.dn.calls
 unfold M.dn
 refine aiq (n:=8) S hs (by rw[List.length_append,rt];omega) fun w1 v1 v2 r1 r2 S1=>?_
 rw[List.take_left' (rt x)] at r1
 rw[List.drop_left' (rt x)] at r2
 refine biu (r1 w1 (_ :: X) S1) (by rw[rt];omega) ?_
 have:=bbm hx []
 rw[List.append_nil] at this
 rw[this]
 exact h w1 v2 r2 S1
theorem aqn{b:Nat}{v:Value}{x lo hi:Int}{r:List Int}(S:St w0 w (rdr b v :: (X ++ R)))(h0:lo<=x)(h1:x<=hi)(hs:Rdv w0 R v (x :: r)){K:KV}
  (h: ∀w' v2,Rdv w0 R v2 r->St w0 w' (rdr b v2 :: (X ++ R))->K (.int .u8 x) w'):ig P F.cu [.pointer (some ⟨b,0,none⟩),.int .u8 lo,.int .u8 hi] w K:=by
 rw[M.dt.fcall]
 apply M.dt.calls
 unfold M.dt
 refine aiq (n:=1) S hs (by simp) fun w1 v1 v2 r1 r2 S1=>?_
 have c1:il w1 b 1=some (.int .i64 0):=by rw[S1.cell];rfl
 obtain⟨ab,ao,ac,e1,_,_,hc⟩:=(r1 w1 (_ :: X) S1).at (i:=0) (by simp)
 have hcell:il w1 ab ao=some (.int .u8 x):=by simpa using hc 0 _ rfl
 have hia: ∀w' K,iaT P T.y v1 (.int .i64 0) w' K=K (.pointer (some ⟨ab,ao,none⟩)) w':=fun w' K=>by rw[e1];simp
 have n0: ¬x < lo:=by omega
 have n1: ¬hi < x:=by omega
 simp[hia,hcell,c1,n0,n1]
 exact h w1 v2 (by simpa using r2) S1
theorem asf{b:Nat}{v:Value}{s:ByteArray}{r:List Int}(S:St w0 w (rdr b v :: (X ++ R)))(h0:1<=s.size)(h1:s.size<=32)(hs:Rdv w0 R v (acd s ++ r)){K:KV}
  (h: ∀w' v2,Rdv w0 R v2 r->St w0 w' (rdr b v2 :: (X ++ R))->K (.string s) w'):ig P F.dd [.pointer (some ⟨b,0,none⟩)] w K:=by
 rw[M.ea.fcall]
 apply M.ea.calls
 unfold M.ea
 refine aqn (lo:=1) (hi:=32) (x:=(s.size:Int)) (r:=yc s ++ r) S (by omega) (by omega) hs fun w1 v1 r1 S1=>?_
 have c1:il w1 b 1=some (.int .i64 0):=by rw[S1.cell];rfl
 simp[c1]
 have hcv: ∀w' K',cvT P T.bc T.d (.int .u8 (s.size:Int)) w' K'=K' (.int .i64 (s.size:Int)) w':=fun w' K'=>by
  rw[oh (ks:= .u8) (kd:= .i64) (by kernel_rfl) (by kernel_rfl),iz]
 simp[hcv]
 refine aiq (n:=s.size) S1 r1 (by rw[List.length_append,abp];omega) fun w2 v2 v3 r2 r3 S2=>?_
 rw[List.take_left' (abp s)] at r2
 rw[List.drop_left' (abp s)] at r3
 rw[bkx (by kernel_rfl) (by kernel_rfl) (r2 w2 (_ :: X) S2),azt]
 exact h w2 v3 r3 S2
end
theorem aya{s:Spn}(h:ly s=0):1<=s.jx.size/\1<=s.name.size:=by
 unfold ly at h
 split at h
 ·cases h
 ·unfold orK at h
  have hn: ∀b:ByteArray,qc b=0->1<=b.size:=fun b hb=>by
   unfold qc at hb
   split at hb
   ·cases hb
   ·rename_i hh
    have:=not_or.1 hh
    omega
  by_cases ha:qc s.jx=0
  ·by_cases hb:qc s.name=0
   ·exact⟨hn _ ha,hn _ hb⟩
   ·simp[ha,hb] at h
  ·simp[ha] at h
section
variable {w0 w : World} {R : List Asn}
abbrev spB(b:Nat)(s:Spn):Asn:=ja b (kp s).toArray T.i
theorem aub{v:Value}{s:Spn}{r:List Int}(S:St w0 w R)(hs:Rdv w0 R v (aer s ++ r))(hr:ly s=0)(hR:aha s)(hl:r.length<=10000000){K:KV}
  (h: ∀w' v',St w0 w' (aax v' r :: R)->K (.tuple #[lx s,v',.int .i64 0]) w'):ig P F.gu [v] w K:=by
 obtain⟨n1,n2⟩:=ank hr
 obtain⟨m1,m2⟩:=aya hr
 obtain⟨s0,s1,s2,s3,s4,sv,nm,fl⟩:=s
 simp only at n1 n2 m1 m2
 rw[M.ey.fcall]
 apply M.ey.calls
 unfold M.ey
 have hb: ∀w' K,jj P T.aw #[(0,v)] w' K=K (.agg #[v,.int .i64 0]) w':=fun w' K=>by
  obtain⟨_,_,e,_⟩:=hs w [] S
  rw[e]
  simp
 simp[hb]
 have S1:St w0 (w.alloc (.cells #[.int .u64 0,.int .u64 0,.int .u64 0,.int .u64 0,.int .u64 0,.string ⟨#[]⟩,.string ⟨#[]⟩,.bool false] T.i)) (spB w.heap.size ⟨0,0,0,0,0,⟨#[]⟩,⟨#[]⟩,false⟩ :: R):=S.mkB (kp ⟨0,0,0,0,0,⟨#[]⟩,⟨#[]⟩,false⟩).toArray T.i
 have S2:=S1.mkB #[v,.int .i64 0] T.aw
 rw[jc] at S2
 generalize w.heap.size=tb at *
 generalize hrb:tb+1=rb at *
 generalize (World.alloc _ (.cells #[v,.int .i64 0] T.aw))=w2 at *
 have hs0:Rdv w0 R v (mo s0 ++ (mo s1 ++ (mo s2 ++ (mo s3 ++ (mo s4 ++ (acu fl :: (acd sv ++ (acd nm ++ r)))))))):=by
  have e:aer ⟨s0,s1,s2,s3,s4,sv,nm,fl⟩ ++ r=mo s0 ++ (mo s1 ++ (mo s2 ++ (mo s3 ++ (mo s4 ++ (acu fl :: (acd sv ++ (acd nm ++ r))))))):=by
   simp[aer,rg]
  rw[<-e]
  exact hs
 refine aai (X:=[_]) S2 hR.tr hs0 fun w3 v3 r3 S3=>?_
 refine aai (X:=[_]) S3 hR.id r3 fun w4 v4 r4 S4=>?_
 refine aai (X:=[_]) S4 hR.par r4 fun w5 v5 r5 S5=>?_
 refine aai (X:=[_]) S5 hR.st r5 fun w6 v6 r6 S6=>?_
 refine aai (X:=[_]) S6 hR.ln r6 fun w7 v7 r7 S7=>?_
 simp
 have S7':St w0 w7 (spB tb ⟨0,0,0,0,0,⟨#[]⟩,⟨#[]⟩,false⟩ :: rdr rb v7 :: R):=S7.swap
 refine St.put (vs:=kp ⟨s0,s1,s2,s3,s4,⟨#[]⟩,⟨#[]⟩,false⟩) (cs':=(kp ⟨s0,s1,s2,s3,s4,⟨#[]⟩,⟨#[]⟩,false⟩).toArray) S7' (tq _) (by simp[kp]) rfl fun w8 S8=>?_
 refine aqn (X:=[_]) S8.swap (x:=acu fl) (by unfold acu;split <;>omega) (by unfold acu;split <;>omega) r7 fun w9 v9 r9 S9=>?_
 have hfl:decide (acu fl=1)=fl:=by cases fl <;>rfl
 simp[hfl]
 refine St.qk S9.swap rfl (by simp[kp]) fun w10 S10=>?_
 have S10':St w0 w10 (spB tb ⟨s0,s1,s2,s3,s4,⟨#[]⟩,⟨#[]⟩,fl⟩ :: rdr rb v9 :: R):=S10
 refine asf (X:=[_]) S10'.swap m1 n1 r9 fun w11 v11 r11 S11=>?_
 simp
 refine St.qk S11.swap rfl (by simp[kp]) fun w12 S12=>?_
 have S12':St w0 w12 (spB tb ⟨s0,s1,s2,s3,s4,sv,⟨#[]⟩,fl⟩ :: rdr rb v11 :: R):=S12
 refine asf (X:=[_]) S12'.swap m2 n2 r11 fun w13 v13 r13 S13=>?_
 simp
 refine St.qk S13.swap rfl (by simp[kp]) fun w14 S14=>?_
 have S14':St w0 w14 (spB tb ⟨s0,s1,s2,s3,s4,sv,nm,fl⟩ :: rdr rb v13 :: R):=S14
 have c1:il w14 rb 1=some (.int .i64 0):=by rw[S14'.swap.cell];rfl
 have sl: ∀{w':World}{L:List Asn},St w0 w' (spB tb ⟨s0,s1,s2,s3,s4,sv,nm,fl⟩ :: L)->∀K,ldN P 8 tb 0 w' K=K (lx ⟨s0,s1,s2,s3,s4,sv,nm,fl⟩) w':=fun S' K=>S'.ldA (n:=8) (i:=0) (kp ⟨s0,s1,s2,s3,s4,sv,nm,fl⟩) rfl rfl K
 simp[c1,sl S14']
 rw[M.dv.fcall]
 refine aii _ fun w15 f15=>?_
 rw[hr]
 have S15:=S14'.jv f15
 simp
 refine St.qk S15.swap rfl (by simp) fun w16 S16=>?_
 have S16':St w0 w16 (rdr rb v13 :: spB tb ⟨s0,s1,s2,s3,s4,sv,nm,fl⟩ :: R):=S16
 have d1:il w16 rb 1=some (.int .i64 0):=by rw[S16'.cell];rfl
 unfold M.ey.j0
 simp[d1]
 unfold M.ey.j1
 have S17:=S16'.jv ((Fr.refl _ w16).dr 1)
 have d0:il (dr w16 1) rb 0=some v13:=by rw[S17.cell];rfl
 simp[sl S17.swap,d0]
 refine ayf S17 (r13 _ [_,_] S17) (by omega) fun w18 v18 S18=>?_
 simp[sl S18.up2]
 have hst: ∀w' K,stT P T.i (.pointer (some ⟨tb,0,none⟩)) (lx ⟨s0,s1,s2,s3,s4,sv,nm,fl⟩) w' K=stN P tb 0 (kp ⟨s0,s1,s2,s3,s4,sv,nm,fl⟩) w' K:=fun w' K=>by
  unfold lx
  simp[kp]
 rw[hst]
 refine St.put (vs:=kp ⟨s0,s1,s2,s3,s4,sv,nm,fl⟩) (cs':=(kp ⟨s0,s1,s2,s3,s4,sv,nm,fl⟩).toArray) S18.up2 (tq _) (by simp[kp]) rfl fun w19 S19=>?_
 have hres: ∀w' K,ni P T.i (.pointer (some ⟨tb,0,none⟩)) w' K=ldN P 8 tb 0 w' K:=fun w' K=>kr
 simp[hres,sl S19]
 exact h w19 v18 (S19.drop.swap.drop)
end
def tl(b:Bal):List Value:=[.int .u64 b.n,.int .u64 b.ji]
theorem amh(b:Bal):(tl b).length=2:=rfl
def vt(a:Bal)(l:List Bal):Bal:=l.foldl (fun a x=>if a.apm x=true then x else a) a
section
variable {w0 w : World} {R : List Asn}
abbrev baB(b:Nat)(x:Bal):Asn:=ja b #[.int .u64 x.n,.int .u64 x.ji] T.e
theorem aci{b:Nat}{x y:Bal}(S:St w0 w (baB b x :: R)){K:KV}(h: ∀w',St w0 w' (baB b y :: R)->K undef w'):stT P T.e (.pointer (some ⟨b,0,none⟩)) (kj y) w K:=by
 unfold kj
 simp
 exact St.put (vs:=[.int .u64 y.n,.int .u64 y.ji]) (cs':= #[.int .u64 y.n,.int .u64 y.ji]) S (by simp[kq]) (by simp) rfl h
theorem abi(S:St w0 w R):St w0 (w.alloc (.cells #[.int .u64 0,.int .u64 0] T.e)) (baB w.heap.size je :: R):=S.mkB #[.int .u64 0,.int .u64 0] T.e
def GrI(w0:World)(a:Bal)(l:List Bal)(tb:Nat)(R:List Asn):KL:=fun x w1=> ∃(i:Nat),x=[.int .i64 (i:Nat)]/\i<=l.length/\St w0 w1 (baB tb (vt a (l.take i)) :: R)
theorem arx(S:St w0 w R){v:Value}{l:List Bal}(hs: ∀w' L,St w0 w' (L ++ R)->Sl w' 2 tl v l)(hl:l.length<=1000000)(a:Bal){K:KV}(h: ∀w',St w0 w' R->K (kj (vt a l)) w'):ig P F.fe [kj a,v] w K:=by
 rw[M.dc.fcall]
 apply M.dc.calls
 unfold M.dc
 refine St.qt S fun tb w1 S1=>?_
 have S1':St w0 w1 (baB tb a :: R):=S1
 simp
 have S2:=abi S1'
 generalize w1.heap.size=rb at *
 generalize w1.alloc _=w2 at *
 have hlen: ∀w' K,biT P .len #[T.bn] T.d [false] [v] w' K=K (.int .i64 l.length) w':=fun w' K=>(hs w2 [_,_] S2).jr (by kernel_rfl) [false]
 simp[hlen]
 refine⟨GrI w0 a l tb (baB rb je :: R),fun x _=>l.length - ms x 0,⟨0,rfl,Nat.zero_le _,S2.swap⟩,?_⟩
 rintro x w3 ⟨i,rfl,hi,S3⟩
 by_cases hil:i < l.length
 ·have hwi:IntKind.i64.wrap ((i:Int)+1)=((i+1:Nat):Int):=by rw[iz];rfl
  simp[hil]
  unfold M.dc.j2
  obtain⟨ab,ao,cap,hv,_,_,hc⟩:=(hs w3 [_,_] S3).at hil
  have hia: ∀w' K,iaT P T.bn v (.int .i64 (i:Nat)) w' K=K (.pointer (some ⟨ab,ao+i * 2,none⟩)) w':=fun w' K=>by
   rw[hv,auz (by kernel_rfl) (by omega) (by omega),show szE P T.bn=2 from by kernel_rfl]
   simp
  have hld: ∀K,ldN P 2 ab (ao+i * 2) w3 K=K (kj l[i]) w3:=fun K=>sf (tl l[i]) 2 rfl hc K
  have e:vt a (l.take (i+1))=if (vt a (l.take i)).apm l[i]=true then l[i] else vt a (l.take i):=by
   rw[List.take_add_one,List.getElem?_eq_getElem hil]
   unfold vt
   rw[List.foldl_append]
   rfl
  simp[hia,hld]
  have S4:=abi S3
  generalize w3.heap.size=qb at *
  generalize w3.alloc _=w4 at *
  refine aci (y:=l[i]) S4 fun w5 S5=>?_
  obtain⟨_,_,b1⟩:=xu S5
  obtain⟨_,_,b2⟩:=xu S5.swap
  simp[b1,b2]
  refine bac _ _ fun w6 f6=>?_
  have S6:=S5.jv f6
  obtain⟨_,_,d1⟩:=xu S6
  simp
  rw[bcc]
  have fin: ∀w',St w0 w' (baB tb (vt a (l.take (i+1))) :: baB rb je :: R)->GrI w0 a l tb (baB rb je :: R) [.int .i64 ((i+1:Nat):Int)] w'/\l.length - ms [.int .i64 ((i+1:Nat):Int)] 0 < l.length - ms [.int .i64 (i:Nat)] 0:=fun w' S'=>⟨⟨i+1,rfl,by omega,S'⟩,by simp[ms,gv];omega⟩
  cases hb:(vt a (l.take i)).apm l[i] with
  | true=>
   rw[hb] at e
   simp only[if_true] at e
   simp[d1]
   refine aci (y:=l[i]) S6.swap fun w7 S7=>?_
   rw[hwi]
   refine fin w7 ?_
   rw[e]
   exact S7.swap.drop
  | false=>
   rw[hb] at e
   simp only[Bool.false_eq_true,if_false] at e
   simp
   rw[hwi]
   refine fin w6 ?_
   rw[e]
   exact S6.drop
 ·have hie:i=l.length:=by omega
  subst hie
  rw[List.take_length] at S3
  obtain⟨_,_,b1⟩:=xu S3
  simp[b1]
  refine aci (y:=vt a l) S3.swap fun w5 S5=>?_
  obtain⟨_,_,b2⟩:=xu S5
  have hres: ∀w' K,ni P T.e (.pointer (some ⟨rb,0,none⟩)) w' K=ldN P 2 rb 0 w' K:=fun w' K=>kr
  simp[hres,b2]
  exact h w5 S5.drop.drop
theorem bhp(S:St w0 w R){v:Value}{l:List Bal}(hs: ∀w' L,St w0 w' (L ++ R)->Sl w' 2 tl v l)(hl:l.length<=1000000){K:KV}(h: ∀w',St w0 w' R->K (kj (vt je l)) w'):ig P F.dr [v] w K:=by
 rw[M.fr.fcall]
 apply M.fr.calls
 unfold M.fr
 simp
 have S2:=abi S
 generalize w.heap.size=rb at *
 generalize w.alloc _=w2 at *
 refine arx (a:=je) S2 (fun w' L S'=>hs w' (L ++ [_]) (by simpa using S')) hl fun w3 S3=>?_
 refine aci (y:=vt je l) S3 fun w5 S5=>?_
 obtain⟨_,_,b2⟩:=xu S5
 have hres: ∀w' K,ni P T.e (.pointer (some ⟨rb,0,none⟩)) w' K=ldN P 2 rb 0 w' K:=fun w' K=>kr
 simp[hres,b2]
 exact h w5 S5.drop
end
def aaz(tr:Int)(b:Bal)(v:Int)(rv:Value)(half:Int)(hm:Nat):Array Value:= #[.int .u64 tr,.int .u64 b.n,.int .u64 b.ji,.int .i64 v,rv,.int .i64 half,.map (some hm),.int .u64 0,.int .u64 0,.int .u64 0,.int .u64 0]
def oz(rb:Nat)(tr:Int)(b:Bal)(v half:Int):Asn where
 ok w B:= ∃rv hm,Rs [ja rb (aaz tr b v rv half hm) T.r,rdA 1 lq rv [101],jk hm .u64 []] w B
 jf:=by
  rintro w w' B S ⟨rv,hm,h⟩ hf hn
  exact⟨rv,hm,h.jf hf hn⟩
section
variable {w0 w : World} {R : List Asn} {rb : Nat} {tr v half : Int} {b : Bal}
theorem ahs(S:St w0 w (oz rb tr b v half :: R)): ∃rv hm,St w0 w (ja rb (aaz tr b v rv half hm) T.r :: rdA 1 lq rv [101] :: jk hm .u64 [] :: R):=by
 obtain⟨B,⟨rv,hm,h⟩,_,cl⟩:=S.open
 exact⟨rv,hm,cl w [ja rb (aaz tr b v rv half hm) T.r,rdA 1 lq rv [101],jk hm .u64 []] (Fr.refl _ _) (h.mono fun b hb=> .inl hb)⟩
theorem ajj{rv:Value}{hm:Nat}(S:St w0 w (ja rb (aaz tr b v rv half hm) T.r :: rdA 1 lq rv [101] :: jk hm .u64 [] :: R)):St w0 w (oz rb tr b v half :: R):=by
 obtain⟨U,h1,_,g⟩:=St.aje (L:=[ja rb (aaz tr b v rv half hm) T.r,rdA 1 lq rv [101],jk hm .u64 []]) (R:=R) S
 exact g w [oz rb tr b v half] (Fr.refl _ _) ⟨U,⟨rv,hm,h1⟩,fun b hb=> .inl hb,trivial⟩
theorem wh{rv:Value}(h:SlU w rv [101]): ∃g o c,rv= .slice (some ⟨g,o,none⟩) 1 c/\il w g o=some (.int .u64 101):=by
 obtain⟨g,o,c,e,_,_,hc⟩:=h.at (i:=0) (by simp)
 exact⟨g,o,c,e,by simpa [lq] using hc 0 _ rfl⟩
def PsI(w0:World)(R:List Asn)(v1 v2:Value):KL:=fun x w1=> ∃(u:Value)(i:Nat),x=[u,v1,v2,.int .u64 (if i=0 then 0 else 101),.int .i64 (i:Nat)]/\i<=1/\St w0 w1 R
theorem bcf{av:Value}(S:St w0 w R)(hs: ∀w' L,St w0 w' (L ++ R)->SlU w' av [101])(h1:tr≠0)(h2:b.n≠0)(h3:1<=v/\v<=3){K:KV}(h: ∀w' rb,St w0 w' (oz rb tr b v 0 :: R)->K (.tuple #[.pointer (some ⟨rb,0,none⟩),.int .i64 0]) w'):ig P F.fp [.int .u64 tr,kj b,.int .i64 v,av] w K:=by
 rw[M.bq.fcall]
 apply M.bq.calls
 unfold M.bq kj
 refine St.qt S fun bb w1 S1=>?_
 have S1':St w0 w1 (baB bb b :: R):=S1
 have hsl: ∀w' L,St w0 w' (L ++ (baB bb b :: R))->SlU w' av [101]:=fun w' L S=>hs w' (L ++ [baB bb b]) (by simpa using S)
 have hlen: ∀w' K,biT P .len #[T.h] T.d [false] [av] w' K=K (.int .i64 1) w':=fun w' K=>(hs w [] S).jr (by kernel_rfl) [false]
 obtain⟨g,o,c,e,_⟩:=wh (hs w [] S)
 have hia: ∀w' K,iaT P T.h av (.int .i64 0) w' K=K (.pointer (some ⟨g,o,none⟩)) w':=fun w' K=>by rw[e];simp
 simp only[im,hlen]
 refine⟨PsI w0 (baB bb b :: R) (.pointer none) (.int .i64 0),fun x _=>1 - ms x 4,⟨_,0,rfl,Nat.zero_le _,S1'⟩,?_⟩
 rintro x w2 ⟨u,i,rfl,hi,S2⟩
 by_cases hi0:i=0
 ·subst hi0
  obtain⟨g2,o2,c2,e2,hc2⟩:=wh (hsl w2 [] S2)
  rw[e] at e2
  injection e2 with e2 _ _
  injection e2 with e2
  injection e2 with e2 e3 _
  subst e2 e3
  simp
  unfold M.bq.j2
  simp[hia,hc2]
  exact⟨⟨_,1,rfl,Nat.le_refl _,S2⟩,by simp[ms,gv,show IntKind.i64.wrap 1=1 from by decide]⟩
 ·have hi1:i=1:=by omega
  subst hi1
  simp
  unfold M.bq.j0
  have c0:il w2 bb 0=some (.int .u64 b.n):=by rw[S2.cell];rfl
  have n1: ¬v < 1:=by omega
  have n2: ¬3 < v:=by omega
  simp[h1,c0,h2,n1,n2,hlen]
  unfold M.bq.j5
  have S3:=S2.jv ((Fr.refl _ w2).dr 1)
  have lb: ∀{w':World}{L:List Asn},St w0 w' (baB bb b :: L)->∀K,ldN P 2 bb 0 w' K=K (kj b) w':=fun S' K=>S'.ldA (n:=2) (i:=0) (tl b) rfl rfl K
  simp[lb S3,kj]
  have fin: ∀(rv:Value)(hm:Nat) w',St w0 w' (rdA 1 lq rv [101] :: jk hm .u64 [] :: R)->K (.tuple #[.pointer (some ⟨w'.heap.size,0,none⟩),.int .i64 0]) (w'.alloc (.cells (aaz tr b v rv 0 hm) T.r)):=fun rv hm w' S'=>h _ _ (ajj (S'.mkB _ _))
  refine⟨?_,?_⟩
  ·refine aaf (hsl _ [] S3) (by simp) fun w4 rv s4 n4 f4=>?_
   obtain⟨g4,o4,c4,rfl,_⟩:=wh s4
   have S4:St w0 w4 (rdA 1 lq (.slice (some ⟨g4,o4,none⟩) 1 c4) [101] :: baB bb b :: R):=S3.add f4 (a:=rdA 1 lq (.slice (some ⟨g4,o4,none⟩) 1 c4) [101]) (B:=fun x=>(Value.slice (some ⟨g4,o4,none⟩) 1 c4).ownBlock=some x) ⟨s4,fun b hb=>hb⟩ fun x hx=>⟨n4 x hx,by
    obtain⟨g,hg,hlt⟩:=s4.lt (x:=101) (by simp)
    rw[hx] at hg;cases hg;exact hlt⟩
   have S5:=S4.ahr .u64
   simp[lb S4.swap,lb S5.up2,kj,yt]
   have hf:=fin _ w4.heap.size _ (S5.swap.up2.drop)
   simp only[jc] at hf
   exact hf
  ·have S4:=S3.ahr .u64
   rw[yt]
   generalize (dr w2 1).heap.size=hm at *
   generalize (dr w2 1).alloc (.map #[] 0)=w4 at *
   simp[lb S4.swap,kj]
   refine aaf (hsl _ [_] S4) (by simp) fun w5 rv s5 n5 f5=>?_
   obtain⟨g5,o5,c5,rfl,_⟩:=wh s5
   have S5:St w0 w5 (rdA 1 lq (.slice (some ⟨g5,o5,none⟩) 1 c5) [101] :: jk hm .u64 [] :: baB bb b :: R):=S4.add f5 (a:=rdA 1 lq (.slice (some ⟨g5,o5,none⟩) 1 c5) [101]) (B:=fun x=>(Value.slice (some ⟨g5,o5,none⟩) 1 c5).ownBlock=some x) ⟨s5,fun b hb=>hb⟩ fun x hx=>⟨n5 x hx,by
    obtain⟨g,hg,hlt⟩:=s5.lt (x:=101) (by simp)
    rw[hx] at hg;cases hg;exact hlt⟩
   simp[lb S5.up2,kj]
   exact fin _ hm w5 (S5.up2.drop)
def rl(tr:Int)(b:Bal)(v half:Int):Pk:=⟨if half=1 then 6 else 4,tr,b,je,if half=1 then v else 0,false,.slice none 0 0,.slice none 0 0,.slice none 0 0⟩
theorem nl{rv:Value}{hm:Nat}{L:List Asn}(S':St w0 w (ja rb (aaz tr b v rv half hm) T.r :: L)):il w rb 0=some (.int .u64 tr)/\il w rb 3=some (.int .i64 v)/\il w rb 4=some rv/\il w rb 5=some (.int .i64 half)/\il w rb 6=some (.map (some hm))/\(∀K,ldN P 2 rb 1 w K=K (kj b) w)/\∀K,ldN P 2 rb 7 w K=K (kj je) w:=by
 refine⟨?_,?_,?_,?_,?_,fun K=>S'.ldA (n:=2) (i:=1) (tl b) rfl rfl K,fun K=>S'.ldA (n:=2) (i:=7) (tl je) rfl rfl K⟩ <;>rw[S'.cell] <;>rfl
theorem pe: ∀u∈pkC (rl tr b v half),kq u=true:=atj _ _ _ _ _ _
theorem akp(S:St w0 w (oz rb tr b v half :: R))(hh:half=0\/half=1){K:KV}(h: ∀w',St w0 w' (oz rb tr b v half :: R)->K (pkA (rl tr b v half)) w'):ig P F.bs [.pointer (some ⟨rb,0,none⟩)] w K:=by
 obtain⟨rv,hm,S1⟩:=ahs S
 rw[M.cr.fcall]
 apply M.cr.calls
 unfold M.cr
 obtain⟨_,_,_,c5,_,_⟩:=nl S1
 have hgt: ¬1 < half:=by omega
 have S2:=avf S1
 simp
 generalize w.heap.size=q at *
 generalize w.alloc _=w2 at *
 obtain⟨_,_,_,d5,_,_⟩:=nl S2.swap
 simp[d5,hgt]
 unfold M.cr.j0
 have S3:=S2.jv ((Fr.refl _ w2).dr 1)
 obtain⟨e0,e3,_,e5,_,e1,_⟩:=nl S3.swap
 simp[e0,e1,kj]
 have S4:=avf S3
 have hz:(dr w2 1).heap.size=w2.heap.size:=rfl
 rw[hz] at S4
 generalize w2.heap.size=pb at *
 generalize World.alloc _ _=w4 at *
 obtain⟨f0,f3,_,f5,_,f1,_⟩:=nl S4.up2
 simp[f0,f1,kj]
 refine atp (q:=rl tr b v 0) S4 rfl pe fun w5 S5=>?_
 obtain⟨g0,g3,_,g5,_,g1,_⟩:=nl S5.up2
 have fin: ∀w',St w0 w' (ja pb (pkC (rl tr b v half)).toArray T.c :: ja q (pkC pkZ).toArray T.c :: ja rb (aaz tr b v rv half hm) T.r :: rdA 1 lq rv [101] :: jk hm .u64 [] :: R)->ldT P T.c (.pointer (some ⟨pb,0,none⟩)) w' fun t34 w=>stT P T.c (.pointer (some ⟨q,0,none⟩)) t34 w fun _ w=>ic (fun K'=>ni P T.c (.pointer (some ⟨q,0,none⟩)) w K') w fun r0=>K r0 w:=fun w' S'=>by
  simp[ud S']
  exact bin (q:=rl tr b v half) S'.swap rfl pe fun w'' S''=>h w'' (ajj (S''.drop.drop))
 rcases hh with rfl|rfl
 ·simp[g5]
  have:=fin w5 S5
  simpa using this
 ·have S6:=S5.jv ((Fr.refl _ w5).dr 1)
  obtain⟨_,i3,_,_,_,_,_⟩:=nl S6.up2
  simp[g5,i3]
  refine St.qk S6 rfl (by simp[pkC]) fun w7 S7=>?_
  obtain⟨_,k3,_,_,_,_,_⟩:=nl S7.up2
  simp[k3]
  refine St.qk S7 rfl (by simp[pkC]) fun w8 S8=>?_
  have:=fin w8 S8
  simpa using this
def OpI(w0:World)(R:List Asn):KL:=fun x w1=> ∃(u ov:Value)(i:Nat),x=[u,ov,.int .i64 (i:Nat)]/\i<=1/\St w0 w1 (qy ov ((List.replicate i 101)) :: R)
theorem aom(S:St w0 w (oz rb tr b v half :: R))(hh:half=0\/half=1){K:KV}(h: ∀w' ov,St w0 w' (qy ov [101] :: oz rb tr b v half :: R)->K ov w'):ig P F.ce [.pointer (some ⟨rb,0,none⟩)] w K:=by
 obtain⟨rv,hm,S1⟩:=ahs S
 rw[M.bl.fcall]
 apply M.bl.calls
 unfold M.bl
 obtain⟨_,_,_,c5,_,_⟩:=nl S1
 have hgt: ¬1 < half:=by omega
 simp[c5,hgt]
 unfold M.bl.j0
 obtain⟨_,_,c4,_,c6,_⟩:=nl S1
 obtain⟨g,o,c,e,_⟩:=wh S1.swap.rd
 have hln: ∀w' K,biT P .len #[T.h] T.d [false] [rv] w' K=K (.int .i64 1) w':=fun w' K=>(S1.swap.rd:SlU w rv [101]).jr (by kernel_rfl) [false]
 have hia: ∀w' K,iaT P T.h rv (.int .i64 0) w' K=K (.pointer (some ⟨g,o,none⟩)) w':=fun w' K=>by rw[e];simp
 simp[c4,hln]
 refine⟨OpI w0 (ja rb (aaz tr b v rv half hm) T.r :: rdA 1 lq rv [101] :: jk hm .u64 [] :: R),fun x _=>1 - ms x 2,⟨_,_,0,rfl,Nat.zero_le _,by simpa using Go.Eng.yw S1⟩,?_⟩
 rintro x w2 ⟨u,ov,i,rfl,hi,S2⟩
 by_cases hi0:i=0
 ·subst hi0
  obtain⟨g2,o2,c2,e2,hc2⟩:=wh S2.up2.rd
  rw[e] at e2
  injection e2 with e2 _ _
  injection e2 with e2
  injection e2 with e2 e3 _
  subst e2 e3
  obtain⟨_,_,_,_,d6,_⟩:=nl S2.swap
  simp
  unfold M.bl.j3
  simp[hia,hc2,d6]
  rw[ss mt.al S2.up3.mp]
  simp[kg]
  have S3:St w0 (w2.alloc (.cells #[.int .u64 101] T.a)) (qy (.slice (some ⟨w2.heap.size,0,none⟩) 1 1) [101] :: _):=St.uj (l:=[(101:Int)]) S2 (fun _=>rfl) rfl (by simp[maxLen])
  refine aby S3.swap (S3.row (fun _=>rfl)) (by simp) fun w5 v5 S5=>?_
  exact⟨⟨_,_,1,rfl,Nat.le_refl _,by simpa using S5.swap.drop⟩,by simp[ms,gv,show IntKind.i64.wrap 1=1 from by decide]⟩
 ·have hi1:i=1:=by omega
  subst hi1
  simp
  exact h w2 ov (ajj S2.dn3).swap
end
def aem(s:Bal)(ver ji:Int):Bal×Int:=if ji=0 then (je,1) else if max s.n ver=18446744073709551615 then (je,12) else (⟨max (s.n+1) ver,ji⟩,0)
section
variable {w0 w : World} {R : List Asn}
theorem blv(rb:Nat)(w':World)(K:KV):ni P T.e (.pointer (some ⟨rb,0,none⟩)) w' K=ldN P 2 rb 0 w' K:=kr
theorem bjy{b:Nat}{cs:Array Value}{y:Bal}(S:St w0 w (ja b cs T.e :: R))(hs:cs.size=2){K:KV}(h: ∀w',St w0 w' (baB b y :: R)->K (kj y) w'):
  stN P b 0 [.int .u64 y.n,.int .u64 y.ji] w fun _ w=>ni P T.e (.pointer (some ⟨b,0,none⟩)) w fun r w'=>w'=w/\K r w:=by
 refine St.put (vs:=[.int .u64 y.n,.int .u64 y.ji]) (cs':= #[.int .u64 y.n,.int .u64 y.ji]) S (by simp[kq]) (by simp[hs]) (by
  have hl:cs.toList.length=2:=by simpa using hs
  simp[hl]) fun w' S'=>?_
 rw[blv]
 obtain⟨_,_,b2⟩:=xu S'
 rw[b2]
 exact⟨rfl,h w' S'⟩
theorem bgi(S:St w0 w R)(s:Bal){ver ji:Int}(hs:0<=s.n/\s.n < 18446744073709551616)(hv:0<=ver/\ver < 18446744073709551616){K:KV}(h: ∀w',St w0 w' R->K (.tuple #[kj (aem s ver ji).1,.int .i64 (aem s ver ji).2]) w'):ig P F.ch [kj s,.int .u64 ver,.int .u64 ji] w K:=by
 rw[M.ep.fcall]
 apply M.ep.calls
 unfold M.ep kj
 refine St.qt S fun tb w1 S1=>?_
 have S1':St w0 w1 (baB tb s :: R):=S1
 simp
 have S2:=abi S1'
 generalize w1.heap.size=rb at *
 generalize w1.alloc _=w2 at *
 have c0:il w2 tb 0=some (.int .u64 s.n):=by rw[S2.swap.cell];rfl
 have fin: ∀(y:Bal)(k:Int),aem s ver ji=(y,k)->stN P rb 0 [.int .u64 y.n,.int .u64 y.ji] w2 fun _ w=>ni P T.e (.pointer (some ⟨rb,0,none⟩)) w fun r w'=>w'=w/\K (.tuple #[r,.int .i64 k]) w:=fun y k e=>bjy (K:=fun r w=>K (.tuple #[r,.int .i64 k]) w) S2 rfl fun w' S'=>by
  have:=h w' S'.drop.drop
  rw[e] at this
  exact this
 by_cases hn:ji=0
 ·simp[hn]
  exact fin je 1 (by unfold aem;rw[if_pos hn])
 ·by_cases hm:max s.n ver=18446744073709551615
  ·simp[hn,c0,sn,hm]
   exact fin je 12 (by unfold aem;rw[if_neg hn,if_pos hm])
  ·have hw:IntKind.u64.wrap (s.n+1)=s.n+1:=by rw[me (by omega) (by omega)]
   simp[hn,c0,sn,hm]
   unfold M.ep.j0
   simp[c0,hw,sn]
   exact fin ⟨max (s.n+1) ver,ji⟩ 0 (by unfold aem;rw[if_neg hn,if_neg hm])
end
def px(tr:Int)(b:Bal)(half:Int):Pk:=pk0 (if half=1 then 7 else 5) tr b je 0 true
theorem amy{tr:Int}{b:Bal}{half:Int}(h1:0 < tr)(h2:0 < b.n):xi (px tr b half) [] [] []=true:=by
 unfold px xi atu yp vk
 by_cases h:half=1
 ·simp[h,pk0,re,pz,qd,pu,lk,ahw,h1,h2,je]
 ·simp[h,pk0,re,pz,qd,pu,lk,ahw,h1,h2,aof,je]
def vj(tr:Int)(b:Bal)(half:Int):List Value:=[.int .u64 tr,.int .u64 b.n,.int .u64 b.ji,.bool true,.int .u64 0,.int .u64 0,.int .i64 0,.bool (decide (half=1))]
theorem amn{w:World}{tr:Int}{b:Bal}{half:Int}{t:Value}(h:ThR w (px tr b half) [] [] [] t):t= .iface T.k (.agg (vj tr b half).toArray):=by
 have hk:(px tr b half).jg=5\/(px tr b half).jg=7:=by
  unfold px pk0
  by_cases h:half=1
  ·simp[h]
  ·simp[h]
 generalize hp:px tr b half=p at *
 cases h with
 | ki v q _=>omega
 | ait v q _=>omega
 | ask q=>omega
 | zz q=>
  rw[<-hp]
  unfold px pk0 vj je
  by_cases h:half=1
  ·simp[h]
  ·simp[h]
 | wj q=>omega
 | xe v q _=>omega
 | zx v q _=>omega
 | none q=>omega
section
variable {w0 w : World} {R : List Asn} {rb : Nat} {tr v half : Int} {b : Bal}
theorem bgu{rv:Value}(h:SlU w rv [101]){K:KV}(hK:K (.bool true) w):ig P F.bn [rv,.int .u64 101] w K:=by
 rw[M.bx.fcall]
 apply M.bx.calls
 unfold M.bx
 rw[M.aw.fcall]
 apply M.aw.calls
 unfold M.aw
 have hln: ∀w' K,biT P .len #[T.h] T.d [false] [rv] w' K=K (.int .i64 1) w':=fun w' K=>h.jr (by kernel_rfl) [false]
 obtain⟨g,o,c,e,hc⟩:=wh h
 have hia: ∀w' K,iaT P T.h rv (.int .i64 0) w' K=K (.pointer (some ⟨g,o,none⟩)) w':=fun w' K=>by rw[e];simp
 simp only[im,hln]
 refine⟨fun x w1=>gv x 2= .int .i64 0/\w1=w,fun _ _=>0,⟨rfl,rfl⟩,?_⟩
 rintro x w1 ⟨x2,rfl⟩
 rw[x2]
 simp
 unfold M.aw.j2
 rw[x2]
 simp[hia,hc]
 exact hK
theorem bjh(x y:Bool)(rx ry:Operand)(w:World)(K:KV):iq P .eql T.bp rx ry (.bool x) (.bool y) w K=K (.bool (x == y)) w:=aeo (by kernel_rfl)
theorem bgn(S:St w0 w (oz rb tr b v half :: R)){K:KV}(h: ∀w',St w0 w' (oz rb tr b v half :: R)->K (.bool true) w'):ig P F.dt [.pointer (some ⟨rb,0,none⟩),.int .u64 101,.agg (vj tr b half).toArray] w K:=by
 obtain⟨rv,hm,S1⟩:=ahs S
 rw[M.du.fcall]
 apply M.du.calls
 unfold M.du
 refine St.qt S1 fun ab w1 S2=>?_
 have S3:=S2.jv ((Fr.refl _ w1).dr 1)
 obtain⟨c0,_,c4,c5,c6,c1,_⟩:=nl S3.swap
 have a0:il (dr w1 1) ab 0=some (.int .u64 tr):=by rw[S3.cell];rfl
 have a7:il (dr w1 1) ab 7=some (.bool (decide (half=1))):=by rw[S3.cell];rfl
 have a1: ∀K,ldN P 2 ab 1 (dr w1 1) K=K (kj b) (dr w1 1):=fun K=>S3.ldA (n:=2) (i:=1) (tl b) rfl rfl K
 have eqb: ∀rx ry w K,iq P .eql T.e rx ry (kj b) (kj b) w K=K (.bool true) w:=fun rx ry w K=>by rw[aak];simp
 simp[a0,a7,a1,c0,c4,c5,c6,c1,bjh,eqb]
 refine bgu S3.up2.rd ?_
 simp[c6]
 rw[ss mt.al S3.up3.mp]
 simp[kg]
 exact h _ (ajj S3.drop)
theorem anc(S:St w0 w (oz rb tr b v half :: R)){K:KV}(h2:half=2->K (.tuple #[.int .i64 v,.bool true]) w)(h0:half≠2->K (.tuple #[.int .i64 0,.bool false]) w):ig P F.dg [.pointer (some ⟨rb,0,none⟩)] w K:=by
 obtain⟨rv,hm,S1⟩:=ahs S
 rw[M.dl.fcall]
 apply M.dl.calls
 unfold M.dl
 obtain⟨_,c3,_,c5,_⟩:=nl S1
 by_cases hh:half=2
 ·have:=h2 hh
  simp[c5,c3,hh]
  exact this
 ·have:=h0 hh
  simp[c5,hh]
  exact this
theorem bcz(S:St w0 w (oz rb tr b v half :: R))(hh:half=0\/half=1)(ht:0 < tr/\tr < 18446744073709551616)(hb:b.rng)(hb0:0 < b.n){K:KV}(h: ∀w',St w0 w' (oz rb tr b v (half+1) :: R)->K (.bool true) w'):ig P F.ds [.pointer (some ⟨rb,0,none⟩),.int .u64 101,pkA (px tr b half)] w K:=by
 rw[M.an.fcall]
 apply M.an.calls
 unfold M.an pkA
 refine St.qt S fun pb w1 S1=>?_
 have S1':St w0 w1 (ja pb (pkC (px tr b half)).toArray T.c :: oz rb tr b v half :: R):=S1
 simp[ud S1']
 have hrng:aex (px tr b half):=⟨⟨by show 0<=tr;omega,ht.2⟩,hb,show je.rng from⟨⟨by decide,by decide⟩,⟨by decide,by decide⟩⟩⟩
 refine aon (p:=px tr b half) (ls:=[]) (lm:=[]) (lu:=[]) (azp _ _ _ _ _ _ _) hrng (fun hr w2 t hth _ f2=>?_) fun hr=>absurd (amy ht.1 hb0) (by rw[hr];simp)
 have S2:=S1'.jv f2
 rw[amn hth]
 have S3:=S2.mkB #[.int .u64 0,.int .u64 0,.int .u64 0,.bool false,.int .u64 0,.int .u64 0,.int .i64 0,.bool false] T.k
 unfold vj
 simp
 generalize w2.heap.size=ab at *
 generalize w2.alloc _=w3 at *
 refine St.put (vs:=vj tr b half) (cs':=(vj tr b half).toArray) S3 (by simp[vj,kq]) (by simp[vj]) (by simp[vj]) fun w4 S4=>?_
 obtain⟨rv,hm,S5⟩:=ahs S4.up2
 obtain⟨_,_,_,c5,_⟩:=nl S5
 have hgt: ¬1 < half:=by omega
 have ld8: ∀K,ldN P 8 ab 0 w4 K=K (.agg (vj tr b half).toArray) w4:=fun K=>S4.ldA (n:=8) (i:=0) (vj tr b half) rfl rfl K
 simp[c5,hgt,ld8]
 refine bgn S4.up2 fun w5 S6=>?_
 simp
 unfold M.an.j0
 have a3:il w5 ab 3=some (.bool true):=by rw[S6.swap.cell];rfl
 simp[a3]
 unfold M.an.j1
 obtain⟨rv,hm,S7⟩:=ahs S6
 obtain⟨_,_,_,_,d6,_⟩:=nl S7
 simp[d6]
 refine St.awe mt.al S7.up2 _ _ fun w6 S8=>?_
 have S9:=S8.jv ((Fr.refl _ w6).dr 1)
 have a6:il (dr w6 1) ab 6=some (.int .i64 0):=by rw[S9.up3.cell];rfl
 simp[a6]
 unfold M.an.j2
 have S10:St w0 (dr (dr w6 1) 1) (jk hm .u64 [(101,.bool true)] :: ja rb (aaz tr b v rv half hm) T.r :: rdA 1 lq rv [101] :: ja ab (vj tr b half).toArray T.k :: ja pb (pkC (px tr b half)).toArray T.c :: R):=S9.jv ((Fr.refl _ (dr w6 1)).dr 1)
 obtain⟨_,_,e4,e5,e6,_⟩:=nl S10.swap
 have hl:=fun cs K=>acj (ty:=T.d) mt.al S10.mp cs K
 have hln: ∀w' K,biT P .len #[T.h] T.d [false] [rv] w' K=K (.int .i64 1) w':=fun w' K=>(S10.up2.rd:SlU (dr (dr w6 1) 1) rv [101]).jr (by kernel_rfl) [false]
 have hw:IntKind.i64.wrap (half+1)=half+1:=by rw[iz]
 have h2:IntKind.i64.wrap 2=2:=by decide
 simp[e4,e5,e6,hl,hln,h2,hw]
 refine St.qk S10.swap rfl (by simp[aaz]) fun w8 S11=>?_
 have S12:St w0 w8 (ja rb (aaz tr b v rv (half+1) hm) T.r :: jk hm .u64 [(101,.bool true)] :: _):=S11
 obtain⟨_,_,_,_,g6,_⟩:=nl S12
 simp[g6]
 refine St.bkp mt.al S12.swap fun w9 S13=>?_
 exact h w9 (ajj S13.dn2).swap.drop.swap.drop
end
end Go.Proofs.YtgepcfcicngceaaGreatDoor
set_option maxRecDepth 100000
namespace Go.Proofs.YtgepcfcicngceaaGreatDoor.Ring
open Go.Eng Go.Proofs.YtgepcfcicngceaaGreatDoor
structure Pnt where
 at':Int
 id:Int
def xk(p:Pnt):List Value:=[.int .u64 p.at',.int .u64 p.id]
def wq(p:Pnt):Value:= .agg #[.int .u64 p.at',.int .u64 p.id]
theorem vo(p:Pnt):(xk p).length=2:=rfl
theorem amq(p:Pnt): ∀u∈xk p,kq u=true:=fun u hu=>by
 simp[xk] at hu
 rcases hu with rfl|rfl <;>rfl
abbrev tp(v:Value)(l:List Pnt):Asn:=ot T.aq 2 xk v l
abbrev avc(w:World)(v:Value)(l:List Pnt):Prop:=Sl w 2 xk v l
def leS(x y:Pnt):Prop:=x.at' < y.at'\/(x.at'=y.at'/\x.id<=y.id)
def ald(x y:Pnt):Int:=if vq x.at' y.at'≠0 then vq x.at' y.at' else vq x.id y.id
theorem asp{x y:Pnt}:ald x y < 0↔¬leS y x:=by
 unfold ald vq leS
 by_cases h1:x.at' < y.at'
 ·have h2: ¬y.at' < x.at':=by omega
  simp[h1,h2]
  omega
 ·by_cases h2:y.at' < x.at'
  ·simp[h1,h2]
  ·have h3:y.at'=x.at':=by omega
   by_cases h4:x.id < y.id
   ·simp[h3,h4]
   ·by_cases h5:y.id < x.id
    ·simp[h3,h4,h5] <;>omega
    ·simp[h3,h4,h5] <;>omega
theorem leS.trans{x y z:Pnt}(h:leS x y)(h':leS y z):leS x z:=by unfold leS at *;omega
theorem leS.of{x y:Pnt}(h: ¬leS y x):leS x y:=by unfold leS at *;omega
abbrev abr(l:List Pnt):Prop:=l.Pairwise leS
def bbn(l:List Pnt)(i j:Nat)(hi:i < l.length)(hj:j < l.length):List Pnt:=(l.set i l[j]).set j l[i]
theorem bfu(P Q R:List Pnt)(x y:Pnt){l:List Pnt}{i j:Nat}(hl:l=P ++ x :: (Q ++ y :: R))(hi:i=P.length)(hj:j=P.length+1+Q.length)(h1:i < l.length)(h2:j < l.length):bbn l i j h1 h2=P ++ y :: (Q ++ x :: R):=by
 subst hl hi hj
 have e1:(P ++ x :: (Q ++ y :: R))[P.length]'h1=x:=by simp
 have e2:(P ++ x :: (Q ++ y :: R))[P.length+1+Q.length]'h2=y:=by
  rw[List.getElem_append_right (by omega)]
  have:P.length+1+Q.length - P.length=Q.length+1:=by omega
  simp[this]
 unfold bbn
 rw[e1,e2]
 have:(P ++ x :: (Q ++ y :: R)).set P.length y=P ++ y :: (Q ++ y :: R):=by simp
 rw[this]
 rw[List.set_append_right _ _ (by omega)]
 have:P.length+1+Q.length - P.length=Q.length+1:=by omega
 rw[this]
 simp
theorem awo{w:World}(x y:Pnt){K:KV}(h: ∀w',Fz w w'->K (.int .i64 (ald x y)) w'):ig P F.dz [wq x,wq y] w K:=by
 rw[M.fi.fcall]
 apply M.fi.calls
 unfold M.fi
 refine St.qt (St.kl w) fun b1 w1 S1=>?_
 refine St.qt S1 fun b2 w2 S2=>?_
 have S3:St w (dr w2 1) (ja b2 (xk y).toArray T.aq :: ja b1 (xk x).toArray T.aq :: []):=S2.jv ((Fr.refl _ w2).dr 1)
 have x0:il (dr w2 1) b1 0=some (.int .u64 x.at'):=by rw[S3.swap.cell];rfl
 have x1:il (dr w2 1) b1 1=some (.int .u64 x.id):=by rw[S3.swap.cell];rfl
 have y0:il (dr w2 1) b2 0=some (.int .u64 y.at'):=by rw[S3.cell];rfl
 have y1:il (dr w2 1) b2 1=some (.int .u64 y.id):=by rw[S3.cell];rfl
 simp[x0,x1,y0,y1]
 refine aja _ _ ?_
 simp[x0,x1,y0,y1]
 refine aja _ _ ?_
 simp
 have S4:=S3.mkB #[.int .i64 (vq x.at' y.at'),.int .i64 (vq x.id y.id)] T.d
 rw[show (dr w2 1).heap.size=w2.heap.size from rfl] at S4
 have hsl:Sl ((dr w2 1).alloc (.cells #[.int .i64 (vq x.at' y.at'),.int .i64 (vq x.id y.id)] T.d)) 1 apb (.slice (some ⟨w2.heap.size,0,none⟩) 2 2) [vq x.at' y.at',vq x.id y.id]:=by
  have hh:=S4.blk
  refine⟨some ⟨w2.heap.size,0,none⟩,2,rfl,by simp,by simp[maxLen],fun i z hz=>⟨w2.heap.size,0,rfl,li hh,fun j u hj=>?_⟩⟩
  rw[ir hh]
  match i,j with
  | 0,0=>simp[apb] at hz hj⊢;rw[hz];exact hj
  | 1,0=>simp[apb] at hz hj⊢;rw[hz];exact hj
  | i+2,_=>simp at hz
  | _,j+1=>simp[apb] at hj
 exact bjt hsl (h _ S4.fr)
end Go.Proofs.YtgepcfcicngceaaGreatDoor.Ring
