/-
  The Heap of timers: a new one, Set, Del, Pop; and what a nil one says. No condition.
-/
import Derived.Test.YtgepcfcicngceaaGreatDoorZSgE
import Derived.Test.YtgepcfcicngceaaGreatDoorZSpn0
import Derived.Test.YtgepcfcicngceaaGreatDoorZEngSl
import Derived.Test.YtgepcfcicngceaaGreatDoorN
import Derived.Test.YtgepcfcicngceaaGreatDoorZEng
import Derived.Test.YtgepcfcicngceaaGreatDoorEnc
import Derived.Test.YtgepcfcicngceaaGreatDoorM
import Derived.Test.YtgepcfcicngceaaGreatDoorFacts
set_option maxRecDepth 100000
namespace Go.Proofs.YtgepcfcicngceaaGreatDoor
open Go.Eng
variable [HE]
theorem Hp.new{w':World}{hb:Nat}(hb':w'.heap[hb]? =some (hbk (.slice none 0 0) (.map none))):Hp w' hb (fun b=>b=hb) []:=by
 refine⟨⟨.slice none 0 0,.map none,[],⟨⟨hb',World.ownsRow_nil _ _ _ _,fun i t h=>by simp at h⟩,fun c h0 hc=>by simp at hc,by simp,.inl ⟨rfl,rfl⟩⟩,List.Perm.refl _,rfl,fun b hf=>?_,fun r h=>by cases h⟩,fun b hb2=>?_,by simp[jz]⟩
 ·rcases hf with h| ⟨t,ht,_⟩
  ·simp[Value.ownBlock] at h
  ·cases ht
 ·rw[hb2];exact lj hb'
theorem aqb{w:World}{hb:Nat}{O:Nat->Prop}{c:CT}(H:Hp w hb O c)(hlen:c.length < 1000000)(k a:Int){K:KV}
  (h: ∀w' O',Hp w' hb O' (pa c k a)->Fr O w w'->(∀b,O' b->O b\/w.heap.size<=b)->K (.tuple #[]) w'):jo P F.cp [yx hb,.int .u64 k,.int .u64 a] w K:=by
 obtain⟨v,mv,its,hI,hp,h1,h2,h3⟩:=H.ex
 obtain⟨c0,c1⟩:=uk hI.hl.blk
 apply M.az.calls
 unfold M.az
 rcases hI.mp with⟨rfl,rfl⟩|⟨r,m,rfl,hm,hmn,hm2,hm3⟩
 ·have hc:c=[]:=hp.symm.eq_nil
  subst hc
  have hblt:=lj hI.hl.blk
  have ff:=lk hI.hl.blk 1
  simp[yx,c1]
  rw[zn]
  generalize hw1:w.alloc (.map #[] 0)=w1
  have hs1:w1.heap.size=w.heap.size+1:=by rw[<-hw1,jc]
  have hb1:w1.heap[hb]? =some (hbk v (.map none)):=by rw[<-hw1,iw,if_neg (by omega)];exact hI.hl.blk
  obtain⟨d0,d1⟩:=uk hb1
  have ff1:=lk hb1 1
  simp[d1,ff1]
  generalize hw2:w1.setCell ⟨hb,1,none⟩ (.map (some w.heap.size))=w2
  have hb2:w2.heap[hb]? =some (hbk v (.map (some w.heap.size))):=by rw[<-hw2];exact bdc hb1
  have hf2:Fr O w w2:=by
   rw[<-hw2,<-hw1]
   exact ((Fr.refl O w).alloc _).setCell (.inl h1) _ _
  have hs2:w2.heap.size=w.heap.size+1:=by rw[<-hw2,wq,hs1]
  have hm':kx w2 w.heap.size .u64 []:=by
   refine (ym w .u64).of_heap ?_
   rw[<-hw2,jv (by omega),hw1]
  have hne: ∀b,fpL v ([]:List It) b->b≠hb:=fun b hf=>by
   rcases hf with hg| ⟨t,ht,_⟩
   ·obtain⟨cap,cur,_,_,hgb,_⟩:=mq hI.hl.row hg
    exact la hgb hI.hl.blk (by first|decide|exact HE.n1|exact HE.n2|exact HE.n1.symm|exact HE.n2.symm)
   ·cases ht
  have H2:HL w2 hb v (.map (some w.heap.size)) []:=hI.hl.apz hb2 fun b hf=>by
   have hlt:=akx hI.hl hf
   rw[<-hw2,jv (Ne.symm (hne b hf)),<-hw1,iw,if_neg (by omega)]
  refine arl (O:=fun b=>O b\/b=w.heap.size) ⟨H2,hI.hh,hI.nd,.inr ⟨_,_,rfl,hm',by simp[jm],fun t ht=>(by cases ht),fun _ _=>rfl⟩⟩ hm' (by simp[jm]) (fun t ht=>(by cases ht)) (fun _ _=>rfl) hp (.inl h1) (fun b hf=> .inl (h2 b hf)) (.inr rfl) (fun b hb'=>?_) H.nd hlen k a fun w3 O3 H3 hf3 hO3=>?_
  ·rcases hb' with hb'|hb'
   ·have:=H.lt b hb';omega
   ·omega
  ·refine h w3 O3 H3 (hf2.jt hf3 fun b hlt hb'=>?_) fun b hb'=>?_
   ·rcases hb' with hb'|hb'
    ·exact hb'
    ·omega
   ·rcases hO3 b hb' with (hb'|hb')|hb'
    ·exact .inl hb'
    ·exact .inr (by omega)
    ·exact .inr (by omega)
 ·simp[yx,c1]
  exact arl hI hm hmn hm2 hm3 hp h1 h2 (h3 r rfl) H.lt H.nd hlen k a h
theorem api{w:World}{hb:Nat}{O:Nat->Prop}{c:CT}(H:Hp w hb O c)(hlen:c.length < 1000000)(k a:Int)(hk:vc c k=some a){K:KV}(h: ∀w',Hp w' hb O (qm c k)->Fr O w w'->K (.bool true) w'):jo P F.dg [yx hb,.int .u64 k] w K:=by
 obtain⟨v,mv,its,hI,hp,h1,h2,h3⟩:=H.ex
 have hl:c.length=its.length:=by rw[<-hp.length_eq];simp
 obtain⟨c0,c1⟩:=uk hI.hl.blk
 apply M.ck.calls
 unfold M.ck M.ck.j0 yx
 obtain⟨r,m,rfl,hm,hmn,hm2,hm3⟩: ∃r m,mv= .map (some r)/\kx w r .u64 m/\(jm m).Nodup/\(∀t∈its,ki m t.k=some t.ptr)/\∀k,(∀t∈its,t.k≠k)->ki m k=none:=by
  rcases hI.mp with⟨_,rfl⟩|hx
  ·have hc:c=[]:=hp.symm.eq_nil
   subst hc
   simp[vc] at hk
  ·exact hx
 obtain⟨t,ht,hta⟩:=List.mem_map.1 (hp.mem_iff.2 (bby hk))
 obtain⟨rfl,rfl⟩:t.k=k/\t.a=a:=by simpa [It.pr] using hta
 obtain⟨i,hi⟩:=List.mem_iff_getElem?.1 ht
 have hil:=(List.getElem?_eq_some_iff.1 hi).1
 obtain⟨t0,t1,t2⟩:=xh (hI.hl.itm i t hi)
 have hg:(ki m t.k).getD (.pointer none)= .pointer (some ⟨t.p,0,none⟩):=by rw[hm2 t ht];rfl
 simp[c1]
 rw[ta mt.o hm,hg]
 simp[c1]
 rw[ta mt.o (hm.of_heap (w':=dr w 1) rfl),hg]
 simp[t2]
 rw[M.fe.fcall]
 have hAt:At its i=t:=atn hi
 refine azv (hI.hl.dr 1) (by omega) hil hI.hh fun w1 v1 its1 H1 hp1 hh1 hf1 hv1=>?_
 rw[hAt] at hp1
 have hf1':Fr (fun b=>fpL v its b\/b=hb) w w1:=⟨hf1.size,hf1.jf,hf1.tape,hf1.os,hf1.output⟩
 have hm1:kx w1 r .u64 m:=hm.of_heap (hf1'.jf r hm.lt fun hf=>uq hI.hl hm hf rfl)
 obtain⟨d0,d1⟩:=uk H1.blk
 simp[d1]
 refine apj mt.o hm1 t.k _ _ _ fun o hm2'=>?_
 generalize hw2:World.setObj w1 r o=w2 at hm2'
 have hrlt:r < w1.heap.size:=hm1.lt
 have hf2:Fr (fun b=>b=r) w1 w2:=by rw[<-hw2];exact (Fr.refl (fun b=>b=r) w1).setObj (.inl rfl) _
 have H2:HL w2 hb v1 (.map (some r)) its1:=H1.jf hf2 (uq H1 hm1 (.inr rfl)) fun b hf=>uq H1 hm1 (.inl hf)
 have hmem: ∀u,u∈its1->u∈its:=fun u hu=>hp1.mem_iff.1 (List.mem_cons_of_mem _ hu)
 have hnd1:((t :: its1).map (·.k)).Nodup:=((hp1.map _).nodup_iff).2 hI.nd
 rw[List.map_cons,List.nodup_cons] at hnd1
 have hne: ∀u∈its1,t.k≠u.k:=fun u hu h=>hnd1.1 (by rw[h];exact List.mem_map.2 ⟨u,hu,rfl⟩)
 have hfr:Fr O w w2:=(hf1'.mono fun b _ hb'=>by
  rcases hb' with hb'|rfl
  ·exact h2 b hb'
  ·exact h1).jt hf2 fun b _ hb'=>by rw[hb'];exact h3 r rfl
 refine h w2 ⟨⟨v1,.map (some r),its1,⟨H2,hh1,hnd1.2,.inr ⟨r,_,rfl,hm2',?_,fun u hu=>?_,fun k' hk'=>?_⟩⟩,?_,h1,fun b hf=>?_,h3⟩,fun b hb'=>Nat.lt_of_lt_of_le (H.lt b hb') hfr.size,akr H.nd _⟩ hfr
 ·rw[zg];exact hmn.erase _
 ·rw[yr _ _ _ (hne u hu)];exact hm2 u (hmem u hu)
 ·by_cases hkk:t.k=k'
  ·subst hkk;exact aej _ _ hmn
  ·rw[yr _ _ _ hkk]
   refine hm3 k' fun u hu huk=>?_
   rcases List.mem_cons.1 (hp1.mem_iff.2 hu) with rfl|hu'
   ·exact hkk huk
   ·exact hk' u hu' huk
 ·refine bdg H.nd (a:=t.a) ?_
  exact (hp1.map It.pr).trans hp
 ·rcases hf with hg'| ⟨u,hu,hpu⟩
  ·exact h2 b (.inl (hv1 ▸ hg'))
  ·exact h2 b (.inr ⟨u,hmem u hu,hpu⟩)
end Go.Proofs.YtgepcfcicngceaaGreatDoor
set_option maxRecDepth 100000
namespace Go.Proofs.YtgepcfcicngceaaGreatDoor
open Go.Eng
variable [HE]
def awl:Value->Nat
 | .slice _ n _=>n
 | _=>0
def xy(l:List Int):List Value:=l.map (Value.int .u64)
def bmg(w:World)(hb:Nat)(O:Nat->Prop)(c:CT)(now:Int):KL:=fun x w1=> ∃(out:List Int)(c1:CT)(v:Value),x=[gv x 0,gv x 1,gv x 2,v]/\Hp w1 hb O c1/\w1.ownsRow w.heap.size T.a 1 v out.length (xy out)/\
 out ++ nk c1 now=nk c now/\(ug c1 now).Perm (ug c now)/\out.length+c1.length=c.length/\Fr O w w1
omit [HE] in
theorem ano{w:World}{base e n:Nat}{v:Value}{xs:List Value}(h:w.ownsRow base e 1 v n xs):awl v=n:=by
 rcases h.2 with⟨rfl,rfl⟩|⟨g,cap,cur,rfl,_⟩ <;>rfl
theorem bke{w:World}{hb:Nat}{O:Nat->Prop}{c:CT}(H:Hp w hb O c)(hlen:c.length < 1000000)(now:Int){K:KV}
  (h: ∀w' v,Hp w' hb O (ug c now)->w'.ownsRow w.heap.size T.a 1 v (nk c now).length (xy (nk c now))->Fr O w w'->K v w'):jo P F.ej [yx hb,.int .u64 now] w K:=by
 apply M.cx.calls
 unfold M.cx
 refine⟨bmg w hb O c now,fun x _=>c.length - awl (gv x 3),⟨[],c,.slice none 0 0,rfl,H,World.ownsRow_nil _ _ _ _,rfl,List.Perm.refl _,by simp,Fr.refl _ _⟩,?_⟩
 rintro x w1 ⟨out,c1,v,hx,H1,hr1,hd1,hc1,hl1,hf1⟩
 rw[hx]
 have hsl:=ano hr1
 unfold M.cx.j0
 rw[M.cp.fcall]
 have ir: ∀w2,Hp w2 hb O c1->Fr O w w2->w2.ownsRow w.heap.size T.a 1 v out.length (xy out)->(∀q∈c1,now < q.2)->K v w2:=fun w2 H2 hf2 hr2 hall=>by
  rw[ban hall,List.append_nil] at hd1
  rw[axd hall] at hc1
  refine h w2 v (H2.congr hc1) ?_ hf2
  rw[<-hd1];exact hr2
 refine big H1 (by omega) (fun h0=>?_) fun k a hka hmin=>?_
 ·simp
  exact ir w1 H1 hf1 hr1 (by rw[h0];intro q hq;cases hq)
 ·have H1':Hp (dr w1 1) hb O c1:=H1.jf ((Fr.refl (fun _=>False) w1).dr 1) fun _ _ h=>h
  have hr1':(dr w1 1).ownsRow w.heap.size T.a 1 v out.length (xy out):=qr hr1 fun _ _=>rfl
  by_cases hna:now < a
  ·simp[hna]
   refine ir _ H1' (hf1.dr 1) hr1' fun q hq=>?_
   have:=hmin q hq
   simp only[leP,Bool.or_eq_true,Bool.and_eq_true,decide_eq_true_eq] at this
   omega
  ·simp[hna]
   have hs1:=hf1.size
   have hal:=hr1'.alloc (.cells #[.int .u64 k] T.a)
   have hv:v.ownBlock=none\/∃g,v.ownBlock=some g/\w.heap.size<=g:=by
    cases hg:v.ownBlock with
    | none=>exact .inl rfl
    | some g=>
     obtain⟨cap,cur,_,hge,_⟩:=mq hr1 hg
     exact .inr ⟨g,rfl,hge⟩
   refine alo (P:=P) et.g hal (b:=w1.heap.size) (o:=0) (m:=1) (c:=1) (news:=[.int .u64 k]) rfl ?_ ?_ (by omega) (by omega) (by rw[jc];show w.heap.size<=w1.heap.size+1;omega) _ _ ?_
   ·intro j u hj
    cases j with
    | zero=>simp at hj;subst hj;exact (abm (w:=dr w1 1) (n:=w1.heap.size) rfl (0+0)).trans rfl
    | succ j=>simp at hj
   ·intro u hu;simp at hu;subst hu;rfl
   ·intro v2 w2 hr2 hgr _ _
    have hf12:Fr (fun b=>w.heap.size<=b) w1 w2:=(((Fr.refl (fun b=>w.heap.size<=b) w1).dr 1).alloc _).jt (Fr.bfa hgr) fun b _ hb'=>by
     rcases hv with hv| ⟨g,hv,hge⟩
     ·rw[hv] at hb';cases hb'
     ·rw[hv] at hb';cases hb';exact hge
    have H2:Hp w2 hb O c1:=H1.jf hf12 fun b hb' hge=>by have:=H.lt b hb';omega
    rw[M.ck.fcall]
    have amf:vc c1 k=some a:=adw H1.nd hka
    have hperm:((k,a) :: qm c1 k).Perm c1:=by
     obtain⟨i,hi⟩:=List.mem_iff_getElem?.1 hka
     have h1:=apo H1.nd (b:=a) hi
     have h2:c1.set i (k,a)=c1:=by
      refine List.ext_getElem? fun j=>?_
      rw[List.getElem?_set]
      split
      ·rename_i hij;subst hij
       rw[if_pos (List.getElem?_eq_some_iff.1 hi).1,hi]
      ·rfl
     rw[h2] at h1
     exact h1.symm
    have hmin': ∀q∈qm c1 k,leP (k,a) q=true:=fun q hq=>hmin q ((List.mem_filter.1 hq).1)
    refine api H2 (by omega) k a amf fun w3 H3 hf3=>?_
    refine⟨⟨out ++ [k],qm c1 k,v2,rfl,H3,?_,?_,?_,?_,?_⟩,?_⟩
    ·have e1:xy (out ++ [k])=xy out ++ [.int .u64 k]:=by simp[xy]
     rw[e1,List.length_append]
     refine qr hr2 fun g hg=>?_
     obtain⟨cap,cur,_,hge,hgb,_⟩:=mq hr2 hg
     exact hf3.jf g (lj hgb) fun hO=>by have:=H.lt g hO;omega
    ·rw[List.append_assoc,<-hd1,axn hperm hmin' (by omega)];rfl
    ·exact (auq (now:=now) hperm (by omega)).trans hc1
    ·have:=hperm.length_eq
     simp at this⊢;omega
    ·exact (hf1.jt (hf12.mono (S':=fun b=>w.heap.size<=b) fun _ _ h=>h) fun b hlt hge=>by omega).jt hf3 fun b _ hb'=>hb'
    ·have h3:awl v2=out.length+1:=ano hr2
     have:=hperm.length_eq
     simp[gv,hsl,h3] at this⊢
     omega
end Go.Proofs.YtgepcfcicngceaaGreatDoor
set_option maxRecDepth 100000
namespace Go.Proofs.YtgepcfcicngceaaGreatDoor
open Go.Eng
structure Cfg where
 kp:Nat
 kh:Nat
 jn:Int
structure AE where
 t:Int
 l:List Spn
 mj:Bool
structure Ent where
 t:Int
 p:Nat
 v:Value
 l:List Spn
 mj:Bool
def Ent.abs(e:Ent):AE:=⟨e.t,e.l,e.mj⟩
def Ent.ptr(e:Ent):Value:= .pointer (some ⟨e.p,0,none⟩)
abbrev OwS(w:World)(base:Nat)(v:Value)(l:List Spn):Prop:=Ow w base T.i 8 jr v l
abbrev SlS(w:World)(v:Value)(l:List Spn):Prop:=Sl w 8 jr v l
@[reducible] def qt (g : Cfg) (r : Nat) : HE := ⟨T.am, [.int .i64 g.kp, .int .i64 g.kh, .int .u64 g.jn, .map (some r)], by decide, by decide⟩
abbrev HpB(g:Cfg)(r:Nat)(w:World)(hb:Nat)(O:Nat->Prop)(c:CT):Prop:= @Hp (qt g r) w hb O c
structure rl(w:World)(hb:Nat)(g:Cfg)(O:Nat->Prop)(r:Nat)(m:MP)(es:List Ent)(c:CT):Prop where
 hp:HpB g r w hb O c
 mp:kx w r .u64 m
 mn:(jm m).Nodup
 ml:m.length=es.length
 mg: ∀e∈es,ki m e.t=some e.ptr
 mz: ∀k,(∀e∈es,e.t≠k)->ki m k=none
 tn:(es.map Ent.t).Nodup
 pn:(es.map Ent.p).Nodup
 blk: ∀e∈es,w.heap[e.p]? =some (.cells #[e.v,.bool e.mj] T.az (0,0))
 row: ∀e∈es,OwS w 0 e.v e.l
 rn: ∀e∈es,∀e'∈es,∀x,e.v.ownBlock=some x->e'.v.ownBlock=some x->e.t=e'.t
 nr: ¬O r
 np: ∀e∈es,¬O e.p
 nv: ∀e∈es,∀x,e.v.ownBlock=some x->¬O x
 ck:(jz c).Perm (es.map Ent.t)
def fpB(O:Nat->Prop)(r:Nat)(es:List Ent)(b:Nat):Prop:=O b\/b=r\/∃e∈es,e.p=b\/e.v.ownBlock=some b
structure Buf(w:World)(hb:Nat)(g:Cfg)(B:Nat->Prop)(A:List AE)(c:CT):Prop where
 ex: ∃O r m es,A=es.map Ent.abs/\rl w hb g O r m es c/\∀b,fpB O r es b->B b
 lt: ∀b,B b->b < w.heap.size
theorem rl.lt{w:World}{hb:Nat}{g:Cfg}{O:Nat->Prop}{r:Nat}{m:MP}{es:List Ent}{c:CT}(I:rl w hb g O r m es c){b:Nat}(h:fpB O r es b):b < w.heap.size:=by
 rcases h with h|rfl| ⟨e,he,rfl|h⟩
 ·exact @Hp.lt (qt g r) _ _ _ _ I.hp b h
 ·exact I.mp.lt
 ·exact lj (I.blk e he)
 ·exact ((I.row e he).lt h).2
theorem rl.jf{w w':World}{hb:Nat}{g:Cfg}{O:Nat->Prop}{r:Nat}{m:MP}{es:List Ent}{c:CT}{S:Nat->Prop}(I:rl w hb g O r m es c)(hf:Fr S w w')(hd: ∀b,fpB O r es b->¬S b):rl w' hb g O r m es c:=
 {I with
  hp:= @Hp.jf (qt g r) _ _ _ _ _ _ I.hp hf fun b hb=>hd b (.inl hb)
  mp:=I.mp.of_heap (hf.jf r I.mp.lt (hd r (.inr (.inl rfl))))
  blk:=fun e he=>hf.heap (I.blk e he) (hd _ (.inr (.inr ⟨e,he,.inl rfl⟩)))
  row:=fun e he=>(I.row e he).fr hf fun x hx=>hd x (.inr (.inr ⟨e,he,.inr hx⟩))}
theorem Buf.jf{w w':World}{hb:Nat}{g:Cfg}{B:Nat->Prop}{A:List AE}{c:CT}{S:Nat->Prop}(I:Buf w hb g B A c)(hf:Fr S w w')(hd: ∀b,B b->¬S b):Buf w' hb g B A c:=by
 obtain⟨⟨O,r,m,es,hA,I1,hB⟩,lt⟩:=I
 exact⟨⟨O,r,m,es,hA,I1.jf hf fun b hb=>hd b (hB b hb),hB⟩,fun b hb=>Nat.lt_of_lt_of_le (lt b hb) hf.size⟩
theorem rl.heap{w w':World}{hb:Nat}{g:Cfg}{O O':Nat->Prop}{r:Nat}{m:MP}{es:List Ent}{c c':CT}(I:rl w hb g O r m es c)(hf:Fr O w w')(H:HpB g r w' hb O' c')(hO: ∀b,O' b->O b\/w.heap.size<=b)(hk:(jz c').Perm (es.map Ent.t)):rl w' hb g O' r m es c':=
 {I with
  hp:=H
  mp:=I.mp.of_heap (hf.jf r I.mp.lt I.nr)
  blk:=fun e he=>hf.heap (I.blk e he) (I.np e he)
  row:=fun e he=>(I.row e he).fr hf fun x hx=>I.nv e he x hx
  nr:=fun h=>(hO r h).elim I.nr fun h=>by have:=I.mp.lt;omega
  np:=fun e he h=>(hO _ h).elim (I.np e he) fun h=>by have:=lj (I.blk e he);omega
  nv:=fun e he x hx h=>(hO _ h).elim (I.nv e he x hx) fun h=>by have:=((I.row e he).lt hx).2;omega
  ck:=hk}
theorem rl.cells{w:World}{hb:Nat}{g:Cfg}{O:Nat->Prop}{r:Nat}{m:MP}{es:List Ent}{c:CT}(I:rl w hb g O r m es c):
  ik w hb 2=some (.int .i64 g.kp)/\ik w hb 3=some (.int .i64 g.kh)/\ik w hb 4=some (.int .u64 g.jn)/\ik w hb 5=some (.map (some r)):=by
 letI:HE:=qt g r
 obtain⟨v,mv,its,hI,_⟩:=Hp.ex I.hp
 have hb':=hI.hl.blk
 unfold hbk at hb'
 exact⟨by rw[iq hb'];rfl,by rw[iq hb'];rfl,by rw[iq hb'];rfl,by rw[iq hb'];rfl⟩
theorem bje{w:World}(kp kh jn:Int){K:KV}(h0:(kp < 1\/64 < kp\/kh < 1\/16 < kh\/1099511627776 < jn)->K (.tuple #[.pointer none,.int .i64 1]) w)
  (h1: ∀(g:Cfg) w',kp=g.kp->kh=g.kh->jn=g.jn->1<=g.kp->g.kp<=64->1<=g.kh->g.kh<=16->g.jn<=1099511627776->Buf w' (w.heap.size+1) g (fun b=>b=w.heap.size\/b=w.heap.size+1) [] []->Fz w w'->K (.tuple #[.pointer (some ⟨w.heap.size+1,0,none⟩),.int .i64 0]) w'):
  jo P F.fh [.int .i64 kp,.int .i64 kh,.int .u64 jn] w K:=by
 apply M.fl.calls
 unfold M.fl
 simp only[il]
 by_cases a1:kp < 1
 ·simp[a1];exact h0 (.inl a1)
 by_cases a2:64 < kp
 ·simp[a1,a2];exact h0 (.inr (.inl a2))
 by_cases a3:kh < 1
 ·simp[a1,a2,a3];exact h0 (.inr (.inr (.inl a3)))
 by_cases a4:16 < kh
 ·simp[a1,a2,a3,a4];exact h0 (.inr (.inr (.inr (.inl a4))))
 by_cases a5:1099511627776 < jn
 ·simp[a1,a2,a3,a4,a5];exact h0 (.inr (.inr (.inr (.inr a5))))
 simp[a1,a2,a3,a4,a5]
 rw[zn]
 simp
 obtain⟨n,rfl⟩: ∃n:Nat,kp=n:=⟨kp.toNat,by omega⟩
 obtain⟨k,rfl⟩: ∃n:Nat,kh=n:=⟨kh.toNat,by omega⟩
 have hm:=ym w .u64
 refine h1 ⟨n,k,jn⟩ _ rfl rfl rfl (by simp;omega) (by simp;omega) (by simp;omega) (by simp;omega) (by simp;omega) ⟨⟨fun b=>b=w.heap.size+1,w.heap.size,[],[],rfl,⟨?_,?_,by simp[jm],rfl,fun e he=>by (cases he),fun k _=>rfl,by simp,by simp,fun e he=>by (cases he),fun e he=>by (cases he),fun e he=>by (cases he),by omega,fun e he=>by (cases he),fun e he=>by (cases he),by simp[jz]⟩,fun b hb=>?_⟩,fun b hb=>?_⟩ (((Fr.refl _ w).alloc _).alloc _)
 ·refine @Hp.new (qt ⟨n,k,jn⟩ w.heap.size) _ _ ?_
  rw[iw]
  simp
  rfl
 ·exact hm.of_heap (by rw[iw,if_neg (by simp)])
 ·rcases hb with h|h| ⟨e,he,_⟩
  ·exact .inr h
  ·exact .inl h
  ·cases he
 ·simp;omega
set_option maxRecDepth 100000
def aaa(w:World)(b:Nat)(s:Spn):Prop:=w.heap[b]? =some (.cells #[.int .u64 s.je,.int .u64 s.id,.int .u64 s.mr,.int .u64 s.kl,.int .u64 s.len,.string s.kq,.string s.name,.bool s.ol] T.i (0,0))
theorem ald(s:Spn)(w:World)(K:KV):lh P T.i (li s) w K=K (.pointer (some ⟨w.heap.size,0,none⟩)) (w.alloc (.cells #[.int .u64 s.je,.int .u64 s.id,.int .u64 s.mr,.int .u64 s.kl,.int .u64 s.len,.string s.kq,.string s.name,.bool s.ol] T.i)):=by
 rw[tw];rfl
theorem ajq(w:World)(s:Spn):aaa (w.alloc (.cells #[.int .u64 s.je,.int .u64 s.id,.int .u64 s.mr,.int .u64 s.kl,.int .u64 s.len,.string s.kq,.string s.name,.bool s.ol] T.i)) w.heap.size s:=by
 unfold aaa;rw[iw,if_pos rfl]
theorem ql{w:World}{b:Nat}{s:Spn}(h:aaa w b s): ∀k v,(jr s)[k]? =some v->ik w b k=some v:=fun k v hk=>by
 rw[iq h]
 have:(#[.int .u64 s.je,.int .u64 s.id,.int .u64 s.mr,.int .u64 s.kl,.int .u64 s.len,.string s.kq,.string s.name,.bool s.ol]:Array Value)=(jr s).toArray:=rfl
 rw[this];simpa using hk
theorem ldS{w:World}{b i:Nat}{s:Spn}(h: ∀k v,(jr s)[k]? =some v->ik w b (i+k)=some v)(K:KV):ldN P 8 b i w K=K (li s) w:=su (jr s) 8 rfl h K
theorem bfy{w:World}{sb:Nat}(x:Spn){id:Int}(hc:ik w sb 1=some (.int .u64 id))(hlt:sb < w.heap.size){K:KV}(h: ∀w',Fz w w'->K (.bool (decide (x.id=id))) w'):jo P F.ci [li x,.pointer (some ⟨sb,0,none⟩)] w K:=by
 apply M.dj.calls
 unfold M.dj
 rw[ald]
 generalize hwa:w.alloc (.cells #[.int .u64 x.je,.int .u64 x.id,.int .u64 x.mr,.int .u64 x.kl,.int .u64 x.len,.string x.kq,.string x.name,.bool x.ol] T.i)=wa
 have hb:aaa wa w.heap.size x:=by rw[<-hwa];exact ajq w x
 have hf:Fz w wa:=by rw[<-hwa];exact (Fr.refl _ w).alloc _
 have c1:=ql hb 1 _ rfl
 have d1:ik wa sb 1=some (.int .u64 id):=by rw[vl (hf.jf sb hlt fun h=>h)];exact hc
 simp[c1,d1]
 exact h wa hf
def bmr(w:World)(l:List Spn)(id:Int):KL:=fun x w1=> ∃(a b:Value)(i:Nat),x=[a,b,.int .i64 (i:Nat)]/\Fz w w1/\i<=l.length/\∀(j:Nat) s,l[j]? =some s->j < i->s.id≠id
theorem asr{w:World}{v:Value}{l:List Spn}(hs:SlS w v l)(hlen:l.length<=1000000){sb:Nat}{id:Int}(hc:ik w sb 1=some (.int .u64 id))(hlt:sb < w.heap.size){K:KV}
  (h: ∀w',Fz w w'->K (.bool (l.any fun s=>decide (s.id=id))) w'):jo P F.o [v,.func (.func F.ci) [].toArray [.pointer (some ⟨sb,0,none⟩)].toArray] w K:=by
 apply M.aa.calls
 unfold M.aa
 rw[M.l.fcall]
 apply M.l.calls
 unfold M.l
 simp only[il]
 rw[hs.jq (by simp)]
 refine⟨bmr w l id,fun x _=>l.length - ms x 2,⟨_,_,0,rfl,Fr.refl _ _,Nat.zero_le _,fun j k _ h=>by omega⟩,?_⟩
 rintro x w1 ⟨a,b,i,rfl,f1,hi,hz⟩
 have gv2:gv [a,b,.int .i64 (i:Int)] 2= .int .i64 (i:Int):=rfl
 simp only[gv2]
 have hs1:SlS w1 v l:=hs.fr f1 fun _ _ _ h=>h
 by_cases hil:i < l.length
 ·obtain⟨bb,o,cap,rfl,hb,_,hr⟩:=hs1.at hil
  have hw:IntKind.i64.wrap ((i:Int)+1)=((i+1:Nat):Int):=by rw[iy];rfl
  simp[hil]
  unfold M.l.j2
  simp only[il,gv2]
  simp[hil]
  rw[ldS hr]
  have hcv:=M.dj.rcall [] [.pointer (some ⟨sb,0,none⟩)] [li l[i]] w1
  simp only[List.nil_append,List.cons_append] at hcv
  rw[hcv]
  refine bfy l[i] (id:=id) (by rw[vl (f1.jf sb hlt fun h=>h)];exact hc) (Nat.lt_of_lt_of_le hlt f1.size) fun w2 f2=>?_
  by_cases hk:l[i].id=id
  ·simp[hk]
   have:(l.any fun s=>decide (s.id=id))=true:=List.any_eq_true.2 ⟨l[i],List.getElem_mem hil,by simpa using hk⟩
   have hh:=h w2 (f1.trans f2)
   rw[this] at hh;exact hh
  ·simp[hk,hw]
   refine⟨⟨_,_,i+1,rfl,f1.trans f2,by omega,fun j s hj hlt=>?_⟩,by simp[ms,gv];omega⟩
   by_cases hji:j=i
   ·subst hji
    rw[List.getElem?_eq_getElem hil] at hj
    cases hj;exact hk
   ·exact hz j s hj (by omega)
 ·simp[hil]
  have:(l.any fun s=>decide (s.id=id))=false:=by
   rw[List.any_eq_false]
   intro s hs
   obtain⟨j,hj,rfl⟩:=List.mem_iff_getElem.1 hs
   have:=hz j _ (List.getElem?_eq_getElem hj) (by omega)
   simpa using this
  have hh:=h w1 f1
  rw[this] at hh;exact hh
theorem zj{w:World}{r b:Nat}{k:IntKind}{m:MP}(h:kx w r k m){c:Array Value}{e:TypeId}{f:Nat×Nat}(hb:w.heap[b]? =some (.cells c e f)):r≠b:=by
 obtain⟨es,clk,hr,_⟩:=h
 exact fun he=>by rw[he,hb] at hr;cases hr
theorem uf{w:World}{base:Nat}{v:Value}{l:List Spn}(h:OwS w base v l){x:Nat}(hx:v.ownBlock=some x): ∃cur,w.heap[x]? =some (.cells cur T.i (0,0)):=by
 obtain⟨cap,cur,_,_,hb,_⟩:=mq h hx
 exact⟨cur,hb⟩
theorem rl.upd{w w':World}{hb:Nat}{g:Cfg}{O:Nat->Prop}{r:Nat}{m:MP}{es:List Ent}{c:CT}(I:rl w hb g O r m es c){e e':Ent}(he:e∈es)(ht:e'.t=e.t)(hp:e'.p=e.p){S:Nat->Prop}(hf:Fr S w w')(hS: ∀b,S b->b=e.p\/e.v.ownBlock=some b)
  (hbk:w'.heap[e.p]? =some (.cells #[e'.v,.bool e'.mj] T.az (0,0))) (ho:OwS w' 0 e'.v e'.l) (hn: ∀x,e'.v.ownBlock=some x->e.v.ownBlock=some x\/w.heap.size<=x):rl w' hb g O r m (es.map fun x=>if x.t=e.t then e' else x) c:=by
 have inj: ∀x∈es,x.t=e.t->x=e:=fun x hx h=>tm I.tn hx he h
 have hts:(es.map fun x=>if x.t=e.t then e' else x).map Ent.t=es.map Ent.t:=by
  rw[List.map_map]
  refine List.map_congr_left fun x hx=>?_
  show (if x.t=e.t then e' else x).t=x.t
  split
  ·rename_i h;rw[ht,h]
  ·rfl
 have hps:(es.map fun x=>if x.t=e.t then e' else x).map Ent.p=es.map Ent.p:=by
  rw[List.map_map]
  refine List.map_congr_left fun x hx=>?_
  show (if x.t=e.t then e' else x).p=x.p
  split
  ·rename_i h;rw[hp,inj x hx h]
  ·rfl
 have hmem: ∀y∈(es.map fun x=>if x.t=e.t then e' else x),y=e'\/(y∈es/\y.t≠e.t):=fun y hy=>by
  obtain⟨x,hx,rfl⟩:=List.mem_map.1 hy
  split
  ·exact .inl rfl
  ·rename_i h;exact .inr ⟨hx,h⟩
 have nS: ∀x∈es,x.t≠e.t->¬S x.p/\∀b,x.v.ownBlock=some b->¬S b:=fun x hx hne=>by
  refine⟨fun h=>?_,fun b hxb h=>?_⟩
  ·rcases hS _ h with h|h
   ·exact hne (by rw[tm I.pn hx he h])
   ·obtain⟨cur,hc⟩:=uf (I.row e he) h
    exact la hc (I.blk x hx) (by decide) rfl
  ·rcases hS _ h with h|h
   ·obtain⟨cur,hc⟩:=uf (I.row x hx) hxb
    rw[h] at hc
    exact la hc (I.blk e he) (by decide) rfl
   ·exact hne (I.rn x hx e he b hxb h)
 refine⟨@Hp.jf (qt g r) _ _ _ _ _ _ I.hp hf fun b hb h=>?_,I.mp.of_heap (hf.jf r I.mp.lt fun h=>?_),I.mn,by rw[List.length_map];exact I.ml,fun y hy=>?_,fun k hk=>I.mz k fun x hx=>?_,by rw[hts];exact I.tn,by rw[hps];exact I.pn,fun y hy=>?_,fun y hy=>?_,fun y hy y' hy' x h h'=>?_,I.nr,fun y hy=>?_,fun y hy x hx=>?_,by rw[hts];exact I.ck⟩
 ·rcases hS b h with h|h
  ·exact I.np e he (h ▸ hb)
  ·exact I.nv e he b h hb
 ·rcases hS r h with h|h
  ·exact zj I.mp (I.blk e he) h
  ·obtain⟨cur,hc⟩:=uf (I.row e he) h
   exact zj I.mp hc rfl
 ·rcases hmem y hy with rfl| ⟨hy,hne⟩
  ·have:y.ptr=e.ptr:=by unfold Ent.ptr;rw[hp]
   rw[ht,this];exact I.mg e he
  ·exact I.mg y hy
 ·have:(if x.t=e.t then e' else x)∈(es.map fun x=>if x.t=e.t then e' else x):=List.mem_map_of_mem hx
  have h:=hk _ this
  split at h
  ·rename_i h2;rw[ht] at h;rw[h2];exact h
  ·exact h
 ·rcases hmem y hy with rfl| ⟨hy,hne⟩
  ·rw[hp];exact hbk
  ·exact hf.heap (I.blk y hy) (nS y hy hne).1
 ·rcases hmem y hy with rfl| ⟨hy,hne⟩
  ·exact ho
  ·exact (I.row y hy).fr hf (nS y hy hne).2
 ·rcases hmem y hy with h1| ⟨h1,hne⟩ <;>rcases hmem y' hy' with h2| ⟨h2,hne'⟩
  ·rw[h1,h2]
  ·rw[h1,ht]
   rw[h1] at h
   rcases hn x h with h|h
   ·exact (I.rn e he y' h2 x h h')
   ·have:=((I.row y' h2).lt h').2;omega
  ·rw[h2,ht]
   rw[h2] at h'
   rcases hn x h' with h'|h'
   ·exact (I.rn y h1 e he x h h')
   ·have:=((I.row y h1).lt h).2;omega
  ·exact I.rn y h1 y' h2 x h h'
 ·rcases hmem y hy with rfl| ⟨hy,hne⟩
  ·rw[hp];exact I.np e he
  ·exact I.np y hy
 ·rcases hmem y hy with rfl| ⟨hy,hne⟩
  ·rcases hn x hx with h|h
   ·exact I.nv e he x h
   ·intro hO;have:= @Hp.lt (qt g r) _ _ _ _ I.hp x hO;omega
  ·exact I.nv y hy x hx
theorem axo(s:Spn)(w:World)(K:KV):bsT P T.h 1 #[(0,li s)] w K=K (.slice (some ⟨w.heap.size,0,none⟩) 1 1) (w.alloc (.cells #[.int .u64 s.je,.int .u64 s.id,.int .u64 s.mr,.int .u64 s.kl,.int .u64 s.len,.string s.kq,.string s.name,.bool s.ol] T.i)):=by
 unfold li;simp
theorem atp{w:World}{hb:Nat}{g:Cfg}{O:Nat->Prop}{r:Nat}{m:MP}{es:List Ent}{c:CT}(I:rl w hb g O r m es c){e:Ent}(he:e∈es)(hlen:e.l.length<=1000){sb:Nat}{s:Spn}(hbx:aaa w sb s){x2:List Value}(h3:gv x2 3=e.ptr){K:KV}
  (h: ∀w' v',rl w' hb g O r m (es.map fun x=>if x.t=e.t then {e with v:=v',l:=e.l ++ [s]} else x) c->Fr (fun b=>b=e.p\/e.v.ownBlock=some b) w w'->(∀x,v'.ownBlock=some x->e.v.ownBlock=some x\/w.heap.size<=x)->K (.int .i64 0) w'):M.ai.j2 x2 (.pointer (some ⟨sb,0,none⟩)) w K:=by
 unfold M.ai.j2
 have e1:e.ptr= .pointer (some ⟨e.p,0,none⟩):=rfl
 have hbk:=I.blk e he
 obtain⟨c0,c1⟩:=aca hbk
 simp only[pz,h3,e1,vu]
 have hS:=ql hbx
 have hld: ∀(n:Nat)(K:KV),ldN P 8 sb 0 (dr w n) K=K (li s) (dr w n):=fun n K=>ldS (fun k v hk=>by rw[Nat.zero_add];exact hS k v hk) K
 simp[c0,hld]
 rw[axo]
 generalize hwa:(dr w 1).alloc (.cells #[.int .u64 s.je,.int .u64 s.id,.int .u64 s.mr,.int .u64 s.kl,.int .u64 s.len,.string s.kq,.string s.name,.bool s.ol] T.i)=wa
 have hfa:Fz w wa:=by rw[<-hwa];exact ((Fr.refl _ w).dr 1).alloc _
 have hlit:SlS wa (.slice (some ⟨w.heap.size,0,none⟩) 1 1) [s]:=by
  have:=Sl.one (w:=dr w 1) (w':=wa) (x:=s) (enc:=jr) (sz:=8) hwa.symm rfl
  exact this
 have hbka:=hfa.heap hbk fun h=>h
 obtain⟨d0,d1⟩:=aca hbka
 have hld1: ∀K,ld1 P e.p 0 wa K=K e.v wa:=fun K=>akk d0 K
 rw[hld1]
 refine⟨⟨rfl,rfl⟩,?_⟩
 have hsz:=hfa.size
 refine zc et.h oe ph ((I.row e he).fr hfa fun _ _ h=>h) hlit (by simp;omega) (by decide) (Nat.zero_le _) _ fun v3 w3 o3 f3 g3=>?_
 have hep: ∀x,e.v.ownBlock=some x->e.p≠x:=fun x hx hpx=>by
  obtain⟨cur,hc⟩:=uf (I.row e he) hx
  rw[<-hpx] at hc
  exact la hc hbk (by decide) rfl
 have hbk3:=f3.heap hbka fun h=>hep _ h rfl
 have f13:Fr (fun b=>b=e.p\/e.v.ownBlock=some b) w w3:=(hfa.mono fun _ _ h=>h.elim).jt f3 fun b _ h=> .inr h
 have hn3: ∀x,v3.ownBlock=some x->e.v.ownBlock=some x\/w.heap.size<=x:=fun x hx=>by
  rcases g3 with g3| ⟨y,e1,e2⟩
  ·rw[hx] at g3;exact .inl g3.symm
  ·rw[hx] at e1;cases e1;exact .inr (by omega)
 obtain⟨a3,cap3,hv3,_⟩:=o3.len
 have k0:(ik w3 e.p 0).isSome=true:=by rw[iq hbk3];rfl
 have kf:=lk hbk3 0
 have hst: ∀K1:KV,K1 undef (w3.setCell ⟨e.p,0,none⟩ v3)->stT P T.h (.pointer (some ⟨e.p,0,none⟩)) v3 w3 K1:=fun K1 hk=>by
  subst hv3
  simpa [k0,kf] using hk
 refine hst _ (h _ v3 (I.upd he (e':={e with v:=v3,l:=e.l ++ [s]}) rfl rfl (f13.setCell (.inl (.inl rfl)) 0 v3) (fun b h=>h) ?_ ?_ hn3) (f13.setCell (.inl (.inl rfl)) 0 v3) hn3)
 ·rw[mh hbk3];rfl
 ·refine o3.jf fun x hx=>?_
  rw[jv]
  intro hpx
  obtain⟨_,cur,_,_,hc,_⟩:=mq o3 hx
  rw[<-hpx] at hc
  exact la hc hbk3 (by decide) rfl
theorem rl.bdn{w:World}{hb:Nat}{g:Cfg}{O:Nat->Prop}{r:Nat}{m:MP}{es:List Ent}{c:CT}(I:rl w hb g O r m es c)(k:Int):(ki m k=none/\∀e∈es,e.t≠k)\/∃e∈es,e.t=k/\ki m k=some e.ptr:=by
 by_cases h: ∃e∈es,e.t=k
 ·obtain⟨e,he,rfl⟩:=h
  exact .inr ⟨e,he,rfl,I.mg e he⟩
 ·have: ∀e∈es,e.t≠k:=fun e he hk=>h ⟨e,he,hk⟩
  exact .inl ⟨I.mz k this,this⟩
theorem rl.push{w w':World}{hb:Nat}{g:Cfg}{O O':Nat->Prop}{r:Nat}{m m':MP}{es:List Ent}{c:CT}(I:rl w hb g O r m es c){k a:Int}{p:Nat}(hk: ∀e∈es,e.t≠k)(hH:HpB g r w' hb O' (pa c k a))(hO: ∀b,O' b->O b\/w.heap.size < b)(hp:p=w.heap.size)
  (hm:kx w' r .u64 m') (hme:m'=ub m k (.pointer (some ⟨p,0,none⟩))) {S:Nat->Prop} (hf:Fr S w w') (hS: ∀b,S b->O b\/b=r) (hbk:w'.heap[p]? =some (.cells #[.slice none 0 0,.bool false] T.az (0,0))):rl w' hb g O' r m' (es ++ [⟨k,p,.slice none 0 0,[],false⟩]) (pa c k a):=by
 have hgn:ki m k=none:=I.mz k hk
 have hkn:k∉jm m:=(pe _ _).1 hgn
 have hkeys:jm m'=jm m ++ [k]:=by rw[hme,abn,if_neg hkn]
 have amf: ∀y,ki m' y=if k=y then some (.pointer (some ⟨p,0,none⟩)) else ki m y:=fun y=>by rw[hme,aas]
 have nSp: ∀e∈es,¬S e.p:=fun e he h=>by
  rcases hS _ h with h|h
  ·exact I.np e he h
  ·exact zj I.mp (I.blk e he) h.symm
 have nSv: ∀e∈es,∀x,e.v.ownBlock=some x->¬S x:=fun e he x hx h=>by
  rcases hS _ h with h|h
  ·exact I.nv e he x hx h
  ·obtain⟨cur,hc⟩:=uf (I.row e he) hx
   exact zj I.mp hc h.symm
 have ltp: ∀e∈es,e.p < w.heap.size:=fun e he=>lj (I.blk e he)
 have hmem: ∀y∈es ++ [(⟨k,p,.slice none 0 0,[],false⟩:Ent)],y∈es\/y=⟨k,p,.slice none 0 0,[],false⟩:=fun y hy=>by
  rcases List.mem_append.1 hy with h|h
  ·exact .inl h
  ·exact .inr (by simpa using h)
 refine⟨hH,hm,by rw[hkeys,List.nodup_append];exact⟨I.mn,by simp,fun x hx y hy hxy=>by simp at hy;subst hy;exact hkn (hxy ▸ hx)⟩,?_,fun y hy=>?_,fun y hy=>?_,?_,?_,fun y hy=>?_,fun y hy=>?_,fun y hy y' hy' x h h'=>?_,fun h=>?_,fun y hy h=>?_,fun y hy x hx h=>?_,?_⟩
 ·have h1:(jm m').length=m'.length:=by simp[jm]
  have h2:(jm m).length=m.length:=by simp[jm]
  rw[<-h1,hkeys,List.length_append,h2,I.ml,List.length_append];rfl
 ·rw[amf]
  rcases hmem y hy with h|rfl
  ·rw[if_neg fun he=>hk y h he.symm];exact I.mg y h
  ·rw[if_pos rfl];rfl
 ·rw[amf]
  rw[if_neg fun he=>hy ⟨k,p,.slice none 0 0,[],false⟩ (by simp) he]
  exact I.mz y fun e he=>hy e (by simp[he])
 ·rw[List.map_append,List.nodup_append]
  refine⟨I.tn,by simp,fun x hx y hy hxy=>?_⟩
  obtain⟨e,he,rfl⟩:=List.mem_map.1 hx
  simp at hy;subst hy
  exact hk e he hxy
 ·rw[List.map_append,List.nodup_append]
  refine⟨I.pn,by simp,fun x hx y hy hxy=>?_⟩
  obtain⟨e,he,rfl⟩:=List.mem_map.1 hx
  simp at hy;subst hy
  have:=ltp e he;omega
 ·rcases hmem y hy with h|rfl
  ·exact hf.heap (I.blk y h) (nSp y h)
  ·exact hbk
 ·rcases hmem y hy with h|rfl
  ·exact (I.row y h).fr hf (nSv y h)
  ·exact Ow.none
 ·rcases hmem y hy with h1|rfl <;>rcases hmem y' hy' with h2|rfl
  ·exact I.rn y h1 y' h2 x h h'
  ·simp[Value.ownBlock] at h'
  ·simp[Value.ownBlock] at h
  ·rfl
 ·rcases hO r h with h|h
  ·exact I.nr h
  ·have:=I.mp.lt;omega
 ·rcases hmem y hy with h1|rfl
  ·rcases hO _ h with h|h
   ·exact I.np y h1 h
   ·have:=ltp y h1;omega
  ·rcases hO _ h with h|h
   ·have:= @Hp.lt (qt g r) _ _ _ _ I.hp _ h;simp at this;omega
   ·simp at h;omega
 ·rcases hmem y hy with h1|rfl
  ·rcases hO _ h with h|h
   ·exact I.nv y h1 x hx h
   ·have:=((I.row y h1).lt hx).2;omega
  ·simp[Value.ownBlock] at hx
 ·have hkc:k∉jz c:=fun h=>by
   obtain⟨e,he,h2⟩:=List.mem_map.1 (I.ck.mem_iff.1 h)
   exact hk e he h2
  have:pa c k a=(k,a) :: c:=by unfold pa;rw[aax hkc]
  rw[this,List.map_append]
  show (k :: jz c).Perm (es.map Ent.t ++ [k])
  exact (I.ck.cons k).trans (List.perm_append_comm (l₁:=[k]))
theorem aya{w:World}{hb:Nat}{g:Cfg}{O:Nat->Prop}{r:Nat}{c:CT}(H:HpB g r w hb O c):
  ik w hb 2=some (.int .i64 g.kp)/\ik w hb 3=some (.int .i64 g.kh)/\ik w hb 4=some (.int .u64 g.jn)/\ik w hb 5=some (.map (some r)):=by
 letI:HE:=qt g r
 obtain⟨v,mv,its,hI,_⟩:=Hp.ex H
 have hb':=hI.hl.blk
 unfold hbk at hb'
 exact⟨by rw[iq hb'];rfl,by rw[iq hb'];rfl,by rw[iq hb'];rfl,by rw[iq hb'];rfl⟩
def aoo(g:Cfg)(now:Int):Int:=now+min g.jn (18446744073709551615 - now)
def aou(A:List AE)(k:Int)(s:Spn):List AE:=A.map fun x=>if x.t=k then ⟨x.t,x.l ++ [s],x.mj⟩ else x
def akb(A:List AE)(k:Int):List AE:=A.map fun x=>if x.t=k then ⟨x.t,x.l,true⟩ else x
theorem axg{w:World}{hb:Nat}{g:Cfg}{B:Nat->Prop}{A:List AE}{c:CT}(I:Buf w hb g B A c)(hA:A.length<=1000)(hl: ∀e∈A,e.l.length<=1000)(s:Spn){now:Int}(hnow:0<=now/\now<=18446744073709551615)(hwt:0<=g.jn){K:KV}
  (h1:kv s≠0->∀w',Buf w' hb g B A c->Fz w w'->K (.int .i64 (kv s)) w')
  (h2:kv s=0->(∀e∈A,e.t≠s.je)->g.kp<=A.length->∀w',Buf w' hb g B A c->Fz w w'->K (.int .i64 8) w')
  (h3:kv s=0->(∀e∈A,e.t≠s.je)->A.length < g.kp->∀w' B',Buf w' hb g B' (A ++ [⟨s.je,[s],false⟩]) (pa c s.je (aoo g now))->Fr B w w'->(∀b,B' b->B b\/w.heap.size<=b)->K (.int .i64 0) w')
  (h4:kv s=0->∀e∈A,e.t=s.je->(e.l.any fun x=>decide (x.id=s.id))=true->∀w',Buf w' hb g B A c->Fz w w'->K (.int .i64 0) w')
  (h5:kv s=0->∀e∈A,e.t=s.je->(e.l.any fun x=>decide (x.id=s.id))=false->g.kh<=e.l.length->∀w',Buf w' hb g B (akb A s.je) c->Fr B w w'->K (.int .i64 9) w')
  (h6:kv s=0->∀e∈A,e.t=s.je->(e.l.any fun x=>decide (x.id=s.id))=false->e.l.length < g.kh->∀w' B',Buf w' hb g B' (aou A s.je s) c->Fr B w w'->(∀b,B' b->B b\/w.heap.size<=b)->K (.int .i64 0) w'):
  jo P F.cc [.pointer (some ⟨hb,0,none⟩),li s,.int .u64 now] w K:=by
 apply M.ai.calls
 unfold M.ai
 rw[ald]
 generalize hwa:w.alloc (.cells #[.int .u64 s.je,.int .u64 s.id,.int .u64 s.mr,.int .u64 s.kl,.int .u64 s.len,.string s.kq,.string s.name,.bool s.ol] T.i)=wa
 have hbx:aaa wa w.heap.size s:=by rw[<-hwa];exact ajq w s
 have hfa:Fz w wa:=by rw[<-hwa];exact (Fr.refl _ w).alloc _
 simp only[il]
 simp
 unfold M.ai.j0
 simp only[il]
 simp
 rw[ldS (b:=w.heap.size) (i:=0) (s:=s) (fun k v hk=>by rw[Nat.zero_add];exact ql hbx k v hk),M.dn.fcall]
 refine afm s fun w2 fr2=>?_
 have F2:=hfa.trans fr2
 have hbx2:aaa w2 w.heap.size s:=fr2.heap hbx fun h=>h
 have I2:=I.jf F2 fun _ _ h=>h
 by_cases hr:kv s=0
 ·simp[hr]
  unfold M.ai.j1
  obtain⟨⟨O,r,m,es,hAe,J,hB⟩,hlt⟩:=I2
  obtain⟨q2,q3,q4,q5⟩:=J.cells
  have t0:=ql hbx2 0 _ rfl
  have t1:=ql hbx2 1 _ rfl
  simp[q5,t0]
  have mp1:kx (dr w2 1) r .u64 m:=J.mp.of_heap rfl
  have mp2:kx (dr (dr w2 1) 1) r .u64 m:=J.mp.of_heap rfl
  have hlenm: ∀K,biT P .len #[T.j] T.d [false] [.map (some r)] (dr (dr w2 1) 1) K=K (.int .i64 m.length) (dr (dr w2 1) 1):=fun K=>adk mt.j mp2 _ K
  have hAl:A.length=m.length:=by rw[hAe,List.length_map,J.ml]
  rw[ta mt.j mp1]
  have fd:Fz w2 (dr (dr w2 1) 1):=((Fr.refl _ w2).dr 1).dr 1
  have Id:Buf (dr (dr w2 1) 1) hb g B A c:=Buf.jf ⟨⟨O,r,m,es,hAe,J,hB⟩,hlt⟩ fd fun _ _ h=>h
  have tA:(∀e∈es,e.t≠s.je)->∀e∈A,e.t≠s.je:=fun h e he=>by
   rw[hAe] at he
   obtain⟨x,hx,rfl⟩:=List.mem_map.1 he
   exact h x hx
  rcases J.bdn s.je with⟨hmn,hne⟩|⟨e,he,het,hme⟩
  ·rw[hmn]
   by_cases hfull:g.kp<=m.length
   ·have hfull':(g.kp:Int)<=m.length:=by omega
    simp[q5,q2,hlenm,hfull]
    exact h2 hr (tA hne) (by omega) _ Id (F2.trans fd)
   ·have hfull': ¬(g.kp:Int)<=m.length:=by omega
    simp[q5,q2,hlenm,hfull]
    generalize hw3:dr ((dr (dr w2 1) 1).alloc (.cells #[.slice none 0 0,.bool false] T.az)) 1=w3
    have fr3:Fz w2 w3:=by rw[<-hw3];exact (fd.alloc _).dr 1
    have hb3:w3.heap[w2.heap.size]? =some (.cells #[.slice none 0 0,.bool false] T.az (0,0)):=by
     rw[<-hw3,aeq,iw];simp
    have sz3:w3.heap.size=w2.heap.size+1:=by rw[<-hw3];simp
    have J3:=J.jf fr3 fun _ _ h=>h
    have hbx3:aaa w3 w.heap.size s:=fr3.heap hbx2 fun h=>h
    obtain⟨_,_,_,r5⟩:=J3.cells
    have u0:=ql hbx3 0 _ rfl
    simp[r5,u0]
    refine akn mt.j J3.mp _ _ _ fun o hm4=>?_
    have hr3:=J3.mp.lt
    have f4:Fr (fun b=>b=r) w3 (World.setObj w3 r o):=(Fr.refl (fun b=>b=r) w3).setObj (.inl rfl) o
    have sz4:(World.setObj w3 r o).heap.size=w3.heap.size:=aec w3 r o
    generalize hw4:World.setObj w3 r o=w4 at *
    have H4:HpB g r w4 hb O c:= @Hp.jf (qt g r) _ _ _ _ _ _ J3.hp f4 fun b hb h=>J.nr (h ▸ hb)
    have hrs:r≠w.heap.size:=zj J3.mp hbx3
    have hbx4:aaa w4 w.heap.size s:=f4.heap hbx3 fun h=>hrs h.symm
    obtain⟨_,_,s4,_⟩:=aya H4
    have u4:=ql hbx4 0 _ rfl
    have hw1:IntKind.u64.wrap (18446744073709551615 - now)=18446744073709551615 - now:=lr (by omega) (by omega)
    have hw2:IntKind.u64.wrap (now+min g.jn (18446744073709551615 - now))=aoo g now:=lr (by omega) (by omega)
    simp[s4,u4,hw1,hw2]
    rw[M.az.fcall]
    have hcl:c.length=m.length:=by
     have:=J.ck.length_eq
     simp[jz] at this
     rw[this,J.ml]
    have H4d:HpB g r (dr w4 1) hb O c:= @Hp.jf (qt g r) _ _ _ _ (fun _=>False) _ H4 ((Fr.refl _ w4).dr 1) fun _ _ h=>h
    refine @aqb (qt g r) _ _ _ _ H4d (by omega) _ _ _ fun w5 O5 H5 f5 p5=>?_
    have f5':Fr O w4 w5:=⟨f5.size,f5.jf,f5.tape,f5.os,f5.output⟩
    have p5': ∀b,O5 b->O b\/w2.heap.size < b:=fun b hb=>(p5 b hb).imp id fun h=>by simp[aeq] at h;omega
    have hOB: ∀b,O b->B b:=fun b hb=>hB b (.inl hb)
    have hnO: ¬O w.heap.size:=fun h=>by have:=I.lt _ (hOB _ h);omega
    have hnp: ¬O w2.heap.size:=fun h=>by have:= @Hp.lt (qt g r) _ _ _ _ J.hp _ h;omega
    have hrlt:=J.mp.lt
    have J5:=J.push (O':=O5) (k:=s.je) (a:=aoo g now) (p:=w2.heap.size) (m':=ub m s.je (.pointer (some ⟨w2.heap.size,0,none⟩))) (w':=w5) (S:=fun b=>O b\/b=r) hne H5 p5' rfl (hm4.of_heap (f5'.jf r (by omega) J.nr)) rfl
     ((((fr3.mono fun _ _ h=>h.elim).jt f4 fun b _ h=> .inr h)).jt f5' fun b _ h=> .inl h) (fun b h=>h) (f5'.heap (f4.heap hb3 fun h=>by omega) hnp)
    have hbx5:aaa w5 w.heap.size s:=f5'.heap hbx4 hnO
    refine atp J5 (e:=⟨s.je,w2.heap.size,.slice none 0 0,[],false⟩) (by simp) (by simp) hbx5 rfl fun w6 v6 J6 f6 n6=>?_
    have hs2:=F2.size
    have hs5:=f5'.size
    have hs6:=f6.size
    have hes:(es ++ [(⟨s.je,w2.heap.size,.slice none 0 0,[],false⟩:Ent)]).map (fun x=>if x.t=s.je then ⟨s.je,w2.heap.size,v6,[] ++ [s],false⟩ else x)=es ++ [⟨s.je,w2.heap.size,v6,[s],false⟩]:=by
     rw[List.map_append]
     congr 1
     ·conv=>rhs;rw[<-List.map_id es]
      exact List.map_congr_left fun x hx=>by rw[if_neg (hne x hx)];rfl
     ·simp
    rw[hes] at J6
    refine h3 hr (tA hne) (by omega) w6 (fun b=>B b\/(w.heap.size<=b/\b < w6.heap.size)) ⟨⟨O5,r,_,_,by rw[hAe,List.map_append];rfl,J6,fun b hfp=>?_⟩,fun b hb=>?_⟩ ?_ fun b hb=>hb.imp id fun h=>h.1
    ·have hbl:=J6.lt hfp
     rcases hfp with h|rfl| ⟨x,hx,hxb⟩
     ·rcases p5' b h with h|h
      ·exact .inl (hOB b h)
      ·exact .inr ⟨by omega,hbl⟩
     ·exact .inl (hB _ (.inr (.inl rfl)))
     ·rcases List.mem_append.1 hx with hx|hx
      ·exact .inl (hB b (.inr (.inr ⟨x,hx,hxb⟩)))
      ·simp at hx;subst hx
       rcases hxb with h|h
       ·simp at h;exact .inr ⟨by omega,hbl⟩
       ·rcases n6 b h with h|h
        ·simp[Value.ownBlock] at h
        ·exact .inr ⟨by omega,hbl⟩
    ·rcases hb with h|h
     ·have:=I.lt b h;omega
     ·exact h.2
    ·exact (((((F2.mono fun _ _ h=>h.elim).jt fr3 fun b _ h=>h.elim).jt f4 fun b _ h=>h ▸ hB r (.inr (.inl rfl))).jt f5' fun b _ h=>hOB b h)).jt f6 fun b hlt' h=>by
      rcases h with h|h
      ·simp at h;omega
      ·simp[Value.ownBlock] at h
  ·rw[hme]
   have e1:e.ptr= .pointer (some ⟨e.p,0,none⟩):=rfl
   have eA:e.abs∈A:=by rw[hAe];exact List.mem_map_of_mem he
   have hll:e.l.length<=1000:=hl _ eA
   have inj: ∀x∈es,x.t=e.t->x=e:=fun x hx h=>tm J.tn hx he h
   obtain⟨c0,c1⟩:=aca (J.blk e he)
   have hsl:SlS (dr (dr w2 1) 1) e.v e.l:=((J.row e he).sl oe).fr fd fun _ _ _ h=>h
   simp[e1,c0]
   rw[aaj,M.aa.fcall]
   refine asr hsl (by omega) (id:=s.id) t1 (lj hbx2) fun w3 f3=>?_
   have f23:Fz w2 w3:=fd.trans f3
   have J3:=J.jf f23 fun _ _ h=>h
   have I3:Buf w3 hb g B A c:=Id.jf f3 fun _ _ h=>h
   have F3:=F2.trans f23
   cases hany:e.l.any fun x=>decide (x.id=s.id) with
   | true=>
    simp
    exact h4 hr e.abs eA het hany w3 I3 F3
   | false=>
    obtain⟨k0,k1⟩:=aca (J3.blk e he)
    obtain⟨_,_,_,_⟩:=J3.cells
    obtain⟨_,q3',_,_⟩:=J3.cells
    have hsl3:SlS w3 e.v e.l:=(J3.row e he).sl oe
    have hlen3: ∀K,biT P .len #[T.h] T.d [false] [e.v] (dr w3 1) K=K (.int .i64 e.l.length) (dr w3 1):=fun K=>hsl3.jq (by simp) _
    have f3d:Fz w3 (dr w3 1):=(Fr.refl _ w3).dr 1
    by_cases hf:g.kh<=e.l.length
    ·have hf':(g.kh:Int)<=e.l.length:=by omega
     have hbk:=J3.blk e he
     have m1:(ik w3 e.p 1).isSome=true:=by rw[iq hbk];rfl
     have m2:=lk hbk 1
     simp[k0,q3',hlen3,hf,m1,m2]
     have fs:Fr (fun b=>b=e.p) w3 ((dr w3 1).setCell ⟨e.p,1,none⟩ (.bool true)):=((Fr.refl (fun b=>b=e.p) w3).dr 1).setCell (.inl rfl) 1 _
     have J4:=J3.upd he (e':={e with mj:=true}) rfl rfl fs (fun b h=> .inl h) (by rw[mh (w:=dr w3 1) hbk];rfl) ((J3.row e he).fr fs fun x hx h=>by
      obtain⟨cur,hc⟩:=uf (J3.row e he) hx
      rw[h] at hc
      exact la hc hbk (by decide) rfl) fun x hx=> .inl hx
     refine h5 hr e.abs eA het hany hf _ ⟨⟨O,r,m,_,?_,J4,fun b hfp=>?_⟩,fun b hb=>?_⟩ ((F3.mono fun _ _ h=>h.elim).jt fs fun b _ h=>hB b (.inr (.inr ⟨e,he,.inl h.symm⟩)))
     ·rw[hAe,akb,List.map_map,List.map_map]
      refine List.map_congr_left fun x hx=>?_
      show (if x.t=s.je then _ else _)=Ent.abs (if x.t=e.t then _ else x)
      by_cases hxt:x.t=e.t
      ·rw[if_pos hxt,if_pos (by rw[hxt,het]),inj x hx hxt];rfl
      ·rw[if_neg hxt,if_neg (by rw[<-het];exact hxt)]
     ·refine hB b ?_
      rcases hfp with h|h| ⟨x,hx,hxb⟩
      ·exact .inl h
      ·exact .inr (.inl h)
      ·obtain⟨y,hy,rfl⟩:=List.mem_map.1 hx
       by_cases hyt:y.t=e.t
       ·rw[if_pos hyt] at hxb;exact .inr (.inr ⟨e,he,hxb⟩)
       ·rw[if_neg hyt] at hxb;exact .inr (.inr ⟨y,hy,hxb⟩)
     ·have:=hlt b hb;have:=f23.size;have:=fs.size;omega
    ·have hf': ¬(g.kh:Int)<=e.l.length:=by omega
     simp[k0,q3',hlen3,hf]
     have Jd:=J3.jf f3d fun _ _ h=>h
     have hbxd:aaa (dr w3 1) w.heap.size s:=f23.heap hbx2 fun h=>h
     refine atp Jd he hll hbxd rfl fun w6 v6 J6 f6 n6=>?_
     have hs3:=F3.size
     have hs6:=f6.size
     simp only[aeq] at hs6
     refine h6 hr e.abs eA het hany (by simp only[Ent.abs];omega) w6 (fun b=>B b\/(w.heap.size<=b/\b < w6.heap.size)) ⟨⟨O,r,m,_,?_,J6,fun b hfp=>?_⟩,fun b hb=>?_⟩ (((F3.trans f3d).mono fun _ _ h=>h.elim).jt f6 fun b _ h=>?_) fun b hb=>hb.imp id fun h=>h.1
     ·rw[hAe,aou,List.map_map,List.map_map]
      refine List.map_congr_left fun x hx=>?_
      show (if x.t=s.je then _ else _)=Ent.abs (if x.t=e.t then _ else x)
      by_cases hxt:x.t=e.t
      ·rw[if_pos hxt,if_pos (by rw[hxt,het]),inj x hx hxt];rfl
      ·rw[if_neg hxt,if_neg (by rw[<-het];exact hxt)]
     ·have hbl:=J6.lt hfp
      rcases hfp with h|h| ⟨x,hx,hxb⟩
      ·exact .inl (hB b (.inl h))
      ·exact .inl (hB b (.inr (.inl h)))
      ·obtain⟨y,hy,rfl⟩:=List.mem_map.1 hx
       by_cases hyt:y.t=e.t
       ·rw[if_pos hyt] at hxb
        rcases hxb with h|h
        ·exact .inl (hB b (.inr (.inr ⟨e,he,.inl h⟩)))
        ·rcases n6 b h with h|h
         ·exact .inl (hB b (.inr (.inr ⟨e,he,.inr h⟩)))
         ·simp only[aeq] at h;exact .inr ⟨by omega,hbl⟩
       ·rw[if_neg hyt] at hxb;exact .inl (hB b (.inr (.inr ⟨y,hy,hxb⟩)))
     ·rcases hb with h|h
      ·have:=I.lt b h;omega
      ·exact h.2
     ·refine hB b (.inr (.inr ⟨e,he,?_⟩))
      rcases h with h|h
      ·exact .inl h.symm
      ·exact .inr h
 ·have hr': ¬kv s=0:=hr
  simp[hr']
  exact h1 hr w2 I2 F2
@[simp] theorem bzm (P : Program) (v : Value) (w : World) (K : KV) : exT P (.tuple #[v]) 0 w K = K v w := Eq.trans rfl rfl
theorem ais{α:Type}(p:α->Bool): ∀l:List α,(l.filter (fun x=>!p x) ++ l.filter p).Perm l
 | []=> .nil
 | x :: l=>by
  have ih:=ais p l
  cases h:p x with
  | true=>simp only[List.filter_cons,h,Bool.not_true,Bool.false_eq_true,if_false,if_true];exact (List.perm_middle).trans (ih.cons x)
  | false=>simp only[List.filter_cons,h,Bool.not_false,Bool.false_eq_true,if_false,if_true,List.cons_append];exact ih.cons x
def tl(c:CT)(now:Int):CT:=(srt c).filter fun p=>decide (p.2<=now)
theorem ath(c:CT)(now:Int):nk c now=(tl c now).map (·.1):=rfl
theorem afo(c:CT)(now:Int):(ug c now ++ tl c now).Perm c:=by
 have h1:(tl c now).Perm (c.filter fun p=>decide (p.2<=now)):=(vy c).filter _
 have h2:ug c now=c.filter fun p=>!decide (p.2<=now):=by
  unfold ug
  congr 1;funext p
  by_cases h:p.2<=now
  ·have: ¬now < p.2:=by omega
   simp[h,this]
  ·have:now < p.2:=by omega
   simp[h,this]
 rw[h2]
 exact (h1.append_left _).trans (ais _ c)
def bmd(w0:World)(hb:Nat)(g:Cfg)(O:Nat->Prop)(r:Nat)(m:MP)(es:List Ent)(c:CT)(ra it:Nat):KL:=fun _ w1=> ∃(done:List Int)(m2:MP),yc w1 it r .u64 m done/\kx w1 ra .u64 m2/\(∀k∈done,∀a,vc c k=some a->ki m2 k=some (.int .u64 a))/\rl w1 hb g O r m es c/\Fz w0 w1
def bmw(w0:World)(hb:Nat)(g:Cfg)(r:Nat)(m:MP)(es:List Ent)(c:CT)(ra:Nat)(m2:MP)(v:Value)(now:Int)(O0:Nat->Prop):KL:=fun x w1=> ∃(i:Nat)(O:Nat->Prop)(c1:CT),gv x 1= .int .i64 (i:Nat)/\i<=(tl c now).length/\c1.Perm (ug c now ++ (tl c now).take i)/\HpB g r w1 hb O c1/\(∀b,O b->O0 b\/w0.heap.size<=b)/\kx w1 ra .u64 m2/\¬O ra/\
 w1.ownsRow w0.heap.size T.a 1 v (nk c now).length (xy (nk c now))/\(∀x,v.ownBlock=some x->¬O x)/\Fr O0 w0 w1
theorem bij{w:World}{hb:Nat}{g:Cfg}{B:Nat->Prop}{A:List AE}{c:CT}(I:Buf w hb g B A c)(hA:A.length<=1000)(now:Int){K:KV}
  (h: ∀w' v B',Buf w' hb g B' A c->w'.ownsRow w.heap.size T.a 1 v (nk c now).length (xy (nk c now))->(∀x,v.ownBlock=some x->¬B' x)->Fr B w w'->(∀b,B' b->B b\/w.heap.size<=b)->K v w'):jo P F.bn [.pointer (some ⟨hb,0,none⟩),.int .u64 now] w K:=by
 apply M.ae.calls
 unfold M.ae
 simp only[il]
 simp
 unfold M.ae.j0
 simp only[il]
 rw[zn]
 obtain⟨⟨O,r,m,es,hAe,J,hB⟩,hlt⟩:=I
 have hcl:c.length=m.length:=by
  have:=J.ck.length_eq
  simp[jz] at this
  rw[this,J.ml]
 have hAl:A.length=m.length:=by rw[hAe,List.length_map,J.ml]
 generalize hwa:w.alloc (.map #[] 0)=wa
 have hma:kx wa w.heap.size .u64 []:=by rw[<-hwa];exact ym w .u64
 have hfa:Fz w wa:=by rw[<-hwa];exact (Fr.refl _ w).alloc _
 have sza:wa.heap.size=w.heap.size+1:=by rw[<-hwa];simp
 have Ja:=J.jf hfa fun _ _ h=>h
 obtain⟨_,_,_,q5⟩:=Ja.cells
 simp[q5]
 refine apk mt.j Ja.mp fun wi hit hfi=>?_
 have hraw:w.heap.size < wa.heap.size:=by omega
 refine⟨bmd w hb g O r m es c w.heap.size wa.heap.size,fun _ w1=>sq w1 wa.heap.size m.length,⟨[],[],hit,hma.of_heap (hfi.jf _ hraw fun h=>h),fun k hk=>by (cases hk),Ja.jf hfi fun _ _ h=>h,hfa.trans hfi⟩,?_⟩
 rintro x w1 ⟨done,m2,hit1,hm1,hdone,J1,f1⟩
 have hlt1:=hit1.lt
 have hrlt:=J.mp.lt
 refine ari hit1 J.mn _ (fun hall=>?_) fun k v w2 hkm hkd hcur hf2 hless=>?_
 ·simp
  have hOlt: ∀b,O b->b < w.heap.size:= @Hp.lt (qt g r) _ _ _ _ J.hp
  have hnd:(jz c).Nodup:= @Hp.nd (qt g r) _ _ _ _ J.hp
  have hat: ∀p∈c,ki m2 p.1=some (.int .u64 p.2):=fun p hp=>by
   refine hdone p.1 ?_ p.2 (adw hnd hp)
   obtain⟨e,he,het⟩:=List.mem_map.1 (J.ck.mem_iff.1 (List.mem_map_of_mem hp:p.1∈jz c))
   have hgm:=J.mg e he
   have hk:e.t∈jm m:=by
    by_cases hx:e.t∈jm m
    ·exact hx
    ·rw[(pe _ _).2 hx] at hgm;cases hgm
   obtain⟨q,hq,hqk⟩:=List.mem_map.1 hk
   have:=hall q hq
   rw[hqk,het] at this;exact this
  unfold M.ae.j1
  simp only[il]
  simp
  rw[M.cx.fcall]
  have sz1:=f1.size
  refine @bke (qt g r) _ _ _ _ J1.hp (by omega) now _ fun w2 v H2 r2 f2=>?_
  have r2':w2.ownsRow w.heap.size T.a 1 v (nk c now).length (xy (nk c now)):=by
   refine⟨r2.1,?_⟩
   rcases r2.2 with hn| ⟨gb,cap,cur,hv,hg,od⟩
   ·exact .inl hn
   ·exact .inr ⟨gb,cap,cur,hv,by omega,od⟩
  have hvO: ∀x,v.ownBlock=some x->¬O x:=fun x hx hO=>by
   obtain⟨_,_,_,hge,_⟩:=mq r2 hx
   have:=hOlt x hO;omega
  have hnra: ¬O w.heap.size:=fun h=>by have:=hOlt _ h;omega
  have hlenv: ∀w K,biT P .len #[T.g] T.d [false] [v] w K=K (.int .i64 (nk c now).length) w:=fun w K=>by
   rcases r2.2 with⟨hv,hn⟩|⟨gb,cap,cur,hv,_⟩
   ·rw[hv,xk (by simp),hn]
   ·rw[hv,xk (by simp)]
  rw[hlenv]
  have hDl:(nk c now).length=(tl c now).length:=by rw[ath,List.length_map]
  have hDc:(tl c now).length<=c.length:=by
   unfold tl
   have:=List.length_filter_le (fun p:Int×Int=>decide (p.2<=now)) (srt c)
   have:=(vy c).length_eq
   omega
  have hndD:(jz (ug c now ++ tl c now)).Nodup:=by
   unfold jz at hnd⊢
   exact ((afo c now).map _).nodup_iff.2 hnd
  refine⟨bmw w hb g r m es c w.heap.size m2 v now O,fun x _=>(tl c now).length - ms x 1,⟨0,O,ug c now,rfl,Nat.zero_le _,by simp,H2,fun b hb=> .inl hb,hm1.of_heap (f2.jf _ hm1.lt hnra),hnra,r2',hvO,(f1.mono fun _ _ h=>h.elim).jt f2 fun b _ h=>h⟩,?_⟩
  rintro x w3 ⟨i,O3,c3,hx1,hi,hp3,H3,hO3,hm3,hra3,r3,hv3,f3⟩
  simp only[hx1]
  by_cases hil:i < (tl c now).length
  ·have hil':(i:Int) < (nk c now).length:=by omega
   have hil2:i < (nk c now).length:=by omega
   simp[hil2]
   unfold M.ae.j6
   simp only[il,hx1]
   obtain⟨gb,cap,cur,hvf,hgb,hgc,_⟩:=wu r3 (by omega)
   have hvg:v.ownBlock=some gb:=by rw[hvf];rfl
   have hk0:(nk c now)[i]=(tl c now)[i].1:=by simp[ath]
   have ci:=wk r3 hvg (i:=i) (x:= .int .u64 (tl c now)[i].1) (by simp[xy,hil2,hk0])
   have hw:IntKind.i64.wrap ((i:Int)+1)=((i+1:Nat):Int):=by rw[iy];rfl
   have hDm:(tl c now)[i]∈c:=(afo c now).mem_iff.1 (List.mem_append_right _ (List.getElem_mem hil))
   have hm3d:kx (dr w3 1) w.heap.size .u64 m2:=hm3.of_heap rfl
   rw[hvf]
   simp[hil2,ci]
   rw[ta mt.bb hm3d,hat _ hDm]
   simp
   rw[M.az.fcall]
   have H3d:HpB g r (dr w3 1) hb O3 c3:= @Hp.jf (qt g r) _ _ _ _ (fun _=>False) _ H3 ((Fr.refl _ w3).dr 1) fun _ _ h=>h
   have hc3:c3.length<=c.length:=by
    rw[hp3.length_eq,<-(afo c now).length_eq];simp;omega
   refine @aqb (qt g r) _ _ _ _ H3d (by omega) _ _ _ fun w4 O4 H4 f4 p4=>?_
   have f4':Fr O3 w3 w4:=⟨f4.size,f4.jf,f4.tape,f4.os,f4.output⟩
   have p4': ∀b,O4 b->O3 b\/w3.heap.size<=b:=p4
   have s3:=f3.size
   have hnk:(tl c now)[i].1∉jz c3:=fun hk=>by
    have hk2:(tl c now)[i].1∈jz (ug c now ++ (tl c now).take i):=by
     unfold jz at hk⊢
     exact (hp3.map _).mem_iff.1 hk
    have hsp:ug c now ++ tl c now=(ug c now ++ (tl c now).take i) ++ (tl c now)[i] :: (tl c now).drop (i+1):=by
     rw[List.append_assoc,<-List.drop_eq_getElem_cons hil,List.take_append_drop]
    rw[hsp] at hndD
    unfold jz at hndD hk2
    rw[List.map_append,List.nodup_append] at hndD
    exact hndD.2.2 _ hk2 _ (by rw[List.map_cons];exact List.mem_cons_self ..) rfl
   refine⟨⟨i+1,O4,_,by rw[hw];rfl,by omega,?_,H4,fun b hb=>?_,hm3.of_heap (f4'.jf _ hm3.lt hra3),fun h=>?_,?_,fun x hx h=>?_,?_⟩,?_⟩
   ·unfold pa
    rw[aax hnk,List.take_succ_eq_append_getElem hil,<-List.append_assoc]
    exact (hp3.cons _).trans (List.perm_append_comm (l₁:=[_]))
   ·rcases p4' b hb with h|h
    ·exact hO3 b h
    ·exact .inr (by omega)
   ·rcases p4' _ h with h|h
    ·exact hra3 h
    ·have:=hm3.lt;omega
   ·rw[<-hvf]
    exact qr r3 fun x hx=>f4'.jf x (by obtain⟨_,_,_,_,hc,_⟩:=mq r3 hx;exact lj hc) (hv3 x hx)
   ·rw[<-hvf] at hx
    rcases p4' _ h with h|h
    ·exact hv3 x hx h
    ·obtain⟨_,_,_,_,hc,_⟩:=mq r3 hx;have:=lj hc;omega
   ·exact f3.jt f4' fun b hlt h=>(hO3 b h).elim id fun h=>by omega
   ·have:ms x 1=i:=by unfold ms;rw[hx1];rfl
    rw[this];simp[ms,gv,hw];omega
  ·have hil2: ¬i < (nk c now).length:=by omega
   simp[hil2]
   have hie:i=(tl c now).length:=by omega
   subst hie
   rw[List.take_length] at hp3
   have H:HpB g r w3 hb O3 c:= @Hp.congr (qt g r) _ _ _ _ _ H3 (hp3.trans (afo c now))
   have J3:=J.heap f3 H hO3 J.ck
   refine h w3 v (fun b=>B b\/O3 b) ⟨⟨O3,r,m,es,hAe,J3,fun b hb=>?_⟩,fun b hb=>?_⟩ r3 (fun x hx hB'=>?_) (f3.mono fun b _ hO=>hB b (.inl hO)) fun b hb=>?_
   ·rcases hb with h|h
    ·exact .inr h
    ·exact .inl (hB b (.inr h))
   ·rcases hb with h|h
    ·have:=hlt b h;have:=f3.size;omega
    ·exact @Hp.lt (qt g r) _ _ _ _ H b h
   ·obtain⟨_,_,_,hge,_⟩:=mq r3 hx
    rcases hB' with h|h
    ·have:=hlt x h;omega
    ·exact hv3 x hx h
   ·rcases hb with h|h
    ·exact .inl h
    ·exact (hO3 b h).imp (fun h=>hB b (.inl h)) id
 ·simp
  unfold M.ae.j3
  rw[aqs hcur]
  simp
  rw[M.da.fcall]
  have hOlt: ∀b,O b->b < w.heap.size:= @Hp.lt (qt g r) _ _ _ _ J.hp
  have J2:=J1.jf hf2 fun b hb h=>by
   have:=J.lt hb;omega
  have hmk:k∈jz c:=by
   have h1:ki m k≠none:=fun hn=>(pe _ _).1 hn (List.mem_map_of_mem hkm)
   by_cases hex: ∃e∈es,e.t=k
   ·obtain⟨e,he,rfl⟩:=hex
    exact J.ck.mem_iff.2 (List.mem_map_of_mem he)
   ·exact absurd (J.mz k fun e he hk=>hex ⟨e,he,hk⟩) h1
  refine @auv (qt g r) _ _ _ _ J2.hp k _ (fun hn=>absurd hmk ((abe _ _).1 hn)) fun a ha=>?_
  simp
  have hm2':kx w2 w.heap.size .u64 m2:=hm1.of_heap (hf2.jf _ hm1.lt (by omega))
  refine akn mt.bb hm2' _ _ _ fun o hm3=>?_
  have f3:Fr (fun b=>b=w.heap.size) w2 (World.setObj w2 w.heap.size o):=(Fr.refl (fun b=>b=w.heap.size) w2).setObj (.inl rfl) o
  generalize hw3:World.setObj w2 w.heap.size o=w3 at *
  have hit2:=hcur.1
  have hl2:=hit2.lt
  refine⟨⟨k :: done,_,hit2.jf (f3.jf _ hl2.1 (by omega)) (f3.jf _ hl2.2 (by omega)),hm3,fun y hy b hb=>?_,J2.jf f3 fun b hb h=>by have:=J.lt hb;omega,?_⟩,?_⟩
  ·rw[aas]
   by_cases hky:k=y
   ·rw[if_pos hky]
    subst hky
    rw[ha] at hb;cases hb;rfl
   ·rw[if_neg hky]
    rcases List.mem_cons.1 hy with h|h
    ·exact absurd h.symm hky
    ·exact hdone y h b hb
  ·exact (f1.jt hf2 fun b hlt h=>by omega).jt f3 fun b hlt h=>by omega
  ·have:sq w3 wa.heap.size m.length=sq w2 wa.heap.size m.length:=by
    unfold sq
    rw[f3.jf _ hl2.1 (by omega)]
   omega
theorem yb{w:World}{v:Value}{l:List Spn}(hs:SlS w v l)(hlen:l.length<=1000000){K:KV}(h: ∀w' v',SlS w' v' l->(∀x,v'.ownBlock=some x->w.heap.size<=x/\x < w'.heap.size)->Fz w w'->K v' w'):jo P F.d [v] w K:=by
 apply M.v.calls
 unfold M.v
 simp only[il]
 have hs':=hs
 obtain⟨a,cap,rfl,_⟩:=hs'
 cases a with
 | none=>
  simp
  have hz:l=[]:=by
   obtain⟨a',cap',hv,_,_,h3⟩:=hs
   cases l with
   | nil=>rfl
   | cons x l=>
    obtain⟨b,o,ha,_⟩:=h3 0 x rfl
    injection hv with h1 _ _
    rw[<-h1] at ha;cases ha
  subst hz
  exact h w _ Sl.nil (fun x hx=>by simp[Value.ownBlock] at hx) (Fr.refl _ _)
 | some a=>
  simp
  have f0:Fz w (w.alloc (.cells #[] T.i)):=(Fr.refl _ w).alloc _
  refine zc et.h oe ph (base:=w.heap.size) (Ow.empty (by rw[iw,if_pos rfl]) (Nat.le_refl _)) (hs.fr f0 fun _ _ _ h=>h) (by simp;omega) (by decide) (by simp) _ fun v3 w3 o3 f3 g3=>?_
  rw[List.nil_append] at o3
  exact h w3 v3 (o3.sl oe) (fun x hx=>o3.lt hx) (f0.jt f3 fun b hb hv=>by simp[Value.ownBlock] at hv;omega)
theorem biw{w:World}{hb:Nat}{g:Cfg}{B:Nat->Prop}{A:List AE}{c:CT}(I:Buf w hb g B A c)(hl: ∀e∈A,e.l.length<=1000)(k:Int){K:KV}
  (h0:(∀e∈A,e.t≠k)->K (.tuple #[.slice none 0 0,.bool false,.bool false]) w)
  (h1: ∀e∈A,e.t=k->∀w' v',SlS w' v' e.l->(∀x,v'.ownBlock=some x->w.heap.size<=x/\x < w'.heap.size)->Fz w w'->K (.tuple #[v',.bool e.mj,.bool true]) w'):jo P F.cs [.pointer (some ⟨hb,0,none⟩),.int .u64 k] w K:=by
 obtain⟨⟨O,r,m,es,hAe,J,hB⟩,hlt⟩:=I
 apply M.cj.calls
 unfold M.cj
 simp only[il]
 obtain⟨_,_,_,q5⟩:=J.cells
 simp[q5]
 rw[ta mt.j J.mp]
 rcases J.bdn k with⟨hmn,hne⟩|⟨e,he,het,hme⟩
 ·rw[hmn]
  simp
  refine h0 fun e he=>?_
  rw[hAe] at he
  obtain⟨x,hx,rfl⟩:=List.mem_map.1 he
  exact hne x hx
 ·rw[hme]
  have e1:e.ptr= .pointer (some ⟨e.p,0,none⟩):=rfl
  simp[e1]
  unfold M.cj.j0
  simp[q5]
  rw[ta mt.j J.mp,hme]
  obtain⟨c0,c1⟩:=aca (J.blk e he)
  simp[e1,c0,c1]
  rw[M.v.fcall]
  have eA:e.abs∈A:=by rw[hAe];exact List.mem_map_of_mem he
  have hll:e.l.length<=1000:=hl _ eA
  have fd:Fz w (dr w 1):=(Fr.refl _ w).dr 1
  refine yb (((J.row e he).sl oe).fr fd fun _ _ _ h=>h) (by omega) fun w2 v2 s2 o2 f2=>?_
  have f2':=fd.trans f2
  obtain⟨d0,d1⟩:=aca (f2'.heap (J.blk e he) fun h=>h)
  simp[d1]
  exact h1 e.abs eA het w2 v2 s2 o2 f2'
def lw(k:Int):List Value:=[.int .u64 k]
theorem ajr(p:Int):(lw p).length=1:=rfl
theorem bbs(p:Int): ∀u∈lw p,kt u=true:=fun u hu=>by
 simp only[lw,List.mem_cons,List.not_mem_nil,or_false] at hu
 subst hu;rfl
abbrev SlU(w:World)(v:Value)(l:List Int):Prop:=Sl w 1 lw v l
abbrev OwU(w:World)(base:Nat)(v:Value)(l:List Int):Prop:=Ow w base T.a 1 lw v l
theorem bak(l:List Int):l.flatMap lw=xy l:=by
 unfold xy
 induction l with
 | nil=>rfl
 | cons x l ih=>rw[List.flatMap_cons,List.map_cons,ih];rfl
theorem awc{w:World}{base n:Nat}{v:Value}{l:List Int}(h:w.ownsRow base T.a 1 v n (xy l)):OwU w base v l:=by
 have hn:l.length=n:=by have:=bha h;simpa [xy] using this
 unfold OwU Ow
 rw[bak,hn];exact h
theorem baa{w:World}{v:Value}{l:List Int}(h:SlU w v l){i:Nat}(hi:i < l.length): ∃b o cap,v= .slice (some ⟨b,o,none⟩) l.length cap/\b < w.heap.size/\ik w b (o+i)=some (.int .u64 l[i]):=by
 obtain⟨b,o,cap,hv,hb,_,hr⟩:=h.at hi
 have:=hr 0 _ rfl
 simp only[Nat.mul_one,Nat.add_zero] at this
 exact⟨b,o,cap,hv,hb,this⟩
def us(es:List Ent)(k:Int):List Ent:=es.filter fun e=>!decide (e.t=k)
def tq(A:List AE)(k:Int):List AE:=A.filter fun e=>!decide (e.t=k)
theorem asa(es:List Ent)(k:Int):(us es k).map Ent.abs=tq (es.map Ent.abs) k:=by
 unfold tq us
 rw[List.filter_map];rfl
theorem pt{es:List Ent}{k:Int}{e:Ent}(h:e∈us es k):e∈es/\e.t≠k:=by
 unfold us at h
 rw[List.mem_filter] at h
 exact⟨h.1,by simpa using h.2⟩
theorem ace(es:List Ent)(k:Int):(us es k).map Ent.t=(es.map Ent.t).filter fun x=>!decide (x=k):=by
 unfold us
 rw[List.filter_map];rfl
theorem rl.del{w w':World}{hb:Nat}{g:Cfg}{O:Nat->Prop}{r:Nat}{m:MP}{es:List Ent}{c:CT}(I:rl w hb g O r m es c){k:Int}(hk:k∈es.map Ent.t)(hH:HpB g r w' hb O (qm c k))(hm:kx w' r .u64 (uu m k)){S:Nat->Prop}(hf:Fr S w w')(hS: ∀b,S b->O b\/b=r):rl w' hb g O r (uu m k) (us es k) (qm c k):=by
 have hkm:k∈jm m:=by
  obtain⟨e,he,rfl⟩:=List.mem_map.1 hk
  by_cases hx:e.t∈jm m
  ·exact hx
  ·have:=I.mg e he
   rw[(pe _ _).2 hx] at this;cases this
 have nSp: ∀e∈es,¬S e.p:=fun e he h=>by
  rcases hS _ h with h|h
  ·exact I.np e he h
  ·exact zj I.mp (I.blk e he) h.symm
 have nSv: ∀e∈es,∀x,e.v.ownBlock=some x->¬S x:=fun e he x hx h=>by
  rcases hS _ h with h|h
  ·exact I.nv e he x hx h
  ·obtain⟨cur,hc⟩:=uf (I.row e he) hx
   exact zj I.mp hc h.symm
 refine⟨hH,hm,by rw[zg];exact I.mn.erase _,?_,fun e he=>?_,fun y hy=>?_,by rw[ace];exact I.tn.filter _,(List.Sublist.map _ List.filter_sublist).nodup I.pn,fun e he=>hf.heap (I.blk e (pt he).1) (nSp e (pt he).1),fun e he=>(I.row e (pt he).1).fr hf (nSv e (pt he).1),
  fun e he e' he'=>I.rn e (pt he).1 e' (pt he').1,I.nr,fun e he=>I.np e (pt he).1,fun e he=>I.nv e (pt he).1,?_⟩
 ·have h1:(jm (uu m k)).length=(uu m k).length:=by simp[jm]
  have h2:(jm m).length=m.length:=by simp[jm]
  have h3:(us es k).length=((es.map Ent.t).filter fun x=>!decide (x=k)).length:=by rw[<-ace,List.length_map]
  have h4:((es.map Ent.t).filter fun x=>!decide (x=k))=(es.map Ent.t).erase k:=by
   rw[I.tn.erase_eq_filter]
   congr 1
  rw[<-h1,zg,List.length_erase_of_mem hkm,h2,I.ml,h3,h4,List.length_erase_of_mem hk,List.length_map]
 ·obtain⟨h1,h2⟩:=pt he
  rw[yr _ _ _ (fun h=>h2 h.symm)]
  exact I.mg e h1
 ·by_cases hyk:k=y
  ·subst hyk;exact aej _ _ I.mn
  ·rw[yr _ _ _ hyk]
   refine I.mz y fun e he hey=>?_
   refine hy e ?_ hey
   unfold us
   rw[List.mem_filter]
   exact⟨he,by simp;rw[hey];exact fun h=>hyk h.symm⟩
 ·rw[agf,ace]
  exact I.ck.filter _
theorem bhp{w:World}{hb:Nat}{g:Cfg}{B:Nat->Prop}{A:List AE}{c:CT}(I:Buf w hb g B A c)(hA:A.length<=1000)(k:Int){K:KV}
  (h0:(∀e∈A,e.t≠k)->K (.slice none 0 0) w)
  (h1: ∀e∈A,e.t=k->∀w' v B',Buf w' hb g B' (tq A k) (qm c k)->SlS w' v e.l->(∀x,v.ownBlock=some x->x < w'.heap.size/\¬B' x/\B x)->(∀b,B' b->B b)->Fr B w w'->K v w'):jo P F.bz [.pointer (some ⟨hb,0,none⟩),.int .u64 k] w K:=by
 obtain⟨⟨O,r,m,es,hAe,J,hB⟩,hlt⟩:=I
 apply M.cb.calls
 unfold M.cb
 simp only[il]
 obtain⟨_,_,_,q5⟩:=J.cells
 simp[q5]
 rw[ta mt.j J.mp]
 rcases J.bdn k with⟨hmn,hne⟩|⟨e,he,het,hme⟩
 ·rw[hmn]
  simp
  refine h0 fun e he=>?_
  rw[hAe] at he
  obtain⟨x,hx,rfl⟩:=List.mem_map.1 he
  exact hne x hx
 ·rw[hme]
  have e1:e.ptr= .pointer (some ⟨e.p,0,none⟩):=rfl
  simp[e1]
  unfold M.cb.j0
  simp[q5]
  rw[ta mt.j J.mp,hme]
  obtain⟨c0,c1⟩:=aca (J.blk e he)
  simp[e1,c0,q5]
  refine apj mt.j J.mp _ _ _ _ fun o hm2=>?_
  have f2:Fr (fun b=>b=r) w (World.setObj w r o):=(Fr.refl (fun b=>b=r) w).setObj (.inl rfl) o
  generalize World.setObj w r o=w2 at *
  have H2:HpB g r w2 hb O c:= @Hp.jf (qt g r) _ _ _ _ _ _ J.hp f2 fun b hb h=>J.nr (h ▸ hb)
  have hnd:(jz c).Nodup:= @Hp.nd (qt g r) _ _ _ _ J.hp
  have hkt:k∈es.map Ent.t:=by rw[<-het];exact List.mem_map_of_mem he
  obtain⟨a,ha⟩: ∃a,vc c k=some a:=by
   cases hg:vc c k with
   | none=>exact absurd (J.ck.mem_iff.2 hkt) ((abe _ _).1 hg)
   | some a=>exact⟨a,rfl⟩
  have hcl:c.length=es.length:=by
   have:=J.ck.length_eq
   simpa [jz] using this
  have hAl:A.length=es.length:=by rw[hAe,List.length_map]
  rw[M.ck.fcall]
  refine @api (qt g r) _ _ _ _ H2 (by omega) k a ha _ fun w3 H3 f3=>?_
  have f23:Fr (fun b=>O b\/b=r) w w3:=(f2.mono fun _ _ h=> .inr h).jt f3 fun b _ h=> .inl h
  have J3:=J.del hkt H3 (hm2.of_heap (f3.jf r hm2.lt J.nr)) f23 fun b h=>h
  have hrow3:OwS w3 0 e.v e.l:=(J.row e he).fr f23 fun x hx h=>by
   rcases h with h|h
   ·exact J.nv e he x hx h
   ·obtain⟨cur,hc⟩:=uf (J.row e he) hx
    exact zj J.mp hc h.symm
  have eA:e.abs∈A:=by rw[hAe];exact List.mem_map_of_mem he
  have hfB:Fr B w w3:=f23.mono fun b _ h=>h.elim (fun h=>hB b (.inl h)) fun h=>hB b (.inr (.inl h))
  refine h1 e.abs eA het w3 e.v (fun b=>B b/\e.v.ownBlock≠some b) ⟨⟨O,r,_,_,by rw[asa,hAe],J3,fun b hfp=>?_⟩,fun b hb=>Nat.lt_of_lt_of_le (hlt b hb.1) hfB.size⟩ (hrow3.sl oe) (fun x hx=>⟨(hrow3.lt hx).2,fun h=>h.2 hx,hB x (.inr (.inr ⟨e,he,.inr hx⟩))⟩) (fun b h=>h.1) hfB
  rcases hfp with h|rfl| ⟨x,hx,hxb⟩
  ·exact⟨hB b (.inl h),fun hx=>J.nv e he b hx h⟩
  ·refine⟨hB _ (.inr (.inl rfl)),fun hx=>?_⟩
   obtain⟨cur,hc⟩:=uf (J.row e he) hx
   exact zj J.mp hc rfl
  ·obtain⟨hx1,hx2⟩:=pt hx
   refine⟨hB b (.inr (.inr ⟨x,hx1,hxb⟩)),fun hv=>?_⟩
   rcases hxb with h|h
   ·obtain⟨cur,hc⟩:=uf (J.row e he) hv
    rw[<-h] at hc
    exact la hc (J.blk x hx1) (by decide) rfl
   ·exact hx2 (by rw[J.rn x hx1 e he b h hv,het])
def mf(hb:Nat)(g:Cfg)(A:List AE)(c:CT):Asn where
 ok w B:=Buf w hb g B A c
 jf h hf hn:=Buf.jf h hf hn
def tj(g:Cfg)(A:List AE)(s:Spn):List AE:=
 if kv s≠0 then A else match A.find? fun e=>decide (e.t=s.je) with
  | none=>if g.kp<=A.length then A else A ++ [⟨s.je,[s],false⟩]
  | some e=>if (e.l.any fun x=>decide (x.id=s.id))=true then A else if g.kh<=e.l.length then akb A s.je else aou A s.je s
def aea(g:Cfg)(A:List AE)(c:CT)(s:Spn)(now:Int):CT:=
 if kv s≠0 then c else match A.find? fun e=>decide (e.t=s.je) with
  | none=>if g.kp<=A.length then c else pa c s.je (aoo g now)
  | some _=>c
def qj(g:Cfg)(A:List AE)(s:Spn):Int:=
 if kv s≠0 then kv s else match A.find? fun e=>decide (e.t=s.je) with
  | none=>if g.kp<=A.length then 8 else 0
  | some e=>if (e.l.any fun x=>decide (x.id=s.id))=true then 0 else if g.kh<=e.l.length then 9 else 0
section
variable {w0 w : World} {hb : Nat} {g : Cfg} {A : List AE} {c : CT} {R : List Asn}
theorem alq(A:List AE)(k:Int):(∃e,A.find? (fun e=>decide (e.t=k))=some e/\e∈A/\e.t=k)\/(A.find? (fun e=>decide (e.t=k))=none/\∀e∈A,e.t≠k):=by
 cases h:A.find? (fun e=>decide (e.t=k)) with
 | none=>exact .inr ⟨rfl,fun e he=>by have:=List.find?_eq_none.1 h e he;simpa using this⟩
 | some e=>exact .inl ⟨e,rfl,List.mem_of_find?_eq_some h,by have:=List.find?_some h;simpa using this⟩
theorem Buf.awn{B:Nat->Prop}(I:Buf w hb g B A c):(A.map AE.t).Nodup:=by
 obtain⟨⟨O,r,m,es,hAe,J,_⟩,_⟩:=I
 rw[hAe,List.map_map]
 exact J.tn
theorem ark{A:List AE}(h:(A.map AE.t).Nodup){e e':AE}(he:e∈A)(he':e'∈A)(ht:e.t=e'.t):e=e':=tm h he he' ht
theorem bae(S:St w0 w (mf hb g A c :: R))(hA:A.length<=1000)(hl: ∀e∈A,e.l.length<=1000)(s:Spn){now:Int}(hnow:0<=now/\now<=18446744073709551615)(hwt:0<=g.jn){K:KV}
  (h: ∀w',St w0 w' (mf hb g (tj g A s) (aea g A c s now) :: R)->K (.int .i64 (qj g A s)) w'):ie P F.cc [.pointer (some ⟨hb,0,none⟩),li s,.int .u64 now] w K:=by
 obtain⟨B,I,hB,cl⟩:=S.open
 have I':Buf w hb g B A c:=I
 have done: ∀w' B' A' c',Buf w' hb g B' A' c'->Fr B w w'->(∀b,B' b->B b\/w.heap.size<=b)->St w0 w' (mf hb g A' c' :: R):=fun w' B' A' c' hI hf hB'=>
  cl w' [mf hb g A' c'] hf (Rs.one (B:=B') hI fun b hb=>(hB' b hb).imp id fun h=>⟨h,hI.lt b hb⟩)
 rw[M.ai.fcall]
 unfold tj aea qj at h
 rcases alq A s.je with⟨e,hfd,he,het⟩|⟨hfd,hno⟩
 ·rw[hfd] at h
  have heq: ∀e'∈A,e'.t=s.je->e'=e:=fun e' he' h'=>ark I'.awn he' he (h'.trans het.symm)
  refine axg I' hA hl s hnow hwt (fun hr w' hI hf=>?_) (fun hr hn=>absurd het (hn e he)) (fun hr hn=>absurd het (hn e he)) (fun hr e' he' ht ha w' hI hf=>?_) (fun hr e' he' ht ha hg w' hI hf=>?_) (fun hr e' he' ht ha hg w' B' hI hf hB'=>?_)
  ·simp only[hr,ne_eq,not_false_eq_true,if_true] at h
   exact h w' (done w' B A c hI (hf.mono fun _ _ h=>h.elim) fun b hb=> .inl hb)
  ·obtain rfl:=heq e' he' ht
   simp only[hr,ne_eq,not_true_eq_false,if_false,ha,if_true] at h
   exact h w' (done w' B A c hI (hf.mono fun _ _ h=>h.elim) fun b hb=> .inl hb)
  ·obtain rfl:=heq e' he' ht
   simp only[hr,ne_eq,not_true_eq_false,if_false,ha,Bool.false_eq_true,hg,if_true] at h
   exact h w' (done w' B _ c hI hf fun b hb=> .inl hb)
  ·obtain rfl:=heq e' he' ht
   have hg': ¬g.kh<=e'.l.length:=by omega
   simp only[hr,ne_eq,not_true_eq_false,if_false,ha,Bool.false_eq_true,hg'] at h
   exact h w' (done w' B' _ c hI hf hB')
 ·rw[hfd] at h
  refine axg I' hA hl s hnow hwt (fun hr w' hI hf=>?_) (fun hr hn hg w' hI hf=>?_) (fun hr hn hg w' B' hI hf hB'=>?_) (fun hr e' he' ht=>absurd ht (hno e' he')) (fun hr e' he' ht=>absurd ht (hno e' he')) (fun hr e' he' ht=>absurd ht (hno e' he'))
  ·simp only[hr,ne_eq,not_false_eq_true,if_true] at h
   exact h w' (done w' B A c hI (hf.mono fun _ _ h=>h.elim) fun b hb=> .inl hb)
  ·simp only[hr,ne_eq,not_true_eq_false,if_false,hg,if_true] at h
   exact h w' (done w' B A c hI (hf.mono fun _ _ h=>h.elim) fun b hb=> .inl hb)
  ·have hg': ¬g.kp<=A.length:=by omega
   simp only[hr,ne_eq,not_true_eq_false,if_false,hg'] at h
   exact h w' (done w' B' _ _ hI hf hB')
theorem bam(S:St w0 w R)(kp kh jn:Int){K:KV}(h0:(kp < 1\/64 < kp\/kh < 1\/16 < kh\/1099511627776 < jn)->K (.tuple #[.pointer none,.int .i64 1]) w)
  (h1: ∀(g:Cfg) w' hb,kp=g.kp->kh=g.kh->jn=g.jn->1<=g.kp->g.kp<=64->1<=g.kh->g.kh<=16->g.jn<=1099511627776->St w0 w' (mf hb g [] [] :: R)->K (.tuple #[.pointer (some ⟨hb,0,none⟩),.int .i64 0]) w'):
  ie P F.fh [.int .i64 kp,.int .i64 kh,.int .u64 jn] w K:=by
 rw[M.fl.fcall]
 refine bje kp kh jn h0 fun g w' e1 e2 e3 e4 e5 e6 e7 e8 I f=>?_
 have hlt:=I.lt _ (.inr rfl)
 exact h1 g w' _ e1 e2 e3 e4 e5 e6 e7 e8 (S.add (a:=mf _ g [] []) f I fun b hb=>by rcases hb with rfl|rfl <;>omega)
abbrev vt(v:Value)(l:List Spn):Asn:=pc T.i 8 jr v l
theorem bim(S:St w0 w (mf hb g A c :: R))(hl: ∀e∈A,e.l.length<=1000)(k:Int){K:KV}
  (h0:A.find? (fun e=>decide (e.t=k))=none->K (.tuple #[.slice none 0 0,.bool false,.bool false]) w)
  (h1: ∀e,A.find? (fun e=>decide (e.t=k))=some e->∀w' v',St w0 w' (rdA 8 jr v' e.l :: mf hb g A c :: R)->K (.tuple #[v',.bool e.mj,.bool true]) w'):ie P F.cs [.pointer (some ⟨hb,0,none⟩),.int .u64 k] w K:=by
 obtain⟨B,I,hB,cl⟩:=S.open
 have I':Buf w hb g B A c:=I
 rw[M.cj.fcall]
 refine biw I' hl k (fun hn=>h0 ?_) fun e he het w' v' hs hn hf=>h1 e ?_ w' v' (S.add (a:=rdA 8 jr v' e.l) hf (B:=fun x=>v'.ownBlock=some x) ⟨hs,fun b hb=>hb⟩ hn)
 ·rw[List.find?_eq_none];intro e he;simpa using hn e he
 ·rcases alq A k with⟨e',hf',he',het'⟩|⟨_,hno⟩
  ·rw[hf',ark I'.awn he he' (het.trans het'.symm)]
  ·exact absurd het (hno e he)
end
def xp(x y:Spn):Bool:=x.je == y.je && (x.id == y.id && (x.mr == y.mr && (x.kl == y.kl && (x.len == y.len && (x.kq.toList == y.kq.toList && (x.name.toList == y.name.toList && (x.ol == y.ol)))))))
theorem aun(x:Spn):xp x x=true:=by simp[xp]
theorem avt(x y:Spn)(w:World):(Op.equalIn 10000 T.i (li x) (li y)).run P w= .ok (xp x y) w:=by
 have hS:P.underlying T.i=some (.struct (P.fieldsOf T.i)):=by kernel_rfl
 have hp:P.stoodInHeld T.i=false:=by kernel_rfl
 unfold li
 rw[show (10000:Nat)=9999+1 from rfl,run_equalIn_agg w 9999 T.i _ _ hS hp]
 have u22:P.underlying 23=some (.int .u64):=Tryz.underlying23
 have u9:P.underlying 9=some .string:=Tryz.underlying9
 have u4:P.underlying 4=some .bool:=Tryz.underlying4
 simp only[Program.fieldsOf,show P.underlying T.i=_ from Tryz.underlying59]
 have a22:abc P 23=false:=by kernel_rfl
 have a9:abc P 9=false:=by kernel_rfl
 have a4:abc P 4=false:=by kernel_rfl
 unfold xp
 refine eqF (by decide) a22 rfl rfl (run_equalIn_int w 9998 23 _ _ _ _ u22) ?_
 refine eqF (by decide) a22 rfl rfl (run_equalIn_int w 9998 23 _ _ _ _ u22) ?_
 refine eqF (by decide) a22 rfl rfl (run_equalIn_int w 9998 23 _ _ _ _ u22) ?_
 refine eqF (by decide) a22 rfl rfl (run_equalIn_int w 9998 23 _ _ _ _ u22) ?_
 refine eqF (by decide) a22 rfl rfl (run_equalIn_int w 9998 23 _ _ _ _ u22) ?_
 refine eqF (by decide) a9 rfl rfl (run_equalIn_string w 9998 9 _ _ u9) ?_
 refine eqF (by decide) a9 rfl rfl (run_equalIn_string w 9998 9 _ _ u9) ?_
 have:=eqF (fs:=[]) (d:=9999) (xs:= #[.int .u64 x.je,.int .u64 x.id,.int .u64 x.mr,.int .u64 x.kl,.int .u64 x.len,.string x.kq,.string x.name,.bool x.ol]) (ys:= #[.int .u64 y.je,.int .u64 y.id,.int .u64 y.mr,.int .u64 y.kl,.int .u64 y.len,.string y.kq,.string y.name,.bool y.ol]) (f:={name:= "Fail",type:=4,offset:=7,embedded:=false,tag:= "",pkgPath:= "",byteOffset:=72}) (w:=w) (c:=true) (by decide) a4 rfl rfl (run_equalIn_bool' w 9998 4 _ _ u4) rfl
 simpa using this
theorem bhq(rx ry:Operand)(x y:Spn)(w:World)(K:KV):ip P .neq T.i rx ry (li x) (li y) w K=K (.bool !(xp x y)) w:=by
 have hm:P.eqGuardType P.depth T.i=false:=by kernel_rfl
 have hg:=run_eqGuard_agg (P:=P) w .neq T.i rx ry #[.int .u64 x.je,.int .u64 x.id,.int .u64 x.mr,.int .u64 x.kl,.int .u64 x.len,.string x.kq,.string x.name,.bool x.ol] #[.int .u64 y.je,.int .u64 y.id,.int .u64 y.mr,.int .u64 y.kl,.int .u64 y.len,.string y.kq,.string y.name,.bool y.ol] hm
 have he:=avt x y w
 unfold ip jk
 unfold li at he⊢
 rw[Sem.run_bind,hg]
 simp only[Result.andThen]
 rw[run_neq_struct,he]
 rfl
theorem app{c:CT}(hn:(jz c).Nodup){k:Int}(hk:k∈jz c)(a:Int):(jz (pa c k a)).Perm (jz c):=by
 have e:jz (pa c k a)=k :: (jz c).erase k:=by
  rw[List.Nodup.erase_eq_filter hn]
  unfold pa qm jz
  rw[List.map_cons,List.filter_map]
  congr 2
 rw[e]
 exact (List.perm_cons_erase hk).symm
section
variable {w0 w : World} {hb : Nat} {g : Cfg} {A : List AE} {c : CT} {R : List Asn}
theorem bec(S:St w0 w (mf hb g A c :: R))(hA:A.length<=1000)(k:Int){K:KV}
  (h0:(∀e∈A,e.t≠k)->K (.slice none 0 0) w)
  (h1: ∀e∈A,e.t=k->∀w' v,St w0 w' (rdA 8 jr v e.l :: mf hb g (tq A k) (qm c k) :: R)->K v w'):ie P F.bz [.pointer (some ⟨hb,0,none⟩),.int .u64 k] w K:=by
 obtain⟨B,I,hB,cl⟩:=S.open
 have I':Buf w hb g B A c:=I
 rw[M.cb.fcall]
 refine bhp I' hA k h0 fun e he het w' v B' hI hs hn hsub hf=>h1 e he het w' v (cl w' [rdA 8 jr v e.l,mf hb g _ _] hf ⟨fun x=>v.ownBlock=some x,⟨hs,fun b hb=>hb⟩,fun b hb=> .inl (hn b hb).2.2,B',hI,fun b hb=>⟨.inl (hsub b hb),fun hv=>(hn b hv).2.1 hb⟩,trivial⟩)
theorem aqh(S:St w0 w (mf hb g A c :: R))(hA:A.length<=1000){k t:Int}{e:AE}(he:e∈A)(het:e.t=k){K:KV}(h: ∀w',St w0 w' (mf hb g A (pa c k t) :: R)->K (.bool true) w'):ie P F.bp [.pointer (some ⟨hb,0,none⟩),.int .u64 k,.int .u64 t] w K:=by
 obtain⟨B,I,hBB,cl⟩:=S.open
 obtain⟨⟨O,r,m,es,hAe,J,hB⟩,hlt⟩:=(I:Buf w hb g B A c)
 rw[M.di.fcall]
 apply M.di.calls
 unfold M.di
 simp only[il]
 obtain⟨_,_,_,q5⟩:=J.cells
 simp[q5]
 rw[ta mt.j J.mp]
 rw[hAe] at he
 obtain⟨e',he',rfl⟩:=List.mem_map.1 he
 have hg:=J.mg e' he'
 have het':e'.t=k:=het
 rw[het'] at hg
 rw[hg]
 have e1:e'.ptr= .pointer (some ⟨e'.p,0,none⟩):=rfl
 simp[e1]
 have hcl:c.length=es.length:=by
  have:=J.ck.length_eq
  simpa [jz] using this
 have hAl:A.length=es.length:=by rw[hAe,List.length_map]
 rw[M.az.fcall]
 refine @aqb (qt g r) _ _ _ _ J.hp (by omega) _ _ _ fun w5 O5 H5 f5 p5=>?_
 have f5':Fr O w w5:=⟨f5.size,f5.jf,f5.tape,f5.os,f5.output⟩
 have hkt:k∈jz c:=J.ck.mem_iff.2 (by rw[<-het'];exact List.mem_map_of_mem he')
 have hnd:(jz c).Nodup:= @Hp.nd (qt g r) _ _ _ _ J.hp
 have hck:(jz (pa c k t)).Perm (es.map Ent.t):=(app hnd hkt t).trans J.ck
 have J5:=J.heap f5' H5 p5 hck
 refine h w5 (cl w5 [mf hb g A (pa c k t)] (f5'.mono fun b _ hb=>hB b (.inl hb)) (Rs.one (B:=fun b=>fpB O5 r es b) ⟨⟨O5,r,m,es,hAe,J5,fun b hb=>hb⟩,fun b hb=>J5.lt hb⟩ fun b hb=>?_))
 rcases hb with hb|hb
 ·rcases p5 b hb with hb|hb
  ·exact .inl (hB b (.inl hb))
  ·exact .inr ⟨hb,J5.lt (.inl (by assumption))⟩
 ·exact .inl (hB b (.inr hb))
theorem bjz(S:St w0 w (mf hb g A c :: R))(hA:A.length<=1000)(now:Int){K:KV}(h: ∀w' v,St w0 w' (rdA 1 lw v (nk c now) :: mf hb g A c :: R)->K v w'):ie P F.bn [.pointer (some ⟨hb,0,none⟩),.int .u64 now] w K:=by
 obtain⟨B,I,hBB,cl⟩:=S.open
 rw[M.ae.fcall]
 refine bij (I:Buf w hb g B A c) hA now fun w' v B' hI ho hn hf hs=>?_
 have ow:=awc ho
 refine h w' v (cl w' [rdA 1 lw v (nk c now),mf hb g A c] hf ⟨fun x=>v.ownBlock=some x,⟨ow.sl ajr,fun b hb=>hb⟩,fun b hb=> .inr (ow.lt hb),B',hI,fun b hb=>⟨?_,fun hv=>hn b hv hb⟩,trivial⟩)
 rcases hs b hb with h1|h1
 ·exact .inl h1
 ·exact .inr ⟨h1,hI.lt b hb⟩
end
theorem azj(v:Value)(rx ry:Operand)(w:World)(K:KV):ip P .eql T.be rx ry (.iface T.y v) .nilIface w K=K (.bool false) w:=kr
theorem ase(v:Value)(rx ry:Operand)(w:World)(K:KV):ip P .eql T.be rx ry (.iface T.w v) .nilIface w K=K (.bool false) w:=kr
theorem agp(v:Value)(w:World)(K:KV):taT P (.iface T.ai v) T.be T.y true w K=K (.tuple #[.agg #[.int .u64 0,.bool false,.slice none 0 0],.bool false]) w:=kr
theorem aei(v:Value)(w:World)(K:KV):taT P (.iface T.ai v) T.be T.w true w K=K (.tuple #[.agg #[.slice none 0 0],.bool false]) w:=kr
theorem bhf(v:Value)(rx ry:Operand)(w:World)(K:KV):ip P .eql T.be rx ry (.iface T.ai v) .nilIface w K=K (.bool false) w:=kr
theorem zz(v:Value)(w:World)(K:KV):taT P (.iface T.k v) T.be T.y true w K=K (.tuple #[.agg #[.int .u64 0,.bool false,.slice none 0 0],.bool false]) w:=kr
theorem yl(v:Value)(w:World)(K:KV):taT P (.iface T.k v) T.be T.w true w K=K (.tuple #[.agg #[.slice none 0 0],.bool false]) w:=kr
theorem ahl(v:Value)(w:World)(K:KV):taT P (.iface T.k v) T.be T.ai true w K=K (.tuple #[.agg #[.int .u64 0,.int .u64 0,.int .u64 0,.int .i64 0],.bool false]) w:=kr
theorem baq(v:Value)(rx ry:Operand)(w:World)(K:KV):ip P .eql T.be rx ry (.iface T.k v) .nilIface w K=K (.bool false) w:=kr
theorem agb(v:Value)(w:World)(K:KV):taT P (.iface T.af v) T.be T.y true w K=K (.tuple #[.agg #[.int .u64 0,.bool false,.slice none 0 0],.bool false]) w:=kr
theorem act(v:Value)(w:World)(K:KV):taT P (.iface T.af v) T.be T.w true w K=K (.tuple #[.agg #[.slice none 0 0],.bool false]) w:=kr
theorem aiq(v:Value)(w:World)(K:KV):taT P (.iface T.af v) T.be T.ai true w K=K (.tuple #[.agg #[.int .u64 0,.int .u64 0,.int .u64 0,.int .i64 0],.bool false]) w:=kr
theorem afw(v:Value)(w:World)(K:KV):taT P (.iface T.af v) T.be T.k true w K=K (.tuple #[.agg #[.int .u64 0,.int .u64 0,.int .u64 0,.bool false,.int .u64 0,.int .u64 0,.int .i64 0,.bool false],.bool false]) w:=kr
theorem bck(v:Value)(rx ry:Operand)(w:World)(K:KV):ip P .eql T.be rx ry (.iface T.af v) .nilIface w K=K (.bool false) w:=kr
theorem adp(v:Value)(w:World)(K:KV):taT P (.iface T.t v) T.be T.y true w K=K (.tuple #[.agg #[.int .u64 0,.bool false,.slice none 0 0],.bool false]) w:=kr
theorem abh(v:Value)(w:World)(K:KV):taT P (.iface T.t v) T.be T.w true w K=K (.tuple #[.agg #[.slice none 0 0],.bool false]) w:=kr
theorem agd(v:Value)(w:World)(K:KV):taT P (.iface T.t v) T.be T.ai true w K=K (.tuple #[.agg #[.int .u64 0,.int .u64 0,.int .u64 0,.int .i64 0],.bool false]) w:=kr
theorem adc(v:Value)(w:World)(K:KV):taT P (.iface T.t v) T.be T.k true w K=K (.tuple #[.agg #[.int .u64 0,.int .u64 0,.int .u64 0,.bool false,.int .u64 0,.int .u64 0,.int .i64 0,.bool false],.bool false]) w:=kr
theorem aeo(v:Value)(w:World)(K:KV):taT P (.iface T.t v) T.be T.af true w K=K (.tuple #[.agg #[.int .u64 0,.int .i64 0],.bool false]) w:=kr
theorem avo(v:Value)(rx ry:Operand)(w:World)(K:KV):ip P .eql T.be rx ry (.iface T.t v) .nilIface w K=K (.bool false) w:=kr
theorem aef(v:Value)(w:World)(K:KV):taT P (.iface T.z v) T.be T.y true w K=K (.tuple #[.agg #[.int .u64 0,.bool false,.slice none 0 0],.bool false]) w:=kr
theorem acj(v:Value)(w:World)(K:KV):taT P (.iface T.z v) T.be T.w true w K=K (.tuple #[.agg #[.slice none 0 0],.bool false]) w:=kr
theorem ahd(v:Value)(w:World)(K:KV):taT P (.iface T.z v) T.be T.ai true w K=K (.tuple #[.agg #[.int .u64 0,.int .u64 0,.int .u64 0,.int .i64 0],.bool false]) w:=kr
theorem aer(v:Value)(w:World)(K:KV):taT P (.iface T.z v) T.be T.k true w K=K (.tuple #[.agg #[.int .u64 0,.int .u64 0,.int .u64 0,.bool false,.int .u64 0,.int .u64 0,.int .i64 0,.bool false],.bool false]) w:=kr
theorem afy(v:Value)(w:World)(K:KV):taT P (.iface T.z v) T.be T.af true w K=K (.tuple #[.agg #[.int .u64 0,.int .i64 0],.bool false]) w:=kr
theorem adg(v:Value)(w:World)(K:KV):taT P (.iface T.z v) T.be T.t true w K=K (.tuple #[.agg #[.int .u64 0,.int .u64 0,.int .u64 0,.slice none 0 0],.bool false]) w:=kr
theorem ayg(v:Value)(rx ry:Operand)(w:World)(K:KV):ip P .eql T.be rx ry (.iface T.z v) .nilIface w K=K (.bool false) w:=kr
end Go.Proofs.YtgepcfcicngceaaGreatDoor
set_option maxRecDepth 100000
namespace Go.Proofs.YtgepcfcicngceaaGreatDoor.CB
open Go.Eng
end Go.Proofs.YtgepcfcicngceaaGreatDoor.CB
set_option maxRecDepth 100000
namespace Go.Proofs.YtgepcfcicngceaaGreatDoor.Sint
open Go.Eng Go.Sort
end Go.Proofs.YtgepcfcicngceaaGreatDoor.Sint
set_option maxRecDepth 100000
namespace Go.Proofs.YtgepcfcicngceaaGreatDoor.KeyD
open Go.Eng Go.Sort Go.Proofs.YtgepcfcicngceaaGreatDoor.Sint
end Go.Proofs.YtgepcfcicngceaaGreatDoor.KeyD
set_option maxRecDepth 100000
namespace Go.Proofs.YtgepcfcicngceaaGreatDoor
open Go.Eng Go.Proofs.YtgepcfcicngceaaGreatDoor.Sint
structure Fil where
 n:Int
 bmu:List Int
 blm:List Int
structure Dk where
 cbr:Int
 left:Int
 cbi:Bool
 th:Bool
 fs:List Fil
structure FE where
 n:Int
 p:Nat
 fv:Value
 lv:Value
 bmu:List Int
 blm:List Int
abbrev yp(v:Value)(l:List Int):Asn:=pc T.ba 1 ack v l
abbrev SlB(w:World)(v:Value)(l:List Int):Prop:=Sl w 1 ack v l
section
variable {w0 w : World} {hb r : Nat} {m : MP} {es : List FE} {D : Dk} {R : List Asn} {e : FE}
end
set_option maxRecDepth 100000
section
variable {w0 w : World} {hb r : Nat} {m : MP} {es a b : List FE} {D : Dk} {R : List Asn} {e e' : FE}
end
section
variable {w0 w : World} {hb r : Nat} {m : MP} {es a b : List FE} {D : Dk} {R : List Asn} {e e' : FE}
end
section
variable {w0 w : World} {hb r : Nat} {m : MP} {es a b : List FE} {D : Dk} {R : List Asn} {e e' : FE}
end
section
variable {w0 w : World} {hb r : Nat} {m : MP} {es a b : List FE} {D : Dk} {R : List Asn} {e e' : FE}
end
section
variable {w0 w : World} {hb : Nat} {D : Dk} {R : List Asn}
end
end Go.Proofs.YtgepcfcicngceaaGreatDoor
set_option maxRecDepth 100000
namespace Go.Eng
section
variable {P : Program} {x : Int} {w : World} {K : KV}
end
end Go.Eng
namespace Go.Proofs.YtgepcfcicngceaaGreatDoor
open Go.Eng Go.Proofs.YtgepcfcicngceaaGreatDoor.Sint
def orE(a b:Int):Int:=IntKind.u32.wrap (BitVec.ofInt IntKind.u32.bits a ||| BitVec.ofInt IntKind.u32.bits b).toNat
def orL(a b:Int):Int:=IntKind.u64.wrap (BitVec.ofInt IntKind.u64.bits a ||| BitVec.ofInt IntKind.u64.bits b).toNat
theorem bbt{t:TypeId}{rx ry:Operand}{x y:Int}{w:World}{K:KV}:ip P .or t rx ry (.int .u64 x) (.int .u64 y) w K=K (.int .u64 (orL x y)) w:=aye
def b8(x:Int):Int:=IntKind.u8.wrap x
section
variable {w0 w : World} {R : List Asn} {v : Value} {l : List Int}
theorem bbx(S:St w0 w R)(x:Int):St w0 (w.alloc (.cells #[.int .u8 x] T.ba)) (yp (.slice (some ⟨w.heap.size,0,none⟩) 1 1) [x] :: R):=St.tz (l:=[x]) S ny rfl (by unfold maxLen;simp)
def shE(c:Int)(i:Nat):Int:=IntKind.u32.wrap (IntKind.u32.wrap c * 2 ^ min (8 * i) IntKind.u32.bits)
def bnb(l:List Int):Nat->Int
 | 0=>0
 | i+1=>orE (bnb l i) (shE (l.getD i 0) i)
def mu(n:Int):List Int:=(List.range 8).map fun k=>b8 (n.fdiv (2 ^ min (56 - 8 * k) IntKind.u64.bits))
theorem sk(n:Int):(mu n).length=8:=by simp[mu]
theorem avw(n:Int){k:Nat}(hk:k < 8):(mu n).take (k+1)=(mu n).take k ++ [b8 (n.fdiv (2 ^ min (56 - 8 * k) IntKind.u64.bits))]:=by
 rw[List.take_succ_eq_append_getElem (by rw[sk];exact hk)]
 simp[mu]
def bkz(x:List Value):Nat:=match gv x 1 with
 | .int _ k=>(k+8).toNat
 | _=>0
def ye(l:List Int):Nat->Int
 | 0=>0
 | i+1=>orL (IntKind.u64.wrap (ye l i * 2 ^ min (8:Int).toNat IntKind.u64.bits)) (IntKind.u64.wrap (l.getD i 0))
def abf(l:List Int):Int:=ye l 8
def U6I(w:World)(l:List Int):KL:=fun x w1=> ∃(u0:Value)(i:Nat),x=[u0,.int .u64 (ye l i),.int .i64 (i:Nat)]/\w1=w/\i<=8
theorem bal(hs:SlB w v l)(hl:8<=l.length){K:KV}(h:K (.int .u64 (abf l)) w):ie P F.gu [v] w K:=by
 rw[M.fq.fcall]
 apply M.fq.calls
 unfold M.fq
 obtain⟨v',s',_,hsub⟩:=hs.sub (P:=P) (t:=T.q) (lo:=none) (hi:=some (.int .i64 (8:Nat))) (i:=0) (j:=8) (by kernel_rfl) (by kernel_rfl) (.inl ⟨rfl,rfl⟩) (.inr ⟨_,rfl⟩) (Nat.zero_le _) hl
 have e4:(List.take (8 - 0) (List.drop 0 l))=l.take 8:=by simp
 rw[e4] at s'
 have hsub': ∀w1 K,slT P T.q v none (some (.int .i64 8)) none w1 K=K v' w1:=hsub
 have hl4:(l.take 8).length=8:=by simp;omega
 rw[il,hsub',s'.jq (by kernel_rfl),hl4]
 refine⟨U6I w l,fun x _=>8 - ms x 2,⟨_,0,rfl,rfl,by omega⟩,?_⟩
 rintro x w1 ⟨u0,i,rfl,rfl,hi⟩
 have q1:gv [u0,.int .u64 (ye l i),.int .i64 (i:Nat)] 1= .int .u64 (ye l i):=rfl
 have q2:gv [u0,.int .u64 (ye l i),.int .i64 (i:Nat)] 2= .int .i64 (i:Nat):=rfl
 have q0:gv [u0,.int .u64 (ye l i),.int .i64 (i:Nat)] 0=u0:=rfl
 simp only[q2,il]
 by_cases hil:i < 8
 ·have hil':(i:Int) < ((8:Nat):Int):=by omega
  have hwi:IntKind.i64.wrap ((i:Int)+1)=((i+1:Nat):Int):=by rw[iy];rfl
  obtain⟨b,o,cap,hv,_,_,hc⟩:=s'.at (i:=i) (by omega)
  have c0:=hc 0 _ rfl
  simp only[Nat.mul_one,Nat.add_zero] at c0
  have hgd:l.getD i 0=(l.take 8)[i]'(by omega):=by
   rw[List.getD_eq_getElem?_getD,List.getElem?_eq_getElem (by omega),List.getElem_take];rfl
  rw[<-hgd] at c0
  rw[hl4] at hv
  have e:ye l (i+1)=orL (IntKind.u64.wrap (ye l i * 2 ^ min (8:Int).toNat IntKind.u64.bits)) (IntKind.u64.wrap (l.getD i 0)):=rfl
  generalize l.getD i 0=c at *
  simp only[mw]
  rw[decide_eq_true hil',Eng.cond_true]
  unfold M.fq.j2
  simp only[q0,q1,q2,il]
  rw[hv]
  rw[auj (by kernel_rfl) (by omega) (by omega)]
  have hz:szE P T.q=1:=by kernel_rfl
  rw[hz]
  simp[c0]
  rw[ael (by omega),ou (ks:= .u8) (kd:= .u64) (by kernel_rfl) (by kernel_rfl),bbt,hwi]
  exact⟨⟨_,i+1,by rw[e],rfl,by omega⟩,by simp[ms,gv];omega⟩
 ·have hil': ¬(i:Int) < 8:=by omega
  have he:i=8:=by omega
  subst he
  simp
  exact h
theorem bgc{a c:Nat}(ha:a < 256)(hc:256 * c+a < 18446744073709551616):orL ((256 * c:Nat):Int) (a:Int)=((256 * c+a:Nat):Int):=by
 have:=Nat.two_pow_add_eq_or_of_lt (i:=8) (b:=a) ha c
 unfold orL
 rw[BitVec.toNat_or]
 have h1:(BitVec.ofInt IntKind.u64.bits ((256 * c:Nat):Int)).toNat=256 * c:=aah (by omega)
 have h2:(BitVec.ofInt IntKind.u64.bits (a:Int)).toNat=a:=aah (by omega)
 rw[h1,h2,<-this,ww hc]
theorem bir{n:Nat}:b8 (n:Int)=((n % 256:Nat):Int):=by
 unfold b8
 show (if (false && decide ((n:Int) % 256≥128))=true then (n:Int) % 256 - 256 else (n:Int) % 256)=_
 simp
theorem ayi{n:Nat}(hn:n < 18446744073709551616)(r:List Int):abf (mu (n:Int) ++ r)=n:=by
 have hb: ∀k,k < 8->(mu (n:Int) ++ r).getD k 0=((n / 2 ^ (56 - 8 * k) % 256:Nat):Int):=fun k hk=>by
  rw[List.getD_eq_getElem?_getD,List.getElem?_append_left (by rw[sk];exact hk)]
  unfold mu
  rw[List.getElem?_map,List.getElem?_range hk]
  show b8 ((n:Int).fdiv (2 ^ min (56 - 8 * k) IntKind.u64.bits))=_
  have hm:min (56 - 8 * k) IntKind.u64.bits=56 - 8 * k:=Nat.min_eq_left (by show 56 - 8 * k<=64;omega)
  rw[hm,ame,bir]
 have key: ∀i,i<=8->ye (mu (n:Int) ++ r) i=((n / 2 ^ (64 - 8 * i):Nat):Int):=by
  intro i
  induction i with
  | zero=>intro _;show (0:Int)=_;simp;omega
  | succ i ih=>
   intro hi
   show orL (IntKind.u64.wrap (ye (mu (n:Int) ++ r) i * 2 ^ 8)) (IntKind.u64.wrap ((mu (n:Int) ++ r).getD i 0))=_
   rw[ih (by omega),hb i (by omega)]
   have e1:n / 2 ^ (64 - 8 * i)=n / 2 ^ (56 - 8 * i) / 256:=by
    rw[Nat.div_div_eq_div_mul]
    congr 1
    rw[show (256:Nat)=2 ^ 8 from rfl,<-Nat.pow_add]
    congr 1;omega
   have e2:64 - 8 * (i+1)=56 - 8 * i:=by omega
   rw[e1,e2]
   have hlt:n / 2 ^ (56 - 8 * i)<=n:=Nat.div_le_self _ _
   generalize n / 2 ^ (56 - 8 * i)=m at *
   have e3:((m / 256:Nat):Int) * 2 ^ 8=((256 * (m / 256):Nat):Int):=by rw[Int.mul_comm];simp
   rw[e3,ww (by omega),ww (by omega),bgc (by omega) (by omega)]
   congr 1;omega
 show ye _ 8=_
 rw[key 8 (by omega)];simp
end
end Go.Proofs.YtgepcfcicngceaaGreatDoor
set_option maxRecDepth 100000
namespace Go.Eng
section
variable {P : Program}
end
end Go.Eng
namespace Go.Proofs.YtgepcfcicngceaaGreatDoor
open Go.Eng Go.Proofs.YtgepcfcicngceaaGreatDoor.Sint
section
variable {w0 w : World} {R : List Asn} {v : Value} {l : List Int}
theorem anp(S:St w0 w R)(hs:SlB w v l)(hlen:l.length<=100000000){K:KV}(h: ∀w' v',St w0 w' (yp v' l :: R)->K v' w'):ie P F.cr [v] w K:=by
 rw[M.cz.fcall]
 apply M.cz.calls
 unfold M.cz
 simp only[il]
 have hs':=hs
 obtain⟨a,cap,rfl,_⟩:=hs'
 cases a with
 | none=>
  simp
  have hz:l=[]:=by
   obtain⟨a',cap',hv,_,_,h3⟩:=hs
   cases l with
   | nil=>rfl
   | cons x l=>
    obtain⟨b,o,ha,_⟩:=h3 0 x rfl
    injection hv with h1 _ _
    rw[<-h1] at ha;cases ha
  subst hz
  exact h w _ (Eng.yq S)
 | some a=>
  simp
  have S1:St w0 (w.alloc (.cells #[] T.ba)) (yp (.slice (some ⟨w.heap.size,0,none⟩) 0 0) [] :: R):=St.tz (l:=([]:List Int)) S ny rfl (by simp)
  refine Go.Eng.ul et.q ny zv S1 (hs.fr ((Fr.refl (fun _=>False) w).alloc _) fun _ _ _ h=>h) (by simp;omega) (by decide) fun w2 v2 S2=>?_
  exact h w2 v2 S2
end
set_option maxRecDepth 100000
open Go.Eng
structure Bal where
 n:Int
 ji:Int
deriving DecidableEq
def ja:Bal:=⟨0,0⟩
def Bal.aov(a b:Bal):Bool:=decide (a.n < b.n\/(a.n=b.n/\a.ji < b.ji))
def wz(v:Int):Bool:=decide (1<=v/\v<=3)
def yd(x:Int):Prop:=0<=x/\x < 18446744073709551616
def Bal.rng(b:Bal):Prop:=yd b.n/\yd b.ji
theorem bcc{x:Int}(h:yd x)(r:List Int):abf (mu x ++ r)=x:=by
 obtain⟨h0,h1⟩:=h
 obtain⟨n,rfl⟩: ∃n:Nat,x=n:=⟨x.toNat,by omega⟩
 exact ayi (by omega) r
structure Pk where
 jg:Int
 tr:Int
 b:Bal
 jp:Bal
 v:Int
 ok:Bool
 sv:Value
 mv:Value
 iv:Value
def pkC(p:Pk):List Value:=[.int .i64 p.jg,.int .u64 p.tr,.int .u64 p.b.n,.int .u64 p.b.ji,.int .u64 p.jp.n,.int .u64 p.jp.ji,.int .i64 p.v,.bool p.ok,p.sv,p.mv,p.iv]
def pkA(p:Pk):Value:= .agg (pkC p).toArray
def bct(tr:Int)(b:Bal)(v:Int):Value:= .agg #[.int .u64 tr,.int .u64 b.n,.int .u64 b.ji,.int .i64 v]
def alw(tr:Int)(b:Bal)(v:Int):Value:= .iface T.ai (bct tr b v)
theorem aiy{w:World}{v:Int}{K:KV}(h:K (.bool (wz v)) w):ie P F.eg [.int .i64 v] w K:=by
 rw[M.fb.fcall]
 apply M.fb.calls
 unfold M.fb
 unfold wz at h
 by_cases h1:1<=v
 ·by_cases h2:v<=3
  ·rw[decide_eq_true ⟨h1,h2⟩] at h
   simp[h1,h2];exact h
  ·rw[decide_eq_false (fun hh=>h2 hh.2)] at h
   simp[h1,h2];exact h
 ·rw[decide_eq_false (fun hh=>h1 hh.1)] at h
  simp[h1];exact h
theorem aad{w:World}{b:Nat}{p:Pk}{f:Nat×Nat}(h:w.heap[b]? =some (.cells (pkC p).toArray T.c f)): ∀(j:Nat)(u:Value),(pkC p)[j]? =some u->ik w b j=some u:=fun j u hj=>by
 rw[iq h];simpa using hj
theorem asb{w:World}{p:Pk}(hk:p.jg=4\/p.jg=6){K:KV}(h: ∀w',Fz w w'->K (alw p.tr p.b p.v) w'):ie P F.cx [pkA p] w K:=by
 rw[M.w.fcall]
 apply M.w.calls
 unfold M.w pkA
 have hb:(w.alloc (.cells (pkC p).toArray T.c)).heap[w.heap.size]? =some (.cells (pkC p).toArray T.c (0,0)):=by rw[iw,if_pos rfl]
 have f1:Fz w (w.alloc (.cells (pkC p).toArray T.c)):=(Fr.refl _ w).alloc _
 have c0:=aad hb 0 _ rfl
 have c1:=aad hb 1 _ rfl
 have c2:=aad hb 2 _ rfl
 have c3:=aad hb 3 _ rfl
 have c6:=aad hb 6 _ rfl
 simp
 generalize w.alloc (.cells (pkC p).toArray T.c)=w1 at *
 have hl2: ∀K,ldN P 2 w.heap.size 2 w1 K=K (.agg #[.int .u64 p.b.n,.int .u64 p.b.ji]) w1:=fun K=>zh c2 c3 K
 have n1: ¬p.jg=1:=by omega
 have n2: ¬p.jg=2:=by omega
 have n3: ¬p.jg=3:=by omega
 simp[c0,n1,n2]
 unfold M.w.j1
 simp[n3]
 rcases hk with hk|hk
 ·simp[hk]
  unfold M.w.j2
  simp[c1,hl2,c6]
  exact h w1 f1
 ·simp[hk]
  unfold M.w.j2
  simp[c1,hl2,c6]
  exact h w1 f1
def apw(tr:Int)(b:Bal)(v:Int):Bool:=decide (0 < tr) && decide (0 < b.n) && (decide (v=0) || wz v)
theorem aru{w:World}{tr v:Int}{b:Bal}{K:KV}(h: ∀w',Fz w w'->K (.bool (apw tr b v)) w'):ie P F.bg [alw tr b v] w K:=by
 rw[M.ab.fcall]
 apply M.ab.calls
 unfold M.ab alw bct
 simp[agp,aei]
 have hb1:(w.alloc (.cells #[.int .u64 0,.int .u64 0] T.e)).heap[w.heap.size]? =some (.cells #[.int .u64 0,.int .u64 0] T.e (0,0)):=by rw[iw,if_pos rfl]
 have f1:Fz w (w.alloc (.cells #[.int .u64 0,.int .u64 0] T.e)):=(Fr.refl _ w).alloc _
 refine jw (vs:=[.int .u64 0,.int .u64 0]) hb1 rfl (by simp[kt]) fun w2 b2 f2=>?_
 have f12:Fz w w2:=f1.jt f2 fun g hg he=>by omega
 have hb3:(w2.alloc (.cells #[.int .u64 0,.int .u64 0,.int .u64 0,.int .i64 0] T.ai)).heap[w2.heap.size]? =some (.cells #[.int .u64 0,.int .u64 0,.int .u64 0,.int .i64 0] T.ai (0,0)):=by rw[iw,if_pos rfl]
 have f3:Fz w (w2.alloc (.cells #[.int .u64 0,.int .u64 0,.int .u64 0,.int .i64 0] T.ai)):=f12.alloc _
 have hsz:=f12.size
 refine jw (vs:=[.int .u64 tr,.int .u64 b.n,.int .u64 b.ji,.int .i64 v]) hb3 rfl (by simp[kt]) fun w4 b4 f4=>?_
 have f14:Fz w w4:=f3.jt f4 fun g hg he=>by omega
 generalize w2.heap.size=ob at *
 have c0:ik w4 ob 0=some (.int .u64 tr):=by rw[iq b4];rfl
 have c1:ik w4 ob 1=some (.int .u64 b.n):=by rw[iq b4];rfl
 have c3:ik w4 ob 3=some (.int .i64 v):=by rw[iq b4];rfl
 have fin:=h w4 f14
 unfold apw at fin
 by_cases h1:0 < tr
 ·by_cases h2:0 < b.n
  ·by_cases h3:v=0
   ·simp[c0,c1,c3,h1,h2,h3]
    simpa [h1,h2,h3] using fin
   ·simp[c0,c1,c3,h1,h2,h3]
    refine aiy ?_
    simpa [h1,h2,h3] using fin
  ·simp[c0,c1,c3,h1,h2]
   simpa [h1,h2] using fin
 ·simp[c0,c1,c3,h1]
  simpa [h1] using fin
def agm(k tr:Int)(b:Bal)(v:Int):Pk:=⟨k,tr,b,ja,v,false,.slice none 0 0,.slice none 0 0,.slice none 0 0⟩
def bep(tr:Int)(b:Bal)(v:Int):Pk:=⟨if v=0 then 4 else 6,tr,b,ja,v,false,.slice none 0 0,.slice none 0 0,.slice none 0 0⟩
theorem aqx{w:World}{tr v:Int}{b:Bal}{K:KV}(h: ∀w',Fz w w'->K (pkA (bep tr b v)) w'):ie P F.bb [alw tr b v] w K:=by
 rw[M.ad.fcall]
 apply M.ad.calls
 unfold M.ad alw bct
 simp[agp,aei]
 have S0:St w (w.alloc (.cells #[.int .i64 0,.int .u64 0,.int .u64 0,.int .u64 0,.int .u64 0,.int .u64 0,.int .i64 0,.bool false,.slice none 0 0,.slice none 0 0,.slice none 0 0] T.c)) (iz w.heap.size #[.int .i64 0,.int .u64 0,.int .u64 0,.int .u64 0,.int .u64 0,.int .u64 0,.int .i64 0,.bool false,.slice none 0 0,.slice none 0 0,.slice none 0 0] T.c :: []):=(St.kl w).add ((Fr.refl _ w).alloc _) (B:=fun x=>x=w.heap.size) ⟨by rw[iw,if_pos rfl],rfl⟩ fun x hx=>by subst hx;rw[jc];omega
 have z0:(w.alloc (.cells #[.int .i64 0,.int .u64 0,.int .u64 0,.int .u64 0,.int .u64 0,.int .u64 0,.int .i64 0,.bool false,.slice none 0 0,.slice none 0 0,.slice none 0 0] T.c)).heap.size=w.heap.size+1:=jc _ _
 generalize w.alloc (.cells #[.int .i64 0,.int .u64 0,.int .u64 0,.int .u64 0,.int .u64 0,.int .u64 0,.int .i64 0,.bool false,.slice none 0 0,.slice none 0 0,.slice none 0 0] T.c)=w1 at *
 have S1:St w (w1.alloc (.cells #[.int .u64 0,.int .u64 0,.int .u64 0,.int .i64 0] T.ai)) (iz w1.heap.size #[.int .u64 0,.int .u64 0,.int .u64 0,.int .i64 0] T.ai :: _):=S0.add ((Fr.refl _ w1).alloc _) (B:=fun x=>x=w1.heap.size) ⟨by rw[iw,if_pos rfl],rfl⟩ fun x hx=>by subst hx;rw[jc];omega
 rw[z0] at S1
 generalize w.heap.size=pb at *
 generalize pb+1=ob at *
 refine jw (vs:=[.int .u64 tr,.int .u64 b.n,.int .u64 b.ji,.int .i64 v]) S1.blk rfl (by simp[kt]) fun w2 b2 f2=>?_
 have S2:=S1.nl f2 b2
 have askC: ∀{W:World}{R:List Asn},St w W (iz ob [Value.int .u64 tr,.int .u64 b.n,.int .u64 b.ji,.int .i64 v].toArray T.ai :: R)->ik W ob 0=some (.int .u64 tr)/\ik W ob 3=some (.int .i64 v)/\∀K,ldN P 2 ob 1 W K=K (.agg #[.int .u64 b.n,.int .u64 b.ji]) W:=fun{W R} S'=>by
  have hh:=S'.blk
  exact⟨by rw[iq hh];rfl,by rw[iq hh];rfl,fun K=>zh (by rw[iq hh];rfl) (by rw[iq hh];rfl) K⟩
 obtain⟨c0,c3,cl⟩:=askC S2
 simp[c0,c3,cl]
 have pkL: ∀{W:World}{R:List Asn}{q:Pk},St w W (iz pb (pkC q).toArray T.c :: R)->∀K,ldN P 11 pb 0 W K=K (pkA q) W:=fun{W R q} S' K=>su (pkC q) 11 rfl (fun k u hk=>by rw[Nat.zero_add];exact aad S'.blk k u hk) K
 have pkO: ∀(k:Int),∀u∈pkC (agm k tr b v),kt u=true:=fun k u hu=>by
  simp only[pkC,agm,List.mem_cons,List.not_mem_nil,or_false] at hu
  rcases hu with rfl|rfl|rfl|rfl|rfl|rfl|rfl|rfl|rfl|rfl|rfl <;>rfl
 have hres: ∀{W:World}{R:List Asn}{q:Pk},St w W (iz pb (pkC q).toArray T.c :: R)->∀K,ng P T.c (.pointer (some ⟨pb,0,none⟩)) W K=K (pkA q) W:=fun{W R q} S' K=>by rw[ahx];exact pkL S' K
 refine jw (vs:=pkC (agm 4 tr b v)) S2.swap.blk rfl (pkO 4) fun w3 b3 f3=>?_
 have S3:=S2.swap.nl f3 b3
 obtain⟨_,d3,_⟩:=askC S3.swap
 by_cases hv:v=0
 ·simp[d3,hv]
  subst hv
  rw[pkL S3]
  have e:pkA (agm 4 tr b 0)= .agg #[.int .i64 4,.int .u64 tr,.int .u64 b.n,.int .u64 b.ji,.int .u64 0,.int .u64 0,.int .i64 0,.bool false,.slice none 0 0,.slice none 0 0,.slice none 0 0]:=rfl
  rw[e]
  simp
  refine jw (vs:=pkC (agm 4 tr b 0)) S3.blk rfl (pkO 4) fun w5 b5 f5=>?_
  have S5:=S3.nl f5 b5
  rw[hres S5]
  exact⟨rfl,h w5 S5.fr⟩
 ·have e0:=aad S3.blk 0 _ rfl
  have ez:=lk S3.blk
  simp[d3,hv,e0,ez]
  have S4:St w (w3.setCell ⟨pb,0,none⟩ (.int .i64 6)) (iz pb (pkC (agm 6 tr b v)).toArray T.c :: _):=S3.nl ((Fr.refl (fun x=>x=pb) w3).setCell (.inl rfl) _ _) ((mh S3.blk).trans rfl)
  rw[pkL S4]
  have e:pkA (agm 6 tr b v)= .agg #[.int .i64 6,.int .u64 tr,.int .u64 b.n,.int .u64 b.ji,.int .u64 0,.int .u64 0,.int .i64 v,.bool false,.slice none 0 0,.slice none 0 0,.slice none 0 0]:=rfl
  rw[e]
  simp
  refine jw (vs:=pkC (agm 6 tr b v)) S4.blk rfl (pkO 6) fun w5 b5 f5=>?_
  have S5:=S4.nl f5 b5
  rw[hres S5]
  have fin:=h w5 S5.fr
  unfold bep at fin
  rw[if_neg hv] at fin
  exact⟨rfl,fin⟩
def kj(b:Bal):Value:= .agg #[.int .u64 b.n,.int .u64 b.ji]
theorem ang(x y:Bal)(w:World):(Op.equalIn 10000 T.e (kj x) (kj y)).run P w= .ok (x.n == y.n && (x.ji == y.ji)) w:=by
 have hS:P.underlying T.e=some (.struct (P.fieldsOf T.e)):=by kernel_rfl
 have hp:P.stoodInHeld T.e=false:=by kernel_rfl
 unfold kj
 rw[show (10000:Nat)=9999+1 from rfl,run_equalIn_agg w 9999 T.e _ _ hS hp]
 simp only[Program.fieldsOf,show P.underlying T.e=_ from Tryz.underlying25]
 have u22:P.underlying T.a=some (.int .u64):=by kernel_rfl
 have a22:abc P T.a=false:=by kernel_rfl
 refine eqF (by decide) a22 rfl rfl (run_equalIn_int w 9998 T.a _ _ _ _ u22) ?_
 have:=eqF (fs:=[]) (d:=9999) (xs:= #[.int .u64 x.n,.int .u64 x.ji]) (ys:= #[.int .u64 y.n,.int .u64 y.ji]) (f:={name:= "Node",type:=T.a,offset:=1,embedded:=false,tag:= "",pkgPath:= "",byteOffset:=8}) (w:=w) (c:=true) (by decide) a22 rfl rfl (run_equalIn_int w 9998 T.a _ _ _ _ u22) rfl
 simpa using this
theorem bfu(x y:Bal):(x.n == y.n && (x.ji == y.ji))=decide (x=y):=by
 obtain⟨a,b⟩:=x
 obtain⟨a',b'⟩:=y
 simp only[Bal.mk.injEq]
 by_cases h1:a=a' <;>by_cases h2:b=b' <;>simp[h1,h2]
theorem aam(rx ry:Operand)(x y:Bal)(w:World)(K:KV):ip P .eql T.e rx ry (kj x) (kj y) w K=K (.bool (decide (x=y))) w:=by
 have hm:P.eqGuardType P.depth T.e=false:=by kernel_rfl
 have hg:=run_eqGuard_agg (P:=P) w .eql T.e rx ry #[.int .u64 x.n,.int .u64 x.ji] #[.int .u64 y.n,.int .u64 y.ji] hm
 have he:=ang x y w
 rw[bfu] at he
 unfold ip jk
 unfold kj at he⊢
 rw[Sem.run_bind,hg]
 simp only[Result.andThen]
 rw[run_eql_struct,he]
 rfl
theorem apf(rx ry:Operand)(x y:Bal)(w:World)(K:KV):ip P .neq T.e rx ry (kj x) (kj y) w K=K (.bool !(decide (x=y))) w:=by
 have hm:P.eqGuardType P.depth T.e=false:=by kernel_rfl
 have hg:=run_eqGuard_agg (P:=P) w .neq T.e rx ry #[.int .u64 x.n,.int .u64 x.ji] #[.int .u64 y.n,.int .u64 y.ji] hm
 have he:=ang x y w
 rw[bfu] at he
 unfold ip jk
 unfold kj at he⊢
 rw[Sem.run_bind,hg]
 simp only[Result.andThen]
 rw[run_neq_struct,he]
 rfl
structure aab(w:World)(p:Pk)(ls:List Spn)(lm:List Mem)(lu:List Int):Prop where
 s:SlS w p.sv ls
 m:SlM w p.mv lm
 u:SlU w p.iv lu
 ls:ls.length<=1000000
 lm:lm.length<=1000000
 lu:lu.length<=1000000
theorem aab.fr{w w':World}{p:Pk}{ls:List Spn}{lm:List Mem}{lu:List Int}(h:aab w p ls lm lu)(hf:Fz w w'):aab w' p ls lm lu:=
 ⟨h.s.fr hf fun _ _ _ h=>h,h.m.fr hf fun _ _ _ h=>h,h.u.fr hf fun _ _ _ h=>h,h.ls,h.lm,h.lu⟩
theorem aab.one{w:World}{p:Pk}{ls:List Spn}{lm:List Mem}{lu:List Int}(h:aab w p ls lm lu):(∃a c,p.sv= .slice a ls.length c)/\(∃a c,p.mv= .slice a lm.length c)/\∃a c,p.iv= .slice a lu.length c:=by
 obtain⟨a1,c1,h1,_⟩:=h.s
 obtain⟨a2,c2,h2,_⟩:=h.m
 obtain⟨a3,c3,h3,_⟩:=h.u
 exact⟨⟨a1,c1,h1⟩,⟨a2,c2,h2⟩,a3,c3,h3⟩
theorem apu{w:World}{p:Pk}{ls:List Spn}{lm:List Mem}{lu:List Int}(h:aab w p ls lm lu)(K:KV):lh P T.c (pkA p) w K=K (.pointer (some ⟨w.heap.size,0,none⟩)) (w.alloc (.cells (pkC p).toArray T.c)):=by
 rw[tw];rfl
theorem qv{W w:World}{pb:Nat}{p:Pk}{R:List Asn}(S:St W w (iz pb (pkC p).toArray T.c :: R)):ik w pb 0=some (.int .i64 p.jg)/\ik w pb 1=some (.int .u64 p.tr)/\(∀K,ldN P 2 pb 2 w K=K (kj p.b) w)/\(∀K,ldN P 2 pb 4 w K=K (kj p.jp) w)/\ik w pb 6=some (.int .i64 p.v)/\ik w pb 7=some (.bool p.ok)/\ik w pb 8=some p.sv/\ik w pb 9=some p.mv/\ik w pb 10=some p.iv/\∀K,ldN P 11 pb 0 w K=K (pkA p) w:=by
 have hh:=S.blk
 have hc:=fun j u hj=>aad hh j u hj
 exact⟨hc 0 _ rfl,hc 1 _ rfl,fun K=>zh (hc 2 _ rfl) (hc 3 _ rfl) K,fun K=>zh (hc 4 _ rfl) (hc 5 _ rfl) K,hc 6 _ rfl,hc 7 _ rfl,hc 8 _ rfl,hc 9 _ rfl,hc 10 _ rfl,fun K=>su (pkC p) 11 rfl (fun k u hk=>by rw[Nat.zero_add];exact hc k u hk) K⟩
def xi(tr:Int):List Int->List Spn->Bool
 | _,[]=>true
 | met,s :: r=>(decide (kv s=0) && (decide (s.je=tr) && !(decide (s.id∈met)))) && xi tr (met ++ [s.id]) r
def xm(tr:Int)(l:List Spn):Bool:=xi tr [] l && (decide (0 < l.length) && decide (l.length<=16))
theorem arf{tr:Int}{met:List Int}{s:Spn}{r:List Spn}(h: ¬(kv s=0/\s.je=tr/\s.id∉met)):xi tr met (s :: r)=false:=by
 rw[xi]
 by_cases h1:kv s=0 <;>by_cases h2:s.je=tr <;>by_cases h3:s.id∈met <;>simp_all
theorem asp{tr:Int}{met:List Int}{s:Spn}{r:List Spn}(h1:kv s=0)(h2:s.je=tr)(h3:s.id∉met):xi tr met (s :: r)=xi tr (met ++ [s.id]) r:=by
 rw[xi];simp[h1,h2,h3]
def MsI(W:World)(mb:Nat)(tr:Int)(l:List Spn):KL:=fun x w1=> ∃(u0 u1:Value)(i:Nat)(m:MP),x=[u0,u1,.int .i64 (i:Nat)]/\i<=l.length/\St W w1 (jh mb .u64 m :: [])/\(∀k,ki m k=if k∈(l.take i).map Spn.id then some (.bool true) else none)/\xi tr [] l=xi tr ((l.take i).map Spn.id) (l.drop i)
theorem amx{w:World}{v:Value}{l:List Spn}{tr:Int}(hs:SlS w v l)(hlen:l.length<=1000000){K:KV}(h: ∀w',Fz w w'->K (.bool (xm tr l)) w'):ie P F.es [.int .u64 tr,v] w K:=by
 rw[M.cr.fcall]
 apply M.cr.calls
 unfold M.cr
 rw[zn]
 have hlv: ∀w' K,biT P .len #[T.h] T.d [false] [v] w' K=K (.int .i64 l.length) w':=fun w' K=>hs.jq (by kernel_rfl) [false]
 have S0:St w (w.alloc (.map #[] 0)) (jh w.heap.size .u64 [] :: []):=(St.kl w).add ((Fr.refl _ w).alloc _) (B:=fun x=>x=w.heap.size) ⟨⟨ym w .u64,by simp[jm]⟩,rfl⟩ fun x hx=>by subst hx;rw[jc];omega
 generalize w.alloc (.map #[] 0)=w1 at *
 generalize w.heap.size=mb at *
 simp[hlv]
 refine⟨MsI w mb tr l,fun x _=>l.length - ms x 2,⟨_,_,0,[],rfl,Nat.zero_le _,S0,fun k=>by simp[ki],rfl⟩,?_⟩
 rintro x w2 ⟨u0,u1,i,m,rfl,hi,S2,hm,hg⟩
 by_cases hil:i < l.length
 ·have hili:(i:Int) < (l.length:Int):=by omega
  simp[hil]
  unfold M.cr.j2
  have hs2:SlS w2 v l:=hs.fr S2.fr fun _ _ _ h=>h
  obtain⟨b,o,cap,hv,_,_,hc⟩:=hs2.at hil
  have hia: ∀w' K,iaT P T.h v (.int .i64 (i:Nat)) w' K=K (.pointer (some ⟨b,o+i * 8,none⟩)) w':=fun w' K=>by rw[hv];simp[hil]
  have hld: ∀K,ldN P 8 b (o+i * 8) w2 K=K (li l[i]) w2:=fun K=>ldS (fun k u hk=>hc k u hk) K
  have hdrop:l.drop i=l[i] :: l.drop (i+1):=List.drop_eq_getElem_cons hil
  rw[hdrop] at hg
  have htk:(l.take (i+1)).map Spn.id=(l.take i).map Spn.id ++ [l[i].id]:=by rw[List.take_succ_eq_append_getElem hil,List.map_append];rfl
  generalize l[i]=s at *
  simp[hia,hld]
  unfold li
  simp
  have S3:St w (w2.alloc (.cells #[.int .u64 0,.int .u64 0,.int .u64 0,.int .u64 0,.int .u64 0,.string ⟨#[]⟩,.string ⟨#[]⟩,.bool false] T.i)) (iz w2.heap.size #[.int .u64 0,.int .u64 0,.int .u64 0,.int .u64 0,.int .u64 0,.string ⟨#[]⟩,.string ⟨#[]⟩,.bool false] T.i :: jh mb .u64 m :: []):=S2.add ((Fr.refl _ w2).alloc _) (B:=fun x=>x=w2.heap.size) ⟨by rw[iw,if_pos rfl],rfl⟩ fun x hx=>by subst hx;rw[jc];omega
  generalize w2.heap.size=sb at *
  refine jw (vs:=jr s) S3.blk rfl (ph s) fun w4 b4 f4=>?_
  have S4:St w w4 (iz sb (jr s).toArray T.i :: jh mb .u64 m :: []):=S3.nl f4 b4
  have spC: ∀{W:World},St w W (iz sb (jr s).toArray T.i :: jh mb .u64 m :: [])->ik W sb 0=some (.int .u64 s.je)/\ik W sb 1=some (.int .u64 s.id)/\∀K,ldN P 8 sb 0 W K=K (li s) W:=fun{W} S'=>by
   have hh:aaa W sb s:=S'.blk
   exact⟨ql hh 0 _ rfl,ql hh 1 _ rfl,fun K=>ldS (fun k v hk=>by rw[Nat.zero_add];exact ql hh k v hk) K⟩
  obtain⟨_,_,sl⟩:=spC S4
  simp[sl]
  rw[M.dn.fcall]
  refine afm s fun w5 f5=>?_
  have S5:=S4.ju f5
  obtain⟨s0,s1,_⟩:=spC S5
  have bad: ¬(kv s=0/\s.je=tr/\s.id∉(l.take i).map Spn.id)->K (.bool false) w5:=fun hb=>by
   have:=h w5 S5.fr
   unfold xm at this
   rw[hg,arf hb] at this
   simpa using this
  have hmap:=(arg S5.swap).1
  have hw:IntKind.i64.wrap ((i:Int)+1)=((i+1:Nat):Int):=by rw[iy];omega
  by_cases h1:kv s=0
  case neg=>
   simp[h1]
   exact bad fun hh=>h1 hh.1
  by_cases h2:s.je=tr
  case neg=>
   simp[h1,s0,h2]
   exact bad fun hh=>h2 hh.2.1
  have hmk:=hm s.id
  by_cases h3:s.id∈(l.take i).map Spn.id
  ·rw[if_pos h3] at hmk
   simp[h1,s0,h2,s1,ta mt.ak hmap,hmk]
   exact bad fun hh=>hh.2.2 h3
  ·rw[if_neg h3] at hmk
   simp[h1,s0,h2,s1,ta mt.ak hmap,hmk]
   refine akn mt.ak hmap s.id _ _ fun ob hob=>?_
   have S6:=biv S5.swap hob
   rw[hw]
   refine⟨⟨_,_,i+1,_,rfl,hil,(S6.swap).drop,fun k=>?_,?_⟩,by simp[ms,gv];omega⟩
   ·rw[aas,hm k,htk]
    by_cases hk:s.id=k
    ·subst hk;simp
    ·have hk': ¬k=s.id:=fun e=>hk e.symm
     simp[hk,hk']
   ·rw[hg,asp h1 h2 h3,htk]
 ·have hili: ¬(i:Int) < (l.length:Int):=by omega
  simp[hil]
  unfold M.cr.j0
  rw[List.drop_of_length_le (by omega)] at hg
  have fin:=h w2 S2.fr
  unfold xm at fin
  rw[hg,xi] at fin
  by_cases h1:0 < l.length
  ·have h1i:(0:Int) < (l.length:Int):=by omega
   by_cases h2:l.length<=16
   ·have h2i:(l.length:Int)<=16:=by omega
    simp[hlv,h1]
    try rw[hlv]
    simp[h2i]
    simpa [h1,h2] using fin
   ·have h2i: ¬(l.length:Int)<=16:=by omega
    simp[hlv,h1]
    try rw[hlv]
    simp[h2i]
    simpa [h1,h2] using fin
  ·have h1i: ¬(0:Int) < (l.length:Int):=by omega
   simp[hlv,h1i]
   simpa [h1] using fin
theorem aar{w:World}{v:Value}{l:List Int}(hs:SlU w v l)(hlen:l.length<=1000000){K:KV}(h: ∀w' v',SlU w' v' l->(∀x,v'.ownBlock=some x->w.heap.size<=x)->Fz w w'->K v' w'):ie P F.v [v] w K:=by
 rw[M.cg.fcall]
 apply M.cg.calls
 unfold M.cg
 simp only[il]
 have hs':=hs
 obtain⟨a,cap,rfl,_⟩:=hs'
 cases a with
 | none=>
  simp
  have hz:l=[]:=by
   obtain⟨a',cap',hv,_,_,h3⟩:=hs
   cases l with
   | nil=>rfl
   | cons x l=>
    obtain⟨b,o,ha,_⟩:=h3 0 x rfl
    injection hv with h1 _ _
    rw[<-h1] at ha;cases ha
  subst hz
  exact h w _ Sl.nil (fun x hx=>by simp[Value.ownBlock] at hx) (Fr.refl _ _)
 | some a=>
  simp
  have f0:Fz w (w.alloc (.cells #[] T.a)):=(Fr.refl _ w).alloc _
  refine zc et.g ajr bbs (base:=w.heap.size) (Ow.empty (by rw[iw,if_pos rfl]) (Nat.le_refl _)) (hs.fr f0 fun _ _ _ h=>h) (by simp;omega) (by decide) (by simp) _ fun v3 w3 o3 f3 g3=>?_
  rw[List.nil_append] at o3
  exact h w3 v3 (o3.sl ajr) (fun x hx=>(o3.lt hx).1) (f0.jt f3 fun b hb hv=>by simp[Value.ownBlock] at hv;omega)
inductive ThR (w:World) (p:Pk) (ls:List Spn) (lm:List Mem) (lu:List Int):Value->Prop
 | kh (v:Value):(p.jg=1\/p.jg=2)->SlS w v ls->ThR w p ls lm lu (.iface T.y (.agg #[.int .u64 p.tr,.bool (decide (p.jg=2)),v]))
 | ajs (v:Value):p.jg=3->SlM w v lm->ThR w p ls lm lu (.iface T.w (.agg #[v]))
 | ask:(p.jg=4\/p.jg=6)->ThR w p ls lm lu (alw p.tr p.b p.v)
 | aaf:(p.jg=5\/p.jg=7)->ThR w p ls lm lu (.iface T.k (.agg #[.int .u64 p.tr,.int .u64 p.b.n,.int .u64 p.b.ji,.bool p.ok,.int .u64 p.jp.n,.int .u64 p.jp.ji,.int .i64 p.v,.bool (decide (p.jg=7))]))
 | si:p.jg=8->ThR w p ls lm lu (.iface T.af (.agg #[.int .u64 p.tr,.int .i64 p.v]))
 | xg (v:Value):p.jg=9->SlS w v ls->ThR w p ls lm lu (.iface T.t (.agg #[.int .u64 p.tr,.int .u64 p.b.n,.int .u64 p.b.ji,v]))
 | aac (v:Value):p.jg=10->SlU w v lu->ThR w p ls lm lu (.iface T.z (.agg #[.int .u64 p.tr,v]))
 | none: ¬(1<=p.jg/\p.jg<=10)->ThR w p ls lm lu .nilIface
def aje(w:World)(t:Value):Prop:= ∀a b c v,t= .iface T.t (.agg #[a,b,c,v])->∀g,v.ownBlock=some g->w.heap.size<=g
theorem aje.mono{w w':World}{t:Value}(h:aje w' t)(hs:w.heap.size<=w'.heap.size):aje w t:=fun a b c v he g hg=>Nat.le_trans hs (h a b c v he g hg)
theorem abr{w:World}{e:TypeId}{x:Value}(h:e≠T.t):aje w (.iface e x):=fun a b c v he=>by
 injection he with h1 _
 exact absurd h1 h
theorem ann{w:World}{p:Pk}{ls:List Spn}{lm:List Mem}{lu:List Int}(hp:aab w p ls lm lu){K:KV}(h: ∀w' t,ThR w' p ls lm lu t->aje w t->Fz w w'->K t w'):ie P F.cx [pkA p] w K:=by
 by_cases ha:p.jg=4\/p.jg=6
 ·exact asb ha fun w' f=>h w' _ (.ask ha) (abr (by decide)) f
 rw[M.w.fcall]
 apply M.w.calls
 unfold M.w
 rw[apu hp]
 have S1:St w (w.alloc (.cells (pkC p).toArray T.c)) (iz w.heap.size (pkC p).toArray T.c :: []):=(St.kl w).add ((Fr.refl _ w).alloc _) (B:=fun x=>x=w.heap.size) ⟨by rw[iw,if_pos rfl],rfl⟩ fun x hx=>by subst hx;rw[jc];omega
 generalize w.alloc (.cells (pkC p).toArray T.c)=w1 at *
 generalize w.heap.size=pb at *
 have f1:=S1.fr
 have hp1:=hp.fr f1
 have fd:Fz w1 (dr w1 1):=(Fr.refl _ w1).dr 1
 have hpd:=hp1.fr fd
 have Sd:=S1.ju fd
 obtain⟨_,_,e2,_⟩:=qv Sd
 obtain⟨c0,c1,c2,c4,c6,c7,c8,c9,c10,_⟩:=qv S1
 obtain⟨⟨a1,k1,h1⟩,⟨a2,k2,h2⟩,a3,k3,h3⟩:=hp.one
 have n4: ¬p.jg=4:=fun h=>ha (.inl h)
 have n6: ¬p.jg=6:=fun h=>ha (.inr h)
 by_cases q1:p.jg=1\/p.jg=2
 ·have fin: ∀d:Bool,d=decide (p.jg=2)->∀w2 v2,SlS w2 v2 ls->Fz (dr w1 1) w2->K (.iface T.y (.agg #[.int .u64 p.tr,.bool d,v2])) w2:=fun d hd w2 v2 s2 f2=>by
   subst hd
   exact h w2 _ (.kh v2 q1 s2) (abr (by decide)) (f1.trans (fd.trans f2))
  have c8':=c8
  rw[h1] at c8'
  rcases q1 with q|q
  ·simp[c0,q]
   unfold M.w.j1
   simp[c1,c0,q,c8']
   rw[<-h1,M.v.fcall]
   refine yb hpd.s hpd.ls fun w2 v2 s2 _ f2=>?_
   obtain⟨a,c,hv,_⟩:=id s2
   have fin':=fin false (by simp[q]) w2 v2 s2 f2
   have S2:=Sd.ju f2
   obtain⟨d0,d1,_⟩:=qv S2
   rw[hv] at fin'⊢
   simp[d0,d1,q]
   exact fin'
  ·simp[c0,q]
   unfold M.w.j1
   simp[c1,c0,q,c8']
   rw[<-h1,M.v.fcall]
   refine yb hpd.s hpd.ls fun w2 v2 s2 _ f2=>?_
   obtain⟨a,c,hv,_⟩:=id s2
   have fin':=fin true (by simp[q]) w2 v2 s2 f2
   have S2:=Sd.ju f2
   obtain⟨d0,d1,_⟩:=qv S2
   rw[hv] at fin'⊢
   simp[d0,d1,q]
   exact fin'
 have n1: ¬p.jg=1:=fun h=>q1 (.inl h)
 have n2: ¬p.jg=2:=fun h=>q1 (.inr h)
 simp[c0,n1,n2]
 unfold M.w.j1
 by_cases q3:p.jg=3
 ·have c9':=c9
  rw[h2] at c9'
  simp[q3,c9']
  rw[<-h2]
  refine adm hp1.m hp1.lm fun w2 v2 s2 _ f2=>?_
  obtain⟨a,c,hv,_⟩:=id s2
  have fin:=h w2 _ (.ajs v2 q3 s2) (abr (by decide)) (f1.trans f2)
  rw[hv] at fin⊢
  simp
  exact fin
 simp[q3,n4,n6]
 unfold M.w.j2
 by_cases q5:p.jg=5\/p.jg=7
 ·have fin:=h w1 _ (.aaf (ls:=ls) (lm:=lm) (lu:=lu) q5) (abr (by decide)) f1
  unfold kj at c2 c4
  rcases q5 with q|q
  ·simp[q]
   unfold M.w.j3
   simp[c0,c1,c2,c4,c6,c7,q]
   simp[q] at fin
   exact fin
  ·simp[q]
   unfold M.w.j3
   simp[c0,c1,c2,c4,c6,c7,q]
   simp[q] at fin
   exact fin
 have n5: ¬p.jg=5:=fun h=>q5 (.inl h)
 have n7: ¬p.jg=7:=fun h=>q5 (.inr h)
 simp[n5,n7]
 unfold M.w.j3
 by_cases q8:p.jg=8
 ·simp[q8,c1,c6]
  exact h w1 _ (.si q8) (abr (by decide)) f1
 by_cases q9:p.jg=9
 ·have c8':=c8
  rw[h1] at c8'
  unfold kj at c2 e2
  simp[q9,c1,c2,e2,c8']
  rw[<-h1,M.v.fcall]
  refine yb hpd.s hpd.ls fun w2 v2 s2 n2 f2=>?_
  obtain⟨a,c,hv,_⟩:=id s2
  have hown:aje w (.iface T.t (.agg #[.int .u64 p.tr,.int .u64 p.b.n,.int .u64 p.b.ji,v2])):=fun a b c v he g hg=>by
   injection he with _ h2
   injection h2 with h2
   have h3:=congrArg (fun x:Array Value=>x[3]?) h2
   simp at h3
   rw[<-h3] at hg
   have:=(n2 g hg).1
   have:=(f1.trans fd).size
   omega
  have fin:=h w2 _ (.xg v2 q9 s2) hown (f1.trans (fd.trans f2))
  have S2:=Sd.ju f2
  obtain⟨_,d1,d2,_⟩:=qv S2
  unfold kj at d2
  rw[hv] at fin⊢
  simp[d1,d2]
  exact fin
 by_cases q10:p.jg=10
 ·have c10':=c10
  rw[h3] at c10'
  simp[q10,c1,c10']
  rw[<-h3]
  refine aar hpd.u hpd.lu fun w2 v2 s2 _ f2=>?_
  obtain⟨a,c,hv,_⟩:=id s2
  have fin:=h w2 _ (.aac v2 q10 s2) (abr (by decide)) (f1.trans (fd.trans f2))
  have S2:=Sd.ju f2
  obtain⟨_,d1,_⟩:=qv S2
  rw[hv] at fin⊢
  simp[d1]
  exact fin
 simp[q8,q9,q10]
 exact h w1 _ (.none (by omega)) (fun a b c v e=>by cases e) f1
def agz(tr:Int)(l:List Spn):Bool:=decide (0 < tr) && xm tr l
theorem aod{w:World}{tr:Int}{d:Bool}{v:Value}{l:List Spn}(hs:SlS w v l)(hlen:l.length<=1000000){K:KV}(h: ∀w',Fz w w'->K (.bool (agz tr l)) w'):ie P F.bg [.iface T.y (.agg #[.int .u64 tr,.bool d,v])] w K:=by
 rw[M.ab.fcall]
 apply M.ab.calls
 unfold M.ab
 obtain⟨a,c,hv,_⟩:=id hs
 rw[hv]
 simp
 have S0:St w (w.alloc (.cells #[.int .u64 0,.int .u64 0] T.e)) (iz w.heap.size #[.int .u64 0,.int .u64 0] T.e :: []):=(St.kl w).add ((Fr.refl _ w).alloc _) (B:=fun x=>x=w.heap.size) ⟨by rw[iw,if_pos rfl],rfl⟩ fun x hx=>by subst hx;rw[jc];omega
 refine jw (vs:=[.int .u64 0,.int .u64 0]) S0.blk rfl (by simp[kt]) fun w2 b2 f2=>?_
 have S2:=S0.nl f2 b2
 have S3:St w (w2.alloc (.cells #[.int .u64 0,.bool false,.slice none 0 0] T.y)) (iz w2.heap.size #[.int .u64 0,.bool false,.slice none 0 0] T.y :: _):=S2.add ((Fr.refl _ w2).alloc _) (B:=fun x=>x=w2.heap.size) ⟨by rw[iw,if_pos rfl],rfl⟩ fun x hx=>by subst hx;rw[jc];omega
 refine jw (vs:=[.int .u64 tr,.bool d,.slice a l.length c]) S3.blk rfl (by simp[kt]) fun w4 b4 f4=>?_
 have S4:=S3.nl f4 b4
 generalize w2.heap.size=ob at *
 have c0:ik w4 ob 0=some (.int .u64 tr):=by rw[iq b4];rfl
 have c2:ik w4 ob 2=some (.slice a l.length c):=by rw[iq b4];rfl
 unfold agz at h
 by_cases h1:0 < tr
 ·simp[c0,c2,h1]
  rw[<-hv]
  refine amx (hs.fr S4.fr fun _ _ _ h=>h) hlen fun w5 f5=>?_
  have fin:=h w5 (S4.fr.trans f5)
  simpa [h1] using fin
 ·have fin:=h w4 S4.fr
  simp[c0,h1]
  simpa [h1] using fin
def aif(tr:Int)(b:Bal)(l:List Spn):Bool:=decide (0 < tr) && decide (0 < b.n) && xm tr l
theorem alj{w:World}{tr:Int}{b:Bal}{v:Value}{l:List Spn}(hs:SlS w v l)(hlen:l.length<=1000000){K:KV}(h: ∀w',Fz w w'->K (.bool (aif tr b l)) w'):ie P F.bg [.iface T.t (.agg #[.int .u64 tr,.int .u64 b.n,.int .u64 b.ji,v])] w K:=by
 rw[M.ab.fcall]
 apply M.ab.calls
 unfold M.ab
 obtain⟨a,c,hv,_⟩:=id hs
 rw[hv]
 simp[adp,abh,agd,adc,aeo]
 have S0:St w (w.alloc (.cells #[.int .u64 0,.int .u64 0] T.e)) (iz w.heap.size #[.int .u64 0,.int .u64 0] T.e :: []):=(St.kl w).add ((Fr.refl _ w).alloc _) (B:=fun x=>x=w.heap.size) ⟨by rw[iw,if_pos rfl],rfl⟩ fun x hx=>by subst hx;rw[jc];omega
 refine jw (vs:=[.int .u64 0,.int .u64 0]) S0.blk rfl (by simp[kt]) fun w2 b2 f2=>?_
 have S2:=S0.nl f2 b2
 have S3:St w (w2.alloc (.cells #[.int .u64 0,.int .u64 0,.int .u64 0,.slice none 0 0] T.t)) (iz w2.heap.size #[.int .u64 0,.int .u64 0,.int .u64 0,.slice none 0 0] T.t :: _):=S2.add ((Fr.refl _ w2).alloc _) (B:=fun x=>x=w2.heap.size) ⟨by rw[iw,if_pos rfl],rfl⟩ fun x hx=>by subst hx;rw[jc];omega
 refine jw (vs:=[.int .u64 tr,.int .u64 b.n,.int .u64 b.ji,.slice a l.length c]) S3.blk rfl (by simp[kt]) fun w4 b4 f4=>?_
 have S4:=S3.nl f4 b4
 generalize w2.heap.size=ob at *
 have c0:ik w4 ob 0=some (.int .u64 tr):=by rw[iq b4];rfl
 have c1:ik w4 ob 1=some (.int .u64 b.n):=by rw[iq b4];rfl
 have c3:ik w4 ob 3=some (.slice a l.length c):=by rw[iq b4];rfl
 unfold aif at h
 by_cases h1:0 < tr
 ·by_cases h2:0 < b.n
  ·simp[c0,c1,c3,h1,h2]
   rw[<-hv]
   refine amx (hs.fr S4.fr fun _ _ _ h=>h) hlen fun w5 f5=>?_
   have fin:=h w5 (S4.fr.trans f5)
   simpa [h1,h2] using fin
  ·have fin:=h w4 S4.fr
   simp[c0,c1,h1,h2]
   simpa [h1,h2] using fin
 ·have fin:=h w4 S4.fr
  simp[c0,h1]
  simpa [h1] using fin
def aop(tr v:Int):Bool:=decide (0 < tr) && wz v
theorem apm{w:World}{tr v:Int}{K:KV}(h: ∀w',Fz w w'->K (.bool (aop tr v)) w'):ie P F.bg [.iface T.af (.agg #[.int .u64 tr,.int .i64 v])] w K:=by
 rw[M.ab.fcall]
 apply M.ab.calls
 unfold M.ab
 simp[agb,act,aiq,afw]
 have S0:St w (w.alloc (.cells #[.int .u64 0,.int .u64 0] T.e)) (iz w.heap.size #[.int .u64 0,.int .u64 0] T.e :: []):=(St.kl w).add ((Fr.refl _ w).alloc _) (B:=fun x=>x=w.heap.size) ⟨by rw[iw,if_pos rfl],rfl⟩ fun x hx=>by subst hx;rw[jc];omega
 refine jw (vs:=[.int .u64 0,.int .u64 0]) S0.blk rfl (by simp[kt]) fun w2 b2 f2=>?_
 have S2:=S0.nl f2 b2
 have S3:St w (w2.alloc (.cells #[.int .u64 0,.int .i64 0] T.af)) (iz w2.heap.size #[.int .u64 0,.int .i64 0] T.af :: _):=S2.add ((Fr.refl _ w2).alloc _) (B:=fun x=>x=w2.heap.size) ⟨by rw[iw,if_pos rfl],rfl⟩ fun x hx=>by subst hx;rw[jc];omega
 refine jw (vs:=[.int .u64 tr,.int .i64 v]) S3.blk rfl (by simp[kt]) fun w4 b4 f4=>?_
 have S4:=S3.nl f4 b4
 generalize w2.heap.size=ob at *
 have c0:ik w4 ob 0=some (.int .u64 tr):=by rw[iq b4];rfl
 have c1:ik w4 ob 1=some (.int .i64 v):=by rw[iq b4];rfl
 have fin:=h w4 S4.fr
 unfold aop at fin
 by_cases h1:0 < tr
 ·simp[c0,c1,h1]
  refine aiy ?_
  simpa [h1] using fin
 ·simp[c0,h1]
  simpa [h1] using fin
def yu:Int->List Int->Bool
 | _,[]=>true
 | ke,m :: l=>decide (ke < m) && yu m l
def RuI(W:World)(l:List Int):KL:=fun x w1=> ∃(u0 u1:Value)(ke:Int)(i:Nat),x=[u0,u1,.int .u64 ke,.int .i64 (i:Nat)]/\i<=l.length/\yu 0 l=yu ke (l.drop i)/\Fz W w1
theorem atq{w:World}(m:Int){K:KV}(h:K (.int .u64 m) w):ku P (.func (.func F.du) #[] #[]) [.int .u64 m] w K:=by
 rw[M.es.rcall]
 apply M.es.calls
 unfold M.es
 exact h
theorem bcv{w:World}{v:Value}{l:List Int}(hs:SlU w v l)(hlen:l.length<=1000000){K:KV}(h: ∀w',Fz w w'->K (.bool (yu 0 l && (decide (0 < l.length) && decide (l.length<=16)))) w'):
  ie P F.dj [v,.int .i64 16,.func (.func F.du) #[] #[]] w K:=by
 rw[M.bf.fcall]
 apply M.bf.calls
 unfold M.bf
 simp only[il]
 rw[hs.jq (by kernel_rfl)]
 refine⟨RuI w l,fun x _=>l.length - ms x 3,⟨_,_,0,0,rfl,Nat.zero_le _,rfl,Fr.refl _ _⟩,?_⟩
 rintro x w1 ⟨u0,u1,ke,i,rfl,hi,hr,f1⟩
 have q2:gv [u0,u1,.int .u64 ke,.int .i64 (i:Nat)] 2= .int .u64 ke:=rfl
 have q3:gv [u0,u1,.int .u64 ke,.int .i64 (i:Nat)] 3= .int .i64 (i:Nat):=rfl
 have hs1:=hs.fr f1 fun _ _ _ h=>h
 simp only[q3]
 by_cases hil:i < l.length
 ·have hil':(i:Int) < l.length:=by omega
  simp[hil']
  unfold M.bf.j2
  obtain⟨b,o,cap,hv,hb,_,hc⟩:=hs1.at hil
  have hld:=hc 0 _ rfl
  have hwi:IntKind.i64.wrap ((i:Int)+1)=((i+1:Nat):Int):=by rw[iy];rfl
  have hdrop:l.drop i=l[i] :: l.drop (i+1):=List.drop_eq_getElem_cons hil
  rw[hdrop] at hr
  generalize l[i]=m at *
  subst hv
  have hld':ik w1 b (o+i)=some (.int .u64 m):=by simpa using hld
  simp[q2,q3,hil,hld']
  refine atq m ?_
  simp
  by_cases hle:m<=ke
  ·have hlt: ¬ke < m:=by omega
   simp[hle]
   have hf:yu 0 l=false:=by rw[hr];unfold yu;simp[hlt]
   rw[hf] at h
   exact h w1 f1
  ·have hlt:ke < m:=by omega
   simp[hle]
   refine atq m ?_
   simp[hwi]
   refine⟨⟨_,_,m,i+1,rfl,by omega,?_,f1⟩,by simp[ms,gv];omega⟩
   rw[hr]
   show (decide (ke < m) && yu m (l.drop (i+1)))=_
   simp[hlt]
 ·have hil': ¬(i:Int) < l.length:=by omega
  have hr1:yu 0 l=true:=by rw[hr,List.drop_of_length_le (by omega)];rfl
  simp[hil']
  unfold M.bf.j0
  rw[hs1.jq (by kernel_rfl)]
  rw[hr1] at h
  by_cases h0:0 < l.length
  ·have h0':(0:Int) < l.length:=by omega
   have hx:decide ((l.length:Int)<=16)=decide (l.length<=16):=by
    by_cases h16:l.length<=16
    ·rw[decide_eq_true h16,decide_eq_true (by omega)]
    ·rw[decide_eq_false h16,decide_eq_false (by omega)]
   simp[h0]
   rw[hs1.jq (by kernel_rfl)]
   simp
   rw[hx]
   have:=h w1 f1
   simpa [h0] using this
  ·simp[h0]
   have:=h w1 f1
   simpa [h0] using this
def ajy(tr:Int)(l:List Int):Bool:=decide (0 < tr) && (yu 0 l && (decide (0 < l.length) && decide (l.length<=16)))
theorem aof{w:World}{tr:Int}{v:Value}{l:List Int}(hs:SlU w v l)(hlen:l.length<=1000000){K:KV}(h: ∀w',Fz w w'->K (.bool (ajy tr l)) w'):ie P F.bg [.iface T.z (.agg #[.int .u64 tr,v])] w K:=by
 rw[M.ab.fcall]
 apply M.ab.calls
 unfold M.ab
 obtain⟨a,c,hv,_⟩:=id hs
 rw[hv]
 simp[aef,acj,ahd,aer,afy,adg]
 have S0:St w (w.alloc (.cells #[.int .u64 0,.int .u64 0] T.e)) (iz w.heap.size #[.int .u64 0,.int .u64 0] T.e :: []):=(St.kl w).add ((Fr.refl _ w).alloc _) (B:=fun x=>x=w.heap.size) ⟨by rw[iw,if_pos rfl],rfl⟩ fun x hx=>by subst hx;rw[jc];omega
 refine jw (vs:=[.int .u64 0,.int .u64 0]) S0.blk rfl (by simp[kt]) fun w2 b2 f2=>?_
 have S2:=S0.nl f2 b2
 have S3:St w (w2.alloc (.cells #[.int .u64 0,.slice none 0 0] T.z)) (iz w2.heap.size #[.int .u64 0,.slice none 0 0] T.z :: _):=S2.add ((Fr.refl _ w2).alloc _) (B:=fun x=>x=w2.heap.size) ⟨by rw[iw,if_pos rfl],rfl⟩ fun x hx=>by subst hx;rw[jc];omega
 refine jw (vs:=[.int .u64 tr,.slice a l.length c]) S3.blk rfl (by simp[kt]) fun w4 b4 f4=>?_
 have S4:=S3.nl f4 b4
 generalize w2.heap.size=ob at *
 have c0:ik w4 ob 0=some (.int .u64 tr):=by rw[iq b4];rfl
 have c1:ik w4 ob 1=some (.slice a l.length c):=by rw[iq b4];rfl
 unfold ajy at h
 by_cases h1:0 < tr
 ·simp[c0,c1,h1]
  rw[<-hv]
  refine bcv (hs.fr S4.fr fun _ _ _ h=>h) hlen fun w5 f5=>?_
  have fin:=h w5 (S4.fr.trans f5)
  simpa [h1] using fin
 ·have fin:=h w4 S4.fr
  simp[c0,h1]
  simpa [h1] using fin
def ahm(tr:Int)(b:Bal)(ok:Bool)(jp:Bal)(v:Int)(th:Bool):Bool:=
 if tr=0\/b.n=0 then false else if ok=false then decide (v=0) && !(decide (jp=ja)) else if th=true then decide (v=0) && decide (jp=ja) else (wz v && !(decide (jp=ja))) || (decide (v=0) && decide (jp=ja))
theorem aoj{w:World}{tr v:Int}{b jp:Bal}{ok th:Bool}{K:KV}(h: ∀w',Fz w w'->K (.bool (ahm tr b ok jp v th)) w'):ie P F.bg [.iface T.k (.agg #[.int .u64 tr,.int .u64 b.n,.int .u64 b.ji,.bool ok,.int .u64 jp.n,.int .u64 jp.ji,.int .i64 v,.bool th])] w K:=by
 rw[M.ab.fcall]
 apply M.ab.calls
 unfold M.ab
 simp[zz,yl,ahl]
 have S0:St w (w.alloc (.cells #[.int .u64 0,.int .u64 0] T.e)) (iz w.heap.size #[.int .u64 0,.int .u64 0] T.e :: []):=(St.kl w).add ((Fr.refl _ w).alloc _) (B:=fun x=>x=w.heap.size) ⟨by rw[iw,if_pos rfl],rfl⟩ fun x hx=>by subst hx;rw[jc];omega
 refine jw (vs:=[.int .u64 0,.int .u64 0]) S0.blk rfl (by simp[kt]) fun w2 b2 f2=>?_
 have S2:=S0.nl f2 b2
 have S3:St w (w2.alloc (.cells #[.int .u64 0,.int .u64 0,.int .u64 0,.bool false,.int .u64 0,.int .u64 0,.int .i64 0,.bool false] T.k)) (iz w2.heap.size #[.int .u64 0,.int .u64 0,.int .u64 0,.bool false,.int .u64 0,.int .u64 0,.int .i64 0,.bool false] T.k :: _):=S2.add ((Fr.refl _ w2).alloc _) (B:=fun x=>x=w2.heap.size) ⟨by rw[iw,if_pos rfl],rfl⟩ fun x hx=>by subst hx;rw[jc];omega
 refine jw (vs:=[.int .u64 tr,.int .u64 b.n,.int .u64 b.ji,.bool ok,.int .u64 jp.n,.int .u64 jp.ji,.int .i64 v,.bool th]) S3.blk rfl (by simp[kt]) fun w4 b4 f4=>?_
 have S4:=S3.nl f4 b4
 have fin:=h w4 S4.fr
 have z0: ∀K,ldN P 2 w.heap.size 0 w4 K=K (kj ja) w4:=fun K=>by
  have hh:=S4.swap.blk
  exact zh (by rw[iq hh];rfl) (by rw[iq hh];rfl) K
 generalize w2.heap.size=ob at *
 generalize w.heap.size=zb at *
 have c0:ik w4 ob 0=some (.int .u64 tr):=by rw[iq b4];rfl
 have c1:ik w4 ob 1=some (.int .u64 b.n):=by rw[iq b4];rfl
 have c3:ik w4 ob 3=some (.bool ok):=by rw[iq b4];rfl
 have c4: ∀K,ldN P 2 ob 4 w4 K=K (kj jp) w4:=fun K=>zh (by rw[iq b4];rfl) (by rw[iq b4];rfl) K
 have c6:ik w4 ob 6=some (.int .i64 v):=by rw[iq b4];rfl
 have c7:ik w4 ob 7=some (.bool th):=by rw[iq b4];rfl
 unfold ahm at fin
 by_cases h1:tr=0
 ·simp[c0,h1]
  simpa [h1] using fin
 by_cases h2:b.n=0
 ·simp[c0,c1,h1,h2]
  simpa [h2] using fin
 cases ok with
 | false=>
  by_cases h3:v=0
  ·simp[c0,c1,c3,c6,c4,z0,h1,h2,h3,apf]
   simpa [h1,h2,h3] using fin
  ·simp[c0,c1,c3,c6,h1,h2,h3]
   simpa [h1,h2,h3] using fin
 | true=>
 cases th with
 | true=>
  by_cases h3:v=0
  ·simp[c0,c1,c3,c6,c7,c4,z0,h1,h2,h3,aam]
   simpa [h1,h2,h3] using fin
  ·simp[c0,c1,c3,c6,c7,h1,h2,h3]
   simpa [h1,h2,h3] using fin
 | false=>
 simp[c0,c1,c3,c7,h1,h2]
 unfold M.ab.j1
 simp[c6]
 refine aiy ?_
 by_cases h4:wz v=true
 ·have hv0: ¬v=0:=fun hh=>by subst hh;exact absurd h4 (by decide)
  by_cases h5:jp=ja
  ·simp[h4,c4,z0,apf,h5,c6,hv0]
   simpa [h1,h2,h4,h5,hv0] using fin
  ·simp[h4,c4,z0,apf,h5]
   simpa [h1,h2,h4,h5] using fin
 ·by_cases h3:v=0
  ·subst h3
   have ht:wz 0=false:=by decide
   simp[ht,c6,c4,z0,aam]
   simpa [h1,h2,ht] using fin
  ·simp[h4,c6,h3]
   simpa [h1,h2,h4,h3] using fin
abbrev kc:Value:= .slice none 0 0
theorem yn{w W:World}{pb:Nat}{R:List Asn}{q:Pk}(S:St w W (iz pb (pkC q).toArray T.c :: R))(K:KV):ldN P 11 pb 0 W K=K (pkA q) W:=(qv S).2.2.2.2.2.2.2.2.2 K
theorem aci{w W:World}{pb:Nat}{R:List Asn}{q:Pk}(S:St w W (iz pb (pkC q).toArray T.c :: R))(K:KV):ng P T.c (.pointer (some ⟨pb,0,none⟩)) W K=K (pkA q) W:=by rw[ahx];exact yn S K
theorem vg{k tr v:Int}{b s:Bal}{ok:Bool}{a1 a2 a3:Option Addr}{l1 l2 l3 c1 c2 c3:Nat}: ∀u∈pkC ⟨k,tr,b,s,v,ok,.slice a1 l1 c1,.slice a2 l2 c2,.slice a3 l3 c3⟩,kt u=true:=fun u hu=>by
 simp only[pkC,List.mem_cons,List.not_mem_nil,or_false] at hu
 rcases hu with rfl|rfl|rfl|rfl|rfl|rfl|rfl|rfl|rfl|rfl|rfl <;>rfl
theorem ags(w:World):St w (w.alloc (.cells #[.int .i64 0,.int .u64 0,.int .u64 0,.int .u64 0,.int .u64 0,.int .u64 0,.int .i64 0,.bool false,.slice none 0 0,.slice none 0 0,.slice none 0 0] T.c)) (iz w.heap.size #[.int .i64 0,.int .u64 0,.int .u64 0,.int .u64 0,.int .u64 0,.int .u64 0,.int .i64 0,.bool false,.slice none 0 0,.slice none 0 0,.slice none 0 0] T.c :: []):=(St.kl w).add ((Fr.refl _ w).alloc _) (B:=fun x=>x=w.heap.size) ⟨by rw[iw,if_pos rfl],rfl⟩ fun x hx=>by subst hx;rw[jc];omega
theorem aeg{w0 w:World}{R:List Asn}(S:St w0 w R)(cs:Array Value)(t:TypeId):St w0 (w.alloc (.cells cs t)) (iz w.heap.size cs t :: R):=S.add ((Fr.refl _ w).alloc _) (B:=fun x=>x=w.heap.size) ⟨by rw[iw,if_pos rfl],rfl⟩ fun x hx=>by subst hx;rw[jc];omega
theorem aok{w:World}{tr v:Int}{K:KV}(h: ∀w',Fz w w'->K (pkA ⟨8,tr,ja,ja,v,false,kc,kc,kc⟩) w'):ie P F.bb [.iface T.af (.agg #[.int .u64 tr,.int .i64 v])] w K:=by
 rw[M.ad.fcall]
 apply M.ad.calls
 unfold M.ad
 simp[agb,act,aiq,afw]
 have S0:=ags w
 have z0:(w.alloc (.cells #[.int .i64 0,.int .u64 0,.int .u64 0,.int .u64 0,.int .u64 0,.int .u64 0,.int .i64 0,.bool false,.slice none 0 0,.slice none 0 0,.slice none 0 0] T.c)).heap.size=w.heap.size+1:=jc _ _
 generalize w.alloc (.cells #[.int .i64 0,.int .u64 0,.int .u64 0,.int .u64 0,.int .u64 0,.int .u64 0,.int .i64 0,.bool false,.slice none 0 0,.slice none 0 0,.slice none 0 0] T.c)=w1 at *
 have S1:=aeg S0 #[.int .u64 0,.int .i64 0] T.af
 rw[z0] at S1
 generalize w.heap.size=pb at *
 generalize pb+1=ob at *
 refine jw (vs:=[.int .u64 tr,.int .i64 v]) S1.blk rfl (by simp[kt]) fun w2 b2 f2=>?_
 have S2:=S1.nl f2 b2
 have c0:ik w2 ob 0=some (.int .u64 tr):=by rw[iq b2];rfl
 have c1:ik w2 ob 1=some (.int .i64 v):=by rw[iq b2];rfl
 simp[c0,c1]
 refine jw (vs:=pkC ⟨8,tr,ja,ja,v,false,kc,kc,kc⟩) S2.swap.blk rfl vg fun w3 b3 f3=>?_
 have S3:=S2.swap.nl f3 b3
 rw[yn S3]
 have e:pkA ⟨8,tr,ja,ja,v,false,kc,kc,kc⟩= .agg #[.int .i64 8,.int .u64 tr,.int .u64 0,.int .u64 0,.int .u64 0,.int .u64 0,.int .i64 v,.bool false,.slice none 0 0,.slice none 0 0,.slice none 0 0]:=rfl
 rw[e]
 simp
 refine jw (vs:=pkC ⟨8,tr,ja,ja,v,false,kc,kc,kc⟩) S3.blk rfl vg fun w5 b5 f5=>?_
 have S5:=S3.nl f5 b5
 rw[aci S5]
 exact⟨rfl,h w5 S5.fr⟩
theorem ale{w:World}{tr v:Int}{b jp:Bal}{ok th:Bool}{K:KV}(h: ∀w',Fz w w'->K (pkA ⟨if th=true then 7 else 5,tr,b,jp,v,ok,kc,kc,kc⟩) w'):ie P F.bb [.iface T.k (.agg #[.int .u64 tr,.int .u64 b.n,.int .u64 b.ji,.bool ok,.int .u64 jp.n,.int .u64 jp.ji,.int .i64 v,.bool th])] w K:=by
 rw[M.ad.fcall]
 apply M.ad.calls
 unfold M.ad
 simp[zz,yl,ahl]
 have S0:=ags w
 have z0:(w.alloc (.cells #[.int .i64 0,.int .u64 0,.int .u64 0,.int .u64 0,.int .u64 0,.int .u64 0,.int .i64 0,.bool false,.slice none 0 0,.slice none 0 0,.slice none 0 0] T.c)).heap.size=w.heap.size+1:=jc _ _
 generalize w.alloc (.cells #[.int .i64 0,.int .u64 0,.int .u64 0,.int .u64 0,.int .u64 0,.int .u64 0,.int .i64 0,.bool false,.slice none 0 0,.slice none 0 0,.slice none 0 0] T.c)=w1 at *
 have S1:=aeg S0 #[.int .u64 0,.int .u64 0,.int .u64 0,.bool false,.int .u64 0,.int .u64 0,.int .i64 0,.bool false] T.k
 rw[z0] at S1
 generalize w.heap.size=pb at *
 generalize pb+1=ob at *
 refine jw (vs:=[.int .u64 tr,.int .u64 b.n,.int .u64 b.ji,.bool ok,.int .u64 jp.n,.int .u64 jp.ji,.int .i64 v,.bool th]) S1.blk rfl (by simp[kt]) fun w2 b2 f2=>?_
 have S2:=S1.nl f2 b2
 have reC: ∀{W:World}{R:List Asn},St w W (iz ob [.int .u64 tr,.int .u64 b.n,.int .u64 b.ji,.bool ok,.int .u64 jp.n,.int .u64 jp.ji,.int .i64 v,.bool th].toArray T.k :: R)->ik W ob 0=some (.int .u64 tr)/\(∀K,ldN P 2 ob 1 W K=K (.agg #[.int .u64 b.n,.int .u64 b.ji]) W)/\ik W ob 3=some (.bool ok)/\(∀K,ldN P 2 ob 4 W K=K (.agg #[.int .u64 jp.n,.int .u64 jp.ji]) W)/\ik W ob 6=some (.int .i64 v)/\ik W ob 7=some (.bool th):=fun{W R} S'=>by
  have hh:=S'.blk
  exact⟨by rw[iq hh];rfl,fun K=>zh (by rw[iq hh];rfl) (by rw[iq hh];rfl) K,by rw[iq hh];rfl,fun K=>zh (by rw[iq hh];rfl) (by rw[iq hh];rfl) K,by rw[iq hh];rfl,by rw[iq hh];rfl⟩
 obtain⟨c0,c1,c3,c4,c6,_⟩:=reC S2
 simp[c0,c1,c3,c4,c6]
 refine jw (vs:=pkC ⟨5,tr,b,jp,v,ok,kc,kc,kc⟩) S2.swap.blk rfl vg fun w3 b3 f3=>?_
 have S3:=S2.swap.nl f3 b3
 obtain⟨_,_,_,_,_,d7⟩:=reC S3.swap
 cases th with
 | false=>
  simp[d7]
  rw[yn S3]
  have e:pkA ⟨5,tr,b,jp,v,ok,kc,kc,kc⟩= .agg #[.int .i64 5,.int .u64 tr,.int .u64 b.n,.int .u64 b.ji,.int .u64 jp.n,.int .u64 jp.ji,.int .i64 v,.bool ok,.slice none 0 0,.slice none 0 0,.slice none 0 0]:=rfl
  rw[e]
  simp
  refine jw (vs:=pkC ⟨5,tr,b,jp,v,ok,kc,kc,kc⟩) S3.blk rfl vg fun w5 b5 f5=>?_
  have S5:=S3.nl f5 b5
  rw[aci S5]
  exact⟨rfl,h w5 S5.fr⟩
 | true=>
  have e0:=aad S3.blk 0 _ rfl
  have ez:=lk S3.blk
  simp[d7,e0,ez]
  have S4:St w (w3.setCell ⟨pb,0,none⟩ (.int .i64 7)) (iz pb (pkC ⟨7,tr,b,jp,v,ok,kc,kc,kc⟩).toArray T.c :: _):=S3.nl ((Fr.refl (fun x=>x=pb) w3).setCell (.inl rfl) _ _) ((mh S3.blk).trans rfl)
  rw[yn S4]
  have e:pkA ⟨7,tr,b,jp,v,ok,kc,kc,kc⟩= .agg #[.int .i64 7,.int .u64 tr,.int .u64 b.n,.int .u64 b.ji,.int .u64 jp.n,.int .u64 jp.ji,.int .i64 v,.bool ok,.slice none 0 0,.slice none 0 0,.slice none 0 0]:=rfl
  rw[e]
  simp
  refine jw (vs:=pkC ⟨7,tr,b,jp,v,ok,kc,kc,kc⟩) S4.blk rfl vg fun w5 b5 f5=>?_
  have S5:=S4.nl f5 b5
  rw[aci S5]
  exact⟨rfl,h w5 S5.fr⟩
end Go.Proofs.YtgepcfcicngceaaGreatDoor
