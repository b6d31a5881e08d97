/-
  The heap of timers: the parts of a line, and what its methods do to them. No condition.
-/
import Derived.Test.YtgepcfcicngceaaGreatDoorFacts
import Derived.Test.YtgepcfcicngceaaGreatDoorM
import Derived.Test.YtgepcfcicngceaaGreatDoorZSgE
import Derived.Test.YtgepcfcicngceaaGreatDoorZSpn0
import Derived.Test.YtgepcfcicngceaaGreatDoorZEngSl
import Derived.Test.YtgepcfcicngceaaGreatDoorN
import Derived.Test.YtgepcfcicngceaaGreatDoorZEng
import Derived.Test.YtgepcfcicngceaaGreatDoorEnc
set_option maxRecDepth 100000
namespace Go.Proofs.YtgepcfcicngceaaGreatDoor
open Go.Eng
def _root_.Go.Eng.It.ptr(t:It):Value:= .pointer (some ⟨t.p,0,none⟩)
def ws(w:World)(t:It)(i:Nat):Prop:=w.heap[t.p]? =some (.cells #[.int .u64 t.k,.int .u64 t.a,.int .i64 i] T.aw (0,0))
theorem sf{w:World}{g n cap i j pi pj:Nat}{x y:It}(hi:i < n)(hj:j < n)(ci:iq w g i=some x.ptr)(cj:iq w g j=some y.ptr)(hx:ws w x pi)(hy:ws w y pj){K:KV}
  (h:K (.bool (zx x y)) (dr w 1)):jy P F.dm [.slice (some ⟨g,0,none⟩) n cap,.int .i64 i,.int .i64 j] w K:=by
 apply M.es.calls
 unfold M.es
 unfold ws at hx hy
 obtain⟨hx0,hx1,hx2⟩:=zr hx
 obtain⟨hy0,hy1,hy2⟩:=zr hy
 have hi':(i:Int) < n:=by omega
 have hj':(j:Int) < n:=by omega
 have e1:x.ptr= .pointer (some ⟨x.p,0,none⟩):=rfl
 have e2:y.ptr= .pointer (some ⟨y.p,0,none⟩):=rfl
 unfold zx at h
 clear hx hy
 by_cases h1:x.a < y.a
 ·simp[*] at h⊢
  exact h
 ·by_cases h2:x.a=y.a
  ·simp[*] at h⊢
   exact h
  ·simp[*] at h⊢
   exact h
class HE where
 e:TypeId
 po:List Value
 n1:e≠T.ac
 n2:e≠T.aw
variable [HE]
def hbk(v mv:Value):Obj:= .cells (v :: mv :: HE.po).toArray HE.e (0,0)
theorem ww{w:World}{b:Nat}{x y:Value}(h:w.heap[b]? =some (hbk x y)):iq w b 0=some x/\iq w b 1=some y:=⟨by rw[iw h];rfl,by rw[iw h];rfl⟩
theorem bhg{w:World}{b:Nat}{x y v:Value}(h:w.heap[b]? =some (hbk x y)):(w.setCell ⟨b,0,none⟩ v).heap[b]? =some (hbk v y):=by
 rw[nl h];rfl
theorem bge{w:World}{b:Nat}{x y v:Value}(h:w.heap[b]? =some (hbk x y)):(w.setCell ⟨b,1,none⟩ v).heap[b]? =some (hbk x v):=by
 rw[nl h];rfl
structure HL(w:World)(hb:Nat)(v mv:Value)(its:List It):Prop where
 blk:w.heap[hb]? =some (hbk v mv)
 row:w.ownsRow 0 T.ac 1 v its.length (its.map It.ptr)
 itm: ∀i t,its[i]? =some t->ws w t i
omit [HE] in
theorem adn{w:World}{t u:It}{i j:Nat}(h:ws w t i)(h':ws w u j)(hp:t.p=u.p):i=j:=by
 unfold ws at h h'
 rw[hp,h'] at h
 simp at h
 omega
def fpL(v:Value)(its:List It)(b:Nat):Prop:=v.ownBlock=some b\/∃t∈its,t.p=b
theorem blp{w:World}{hb i j:Nat}{v mv:Value}{its:List It}{x y:It}(H:HL w hb v mv its)(hi:its[i]? =some x)(hj:its[j]? =some y)(hij:i≠j){K:KV}
  (h: ∀w',HL w' hb v mv (wj its i j x y)->Fr (fpL v its) w w'->K (.tuple #[]) w'):jy P F.dn [v,.int .i64 i,.int .i64 j] w K:=by
 have hil:i < its.length:=(List.getElem?_eq_some_iff.1 hi).1
 have hjl:j < its.length:=(List.getElem?_eq_some_iff.1 hj).1
 obtain⟨g,cap,cur,hv,_,hgb,hnc,_,hcs,_⟩:=yn H.row (by omega)
 have hg:v.ownBlock=some g:=by rw[hv];rfl
 have hx:=H.itm i x hi
 have hy:=H.itm j y hj
 have hpn:x.p≠y.p:=fun h=>hij (adn hx hy h)
 have ci:=yr H.row hg (i:=i) (x:=x.ptr) (by simp[hi])
 have cj:=yr H.row hg (i:=j) (x:=y.ptr) (by simp[hj])
 have fz:=bmk H.row hg
 have gx:g≠x.p:=ly hgb hx (by first|decide|exact HE.n1|exact HE.n2|exact HE.n1.symm|exact HE.n2.symm)
 have gy:g≠y.p:=ly hgb hy (by first|decide|exact HE.n1|exact HE.n2|exact HE.n1.symm|exact HE.n2.symm)
 have hbg:hb≠g:=ly H.blk hgb (by first|decide|exact HE.n1|exact HE.n2|exact HE.n1.symm|exact HE.n2.symm)
 have hbx:hb≠x.p:=ly H.blk hx (by first|decide|exact HE.n1|exact HE.n2|exact HE.n1.symm|exact HE.n2.symm)
 have hby:hb≠y.p:=ly H.blk hy (by first|decide|exact HE.n1|exact HE.n2|exact HE.n1.symm|exact HE.n2.symm)
 obtain⟨hx0,hx1,hx2⟩:=zr hx
 obtain⟨hy0,hy1,hy2⟩:=zr hy
 have fx:=mi hx 2
 have fy:=mi hy 2
 have hi':(i:Int) < its.length:=by omega
 have hj':(j:Int) < its.length:=by omega
 have e1:x.ptr= .pointer (some ⟨x.p,0,none⟩):=rfl
 have e2:y.ptr= .pointer (some ⟨y.p,0,none⟩):=rfl
 have hji:j≠i:=hij.symm
 apply M.et.calls
 unfold M.et
 subst hv
 simp[*,kp,me]
 apply h
 ·have r1:(dr w 1).ownsRow 0 T.ac 1 (.slice (some ⟨g,0,none⟩) its.length cap) its.length (its.map It.ptr):=sy H.row fun _ _=>rfl
  have r2:=awz (awz r1 (g:=g) rfl i y.ptr) (g:=g) rfl j x.ptr
  refine⟨?_,?_,?_⟩
  ·rw[ke hbx.symm,ke hby.symm]
   show (World.setCell _ _ _).heap[hb]? =_
   rw[ke hbg.symm,ke hbg.symm]
   exact H.blk
  ·have hl:(wj its i j x y).length=its.length:=by simp[wj]
   have hm:(wj its i j x y).map It.ptr=(((its.map It.ptr).set i y.ptr).set j x.ptr):=by simp[wj,List.map_set]
   rw[hl,hm]
   refine sy r2 fun g' hg'=>?_
   cases hg'
   rw[ke gx.symm,ke gy.symm]
   rfl
  ·intro k t hk
   unfold ws
   simp only[wj] at hk
   rw[List.getElem?_set] at hk
   by_cases hkj:j=k
   ·subst hkj
    rw[if_pos rfl,if_pos (by simpa using hjl)] at hk
    cases hk
    have:(World.setCell (dr (World.setCell (World.setCell (dr w 1) ⟨g,i,none⟩ (.pointer (some ⟨y.p,0,none⟩))) ⟨g,j,none⟩ (.pointer (some ⟨x.p,0,none⟩))) 1) ⟨y.p,2,none⟩ (.int .i64 i)).heap[x.p]? =some (.cells #[.int .u64 x.k,.int .u64 x.a,.int .i64 (i:Nat)] T.aw (0,0)):=by
     rw[ke hpn.symm]
     show (World.setCell _ _ _).heap[x.p]? =_
     rw[ke gx,ke gx]
     exact hx
    rw[nl this]
    rfl
   ·rw[if_neg hkj,List.getElem?_set] at hk
    by_cases hki:i=k
    ·subst hki
     rw[if_pos rfl,if_pos hil] at hk
     cases hk
     rw[ke hpn]
     have:(dr (World.setCell (World.setCell (dr w 1) ⟨g,i,none⟩ (.pointer (some ⟨y.p,0,none⟩))) ⟨g,j,none⟩ (.pointer (some ⟨x.p,0,none⟩))) 1).heap[y.p]? =some (.cells #[.int .u64 y.k,.int .u64 y.a,.int .i64 (j:Nat)] T.aw (0,0)):=by
      show (World.setCell _ _ _).heap[y.p]? =_
      rw[ke gy,ke gy]
      exact hy
     rw[nl this]
     rfl
    ·rw[if_neg hki] at hk
     have ht:=H.itm k t hk
     have n1:x.p≠t.p:=fun h=>hki (adn hx ht h)
     have n2:y.p≠t.p:=fun h=>hkj (adn hy ht h)
     have n3:g≠t.p:=ly hgb ht (by first|decide|exact HE.n1|exact HE.n2|exact HE.n1.symm|exact HE.n2.symm)
     rw[ke n1,ke n2]
     show (World.setCell _ _ _).heap[t.p]? =_
     rw[ke n3,ke n3]
     exact ht
 ·have mx:x∈its:=List.mem_of_getElem? hi
  have my:y∈its:=List.mem_of_getElem? hj
  exact ((((((Fr.refl _ w).dr 1).setCell (.inl (.inl rfl)) _ _).setCell (.inl (.inl rfl)) _ _).dr 1).setCell (.inl (.inr ⟨y,my,rfl⟩)) _ _).setCell (.inl (.inr ⟨x,mx,rfl⟩)) _ _
theorem apm{w:World}{hb:Nat}{v mv:Value}{its:List It}(H:HL w hb v mv its)(K:KV)(h:K (.int .i64 its.length) w):
  oc P (.iface T.bf (.pointer (some ⟨hb,0,none⟩))) "Len" [] w K:=by
 obtain⟨h0,_⟩:=ww H.blk
 rw[aox (f:=F.fq) (by simp) h0,M.fd.fcall]
 apply M.fd.calls
 unfold M.fd
 rcases H.row.2 with⟨rfl,hn⟩|⟨g,cap,cur,rfl,_⟩
 ·simp[hn] at h⊢;exact h
 ·simp;exact h
theorem aen{w:World}{hb i j:Nat}{v mv:Value}{its:List It}{x y:It}(H:HL w hb v mv its)(hi:its[i]? =some x)(hj:its[j]? =some y)(K:KV)(h:K (.bool (zx x y)) (dr w 1)):
  oc P (.iface T.bf (.pointer (some ⟨hb,0,none⟩))) "Less" [.int .i64 i,.int .i64 j] w K:=by
 obtain⟨h0,_⟩:=ww H.blk
 have hil:i < its.length:=(List.getElem?_eq_some_iff.1 hi).1
 have hjl:j < its.length:=(List.getElem?_eq_some_iff.1 hj).1
 rw[aox (f:=F.dm) (by simp) h0,M.es.fcall]
 obtain⟨g,cap,cur,hv,_,hgb,_⟩:=yn H.row (by omega)
 have hg:v.ownBlock=some g:=by rw[hv];rfl
 have ci:=yr H.row hg (i:=i) (x:=x.ptr) (by simp[hi])
 have cj:=yr H.row hg (i:=j) (x:=y.ptr) (by simp[hj])
 rw[hv]
 exact sf hil hjl ci cj (H.itm i x hi) (H.itm j y hj) h
theorem amk{w:World}{hb i j:Nat}{v mv:Value}{its:List It}{x y:It}(H:HL w hb v mv its)(hi:its[i]? =some x)(hj:its[j]? =some y)(hij:i≠j)(K:KV)
  (h: ∀w',HL w' hb v mv (wj its i j x y)->Fr (fpL v its) w w'->K (.tuple #[]) w'):
  oc P (.iface T.bf (.pointer (some ⟨hb,0,none⟩))) "Swap" [.int .i64 i,.int .i64 j] w K:=by
 obtain⟨h0,_⟩:=ww H.blk
 rw[aox (f:=F.dn) (by simp) h0,M.et.fcall]
 exact blp H hi hj hij h
theorem HL.dr{w:World}{hb:Nat}{v mv:Value}{its:List It}(H:HL w hb v mv its)(n:Nat):HL (dr w n) hb v mv its:=⟨H.blk,sy H.row fun _ _=>rfl,H.itm⟩
end Go.Proofs.YtgepcfcicngceaaGreatDoor
set_option maxRecDepth 100000
namespace Go.Proofs.YtgepcfcicngceaaGreatDoor
open Go.Eng
variable [HE]
def abg(hb:Nat):Value:= .iface T.bf (.pointer (some ⟨hb,0,none⟩))
omit [HE] in
theorem aap{v:Value}{its its':List It}(h:its'.Perm its){b:Nat}(hf:fpL v its' b):fpL v its b:=by
 rcases hf with h'| ⟨t,ht,hp⟩
 ·exact .inl h'
 ·exact .inr ⟨t,h.mem_iff.1 ht,hp⟩
def UpI(w:World)(hb:Nat)(v mv:Value)(its:List It)(n:Nat):KL:=fun x w1=> ∃j1 its1,x=[gv x 0,.int .i64 (j1:Nat)]/\HL w1 hb v mv its1/\its1.Perm its/\its1.length=its.length/\j1 < n/\ahr (At its1) n j1/\(∀c,n<=c->At its1 c=At its c)/\Fr (fpL v its) w w1
theorem bac{w:World}{hb j:Nat}{v mv:Value}{its:List It}(H:HL w hb v mv its)(hj:j < its.length)(hlen:its.length<=140737488355328){n:Nat}(hn:n<=its.length)(hjn:j < n)(hU:ahr (At its) n j){K:KV}
  (h: ∀w' its',HL w' hb v mv its'->its'.Perm its->its'.length=its.length->xg (At its') n->(∀c,n<=c->At its' c=At its c)->Fr (fpL v its) w w'->K (.tuple #[]) w'):
  jy P F.gx [abg hb,.int .i64 j] w K:=by
 apply M.fl.calls
 unfold M.fl
 refine⟨UpI w hb v mv its n,fun x _=>ms x 1,⟨j,its,rfl,H,List.Perm.refl _,rfl,hjn,hU,fun _ _=>rfl,Fr.refl _ _⟩,?_⟩
 rintro x w1 ⟨j1,its1,hx,H1,hp1,hl1,hjn1,hU1,hc1,hf1⟩
 rw[hx]
 unfold M.fl.j0
 have e1:IntKind.i64.wrap ((j1:Int) - 1)=(j1:Int) - 1:=jc
 have e2:IntKind.i64.wrap (((j1:Int) - 1).tdiv 2)=((par j1:Nat):Int):=by
  unfold par
  by_cases h0:j1=0
  ·subst h0;decide
  ·have:((j1:Int) - 1).tdiv 2=(((j1 - 1) / 2:Nat):Int):=by
    rw[show (j1:Int) - 1=((j1 - 1:Nat):Int) from by omega]
    rfl
   rw[this];exact jc
 by_cases h0:j1=0
 ·have e3:((par j1:Nat):Int)=(j1:Int):=by subst h0;rfl
  simp[e1,e2,e3]
  exact h w1 its1 H1 hp1 hl1 (awr hU1 (.inl h0)) hc1 hf1
 ·have hpl:=sr (c:=j1) (by omega)
  have e3: ¬((par j1:Nat):Int)=(j1:Int):=by omega
  have g1:=xx (its:=its1) (i:=j1) (by omega)
  have g2:=xx (its:=its1) (i:=par j1) (by omega)
  by_cases hl:zx (At its1 j1) (At its1 (par j1))=true
  ·simp[e1,e2,e3]
   refine aen H1 g1 g2 _ ?_
   simp[hl]
   refine amk (H1.dr 1) g2 g1 (by omega) _ fun w2 H2 hf2=>?_
   have hl':=(afj _ _).1 hl
   have b1:par j1 < its1.length:=by omega
   have b2:j1 < its1.length:=by omega
   refine⟨⟨par j1,wj its1 (par j1) j1 (At its1 (par j1)) (At its1 j1),rfl,H2,(ahy b1 b2).trans hp1,by rw[ajy];exact hl1,by omega,?_,fun c hc=>?_,?_⟩,?_⟩
   ·rw[afu (by omega) (by omega)]
    exact bma hU1 (by omega) hjn1 hl'
   ·rw[aor (by omega) (by omega),<-hc1 c hc]
    simp only[sw];rw[if_neg (by omega),if_neg (by omega)]
   ·exact (hf1.dr 1).jw hf2 fun b _ hb'=>aap hp1 hb'
   ·simp[ms,gv];omega
  ·have hl2:zx (At its1 j1) (At its1 (par j1))=false:=by simpa using hl
   simp[e1,e2,e3]
   refine aen H1 g1 g2 _ ?_
   simp[hl2]
   exact h _ its1 (H1.dr 1) hp1 hl1 (awr hU1 (.inr ((afx _ _).1 hl2))) hc1 (hf1.dr 1)
def DnI(w:World)(hb:Nat)(v mv:Value)(its:List It)(n i0:Nat):KL:=fun x w1=> ∃k its1,x=[gv x 0,gv x 1,gv x 2,.int .i64 (k:Nat)]/\HL w1 hb v mv its1/\its1.Perm its/\its1.length=its.length/\k < n/\i0<=k/\afo (At its1) n i0 k/\(∀c,n<=c->At its1 c=At its c)/\Fr (fpL v its) w w1
omit [HE] in
theorem afi{c k:Nat}(h0:0 < c)(h:par c=k):c=2 * k+1\/c=2 * k+2:=by unfold par at h;omega
theorem axm{w:World}{hb i0 n:Nat}{v mv:Value}{its:List It}(H:HL w hb v mv its)(hlen:its.length<=140737488355328)(hn:n<=its.length)(hi:i0 < n)(hD:afo (At its) n i0 i0){K:KV}
  (h: ∀w' its' b,HL w' hb v mv its'->its'.Perm its->its'.length=its.length->(b=true->xg (At its') n)->(b=false->ahr (At its') n i0)->(∀c,n<=c->At its' c=At its c)->Fr (fpL v its) w w'->K (.bool b) w'):
  jy P F.gr [abg hb,.int .i64 i0,.int .i64 n] w K:=by
 apply M.dd.calls
 unfold M.dd
 simp only[ir]
 refine⟨DnI w hb v mv its n i0,fun x _=>n - ms x 3,⟨i0,its,rfl,H,List.Perm.refl _,rfl,hi,Nat.le_refl _,hD,fun _ _=>rfl,Fr.refl _ _⟩,?_⟩
 rintro x w1 ⟨k,its1,hx,H1,hp1,hl1,hkn,hik,hD1,hc1,hf1⟩
 rw[hx]
 have fin: ∀(w2:World)(K':KV),HL w2 hb v mv its1->Fr (fpL v its) w w2->(∀c,0 < c->c < n->par c=k->le (At its1 k) (At its1 c))->K (.bool (decide (i0 < k))) w2:=fun w2 _ H2 hf2 hd=>by
  refine h w2 its1 _ H2 hp1 hl1 (fun hb=>bdg hD1 hd (by simpa using hb)) (fun hb=>?_) hc1 hf2
  have:k=i0:=by simp at hb;omega
  subst this
  exact bku hD1 hd
 unfold M.dd.j1
 have e1:IntKind.i64.wrap (2 * (k:Int))=2 * (k:Int):=jc
 have e2:IntKind.i64.wrap (2 * (k:Int)+1)=2 * (k:Int)+1:=jc
 have e3:IntKind.i64.wrap (2 * (k:Int)+1+1)=2 * (k:Int)+2:=by rw[jc];omega
 by_cases h1:(n:Int)<=2 * (k:Int)+1
 ·simp[e1,e2,h1]
  exact fin w1 K H1 hf1 fun c h0 hc hpc=>by rcases afi h0 hpc with h|h <;>omega
 ·have h1': ¬(2 * (k:Int)+1 < 0):=by omega
  simp[e1,e2,h1,h1']
  -- lr is done once the lesser child is known
  have go: ∀(j:Nat)(z:Int)(w2:World)(y:Value),z=(j:Nat)->j < n->par j=k->0 < j->(∀c,0 < c->c < n->par c=k->le (At its1 j) (At its1 c))->HL w2 hb v mv its1->Fr (fpL v its) w w2->
    M.dd.j3 (abg hb) [y,.int .i64 z] [gv x 0,gv x 1,gv x 2,.int .i64 k]
     (fun x0 w=>iy P .gtr T.d (.tmp 45) (.tmp 46) (gv x0 3) (.int .i64 i0) w fun t47 w=>K t47 w) (.int .i64 (2 * (k:Int)+1)) (fun x' w'=>DnI w hb v mv its n i0 x' w'/\n - ms x' 3 < n - ms [gv x 0,gv x 1,gv x 2,.int .i64 k] 3) w2 K:=by
   intro j z w2 y hz hj hpj h0j hmin H2 hf2
   subst hz
   have g1:=xx (its:=its1) (i:=j) (by omega)
   have g2:=xx (its:=its1) (i:=k) (by omega)
   have hkj:k < j:=by rw[<-hpj];exact sr h0j
   unfold M.dd.j3
   by_cases hl:zx (At its1 j) (At its1 k)=true
   ·simp
    refine aen H2 g1 g2 _ ?_
    simp[hl]
    refine amk (H2.dr 1) g2 g1 (by omega) _ fun w3 H3 hf3=>?_
    have b1:k < its1.length:=by omega
    have b2:j < its1.length:=by omega
    refine⟨⟨j,wj its1 k j (At its1 k) (At its1 j),rfl,H3,(ahy b1 b2).trans hp1,by rw[ajy];exact hl1,hj,by omega,?_,fun c hc=>?_,?_⟩,?_⟩
    ·rw[afu b1 b2]
     exact bbt hD1 h0j hj hpj hik hmin ((afj _ _).1 hl)
    ·rw[aor b1 b2,<-hc1 c hc]
     simp only[sw];rw[if_neg (by omega),if_neg (by omega)]
    ·exact (hf2.dr 1).jw hf3 fun b _ hb'=>aap hp1 hb'
    ·simp[ms,gv];omega
   ·have hl2:zx (At its1 j) (At its1 k)=false:=by simpa using hl
    simp
    refine aen H2 g1 g2 _ ?_
    simp[hl2]
    exact fin _ K (H2.dr 1) (hf2.dr 1) fun c h0 hc hpc=>le_trans ((afx _ _).1 hl2) (hmin c h0 hc hpc)
  unfold M.dd.j2
  have p1:par (2 * k+1)=k:=by unfold par;omega
  have p2:par (2 * k+2)=k:=by unfold par;omega
  have z1:2 * (k:Int)+1=((2 * k+1:Nat):Int):=by omega
  have z2:2 * (k:Int)+2=((2 * k+2:Nat):Int):=by omega
  have q1:=xx (its:=its1) (i:=2 * k+1) (by omega)
  by_cases h2:2 * (k:Int)+2 < n
  ·have q2:=xx (its:=its1) (i:=2 * k+2) (by omega)
   simp[e3,h2]
   rw[z1,z2]
   refine aen H1 q2 q1 _ ?_
   by_cases hl:zx (At its1 (2 * k+2)) (At its1 (2 * k+1))=true
   ·simp[hl]
    have hl':=aiz ((afj _ _).1 hl)
    refine go (2 * k+2) _ _ _ (by omega) (by omega) p2 (by omega) (fun c h0 hc hpc=>?_) (H1.dr 1) (hf1.dr 1)
    rcases afi h0 hpc with rfl|rfl
    ·exact hl'
    ·exact le_refl _
   ·have hl2:zx (At its1 (2 * k+2)) (At its1 (2 * k+1))=false:=by simpa using hl
    simp[hl2]
    refine go (2 * k+1) _ _ _ (by omega) (by omega) p1 (by omega) (fun c h0 hc hpc=>?_) (H1.dr 1) (hf1.dr 1)
    rcases afi h0 hpc with rfl|rfl
    ·exact le_refl _
    ·exact (afx _ _).1 hl2
  ·simp[e3,h2]
   refine go (2 * k+1) _ _ _ (by omega) (by omega) p1 (by omega) (fun c h0 hc hpc=>?_) H1 hf1
   rcases afi h0 hpc with rfl|rfl
   ·exact le_refl _
   ·omega
end Go.Proofs.YtgepcfcicngceaaGreatDoor
set_option maxRecDepth 100000
namespace Go.Proofs.YtgepcfcicngceaaGreatDoor
open Go.Eng
variable [HE]
theorem HL.jl{w w':World}{hb:Nat}{v mv:Value}{its:List It}{S:Nat->Prop}(H:HL w hb v mv its)(hf:Fr S w w')(h1: ¬S hb)(h2: ∀b,fpL v its b->¬S b):HL w' hb v mv its:=by
 refine⟨hf.heap H.blk h1,sy H.row fun g hg=>?_,fun i t ht=>hf.heap (H.itm i t ht) (h2 _ (.inr ⟨t,List.mem_of_getElem? ht,rfl⟩))⟩
 obtain⟨cap,cur,_,_,hb',_⟩:=oe H.row hg
 exact hf.jl g (mh hb') (h2 g (.inl hg))
theorem amz{w:World}{hb:Nat}{v mv:Value}{its:List It}(H:HL w hb v mv its){b:Nat}(h:fpL v its b):b < w.heap.size:=by
 rcases h with hg| ⟨t,ht,rfl⟩
 ·obtain⟨cap,cur,_,_,hb',_⟩:=oe H.row hg
  exact mh hb'
 ·obtain⟨i,hi⟩:=List.mem_iff_getElem?.1 ht
  exact mh (H.itm i t hi)
theorem bfn{w:World}{hb:Nat}{v mv:Value}{its:List It}(H:HL w hb v mv its)(hlen:its.length < 1099511627776){t:It}{z:Int}(ht:w.heap[t.p]? =some (.cells #[.int .u64 t.k,.int .u64 t.a,.int .i64 z] T.aw (0,0)))
  (hnew: ∀u∈its,u.p≠t.p) (K:KV)
  (h: ∀w' v',HL w' hb v' mv (its ++ [t])->Fr (fun b=>fpL v its b\/b=hb\/b=t.p) w w'->(∀b,v'.ownBlock=some b->v.ownBlock=some b\/w.heap.size<=b)->K (.tuple #[]) w'):
  oc P (abg hb) "Push" [.iface T.ac t.ptr] w K:=by
 unfold abg
 rw[awi (P:=P) (t:=T.bf) (name:= "Push") (f:=F.en) (by simp),M.eh.fcall]
 apply M.eh.calls
 unfold M.eh
 obtain⟨h0,h1⟩:=ww H.blk
 obtain⟨t0,t1,t2⟩:=zr ht
 have f2:=mi ht 2
 have fb:=mi H.blk 0
 have hbt:hb≠t.p:=ly H.blk ht (by first|decide|exact HE.n1|exact HE.n2|exact HE.n1.symm|exact HE.n2.symm)
 have e1:t.ptr= .pointer (some ⟨t.p,0,none⟩):=rfl
 have hlenv: ∀(w1:World)(K1:KV),K1 (.int .i64 its.length) w1->biT P .len #[T.af] T.d [false] [v] w1 K1:=fun w1 K1 hk=>by
  rcases H.row.2 with⟨rfl,hn⟩|⟨g,cap,cur,rfl,_⟩
  ·simp[hn] at hk⊢;exact hk
  ·simp;exact hk
 simp[h0,e1]
 refine hlenv _ _ ?_
 simp[h0,t2,f2,kp,hbt.symm]
 -- the new row of one
 generalize hw1:w.setCell ⟨t.p,2,none⟩ (.int .i64 its.length)=w1
 have hs1:w1.heap.size=w.heap.size:=by rw[<-hw1,yp]
 have hf1:Fr (fun b=>fpL v its b\/b=hb\/b=t.p) w w1:=by
  rw[<-hw1];exact (Fr.refl _ w).setCell (.inl (.inr (.inr rfl))) _ _
 have hrow1:w1.ownsRow 0 T.ac 1 v its.length (its.map It.ptr):=sy H.row fun g hg=>by
  obtain⟨cap,cur,_,_,hb',_⟩:=oe H.row hg
  rw[<-hw1,ke]
  exact (ly hb' ht (by first|decide|exact HE.n1|exact HE.n2|exact HE.n1.symm|exact HE.n2.symm)).symm
 have hrow2:=hrow1.alloc (.cells #[.pointer (some ⟨t.p,0,none⟩)] T.ac)
 refine apc (P:=P) et.af hrow2 (b:=w.heap.size) (o:=0) (m:=1) (c:=1) (news:=[t.ptr]) rfl ?_ ?_ (by omega) (by omega) (Nat.zero_le _) _ _ ?_
 ·intro j u hj
  have:j=0/\u=t.ptr:=by
   cases j with
   | zero=>simp at hj;exact⟨rfl,hj.symm⟩
   | succ j=>simp at hj
  obtain⟨rfl,rfl⟩:=this
  rw[Nat.zero_add,ads hs1.symm];rfl
 ·intro u hu;simp at hu;subst hu;rfl
 ·intro v' w2 hrow3 hgr _ hwhere
  have hf2:Fr (fun b=>fpL v its b\/b=hb\/b=t.p) w w2:=(hf1.alloc _).jw (Fr.bjo hgr) fun b _ h=> .inl (.inl h)
  have hbg: ∀g,v.ownBlock=some g->g≠hb:=fun g hg=>by
   obtain⟨cap,cur,_,_,hb',_⟩:=oe H.row hg
   exact ly hb' H.blk (by first|decide|exact HE.n1|exact HE.n2|exact HE.n1.symm|exact HE.n2.symm)
  have hblt:=mh H.blk
  have hblk1:(w1.alloc (.cells #[.pointer (some ⟨t.p,0,none⟩)] T.ac)).heap[hb]? =some (hbk v mv):=by
   rw[ja,if_neg (by omega),<-hw1,ke hbt.symm];exact H.blk
  have hblk2:w2.heap[hb]? =some (hbk v mv):=by
   rw[hgr.block hb (by rw[jg];omega) (fun he=>hbg hb he.symm rfl)];exact hblk1
  have c0:(iq w2 hb 0).isSome=true:=by rw[iw hblk2];rfl
  have ff:qy w2 hb 0=false:=mi hblk2 0
  have hv':v'= .slice none 0 0\/∃g c,v'= .slice (some ⟨g,0,none⟩) (its.length+1) c:=by
   rcases hrow3.2 with⟨h,_⟩|⟨g,c,_,h,_⟩
   ·exact .inl h
   ·exact .inr ⟨g,c,h⟩
  have hst: ∀K1:KV,K1 undef (w2.setCell ⟨hb,0,none⟩ v')->stT P T.af (.pointer (some ⟨hb,0,none⟩)) v' w2 K1:=fun K1 hk=>by
   rcases hv' with rfl| ⟨g,c,rfl⟩ <;>simp[c0,ff] <;>exact hk
  refine hst _ (h _ v' ⟨?_,?_,?_⟩ (hf2.setCell (.inl (.inr (.inl rfl))) _ _) ?_)
  ·exact bhg hblk2
  ·have hr:(its ++ [t]).map It.ptr=its.map It.ptr ++ [t.ptr]:=by simp
   rw[hr,List.length_append]
   refine sy hrow3 fun g hg=>?_
   obtain⟨cap,cur,_,_,hb',_⟩:=oe hrow3 hg
   rw[ke]
   exact (ly hb' hblk2 (by first|decide|exact HE.n1|exact HE.n2|exact HE.n1.symm|exact HE.n2.symm)).symm
  ·-- the items
   have jl: ∀p o,w1.heap[p]? =some o->v.ownBlock≠some p->p≠hb->(w2.setCell ⟨hb,0,none⟩ v').heap[p]? =some o:=fun p o hp hg hph=>by
    have hlt:=mh hp
    rw[ke hph.symm,hgr.block p (by rw[jg];omega) (fun he=>hg he.symm),ja,if_neg (by omega)]
    exact hp
   intro i u hu
   rw[List.getElem?_append] at hu
   split at hu
   ·have hu':=H.itm i u hu
    have hne:t.p≠u.p:=fun h=>hnew u (List.mem_of_getElem? hu) h.symm
    refine jl _ _ (by rw[<-hw1,ke hne];exact hu') (fun hg=>?_) (fun h=>?_)
    ·obtain⟨cap,cur,_,_,hb',_⟩:=oe H.row hg
     exact ly hb' hu' (by first|decide|exact HE.n1|exact HE.n2|exact HE.n1.symm|exact HE.n2.symm) rfl
    ·unfold ws at hu';rw[h] at hu';exact ly H.blk hu' (by first|decide|exact HE.n1|exact HE.n2|exact HE.n1.symm|exact HE.n2.symm) rfl
   ·rename_i hlt
    have hi:i=its.length/\u=t:=by
     cases hd:i - its.length with
     | zero=>rw[hd] at hu;simp at hu;exact⟨by omega,hu.symm⟩
     | succ n=>rw[hd] at hu;simp at hu
    obtain⟨rfl,rfl⟩:=hi
    refine jl _ _ (by rw[<-hw1,nl ht];rfl) (fun hg=>?_) hbt.symm
    obtain⟨cap,cur,_,_,hb',_⟩:=oe H.row hg
    exact ly hb' ht (by first|decide|exact HE.n1|exact HE.n2|exact HE.n1.symm|exact HE.n2.symm) rfl
  ·intro b hb'
   rcases hwhere with h| ⟨g,h,hge⟩
   ·exact .inl (h ▸ hb')
   ·rw[hb'] at h;cases h
    rw[jg] at hge;exact .inr (by omega)
theorem bmi{w:World}{hb n:Nat}{v mv:Value}{its:List It}(H:HL w hb v mv its)(hlen:its.length < 1099511627776)(hn:its.length=n+1)(K:KV)
  (h: ∀w' v',HL w' hb v' mv (its.take n)->Fr (fun b=>b=hb) w w'->v'.ownBlock=v.ownBlock->K (.iface T.ac (At its n).ptr) w'):
  oc P (abg hb) "Pop" [] w K:=by
 unfold abg
 rw[awi (P:=P) (t:=T.bf) (name:= "Pop") (f:=F.ez) (by simp),M.eu.fcall]
 apply M.eu.calls
 unfold M.eu
 obtain⟨h0,h1⟩:=ww H.blk
 have fb:=mi H.blk 0
 obtain⟨g,cap,cur,hv,_,hgb,hnc,_,_,_⟩:=yn H.row (by omega)
 have cn:=yr H.row (g:=g) (by rw[hv];rfl) (i:=n) (x:=(At its n).ptr) (by rw[List.getElem?_map,xx (by omega)];rfl)
 have hw:IntKind.i64.wrap ((its.length:Int) - 1)=(n:Int):=by rw[jc];omega
 have l1:(n:Int) < its.length:=by omega
 have l2:(n:Int)<=cap:=by omega
 have hbg:hb≠g:=(ly hgb H.blk (by first|decide|exact HE.n1|exact HE.n2|exact HE.n1.symm|exact HE.n2.symm)).symm
 have hnl:n < its.length:=by omega
 have hnc':n<=cap:=by omega
 subst hv
 simp[h0,hw,hnl,hnc',cn,fb]
 refine h _ (.slice (some ⟨g,0,none⟩) n cap) ⟨?_,?_,?_⟩ ((Fr.refl (fun b=>b=hb) w).setCell (.inl rfl) _ _) rfl
 ·rw[nl H.blk];rfl
 ·have hl:(its.take n).length=n:=by rw[List.length_take];omega
  rw[hl,List.map_take]
  have:=bhs (m:=n) (sy (w':=w.setCell ⟨hb,0,none⟩ (.slice (some ⟨g,0,none⟩) n cap)) H.row fun g' hg'=>by cases hg';rw[ke hbg]) (by omega)
  simpa using this
 ·intro i u hu
  rw[List.getElem?_take] at hu
  split at hu
  ·have hu':=H.itm i u hu
   unfold ws at hu'⊢
   rw[ke (ly H.blk hu' (by first|decide|exact HE.n1|exact HE.n2|exact HE.n1.symm|exact HE.n2.symm))]
   exact hu'
  ·cases hu
theorem boj{w:World}{hb i:Nat}{v mv:Value}{its:List It}(H:HL w hb v mv its)(hlen:its.length < 1099511627776)(hi:i < its.length)(hD:afo (At its) its.length i i){K:KV}
  (h: ∀w' its',HL w' hb v mv its'->its'.Perm its->xg (At its') its'.length->Fr (fpL v its) w w'->K (.tuple #[]) w'):jy P F.hc [abg hb,.int .i64 i] w K:=by
 apply M.gl.calls
 unfold M.gl
 refine apm H _ ?_
 rw[M.dd.fcall]
 refine axm H (by omega) (Nat.le_refl _) hi hD fun w1 its1 b H1 hp1 hl1 ht hf _ hf1=>?_
 cases b with
 | true=>
  simp
  exact h w1 its1 H1 hp1 (by rw[hl1];exact ht rfl) hf1
 | false=>
  simp
  rw[M.fl.fcall]
  refine bac H1 (by omega) (by omega) (Nat.le_of_eq hl1.symm) hi (hf rfl) fun w2 its2 H2 hp2 hl2 hh _ hf2=>?_
  exact h w2 its2 H2 (hp2.trans hp1) (by rw[hl2,hl1];exact hh) (hf1.jw hf2 fun b _ hb'=>aap hp1 hb')
theorem blv{w:World}{hb:Nat}{v mv:Value}{its:List It}(H:HL w hb v mv its)(hlen:its.length < 1099511627776)(hh:xg (At its) its.length){t:It}{z:Int}(ht:w.heap[t.p]? =some (.cells #[.int .u64 t.k,.int .u64 t.a,.int .i64 z] T.aw (0,0)))
  (hnew: ∀u∈its,u.p≠t.p) {K:KV}
  (h: ∀w' v' its',HL w' hb v' mv its'->its'.Perm (its ++ [t])->xg (At its') its'.length->Fr (fun b=>fpL v its b\/b=hb\/b=t.p) w w'->(∀b,v'.ownBlock=some b->v.ownBlock=some b\/w.heap.size<=b)->K (.tuple #[]) w'):
  jy P F.hb [abg hb,.iface T.ac t.ptr] w K:=by
 apply M.gg.calls
 unfold M.gg
 refine bfn H hlen ht hnew _ fun w1 v1 H1 hf1 hv1=>?_
 refine apm H1 _ ?_
 have hw:IntKind.i64.wrap ((((its ++ [t]).length:Nat):Int) - 1)=((its.length:Nat):Int):=by rw[jc (by simp <;>omega) (by simp <;>omega)];simp
 rw[ol,hw,M.fl.fcall]
 have hl:(its ++ [t]).length=its.length+1:=by simp
 refine bac H1 (by omega) (by omega) (Nat.le_refl _) (by omega) ⟨fun c h0 hc hne=>?_,fun c h0 hc hpc _=>?_⟩ fun w2 its2 H2 hp2 hl2 hh2 _ hf2=>?_
 ·have hc':c < its.length:=by omega
  have hp:=sr h0
  have e1:At (its ++ [t]) c=At its c:=by simp[At,List.getElem?_append,hc']
  have e2:At (its ++ [t]) (par c)=At its (par c):=by simp[At,List.getElem?_append,show par c < its.length from by omega]
  rw[e1,e2];exact hh c h0 hc'
 ·have:=sr h0;omega
 ·refine h w2 v1 its2 H2 hp2 (by rw[hl2];exact hh2) (hf1.jw hf2 fun b hlt hb'=>?_) hv1
  rcases aap (List.Perm.refl _) hb' with hg| ⟨u,hu,hp⟩
  ·rcases hv1 b hg with hg|hg
   ·exact .inl (.inl hg)
   ·omega
  ·rcases List.mem_append.1 hu with hu|hu
   ·exact .inl (.inr ⟨u,hu,hp⟩)
   ·rw[List.mem_singleton] at hu;subst hu;exact .inr (.inr hp.symm)
theorem bfe{w:World}{hb i:Nat}{v mv:Value}{its:List It}(H:HL w hb v mv its)(hlen:its.length < 1099511627776)(hi:i < its.length)(hh:xg (At its) its.length){K:KV}
  (h: ∀w' v' its',HL w' hb v' mv its'->(At its i :: its').Perm its->xg (At its') its'.length->Fr (fun b=>fpL v its b\/b=hb) w w'->v'.ownBlock=v.ownBlock->K (.iface T.ac (At its i).ptr) w'):
  jy P F.gm [abg hb,.int .i64 i] w K:=by
 apply M.fq.calls
 unfold M.fq
 refine apm H _ ?_
 obtain⟨n,hn⟩: ∃n,its.length=n+1:=⟨its.length - 1,by omega⟩
 have hw:IntKind.i64.wrap (((its.length:Nat):Int) - 1)=((n:Nat):Int):=by rw[jc];omega
 -- the end:the kx one is taken
 have fin: ∀(w1:World) (its1:List It),HL w1 hb v mv its1->its1.Perm its->At its1 n=At its i->xg (At its1) n->Fr (fpL v its) w w1->oc P (abg hb) "Pop" [] w1 K:=fun w1 its1 H1 hp1 hlast hh1 hf1=>by
  have hl1:=hp1.length_eq
  refine bmi H1 (n:=n) (by omega) (by omega) _ fun w2 v2 H2 hf2 hv2=>?_
  rw[hlast]
  have hlt:(its1.take n).length=n:=by rw[List.length_take];omega
  have ht:its1=its1.take n ++ [At its1 n]:=by
   have h1:its1.take (n+1)=its1.take n ++ [its1[n]'(by omega)]:=by rw[List.take_succ_eq_append_getElem (by omega)]
   rw[List.take_of_length_le (by omega)] at h1
   have h2:At its1 n=its1[n]'(by omega):=by simp[At,show n < its1.length from by omega]
   rw[h2];exact h1
  refine h w2 v2 _ H2 ?_ ?_ ((hf1.mono fun _ _ h=> .inl h).jw hf2 fun b _ hb'=> .inr hb') hv2
  ·rw[<-hlast]
   have:(At its1 n :: its1.take n).Perm (its1.take n ++ [At its1 n]):=(List.perm_append_comm (l₁:=[At its1 n]) (l₂:=its1.take n))
   rw[<-ht] at this
   exact this.trans hp1
  ·rw[hlt]
   intro c h0 hc
   have hp:=sr h0
   have e1:At (its1.take n) c=At its1 c:=by simp[At,hc]
   have e2:At (its1.take n) (par c)=At its1 (par c):=by simp[At,show par c < n from by omega]
   rw[e1,e2];exact hh1 c h0 hc
 by_cases hin:i=n
 ·subst hin
  simp[hw]
  exact fin w its H (List.Perm.refl _) rfl (fun c h0 hc=>hh c h0 (by omega)) (Fr.refl _ _)
 ·have hne: ¬((n:Int)=(i:Int)):=by omega
  have b1:i < its.length:=hi
  have b2:n < its.length:=by omega
  simp[hw,hne]
  refine amk H (xx b1) (xx b2) hin _ fun w1 H1 hf1=>?_
  have hs:At (wj its i n (At its i) (At its n))=sw (At its) i n:=afu b1 b2
  have hl1:=ajy its i n (At its i) (At its n)
  have hp1:=ahy b1 b2
  rw[M.dd.fcall]
  refine axm H1 (by omega) (by omega) (by omega) (by rw[hs];exact avm (by rw[<-hn];exact hh) (by omega)) fun w2 its2 b H2 hp2 hl2 ht hf hc2 hf2=>?_
  have hf12:Fr (fpL v its) w w2:=hf1.jw hf2 fun b _ hb'=>aap hp1 hb'
  have hlast2:At its2 n=At its i:=by rw[hc2 n (Nat.le_refl _),hs];simp[sw]
  cases b with
  | true=>
   simp
   exact fin w2 its2 H2 (hp2.trans hp1) hlast2 (ht rfl) hf12
  | false=>
   simp
   rw[M.fl.fcall]
   refine bac H2 (by omega) (by omega) (n:=n) (by omega) (by omega) (hf rfl) fun w3 its3 H3 hp3 hl3 hh3 hc3 hf3=>?_
   exact fin w3 its3 H3 (hp3.trans (hp2.trans hp1)) (by rw[hc3 n (Nat.le_refl _)];exact hlast2) hh3 (hf12.jw hf3 fun b _ hb'=>aap (hp2.trans hp1) hb')
end Go.Proofs.YtgepcfcicngceaaGreatDoor
namespace Go.Eng
abbrev CT:=List (Int×Int)
def rj(c:CT)(k:Int):CT:=c.filter fun p=>!decide (p.1=k)
def px(c:CT)(k a:Int):CT:=(k,a) :: rj c k
def xk:CT->Int->Option Int
 | [],_=>none
 | (y,a) :: c,k=>if y=k then some a else xk c k
def ku(c:CT):List Int:=c.map (·.1)
def leP(p q:Int×Int):Bool:=decide (p.2 < q.2) || (decide (p.2=q.2) && decide (p.1<=q.1))
def srt(c:CT):CT:=c.mergeSort leP
theorem bdl(a b c:Int×Int):leP a b=true->leP b c=true->leP a c=true:=by
 simp only[leP,Bool.or_eq_true,Bool.and_eq_true,decide_eq_true_eq];omega
theorem bdu(a b:Int×Int):(leP a b || leP b a)=true:=by
 simp only[leP,Bool.or_eq_true,Bool.and_eq_true,decide_eq_true_eq];omega
theorem biv{a b:Int×Int}(h:leP a b=true)(h':leP b a=true):a=b:=by
 simp only[leP,Bool.or_eq_true,Bool.and_eq_true,decide_eq_true_eq] at h h'
 obtain⟨a1,a2⟩:=a
 obtain⟨b1,b2⟩:=b
 simp only at h h'
 have e1:a2=b2:=by omega
 have e2:a1=b1:=by omega
 rw[e1,e2]
theorem aae(c:CT):(srt c).Perm c:=List.mergeSort_perm c leP
theorem bdc(c:CT):(srt c).Pairwise (fun a b=>leP a b=true):=List.pairwise_mergeSort bdl bdu c
theorem bbu{l l':CT}(h:l.Perm l')(h1:l.Pairwise (fun a b=>leP a b=true))(h2:l'.Pairwise (fun a b=>leP a b=true)):l=l':=
 List.Perm.eq_of_pairwise (fun _ _ _ _ ha hb=>biv ha hb) h1 h2 h
theorem adi(c:CT)(k:Int):xk c k=none↔k∉ku c:=by
 induction c with
 | nil=>simp[xk,ku]
 | cons p c ih=>
  obtain⟨y,a⟩:=p
  simp only[xk,ku,List.map_cons,List.mem_cons,not_or] at ih⊢
  by_cases hy:y=k
  ·simp[hy]
  ·simp[hy,ih,Ne.symm hy]
theorem biy{c:CT}{k a:Int}(h:xk c k=some a):(k,a)∈c:=by
 induction c with
 | nil=>simp[xk] at h
 | cons p c ih=>
  obtain⟨y,b⟩:=p
  simp only[xk] at h
  split at h
  ·rename_i hy;subst hy;cases h;exact List.mem_cons_self ..
  ·exact List.mem_cons_of_mem _ (ih h)
theorem afr{c:CT}(hn:(ku c).Nodup){k a:Int}(h:(k,a)∈c):xk c k=some a:=by
 induction c with
 | nil=>cases h
 | cons p c ih=>
  obtain⟨y,b⟩:=p
  simp only[ku,List.map_cons,List.nodup_cons] at hn
  simp only[xk]
  rcases List.mem_cons.1 h with h|h
  ·cases h;simp
  ·split
   ·rename_i hy;subst hy
    exact absurd (List.mem_map.2 ⟨_,h,rfl⟩) hn.1
   ·exact ih hn.2 h
theorem ajo(c:CT)(k:Int):ku (rj c k)=(ku c).filter fun x=>!decide (x=k):=by
 unfold ku rj
 rw[List.filter_map]
 rfl
theorem anm{c:CT}(h:(ku c).Nodup)(k:Int):(ku (rj c k)).Nodup:=by rw[ajo];exact h.filter _
theorem atz(c:CT)(k:Int):k∉ku (rj c k):=by rw[ajo];simp
theorem aok{c:CT}(h:(ku c).Nodup)(k a:Int):(ku (px c k a)).Nodup:=by
 unfold px ku
 rw[List.map_cons,List.nodup_cons]
 exact⟨atz c k,anm h k⟩
theorem acl{c:CT}{k:Int}(h:k∉ku c):rj c k=c:=by
 unfold rj
 rw[List.filter_eq_self]
 intro p hp
 simp only[Bool.not_eq_true',decide_eq_false_iff_not]
 exact fun he=>h (List.mem_map.2 ⟨p,hp,he⟩)
theorem arm{c c':CT}(h:c.Perm c')(k:Int):(rj c k).Perm (rj c' k):=h.filter _
theorem beg{c c':CT}(h:c.Perm c')(k a:Int):(px c k a).Perm (px c' k a):=(arm h k).cons _
theorem ava{c:CT}(hn:(ku c).Nodup){i:Nat}{k a b:Int}(hi:c[i]? =some (k,a)):(c.set i (k,b)).Perm (px c k b):=by
 induction c generalizing i with
 | nil=>simp at hi
 | cons p c ih=>
  simp only[ku,List.map_cons,List.nodup_cons] at hn
  cases i with
  | zero=>
   simp at hi
   subst hi
   simp only[List.set_cons_zero,px]
   have:rj ((k,a) :: c) k=c:=by
    unfold rj
    rw[List.filter_cons]
    simp only[decide_true,Bool.not_true,Bool.false_eq_true,if_false]
    exact acl hn.1
   rw[this]
  | succ i=>
   have hi':c[i]? =some (k,a):=by simpa using hi
   have hpk:p.1≠k:=fun h=>hn.1 (by rw[h];exact List.mem_map.2 ⟨_,List.mem_of_getElem? hi',rfl⟩)
   simp only[List.set_cons_succ]
   have h1:=(ih hn.2 hi').cons p
   refine h1.trans ?_
   have:px (p :: c) k b=(k,b) :: p :: rj c k:=by
    unfold px rj
    rw[List.filter_cons]
    simp[hpk]
   rw[this]
   exact List.Perm.swap _ _ _
theorem bgu{c:CT}(hn:(ku c).Nodup){l:CT}{k a:Int}(h:((k,a) :: l).Perm c):l.Perm (rj c k):=by
 have hn':(ku ((k,a) :: l)).Nodup:=((h.map _).nodup_iff).2 hn
 simp only[ku,List.map_cons,List.nodup_cons] at hn'
 have h1:=arm h k
 have:rj ((k,a) :: l) k=l:=by
  unfold rj
  rw[List.filter_cons]
  simp only[decide_true,Bool.not_true,Bool.false_eq_true,if_false]
  exact acl hn'.1
 rw[this] at h1
 exact h1
theorem aik{α β:Type}{f:α->β}{l:List α}{i:Nat}{t t':α}(hi:l[i]? =some t)(hf:f t'=f t):(l.set i t').map f=l.map f:=by
 rw[List.map_set]
 refine List.ext_getElem? fun j=>?_
 rw[List.getElem?_set]
 have hil:=(List.getElem?_eq_some_iff.1 hi).1
 split
 ·rename_i hij;subst hij
  rw[List.length_map,if_pos hil,List.getElem?_map,hi,hf];rfl
 ·rfl
def qh(c:CT)(now:Int):List Int:=((srt c).filter fun p=>decide (p.2<=now)).map (·.1)
def wk(c:CT)(now:Int):CT:=c.filter fun p=>decide (now < p.2)
theorem asv{c:CT}{p:Int×Int}{l:CT}(h:(p :: l).Perm c)(hm: ∀q∈l,leP p q=true):srt c=p :: srt l:=by
 refine bbu ((aae c).trans (h.symm.trans ((aae l).symm.cons p))) (bdc c) ?_
 refine List.Pairwise.cons (fun q hq=>hm q ((aae l).mem_iff.1 hq)) (bdc l)
theorem bed{c:CT}{p:Int×Int}{l:CT}{now:Int}(h:(p :: l).Perm c)(hm: ∀q∈l,leP p q=true)(hd:p.2<=now):qh c now=p.1 :: qh l now:=by
 unfold qh
 rw[asv h hm,List.filter_cons,if_pos (by simpa using hd)]
 rfl
theorem bbf{c:CT}{now:Int}(h: ∀q∈c,now < q.2):qh c now=[]:=by
 unfold qh
 rw[List.filter_eq_nil_iff.2]
 ·rfl
 ·intro q hq
  have:=h q ((aae c).mem_iff.1 hq)
  simp;omega
theorem ayr{p:Int×Int}{l c:CT}{now:Int}(h:(p :: l).Perm c)(hd:p.2<=now):(wk l now).Perm (wk c now):=by
 have:=h.filter fun q=>decide (now < q.2)
 rw[List.filter_cons,if_neg (by simp;omega)] at this
 exact this
theorem bca{c:CT}{now:Int}(h: ∀q∈c,now < q.2):wk c now=c:=by
 unfold wk
 rw[List.filter_eq_self]
 intro q hq;simpa using h q hq
end Go.Eng
set_option maxRecDepth 100000
namespace Go.Proofs.YtgepcfcicngceaaGreatDoor
open Go.Eng
variable [HE]
def It.pr(t:It):Int×Int:=(t.k,t.a)
def aoe(w:World)(mv:Value)(its:List It):Prop:=
 (mv= .map none/\its=[])\/∃r m,mv= .map (some r)/\lj w r .u64 m/\(jp m).Nodup/\(∀t∈its,kh m t.k=some t.ptr)/\∀k,(∀t∈its,t.k≠k)->kh m k=none
structure HpI(w:World)(hb:Nat)(v mv:Value)(its:List It):Prop where
 hl:HL w hb v mv its
 hh:xg (At its) its.length
 nd:(its.map (·.k)).Nodup
 mp:aoe w mv its
def abh(hb:Nat):Value:= .pointer (some ⟨hb,0,none⟩)
structure Hp(w:World)(hb:Nat)(O:Nat->Prop)(c:CT):Prop where
 ex: ∃v mv its,HpI w hb v mv its/\(its.map It.pr).Perm c/\O hb/\(∀b,fpL v its b->O b)/\∀r,mv= .map (some r)->O r
 lt: ∀b,O b->b < w.heap.size
 nd:(ku c).Nodup
omit [HE] in
theorem aoe.jl{w w':World}{mv:Value}{its:List It}(h:aoe w mv its)(hk: ∀r,mv= .map (some r)->w'.heap[r]? =w.heap[r]?):aoe w' mv its:=by
 rcases h with h| ⟨r,m,hr,hm,h1,h2,h3⟩
 ·exact .inl h
 ·exact .inr ⟨r,m,hr,hm.of_heap (hk r hr),h1,h2,h3⟩
theorem Hp.jl{w w':World}{hb:Nat}{O S:Nat->Prop}{c:CT}(H:Hp w hb O c)(hf:Fr S w w')(hd: ∀b,O b->¬S b):Hp w' hb O c:=by
 obtain⟨v,mv,its,hI,hp,h1,h2,h3⟩:=H.ex
 refine⟨⟨v,mv,its,⟨hI.hl.jl hf (hd _ h1) fun b hb'=>hd _ (h2 b hb'),hI.hh,hI.nd,hI.mp.jl fun r hr=>hf.jl r (H.lt r (h3 r hr)) (hd _ (h3 r hr))⟩,hp,h1,h2,h3⟩,fun b hb'=>Nat.lt_of_lt_of_le (H.lt b hb') hf.size,H.nd⟩
theorem Hp.congr{w:World}{hb:Nat}{O:Nat->Prop}{c c':CT}(H:Hp w hb O c)(h:c.Perm c'):Hp w hb O c':=by
 obtain⟨v,mv,its,hI,hp,h1,h2,h3⟩:=H.ex
 exact⟨⟨v,mv,its,hI,hp.trans h,h1,h2,h3⟩,H.lt,((h.map _).nodup_iff).1 H.nd⟩
theorem jv{w:World}{hb:Nat}{O:Nat->Prop}{c:CT}(H:Hp w hb O c){K:KV}(h:K (.int .i64 c.length) w):jy P F.ey [abh hb] w K:=by
 obtain⟨v,mv,its,hI,hp,_⟩:=H.ex
 apply M.er.calls
 unfold M.er abh
 obtain⟨h0,h1⟩:=ww hI.hl.blk
 have hl:c.length=its.length:=by rw[<-hp.length_eq];simp
 rw[hl] at h
 simp[h0]
 rcases hI.hl.row.2 with⟨rfl,hn⟩|⟨g,cap,cur,rfl,_⟩
 ·simp[hn] at h⊢;exact h
 ·simp;exact h
omit [HE] in
theorem aws{w:World}{mv:Value}{its:List It}{c:CT}(hm:aoe w mv its)(hp:(its.map It.pr).Perm c)(hn:(ku c).Nodup)(k:Int)(ok:Bool)(K:KV):
  (xk c k=none->K (cond ok (.tuple #[.pointer none,.bool false]) (.pointer none)) w)->(∀t∈its,t.k=k->xk c k=some t.a->K (cond ok (.tuple #[t.ptr,.bool true]) t.ptr) w)->
  (mv= .map none->ok=false)->luT P T.o mv (.int .u64 k) ok w K:=by
 intro h0 h1 hok
 rcases hm with⟨rfl,rfl⟩|⟨r,m,rfl,hm,_,h2,h3⟩
 ·rw[hok rfl,bnu mt.o]
  rw[hok rfl] at h0
  have hc:c=[]:=hp.symm.eq_nil
  exact h0 (by rw[hc];rfl)
 ·rw[ank mt.o hm]
  by_cases hex: ∃t∈its,t.k=k
  ·obtain⟨t,ht,htk⟩:=hex
   have:=h2 t ht
   rw[htk] at this
   rw[this]
   refine h1 t ht htk (afr hn (hp.mem_iff.1 ?_))
   rw[<-htk]
   exact List.mem_map.2 ⟨t,ht,rfl⟩
  ·have hno: ∀t∈its,t.k≠k:=fun t ht htk=>hex ⟨t,ht,htk⟩
   rw[h3 k hno]
   refine h0 ((adi _ _).2 fun hk=>?_)
   obtain⟨p,hp',rfl⟩:=List.mem_map.1 hk
   obtain⟨t,ht,rfl⟩:=List.mem_map.1 (hp.mem_iff.2 hp')
   exact hno t ht rfl
theorem baq{w:World}{hb:Nat}{O:Nat->Prop}{c:CT}(H:Hp w hb O c)(k:Int){K:KV}(h0:xk c k=none->K (.tuple #[.int .u64 0,.bool false]) w)(h1: ∀a,xk c k=some a->K (.tuple #[.int .u64 a,.bool true]) w):
  jy P F.fl [abh hb,.int .u64 k] w K:=by
 obtain⟨v,mv,its,hI,hp,_⟩:=H.ex
 apply M.di.calls
 unfold M.di M.di.j0 abh
 obtain⟨c0,c1⟩:=ww hI.hl.blk
 simp[c1]
 refine aws hI.mp hp H.nd k false _ (fun hn=>?_) (fun t ht htk ha=>?_) fun _=>rfl
 ·simp;exact h0 hn
 ·obtain⟨i,hi⟩:=List.mem_iff_getElem?.1 ht
  obtain⟨t0,t1,t2⟩:=zr (hI.hl.itm i t hi)
  simp[It.ptr,c1]
  refine aws hI.mp hp H.nd k false _ (fun hn=>?_) (fun u hu huk hb'=>?_) fun _=>rfl
  ·rw[hn] at ha;cases ha
  ·obtain⟨j,hj⟩:=List.mem_iff_getElem?.1 hu
   obtain⟨u0,u1,u2⟩:=zr (hI.hl.itm j u hj)
   simp[It.ptr,u1]
   exact h1 _ hb'
theorem bmw{w:World}{hb:Nat}{O:Nat->Prop}{c:CT}(H:Hp w hb O c)(hlen:c.length < 1099511627776){K:KV}(h0:c=[]->K (.tuple #[.int .u64 0,.int .u64 0,.bool false]) w)
  (h1: ∀k a,(k,a)∈c->(∀q∈c,leP (k,a) q=true)->K (.tuple #[.int .u64 k,.int .u64 a,.bool true]) (dr w 1)):jy P F.el [abh hb] w K:=by
 obtain⟨v,mv,its,hI,hp,_⟩:=H.ex
 have hl:c.length=its.length:=by rw[<-hp.length_eq];simp
 apply M.cx.calls
 unfold M.cx M.cx.j0
 simp only[ir]
 rw[M.er.fcall]
 refine jv H ?_
 by_cases hc:c=[]
 ·subst hc
  simp
  exact h0 rfl
 ·have hpos:0 < c.length:=List.length_pos_iff.2 hc
  have hz: ¬((c.length:Int)=0):=by omega
  obtain⟨c0,c1⟩:=ww hI.hl.blk
  obtain⟨g,cap,cur,hv,_,hgb,hnc,_,_,_⟩:=yn hI.hl.row (by omega)
  have hat:=xx (its:=its) (i:=0) (by omega)
  obtain⟨t0,t1,t2⟩:=zr (hI.hl.itm 0 _ hat)
  have cn:=yr hI.hl.row (g:=g) (by rw[hv];rfl) (i:=0) (x:=(At its 0).ptr) (by rw[List.getElem?_map,hat];rfl)
  rw[hv] at c0
  have e1:(At its 0).ptr= .pointer (some ⟨(At its 0).p,0,none⟩):=rfl
  have hpos':0 < its.length:=by omega
  simp[hc,abh,c0,cn,e1,t0,t1,hpos']
  have hm:At its 0∈its:=List.mem_of_getElem? hat
  refine h1 _ _ (hp.mem_iff.1 (List.mem_map.2 ⟨_,hm,rfl⟩)) fun q hq=>?_
  obtain⟨u,hu,rfl⟩:=List.mem_map.1 (hp.mem_iff.2 hq)
  obtain⟨j,hj⟩:=List.mem_iff_getElem?.1 hu
  have hjl:=(List.getElem?_eq_some_iff.1 hj).1
  have:=bgc hI.hh j hjl
  rw[awk hj] at this
  unfold le at this
  have hle:leP ((At its 0).k,(At its 0).a) (u.k,u.a)=true:=by
   simp only[leP,Bool.or_eq_true,Bool.and_eq_true,decide_eq_true_eq]
   omega
  exact hle
theorem HL.aup{w w':World}{hb:Nat}{v mv mv':Value}{its:List It}(H:HL w hb v mv its)(hb':w'.heap[hb]? =some (hbk v mv'))(hk: ∀b,fpL v its b->w'.heap[b]? =w.heap[b]?):HL w' hb v mv' its:=by
 refine⟨hb',sy H.row fun g hg=>hk g (.inl hg),fun i t ht=>?_⟩
 have:=H.itm i t ht
 unfold ws at this⊢
 rw[hk _ (.inr ⟨t,List.mem_of_getElem? ht,rfl⟩)]
 exact this
theorem wx{w:World}{hb r:Nat}{v mv:Value}{its:List It}{m:MP}(H:HL w hb v mv its)(hm:lj w r .u64 m){b:Nat}(hf:fpL v its b\/b=hb):b≠r:=by
 obtain⟨es,clk,hr,_⟩:=hm
 rcases hf with (hg| ⟨t,ht,rfl⟩)|rfl
 ·obtain⟨cap,cur,_,_,hb',_⟩:=oe H.row hg
  exact ajd hb' hr
 ·obtain⟨i,hi⟩:=List.mem_iff_getElem?.1 ht
  exact ajd (H.itm i t hi) hr
 ·exact ajd H.blk hr
theorem asm{w:World}{hb r:Nat}{v:Value}{its:List It}{m:MP}{c:CT}{O:Nat->Prop}(hI:HpI w hb v (.map (some r)) its)(hm:lj w r .u64 m)(hmn:(jp m).Nodup)(hm2: ∀t∈its,kh m t.k=some t.ptr)
  (hm3: ∀k,(∀t∈its,t.k≠k)->kh m k=none) (hp:(its.map It.pr).Perm c) (hO1:O hb) (hO2: ∀b,fpL v its b->O b) (hO3:O r) (hlt: ∀b,O b->b < w.heap.size) (hnd:(ku c).Nodup) (hlen:c.length < 1000000) (k a:Int) {K:KV}
  (h: ∀w' O',Hp w' hb O' (px c k a)->Fr O w w'->(∀b,O' b->O b\/w.heap.size<=b)->K (.tuple #[]) w'):M.be.j0 (abh hb) (.int .u64 k) (.int .u64 a) w K:=by
 have hl:c.length=its.length:=by rw[<-hp.length_eq];simp
 obtain⟨c0,c1⟩:=ww hI.hl.blk
 unfold M.be.j0 abh
 simp[c1]
 rw[ank mt.o hm]
 by_cases hex: ∃t∈its,t.k=k
 ·obtain⟨t,ht,rfl⟩:=hex
  obtain⟨i,hi⟩:=List.mem_iff_getElem?.1 ht
  have hil:=(List.getElem?_eq_some_iff.1 hi).1
  have hit:=hI.hl.itm i t hi
  obtain⟨t0,t1,t2⟩:=zr hit
  have tf:=mi hit 1
  rw[hm2 t ht]
  simp[It.ptr,t1,tf,t2,kp]
  rw[M.gl.fcall]
  -- the item's time is turned
  generalize hw1:w.setCell ⟨t.p,1,none⟩ (.int .u64 a)=w1
  have hbt:hb≠t.p:=ly hI.hl.blk hit (by first|decide|exact HE.n1|exact HE.n2|exact HE.n1.symm|exact HE.n2.symm)
  have hf1:Fr (fpL v its) w w1:=by rw[<-hw1];exact (Fr.refl _ w).setCell (.inl (.inr ⟨t,ht,rfl⟩)) _ _
  let t':It:=⟨t.p,t.k,a⟩
  have hptr:(its.set i t').map It.ptr=its.map It.ptr:=aik hi rfl
  have H1:HL w1 hb v (.map (some r)) (its.set i t'):=by
   refine⟨?_,?_,fun j u hu=>?_⟩
   ·rw[<-hw1,ke hbt.symm];exact hI.hl.blk
   ·rw[hptr,List.length_set]
    refine sy hI.hl.row fun g hg=>?_
    obtain⟨cap,cur,_,_,hb',_⟩:=oe hI.hl.row hg
    rw[<-hw1,ke (ly hb' hit (by first|decide|exact HE.n1|exact HE.n2|exact HE.n1.symm|exact HE.n2.symm)).symm]
   ·rw[List.getElem?_set] at hu
    split at hu
    ·rename_i hij;subst hij
     simp[hil] at hu;subst hu
     unfold ws
     rw[<-hw1,nl hit];rfl
    ·rename_i hij
     have hu':=hI.hl.itm j u hu
     have hne:t.p≠u.p:=fun h=>hij (adn hit hu' h)
     unfold ws at hu'⊢
     rw[<-hw1,ke hne];exact hu'
  have hD:afo (At (its.set i t')) (its.set i t').length i i:=by
   rw[List.length_set]
   refine axx hI.hh hil fun c hc=>?_
   simp[At,List.getElem?_set,Ne.symm hc]
  have hfix:=boj (K:=fun _ w=>K (.tuple #[]) w) (H1.dr 1) (by rw[List.length_set];omega) (by rw[List.length_set];exact hil) hD fun w2 its2 H2 hp2 hh2 hf2=>by
   have hkeys:(its.set i t').map (·.k)=its.map (·.k):=aik hi rfl
   have hfr:Fr (fun b=>fpL v its b) w w2:=(hf1.dr 1).jw hf2 fun b _ hb'=>by
    rcases hb' with hg| ⟨u,hu,hpu⟩
    ·exact .inl hg
    ·obtain⟨j,hj⟩:=List.mem_iff_getElem?.1 hu
     rw[List.getElem?_set] at hj
     split at hj
     ·rename_i hij;subst hij
      simp[hil] at hj;subst hj
      exact .inr ⟨t,ht,hpu⟩
     ·exact .inr ⟨u,List.mem_of_getElem? hj,hpu⟩
   have hm':lj w2 r .u64 m:=hm.of_heap (hfr.jl r hm.lt fun hf=>wx hI.hl hm (.inl hf) rfl)
   have mem2: ∀u∈its2,∃x∈its,x.k=u.k/\x.p=u.p:=fun u hu=>by
    obtain⟨j,hj⟩:=List.mem_iff_getElem?.1 (hp2.mem_iff.1 hu)
    rw[List.getElem?_set] at hj
    split at hj
    ·rename_i hij;subst hij
     simp[hil] at hj;subst hj
     exact⟨t,ht,rfl,rfl⟩
    ·exact⟨u,List.mem_of_getElem? hj,rfl,rfl⟩
   refine h w2 O ⟨⟨v,.map (some r),its2,⟨H2,hh2,?_,.inr ⟨r,m,rfl,hm',hmn,fun u hu=>?_,fun k' hk'=>?_⟩⟩,?_,hO1,fun b hb'=>?_,fun r' hr'=>by cases hr';exact hO3⟩,fun b hb'=>Nat.lt_of_lt_of_le (hlt b hb') hfr.size,aok hnd _ _⟩ (hfr.mono fun b _ hb'=>hO2 b hb') fun b hb'=> .inl hb'
   ·rw[((hp2.map (·.k)).nodup_iff),hkeys];exact hI.nd
   ·obtain⟨x,hx,h1,h2⟩:=mem2 u hu
    have:=hm2 x hx
    rw[h1] at this
    rw[this];unfold It.ptr;rw[h2]
   ·refine hm3 k' fun x hx hxk=>?_
    obtain⟨j,hj⟩:=List.mem_iff_getElem?.1 hx
    by_cases hij:i=j
    ·subst hij
     rw[hi] at hj;cases hj
     have:t'∈its2:=hp2.mem_iff.2 (List.mem_iff_getElem?.2 ⟨i,by simp[List.getElem?_set,hil]⟩)
     exact hk' t' this hxk
    ·have:x∈its2:=hp2.mem_iff.2 (List.mem_iff_getElem?.2 ⟨j,by simp[List.getElem?_set,hij,hj]⟩)
     exact hk' x this hxk
   ·have h1:(its2.map It.pr).Perm ((its.map It.pr).set i (t.k,a)):=by
     have:=hp2.map It.pr
     rw[List.map_set] at this
     exact this
    refine h1.trans ?_
    have hnd':(ku (its.map It.pr)).Nodup:=((hp.map _).nodup_iff).2 hnd
    have h2:=ava hnd' (i:=i) (k:=t.k) (a:=t.a) (b:=a) (by simp[hi,It.pr])
    exact h2.trans (beg hp _ _)
   ·rcases hb' with hg| ⟨u,hu,hpu⟩
    ·exact hO2 b (.inl hg)
    ·obtain⟨x,hx,h1,h2⟩:=mem2 u hu
     exact hO2 b (.inr ⟨x,hx,h2.trans hpu⟩)
  exact hfix
 ·have hno: ∀t∈its,t.k≠k:=fun t ht htk=>hex ⟨t,ht,htk⟩
  rw[hm3 k hno]
  have hck:k∉ku c:=fun hk=>by
   obtain⟨q,hq,rfl⟩:=List.mem_map.1 hk
   obtain⟨t,ht,rfl⟩:=List.mem_map.1 (hp.mem_iff.2 hq)
   exact hno t ht rfl
  have hca:px c k a=(k,a) :: c:=by unfold px;rw[acl hck]
  simp
  unfold M.be.j1
  simp
  -- the new item
  generalize hw1:w.alloc (.cells #[.int .u64 k,.int .u64 a,.int .i64 0] T.aw)=w1
  have hblt:=mh hI.hl.blk
  have hs1:w1.heap.size=w.heap.size+1:=by rw[<-hw1,jg]
  have keep1: ∀b,b < w.heap.size->w1.heap[b]? =w.heap[b]? :=fun b hb'=>by rw[<-hw1,ja,if_neg (by omega)]
  have hf1:Fz w w1:=by rw[<-hw1];exact (Fr.refl _ w).alloc _
  have c1':iq w1 hb 1=some (.map (some r)):=by rw[xv (keep1 hb hblt)];exact c1
  have hm1:lj w1 r .u64 m:=hm.of_heap (keep1 r hm.lt)
  have hL1:HL w1 hb v (.map (some r)) its:=hI.hl.jl hf1 (fun h=>h) fun _ _ h=>h
  simp[c1']
  refine aey mt.o hm1 k _ _ fun o hm2'=>?_
  generalize hw2:World.setObj w1 r o=w2 at hm2'
  have hrlt:r < w1.heap.size:=hm1.lt
  have keep2: ∀b,b≠r->w2.heap[b]? =w1.heap[b]? :=fun b hb'=>by rw[<-hw2,qj _ _ _ _ hrlt,if_neg (Ne.symm hb')]
  have hf2:Fr (fun b=>b=r) w1 w2:=by rw[<-hw2];exact (Fr.refl (fun b=>b=r) w1).setObj (.inl rfl) _
  have hL2:HL w2 hb v (.map (some r)) its:=hL1.jl hf2 (wx hL1 hm1 (.inr rfl)) fun b hf=>wx hL1 hm1 (.inl hf)
  rw[M.gg.fcall]
  have hti:w2.heap[w.heap.size]? =some (.cells #[.int .u64 k,.int .u64 a,.int .i64 0] T.aw (0,0)):=by
   have hr':=hm.lt
   rw[keep2 _ (by omega),<-hw1,ja,if_pos rfl]
  refine blv (t:=⟨w.heap.size,k,a⟩) hL2 (by omega) hI.hh hti (fun u hu hp'=>?_) fun w3 v3 its3 H3 hp3 hh3 hf3 hv3=>?_
  ·have:=amz hI.hl (.inr ⟨u,hu,rfl⟩)
   simp at hp';omega
  have hs2:w1.heap.size<=w2.heap.size:=hf2.size
  have hfr:Fr O w w3:=(((hf1.mono fun _ _ h=>h.elim).jw hf2 fun b _ hb'=>by rw[hb'];exact hO3).jw hf3 fun b hlt' hb'=>by
   rcases hb' with hf|rfl|rfl
   ·exact hO2 b hf
   ·exact hO1
   ·simp at hlt')
  have hm3':lj w3 r .u64 (tz m k (.pointer (some ⟨w.heap.size,0,none⟩))):=hm2'.of_heap (hf3.jl r hm2'.lt fun hf=>by
   rcases hf with hf|hf|hf
   ·exact wx hL1 hm1 (.inl hf) rfl
   ·exact wx hL1 hm1 (.inr hf) rfl
   ·have:=hm.lt;simp at hf;omega)
  have hkeys:((its ++ [(⟨w.heap.size,k,a⟩:It)]).map (·.k)).Nodup:=by
   rw[List.map_append,List.nodup_append]
   refine⟨hI.nd,by simp,fun x hx y hy=>?_⟩
   simp at hy;rw[hy]
   obtain⟨t,ht,rfl⟩:=List.mem_map.1 hx
   exact hno t ht
  refine h w3 (fun b=>O b\/(w.heap.size<=b/\b < w3.heap.size)) ⟨⟨v3,.map (some r),its3,⟨H3,hh3,?_,.inr ⟨r,_,rfl,hm3',?_,fun u hu=>?_,fun k' hk'=>?_⟩⟩,?_,.inl hO1,fun b hb'=>?_,fun r' hr'=>by cases hr';exact .inl hO3⟩,fun b hb'=>?_,aok hnd _ _⟩ hfr fun b hb'=>hb'.imp id fun h=>h.1
  ·rw[((hp3.map (·.k)).nodup_iff)];exact hkeys
  ·rw[adq,if_neg ((ql _ _).1 (hm3 k hno)),List.nodup_append]
   refine⟨hmn,by simp,fun x hx y hy=>?_⟩
   simp at hy;rw[hy]
   exact fun he=>(ql _ _).1 (hm3 k hno) (he ▸ hx)
  ·rw[aau]
   rcases List.mem_append.1 (hp3.mem_iff.1 hu) with hu|hu
   ·rw[if_neg (Ne.symm (hno u hu))];exact hm2 u hu
   ·rw[List.mem_singleton] at hu;rw[hu];simp[It.ptr]
  ·have h1:k≠k':=hk' ⟨w.heap.size,k,a⟩ (hp3.mem_iff.2 (by simp))
   rw[aau,if_neg h1]
   exact hm3 k' fun t ht=>hk' t (hp3.mem_iff.2 (by simp[ht]))
  ·rw[hca]
   have h1:=hp3.map It.pr
   rw[List.map_append] at h1
   refine h1.trans (List.perm_append_comm.trans ?_)
   exact hp.cons (k,a)
  ·rcases aap hp3 hb' with hg| ⟨u,hu,hpu⟩
   ·rcases hv3 b hg with hg|hge
    ·exact .inl (hO2 b (.inl hg))
    ·refine .inr ⟨by omega,?_⟩
     exact amz H3 hb'
   ·rcases List.mem_append.1 hu with hu|hu
    ·exact .inl (hO2 b (.inr ⟨u,hu,hpu⟩))
    ·rw[List.mem_singleton] at hu;rw[hu] at hpu
     simp at hpu
     exact .inr ⟨by omega,amz H3 hb'⟩
  ·rcases hb' with hb'|hb'
   ·exact Nat.lt_of_lt_of_le (hlt b hb') hfr.size
   ·exact hb'.2
end Go.Proofs.YtgepcfcicngceaaGreatDoor
set_option maxRecDepth 100000
namespace Go.Proofs.YtgepcfcicngceaaGreatDoor
open Go.Eng
variable [HE]
theorem Hp.new{w':World}{hb:Nat}(hb':w'.heap[hb]? =some (hbk (.slice none 0 0) (.map none))):Hp w' hb (fun b=>b=hb) []:=by
 refine⟨⟨.slice none 0 0,.map none,[],⟨⟨hb',World.ownsRow_nil _ _ _ _,fun i t h=>by simp at h⟩,fun c h0 hc=>by simp at hc,by simp,.inl ⟨rfl,rfl⟩⟩,List.Perm.refl _,rfl,fun b hf=>?_,fun r h=>by cases h⟩,fun b hb2=>?_,by simp[ku]⟩
 ·rcases hf with h| ⟨t,ht,_⟩
  ·simp[Value.ownBlock] at h
  ·cases ht
 ·rw[hb2];exact mh hb'
theorem att{w:World}{hb:Nat}{O:Nat->Prop}{c:CT}(H:Hp w hb O c)(hlen:c.length < 1000000)(k a:Int){K:KV}
  (h: ∀w' O',Hp w' hb O' (px c k a)->Fr O w w'->(∀b,O' b->O b\/w.heap.size<=b)->K (.tuple #[]) w'):jy P F.cv [abh hb,.int .u64 k,.int .u64 a] w K:=by
 obtain⟨v,mv,its,hI,hp,h1,h2,h3⟩:=H.ex
 obtain⟨c0,c1⟩:=ww hI.hl.blk
 apply M.be.calls
 unfold M.be
 rcases hI.mp with⟨rfl,rfl⟩|⟨r,m,rfl,hm,hmn,hm2,hm3⟩
 ·have hc:c=[]:=hp.symm.eq_nil
  subst hc
  have hblt:=mh hI.hl.blk
  have ff:=mi hI.hl.blk 1
  simp[abh,c1]
  rw[zu]
  generalize hw1:w.alloc (.map #[] 0)=w1
  have hs1:w1.heap.size=w.heap.size+1:=by rw[<-hw1,jg]
  have hb1:w1.heap[hb]? =some (hbk v (.map none)):=by rw[<-hw1,ja,if_neg (by omega)];exact hI.hl.blk
  obtain⟨d0,d1⟩:=ww hb1
  have ff1:=mi hb1 1
  simp[d1,ff1]
  generalize hw2:w1.setCell ⟨hb,1,none⟩ (.map (some w.heap.size))=w2
  have hb2:w2.heap[hb]? =some (hbk v (.map (some w.heap.size))):=by rw[<-hw2];exact bge hb1
  have hf2:Fr O w w2:=by
   rw[<-hw2,<-hw1]
   exact ((Fr.refl O w).alloc _).setCell (.inl h1) _ _
  have hs2:w2.heap.size=w.heap.size+1:=by rw[<-hw2,yp,hs1]
  have hm':lj w2 w.heap.size .u64 []:=by
   refine (yi w .u64).of_heap ?_
   rw[<-hw2,ke (by omega),hw1]
  have hne: ∀b,fpL v ([]:List It) b->b≠hb:=fun b hf=>by
   rcases hf with hg| ⟨t,ht,_⟩
   ·obtain⟨cap,cur,_,_,hgb,_⟩:=oe hI.hl.row hg
    exact ly hgb hI.hl.blk (by first|decide|exact HE.n1|exact HE.n2|exact HE.n1.symm|exact HE.n2.symm)
   ·cases ht
  have H2:HL w2 hb v (.map (some w.heap.size)) []:=hI.hl.aup hb2 fun b hf=>by
   have hlt:=amz hI.hl hf
   rw[<-hw2,ke (Ne.symm (hne b hf)),<-hw1,ja,if_neg (by omega)]
  refine asm (O:=fun b=>O b\/b=w.heap.size) ⟨H2,hI.hh,hI.nd,.inr ⟨_,_,rfl,hm',by simp[jp],fun t ht=>(by cases ht),fun _ _=>rfl⟩⟩ hm' (by simp[jp]) (fun t ht=>(by cases ht)) (fun _ _=>rfl) hp (.inl h1) (fun b hf=> .inl (h2 b hf)) (.inr rfl) (fun b hb'=>?_) H.nd hlen k a fun w3 O3 H3 hf3 hO3=>?_
  ·rcases hb' with hb'|hb'
   ·have:=H.lt b hb';omega
   ·omega
  ·refine h w3 O3 H3 (hf2.jw hf3 fun b hlt hb'=>?_) fun b hb'=>?_
   ·rcases hb' with hb'|hb'
    ·exact hb'
    ·omega
   ·rcases hO3 b hb' with (hb'|hb')|hb'
    ·exact .inl hb'
    ·exact .inr (by omega)
    ·exact .inr (by omega)
 ·simp[abh,c1]
  exact asm hI hm hmn hm2 hm3 hp h1 h2 (h3 r rfl) H.lt H.nd hlen k a h
theorem auv{w:World}{hb:Nat}{O:Nat->Prop}{c:CT}(H:Hp w hb O c)(hlen:c.length < 1000000)(k a:Int)(hk:xk c k=some a){K:KV}(h: ∀w',Hp w' hb O (rj c k)->Fr O w w'->K (.bool true) w'):jy P F.dl [abh hb,.int .u64 k] w K:=by
 obtain⟨v,mv,its,hI,hp,h1,h2,h3⟩:=H.ex
 have hl:c.length=its.length:=by rw[<-hp.length_eq];simp
 obtain⟨c0,c1⟩:=ww hI.hl.blk
 apply M.cs.calls
 unfold M.cs M.cs.j0 abh
 obtain⟨r,m,rfl,hm,hmn,hm2,hm3⟩: ∃r m,mv= .map (some r)/\lj w r .u64 m/\(jp m).Nodup/\(∀t∈its,kh m t.k=some t.ptr)/\∀k,(∀t∈its,t.k≠k)->kh m k=none:=by
  rcases hI.mp with⟨_,rfl⟩|hx
  ·have hc:c=[]:=hp.symm.eq_nil
   subst hc
   simp[xk] at hk
  ·exact hx
 obtain⟨t,ht,hta⟩:=List.mem_map.1 (hp.mem_iff.2 (biy hk))
 obtain⟨rfl,rfl⟩:t.k=k/\t.a=a:=by simpa [It.pr] using hta
 obtain⟨i,hi⟩:=List.mem_iff_getElem?.1 ht
 have hil:=(List.getElem?_eq_some_iff.1 hi).1
 obtain⟨t0,t1,t2⟩:=zr (hI.hl.itm i t hi)
 have hg:(kh m t.k).getD (.pointer none)= .pointer (some ⟨t.p,0,none⟩):=by rw[hm2 t ht];rfl
 simp[c1]
 rw[tp mt.o hm,hg]
 simp[c1]
 rw[tp mt.o (hm.of_heap (w':=dr w 1) rfl),hg]
 simp[t2]
 rw[M.fq.fcall]
 have hAt:At its i=t:=awk hi
 refine bfe (hI.hl.dr 1) (by omega) hil hI.hh fun w1 v1 its1 H1 hp1 hh1 hf1 hv1=>?_
 rw[hAt] at hp1
 have hf1':Fr (fun b=>fpL v its b\/b=hb) w w1:=⟨hf1.size,hf1.jl,hf1.tape,hf1.os,hf1.output⟩
 have hm1:lj w1 r .u64 m:=hm.of_heap (hf1'.jl r hm.lt fun hf=>wx hI.hl hm hf rfl)
 obtain⟨d0,d1⟩:=ww H1.blk
 simp[d1]
 refine aui mt.o hm1 t.k _ _ _ fun o hm2'=>?_
 generalize hw2:World.setObj w1 r o=w2 at hm2'
 have hrlt:r < w1.heap.size:=hm1.lt
 have hf2:Fr (fun b=>b=r) w1 w2:=by rw[<-hw2];exact (Fr.refl (fun b=>b=r) w1).setObj (.inl rfl) _
 have H2:HL w2 hb v1 (.map (some r)) its1:=H1.jl hf2 (wx H1 hm1 (.inr rfl)) fun b hf=>wx H1 hm1 (.inl hf)
 have hmem: ∀u,u∈its1->u∈its:=fun u hu=>hp1.mem_iff.1 (List.mem_cons_of_mem _ hu)
 have hnd1:((t :: its1).map (·.k)).Nodup:=((hp1.map _).nodup_iff).2 hI.nd
 rw[List.map_cons,List.nodup_cons] at hnd1
 have hne: ∀u∈its1,t.k≠u.k:=fun u hu h=>hnd1.1 (by rw[h];exact List.mem_map.2 ⟨u,hu,rfl⟩)
 have hfr:Fr O w w2:=(hf1'.mono fun b _ hb'=>by
  rcases hb' with hb'|rfl
  ·exact h2 b hb'
  ·exact h1).jw hf2 fun b _ hb'=>by rw[hb'];exact h3 r rfl
 refine h w2 ⟨⟨v1,.map (some r),its1,⟨H2,hh1,hnd1.2,.inr ⟨r,_,rfl,hm2',?_,fun u hu=>?_,fun k' hk'=>?_⟩⟩,?_,h1,fun b hf=>?_,h3⟩,fun b hb'=>Nat.lt_of_lt_of_le (H.lt b hb') hfr.size,anm H.nd _⟩ hfr
 ·rw[aaz];exact hmn.erase _
 ·rw[abb _ _ _ (hne u hu)];exact hm2 u (hmem u hu)
 ·by_cases hkk:t.k=k'
  ·subst hkk;exact aga _ _ hmn
  ·rw[abb _ _ _ hkk]
   refine hm3 k' fun u hu huk=>?_
   rcases List.mem_cons.1 (hp1.mem_iff.2 hu) with rfl|hu'
   ·exact hkk huk
   ·exact hk' u hu' huk
 ·refine bgu H.nd (a:=t.a) ?_
  exact (hp1.map It.pr).trans hp
 ·rcases hf with hg'| ⟨u,hu,hpu⟩
  ·exact h2 b (.inl (hv1 ▸ hg'))
  ·exact h2 b (.inr ⟨u,hmem u hu,hpu⟩)
end Go.Proofs.YtgepcfcicngceaaGreatDoor
set_option maxRecDepth 100000
namespace Go.Proofs.YtgepcfcicngceaaGreatDoor
open Go.Eng
variable [HE]
def azw:Value->Nat
 | .slice _ n _=>n
 | _=>0
def aaq(l:List Int):List Value:=l.map (Value.int .u64)
def bse(w:World)(hb:Nat)(O:Nat->Prop)(c:CT)(now:Int):KL:=fun x w1=> ∃(out:List Int)(c1:CT)(v:Value),x=[gv x 0,gv x 1,gv x 2,v]/\Hp w1 hb O c1/\w1.ownsRow w.heap.size T.a 1 v out.length (aaq out)/\
 out ++ qh c1 now=qh c now/\(wk c1 now).Perm (wk c now)/\out.length+c1.length=c.length/\Fr O w w1
omit [HE] in
theorem aqh{w:World}{base e n:Nat}{v:Value}{xs:List Value}(h:w.ownsRow base e 1 v n xs):azw v=n:=by
 rcases h.2 with⟨rfl,rfl⟩|⟨g,cap,cur,rfl,_⟩ <;>rfl
theorem bpd{w:World}{hb:Nat}{O:Nat->Prop}{c:CT}(H:Hp w hb O c)(hlen:c.length < 1000000)(now:Int){K:KV}
  (h: ∀w' v,Hp w' hb O (wk c now)->w'.ownsRow w.heap.size T.a 1 v (qh c now).length (aaq (qh c now))->Fr O w w'->K v w'):jy P F.es [abh hb,.int .u64 now] w K:=by
 apply M.df.calls
 unfold M.df
 refine⟨bse w hb O c now,fun x _=>c.length - azw (gv x 3),⟨[],c,.slice none 0 0,rfl,H,World.ownsRow_nil _ _ _ _,rfl,List.Perm.refl _,by simp,Fr.refl _ _⟩,?_⟩
 rintro x w1 ⟨out,c1,v,hx,H1,hr1,hd1,hc1,hl1,hf1⟩
 rw[hx]
 have hsl:=aqh hr1
 unfold M.df.j0
 rw[M.cx.fcall]
 have iz: ∀w2,Hp w2 hb O c1->Fr O w w2->w2.ownsRow w.heap.size T.a 1 v out.length (aaq out)->(∀q∈c1,now < q.2)->K v w2:=fun w2 H2 hf2 hr2 hall=>by
  rw[bbf hall,List.append_nil] at hd1
  rw[bca hall] at hc1
  refine h w2 v (H2.congr hc1) ?_ hf2
  rw[<-hd1];exact hr2
 refine bmw H1 (by omega) (fun h0=>?_) fun k a hka hmin=>?_
 ·simp
  exact iz w1 H1 hf1 hr1 (by rw[h0];intro q hq;cases hq)
 ·have H1':Hp (dr w1 1) hb O c1:=H1.jl ((Fr.refl (fun _=>False) w1).dr 1) fun _ _ h=>h
  have hr1':(dr w1 1).ownsRow w.heap.size T.a 1 v out.length (aaq out):=sy hr1 fun _ _=>rfl
  by_cases hna:now < a
  ·simp[hna]
   refine iz _ H1' (hf1.dr 1) hr1' fun q hq=>?_
   have:=hmin q hq
   simp only[leP,Bool.or_eq_true,Bool.and_eq_true,decide_eq_true_eq] at this
   omega
  ·simp[hna]
   have hs1:=hf1.size
   have hal:=hr1'.alloc (.cells #[.int .u64 k] T.a)
   have hv:v.ownBlock=none\/∃g,v.ownBlock=some g/\w.heap.size<=g:=by
    cases hg:v.ownBlock with
    | none=>exact .inl rfl
    | some g=>
     obtain⟨cap,cur,_,hge,_⟩:=oe hr1 hg
     exact .inr ⟨g,rfl,hge⟩
   refine apc (P:=P) et.g hal (b:=w1.heap.size) (o:=0) (m:=1) (c:=1) (news:=[.int .u64 k]) rfl ?_ ?_ (by omega) (by omega) (by rw[jg];show w.heap.size<=w1.heap.size+1;omega) _ _ ?_
   ·intro j u hj
    cases j with
    | zero=>simp at hj;subst hj;exact (ads (w:=dr w1 1) (n:=w1.heap.size) rfl (0+0)).trans rfl
    | succ j=>simp at hj
   ·intro u hu;simp at hu;subst hu;rfl
   ·intro v2 w2 hr2 hgr _ _
    have hf12:Fr (fun b=>w.heap.size<=b) w1 w2:=(((Fr.refl (fun b=>w.heap.size<=b) w1).dr 1).alloc _).jw (Fr.bjo hgr) fun b _ hb'=>by
     rcases hv with hv| ⟨g,hv,hge⟩
     ·rw[hv] at hb';cases hb'
     ·rw[hv] at hb';cases hb';exact hge
    have H2:Hp w2 hb O c1:=H1.jl hf12 fun b hb' hge=>by have:=H.lt b hb';omega
    rw[M.cs.fcall]
    have aiw:xk c1 k=some a:=afr H1.nd hka
    have hperm:((k,a) :: rj c1 k).Perm c1:=by
     obtain⟨i,hi⟩:=List.mem_iff_getElem?.1 hka
     have h1:=ava H1.nd (b:=a) hi
     have h2:c1.set i (k,a)=c1:=by
      refine List.ext_getElem? fun j=>?_
      rw[List.getElem?_set]
      split
      ·rename_i hij;subst hij
       rw[if_pos (List.getElem?_eq_some_iff.1 hi).1,hi]
      ·rfl
     rw[h2] at h1
     exact h1.symm
    have hmin': ∀q∈rj c1 k,leP (k,a) q=true:=fun q hq=>hmin q ((List.mem_filter.1 hq).1)
    refine auv H2 (by omega) k a aiw fun w3 H3 hf3=>?_
    refine⟨⟨out ++ [k],rj c1 k,v2,rfl,H3,?_,?_,?_,?_,?_⟩,?_⟩
    ·have e1:aaq (out ++ [k])=aaq out ++ [.int .u64 k]:=by simp[aaq]
     rw[e1,List.length_append]
     refine sy hr2 fun g hg=>?_
     obtain⟨cap,cur,_,hge,hgb,_⟩:=oe hr2 hg
     exact hf3.jl g (mh hgb) fun hO=>by have:=H.lt g hO;omega
    ·rw[List.append_assoc,<-hd1,bed hperm hmin' (by omega)];rfl
    ·exact (ayr (now:=now) hperm (by omega)).trans hc1
    ·have:=hperm.length_eq
     simp at this⊢;omega
    ·exact (hf1.jw (hf12.mono (S':=fun b=>w.heap.size<=b) fun _ _ h=>h) fun b hlt hge=>by omega).jw hf3 fun b _ hb'=>hb'
    ·have h3:azw v2=out.length+1:=aqh hr2
     have:=hperm.length_eq
     simp[gv,hsl,h3] at this⊢
     omega
end Go.Proofs.YtgepcfcicngceaaGreatDoor
set_option maxRecDepth 100000
namespace Go.Proofs.YtgepcfcicngceaaGreatDoor
open Go.Eng
structure Cfg where
 li:Nat
 kt:Nat
 jx:Int
structure AE where
 t:Int
 l:List Spn
 nt:Bool
structure Ent where
 t:Int
 p:Nat
 v:Value
 l:List Spn
 nt:Bool
def Ent.abs(e:Ent):AE:=⟨e.t,e.l,e.nt⟩
def Ent.ptr(e:Ent):Value:= .pointer (some ⟨e.p,0,none⟩)
abbrev OwS(w:World)(base:Nat)(v:Value)(l:List Spn):Prop:=Ow w base T.j 8 jz v l
abbrev SlS(w:World)(v:Value)(l:List Spn):Prop:=Sl w 8 jz v l
@[reducible] def sx (g : Cfg) (r : Nat) : HE := ⟨T.ap, [.int .i64 g.li, .int .i64 g.kt, .int .u64 g.jx, .map (some r)], by decide, by decide⟩
abbrev HpB(g:Cfg)(r:Nat)(w:World)(hb:Nat)(O:Nat->Prop)(c:CT):Prop:= @Hp (sx g r) w hb O c
structure ug(w:World)(hb:Nat)(g:Cfg)(O:Nat->Prop)(r:Nat)(m:MP)(es:List Ent)(c:CT):Prop where
 hp:HpB g r w hb O c
 mp:lj w r .u64 m
 mn:(jp m).Nodup
 ml:m.length=es.length
 mg: ∀e∈es,kh m e.t=some e.ptr
 mz: ∀k,(∀e∈es,e.t≠k)->kh m k=none
 tn:(es.map Ent.t).Nodup
 pn:(es.map Ent.p).Nodup
 blk: ∀e∈es,w.heap[e.p]? =some (.cells #[e.v,.bool e.nt] T.bc (0,0))
 row: ∀e∈es,OwS w 0 e.v e.l
 rn: ∀e∈es,∀e'∈es,∀x,e.v.ownBlock=some x->e'.v.ownBlock=some x->e.t=e'.t
 nr: ¬O r
 np: ∀e∈es,¬O e.p
 nv: ∀e∈es,∀x,e.v.ownBlock=some x->¬O x
 ck:(ku c).Perm (es.map Ent.t)
def fpB(O:Nat->Prop)(r:Nat)(es:List Ent)(b:Nat):Prop:=O b\/b=r\/∃e∈es,e.p=b\/e.v.ownBlock=some b
structure Buf(w:World)(hb:Nat)(g:Cfg)(B:Nat->Prop)(A:List AE)(c:CT):Prop where
 ex: ∃O r m es,A=es.map Ent.abs/\ug w hb g O r m es c/\∀b,fpB O r es b->B b
 lt: ∀b,B b->b < w.heap.size
theorem ug.lt{w:World}{hb:Nat}{g:Cfg}{O:Nat->Prop}{r:Nat}{m:MP}{es:List Ent}{c:CT}(I:ug w hb g O r m es c){b:Nat}(h:fpB O r es b):b < w.heap.size:=by
 rcases h with h|rfl| ⟨e,he,rfl|h⟩
 ·exact @Hp.lt (sx g r) _ _ _ _ I.hp b h
 ·exact I.mp.lt
 ·exact mh (I.blk e he)
 ·exact ((I.row e he).lt h).2
theorem ug.jl{w w':World}{hb:Nat}{g:Cfg}{O:Nat->Prop}{r:Nat}{m:MP}{es:List Ent}{c:CT}{S:Nat->Prop}(I:ug w hb g O r m es c)(hf:Fr S w w')(hd: ∀b,fpB O r es b->¬S b):ug w' hb g O r m es c:=
 {I with
  hp:= @Hp.jl (sx g r) _ _ _ _ _ _ I.hp hf fun b hb=>hd b (.inl hb)
  mp:=I.mp.of_heap (hf.jl r I.mp.lt (hd r (.inr (.inl rfl))))
  blk:=fun e he=>hf.heap (I.blk e he) (hd _ (.inr (.inr ⟨e,he,.inl rfl⟩)))
  row:=fun e he=>(I.row e he).fr hf fun x hx=>hd x (.inr (.inr ⟨e,he,.inr hx⟩))}
theorem Buf.jl{w w':World}{hb:Nat}{g:Cfg}{B:Nat->Prop}{A:List AE}{c:CT}{S:Nat->Prop}(I:Buf w hb g B A c)(hf:Fr S w w')(hd: ∀b,B b->¬S b):Buf w' hb g B A c:=by
 obtain⟨⟨O,r,m,es,hA,I1,hB⟩,lt⟩:=I
 exact⟨⟨O,r,m,es,hA,I1.jl hf fun b hb=>hd b (hB b hb),hB⟩,fun b hb=>Nat.lt_of_lt_of_le (lt b hb) hf.size⟩
theorem ug.heap{w w':World}{hb:Nat}{g:Cfg}{O O':Nat->Prop}{r:Nat}{m:MP}{es:List Ent}{c c':CT}(I:ug w hb g O r m es c)(hf:Fr O w w')(H:HpB g r w' hb O' c')(hO: ∀b,O' b->O b\/w.heap.size<=b)(hk:(ku c').Perm (es.map Ent.t)):ug w' hb g O' r m es c':=
 {I with
  hp:=H
  mp:=I.mp.of_heap (hf.jl r I.mp.lt I.nr)
  blk:=fun e he=>hf.heap (I.blk e he) (I.np e he)
  row:=fun e he=>(I.row e he).fr hf fun x hx=>I.nv e he x hx
  nr:=fun h=>(hO r h).elim I.nr fun h=>by have:=I.mp.lt;omega
  np:=fun e he h=>(hO _ h).elim (I.np e he) fun h=>by have:=mh (I.blk e he);omega
  nv:=fun e he x hx h=>(hO _ h).elim (I.nv e he x hx) fun h=>by have:=((I.row e he).lt hx).2;omega
  ck:=hk}
theorem ug.cells{w:World}{hb:Nat}{g:Cfg}{O:Nat->Prop}{r:Nat}{m:MP}{es:List Ent}{c:CT}(I:ug w hb g O r m es c):
  iq w hb 2=some (.int .i64 g.li)/\iq w hb 3=some (.int .i64 g.kt)/\iq w hb 4=some (.int .u64 g.jx)/\iq w hb 5=some (.map (some r)):=by
 letI:HE:=sx g r
 obtain⟨v,mv,its,hI,_⟩:=Hp.ex I.hp
 have hb':=hI.hl.blk
 unfold hbk at hb'
 exact⟨by rw[iw hb'];rfl,by rw[iw hb'];rfl,by rw[iw hb'];rfl,by rw[iw hb'];rfl⟩
theorem bpi{w:World}(li kt jx:Int){K:KV}(h0:(li < 1\/64 < li\/kt < 1\/16 < kt\/1099511627776 < jx)->K (.tuple #[.pointer none,.int .i64 1]) w)
  (h1: ∀(g:Cfg) w',li=g.li->kt=g.kt->jx=g.jx->1<=g.li->g.li<=64->1<=g.kt->g.kt<=16->g.jx<=1099511627776->Buf w' (w.heap.size+1) g (fun b=>b=w.heap.size\/b=w.heap.size+1) [] []->Fz w w'->K (.tuple #[.pointer (some ⟨w.heap.size+1,0,none⟩),.int .i64 0]) w'):
  jy P F.fu [.int .i64 li,.int .i64 kt,.int .u64 jx] w K:=by
 apply M.fw.calls
 unfold M.fw
 simp only[ir]
 by_cases a1:li < 1
 ·simp[a1];exact h0 (.inl a1)
 by_cases a2:64 < li
 ·simp[a1,a2];exact h0 (.inr (.inl a2))
 by_cases a3:kt < 1
 ·simp[a1,a2,a3];exact h0 (.inr (.inr (.inl a3)))
 by_cases a4:16 < kt
 ·simp[a1,a2,a3,a4];exact h0 (.inr (.inr (.inr (.inl a4))))
 by_cases a5:1099511627776 < jx
 ·simp[a1,a2,a3,a4,a5];exact h0 (.inr (.inr (.inr (.inr a5))))
 simp[a1,a2,a3,a4,a5]
 rw[zu]
 simp
 obtain⟨n,rfl⟩: ∃n:Nat,li=n:=⟨li.toNat,by omega⟩
 obtain⟨k,rfl⟩: ∃n:Nat,kt=n:=⟨kt.toNat,by omega⟩
 have hm:=yi w .u64
 refine h1 ⟨n,k,jx⟩ _ rfl rfl rfl (by simp;omega) (by simp;omega) (by simp;omega) (by simp;omega) (by simp;omega) ⟨⟨fun b=>b=w.heap.size+1,w.heap.size,[],[],rfl,⟨?_,?_,by simp[jp],rfl,fun e he=>by (cases he),fun k _=>rfl,by simp,by simp,fun e he=>by (cases he),fun e he=>by (cases he),fun e he=>by (cases he),by omega,fun e he=>by (cases he),fun e he=>by (cases he),by simp[ku]⟩,fun b hb=>?_⟩,fun b hb=>?_⟩ (((Fr.refl _ w).alloc _).alloc _)
 ·refine @Hp.new (sx ⟨n,k,jx⟩ w.heap.size) _ _ ?_
  rw[ja]
  simp
  rfl
 ·exact hm.of_heap (by rw[ja,if_neg (by simp)])
 ·rcases hb with h|h| ⟨e,he,_⟩
  ·exact .inr h
  ·exact .inl h
  ·cases he
 ·simp;omega
set_option maxRecDepth 100000
def acb(w:World)(b:Nat)(s:Spn):Prop:=w.heap[b]? =some (.cells #[.int .u64 s.jj,.int .u64 s.id,.int .u64 s.nn,.int .u64 s.km,.int .u64 s.len,.string s.kz,.string s.name,.bool s.pp] T.j (0,0))
theorem apn(s:Spn)(w:World)(K:KV):lk P T.j (lw s) w K=K (.pointer (some ⟨w.heap.size,0,none⟩)) (w.alloc (.cells #[.int .u64 s.jj,.int .u64 s.id,.int .u64 s.nn,.int .u64 s.km,.int .u64 s.len,.string s.kz,.string s.name,.bool s.pp] T.j)):=by
 rw[vd];rfl
theorem ama(w:World)(s:Spn):acb (w.alloc (.cells #[.int .u64 s.jj,.int .u64 s.id,.int .u64 s.nn,.int .u64 s.km,.int .u64 s.len,.string s.kz,.string s.name,.bool s.pp] T.j)) w.heap.size s:=by
 unfold acb;rw[ja,if_pos rfl]
theorem si{w:World}{b:Nat}{s:Spn}(h:acb w b s): ∀k v,(jz s)[k]? =some v->iq w b k=some v:=fun k v hk=>by
 rw[iw h]
 have:(#[.int .u64 s.jj,.int .u64 s.id,.int .u64 s.nn,.int .u64 s.km,.int .u64 s.len,.string s.kz,.string s.name,.bool s.pp]:Array Value)=(jz s).toArray:=rfl
 rw[this];simpa using hk
theorem ldS{w:World}{b i:Nat}{s:Spn}(h: ∀k v,(jz s)[k]? =some v->iq w b (i+k)=some v)(K:KV):ldN P 8 b i w K=K (lw s) w:=tk (jz s) 8 rfl h K
theorem bkx{w:World}{sb:Nat}(x:Spn){id:Int}(hc:iq w sb 1=some (.int .u64 id))(hlt:sb < w.heap.size){K:KV}(h: ∀w',Fz w w'->K (.bool (decide (x.id=id))) w'):jy P F.cn [lw x,.pointer (some ⟨sb,0,none⟩)] w K:=by
 apply M.ds.calls
 unfold M.ds
 rw[apn]
 generalize hwa:w.alloc (.cells #[.int .u64 x.jj,.int .u64 x.id,.int .u64 x.nn,.int .u64 x.km,.int .u64 x.len,.string x.kz,.string x.name,.bool x.pp] T.j)=wa
 have hb:acb wa w.heap.size x:=by rw[<-hwa];exact ama w x
 have hf:Fz w wa:=by rw[<-hwa];exact (Fr.refl _ w).alloc _
 have c1:=si hb 1 _ rfl
 have d1:iq wa sb 1=some (.int .u64 id):=by rw[xv (hf.jl sb hlt fun h=>h)];exact hc
 simp[c1,d1]
 exact h wa hf
def bsh(w:World)(l:List Spn)(id:Int):KL:=fun x w1=> ∃(a b:Value)(i:Nat),x=[a,b,.int .i64 (i:Nat)]/\Fz w w1/\i<=l.length/\∀(j:Nat) s,l[j]? =some s->j < i->s.id≠id
theorem avj{w:World}{v:Value}{l:List Spn}(hs:SlS w v l)(hlen:l.length<=1000000){sb:Nat}{id:Int}(hc:iq w sb 1=some (.int .u64 id))(hlt:sb < w.heap.size){K:KV}
  (h: ∀w',Fz w w'->K (.bool (l.any fun s=>decide (s.id=id))) w'):jy P F.p [v,.func (.func F.cn) [].toArray [.pointer (some ⟨sb,0,none⟩)].toArray] w K:=by
 apply M.ac.calls
 unfold M.ac
 rw[M.n.fcall]
 apply M.n.calls
 unfold M.n
 simp only[ir]
 rw[hs.jv (by simp)]
 refine⟨bsh w l id,fun x _=>l.length - ms x 2,⟨_,_,0,rfl,Fr.refl _ _,Nat.zero_le _,fun j k _ h=>by omega⟩,?_⟩
 rintro x w1 ⟨a,b,i,rfl,f1,hi,hz⟩
 have gv2:gv [a,b,.int .i64 (i:Int)] 2= .int .i64 (i:Int):=rfl
 simp only[gv2]
 have hs1:SlS w1 v l:=hs.fr f1 fun _ _ _ h=>h
 by_cases hil:i < l.length
 ·obtain⟨bb,o,cap,rfl,hb,_,hr⟩:=hs1.at hil
  have hw:IntKind.i64.wrap ((i:Int)+1)=((i+1:Nat):Int):=by rw[jc];rfl
  simp[hil]
  unfold M.n.j2
  simp only[ir,gv2]
  simp[hil]
  rw[ldS hr]
  have hcv:=M.ds.rcall [] [.pointer (some ⟨sb,0,none⟩)] [lw l[i]] w1
  simp only[List.nil_append,List.cons_append] at hcv
  rw[hcv]
  refine bkx l[i] (id:=id) (by rw[xv (f1.jl sb hlt fun h=>h)];exact hc) (Nat.lt_of_lt_of_le hlt f1.size) fun w2 f2=>?_
  by_cases hk:l[i].id=id
  ·simp[hk]
   have:(l.any fun s=>decide (s.id=id))=true:=List.any_eq_true.2 ⟨l[i],List.getElem_mem hil,by simpa using hk⟩
   have hh:=h w2 (f1.trans f2)
   rw[this] at hh;exact hh
  ·simp[hk,hw]
   refine⟨⟨_,_,i+1,rfl,f1.trans f2,by omega,fun j s hj hlt=>?_⟩,by simp[ms,gv];omega⟩
   by_cases hji:j=i
   ·subst hji
    rw[List.getElem?_eq_getElem hil] at hj
    cases hj;exact hk
   ·exact hz j s hj (by omega)
 ·simp[hil]
  have:(l.any fun s=>decide (s.id=id))=false:=by
   rw[List.any_eq_false]
   intro s hs
   obtain⟨j,hj,rfl⟩:=List.mem_iff_getElem.1 hs
   have:=hz j _ (List.getElem?_eq_getElem hj) (by omega)
   simpa using this
  have hh:=h w1 f1
  rw[this] at hh;exact hh
theorem abd{w:World}{r b:Nat}{k:IntKind}{m:MP}(h:lj w r k m){c:Array Value}{e:TypeId}{f:Nat×Nat}(hb:w.heap[b]? =some (.cells c e f)):r≠b:=by
 obtain⟨es,clk,hr,_⟩:=h
 exact fun he=>by rw[he,hb] at hr;cases hr
theorem we{w:World}{base:Nat}{v:Value}{l:List Spn}(h:OwS w base v l){x:Nat}(hx:v.ownBlock=some x): ∃cur,w.heap[x]? =some (.cells cur T.j (0,0)):=by
 obtain⟨cap,cur,_,_,hb,_⟩:=oe h hx
 exact⟨cur,hb⟩
theorem ug.upd{w w':World}{hb:Nat}{g:Cfg}{O:Nat->Prop}{r:Nat}{m:MP}{es:List Ent}{c:CT}(I:ug w hb g O r m es c){e e':Ent}(he:e∈es)(ht:e'.t=e.t)(hp:e'.p=e.p){S:Nat->Prop}(hf:Fr S w w')(hS: ∀b,S b->b=e.p\/e.v.ownBlock=some b)
  (hbk:w'.heap[e.p]? =some (.cells #[e'.v,.bool e'.nt] T.bc (0,0))) (ho:OwS w' 0 e'.v e'.l) (hn: ∀x,e'.v.ownBlock=some x->e.v.ownBlock=some x\/w.heap.size<=x):ug w' hb g O r m (es.map fun x=>if x.t=e.t then e' else x) c:=by
 have inj: ∀x∈es,x.t=e.t->x=e:=fun x hx h=>ue I.tn hx he h
 have hts:(es.map fun x=>if x.t=e.t then e' else x).map Ent.t=es.map Ent.t:=by
  rw[List.map_map]
  refine List.map_congr_left fun x hx=>?_
  show (if x.t=e.t then e' else x).t=x.t
  split
  ·rename_i h;rw[ht,h]
  ·rfl
 have hps:(es.map fun x=>if x.t=e.t then e' else x).map Ent.p=es.map Ent.p:=by
  rw[List.map_map]
  refine List.map_congr_left fun x hx=>?_
  show (if x.t=e.t then e' else x).p=x.p
  split
  ·rename_i h;rw[hp,inj x hx h]
  ·rfl
 have hmem: ∀y∈(es.map fun x=>if x.t=e.t then e' else x),y=e'\/(y∈es/\y.t≠e.t):=fun y hy=>by
  obtain⟨x,hx,rfl⟩:=List.mem_map.1 hy
  split
  ·exact .inl rfl
  ·rename_i h;exact .inr ⟨hx,h⟩
 have nS: ∀x∈es,x.t≠e.t->¬S x.p/\∀b,x.v.ownBlock=some b->¬S b:=fun x hx hne=>by
  refine⟨fun h=>?_,fun b hxb h=>?_⟩
  ·rcases hS _ h with h|h
   ·exact hne (by rw[ue I.pn hx he h])
   ·obtain⟨cur,hc⟩:=we (I.row e he) h
    exact ly hc (I.blk x hx) (by decide) rfl
  ·rcases hS _ h with h|h
   ·obtain⟨cur,hc⟩:=we (I.row x hx) hxb
    rw[h] at hc
    exact ly hc (I.blk e he) (by decide) rfl
   ·exact hne (I.rn x hx e he b hxb h)
 refine⟨@Hp.jl (sx g r) _ _ _ _ _ _ I.hp hf fun b hb h=>?_,I.mp.of_heap (hf.jl r I.mp.lt fun h=>?_),I.mn,by rw[List.length_map];exact I.ml,fun y hy=>?_,fun k hk=>I.mz k fun x hx=>?_,by rw[hts];exact I.tn,by rw[hps];exact I.pn,fun y hy=>?_,fun y hy=>?_,fun y hy y' hy' x h h'=>?_,I.nr,fun y hy=>?_,fun y hy x hx=>?_,by rw[hts];exact I.ck⟩
 ·rcases hS b h with h|h
  ·exact I.np e he (h ▸ hb)
  ·exact I.nv e he b h hb
 ·rcases hS r h with h|h
  ·exact abd I.mp (I.blk e he) h
  ·obtain⟨cur,hc⟩:=we (I.row e he) h
   exact abd I.mp hc rfl
 ·rcases hmem y hy with rfl| ⟨hy,hne⟩
  ·have:y.ptr=e.ptr:=by unfold Ent.ptr;rw[hp]
   rw[ht,this];exact I.mg e he
  ·exact I.mg y hy
 ·have:(if x.t=e.t then e' else x)∈(es.map fun x=>if x.t=e.t then e' else x):=List.mem_map_of_mem hx
  have h:=hk _ this
  split at h
  ·rename_i h2;rw[ht] at h;rw[h2];exact h
  ·exact h
 ·rcases hmem y hy with rfl| ⟨hy,hne⟩
  ·rw[hp];exact hbk
  ·exact hf.heap (I.blk y hy) (nS y hy hne).1
 ·rcases hmem y hy with rfl| ⟨hy,hne⟩
  ·exact ho
  ·exact (I.row y hy).fr hf (nS y hy hne).2
 ·rcases hmem y hy with h1| ⟨h1,hne⟩ <;>rcases hmem y' hy' with h2| ⟨h2,hne'⟩
  ·rw[h1,h2]
  ·rw[h1,ht]
   rw[h1] at h
   rcases hn x h with h|h
   ·exact (I.rn e he y' h2 x h h')
   ·have:=((I.row y' h2).lt h').2;omega
  ·rw[h2,ht]
   rw[h2] at h'
   rcases hn x h' with h'|h'
   ·exact (I.rn y h1 e he x h h')
   ·have:=((I.row y h1).lt h).2;omega
  ·exact I.rn y h1 y' h2 x h h'
 ·rcases hmem y hy with rfl| ⟨hy,hne⟩
  ·rw[hp];exact I.np e he
  ·exact I.np y hy
 ·rcases hmem y hy with rfl| ⟨hy,hne⟩
  ·rcases hn x hx with h|h
   ·exact I.nv e he x h
   ·intro hO;have:= @Hp.lt (sx g r) _ _ _ _ I.hp x hO;omega
  ·exact I.nv y hy x hx
theorem bez(s:Spn)(w:World)(K:KV):bsT P T.h 1 #[(0,lw s)] w K=K (.slice (some ⟨w.heap.size,0,none⟩) 1 1) (w.alloc (.cells #[.int .u64 s.jj,.int .u64 s.id,.int .u64 s.nn,.int .u64 s.km,.int .u64 s.len,.string s.kz,.string s.name,.bool s.pp] T.j)):=by
 unfold lw;simp
theorem awq{w:World}{hb:Nat}{g:Cfg}{O:Nat->Prop}{r:Nat}{m:MP}{es:List Ent}{c:CT}(I:ug w hb g O r m es c){e:Ent}(he:e∈es)(hlen:e.l.length<=1000){sb:Nat}{s:Spn}(hbx:acb w sb s){x2:List Value}(h3:gv x2 3=e.ptr){K:KV}
  (h: ∀w' v',ug w' hb g O r m (es.map fun x=>if x.t=e.t then {e with v:=v',l:=e.l ++ [s]} else x) c->Fr (fun b=>b=e.p\/e.v.ownBlock=some b) w w'->(∀x,v'.ownBlock=some x->e.v.ownBlock=some x\/w.heap.size<=x)->K (.int .i64 0) w'):M.an.j2 x2 (.pointer (some ⟨sb,0,none⟩)) w K:=by
 unfold M.an.j2
 have e1:e.ptr= .pointer (some ⟨e.p,0,none⟩):=rfl
 have hbk:=I.blk e he
 obtain⟨c0,c1⟩:=aeo hbk
 simp only[qr,h3,e1,yf]
 have hS:=si hbx
 have hld: ∀(n:Nat)(K:KV),ldN P 8 sb 0 (dr w n) K=K (lw s) (dr w n):=fun n K=>ldS (fun k v hk=>by rw[Nat.zero_add];exact hS k v hk) K
 simp[c0,hld]
 rw[bez]
 generalize hwa:(dr w 1).alloc (.cells #[.int .u64 s.jj,.int .u64 s.id,.int .u64 s.nn,.int .u64 s.km,.int .u64 s.len,.string s.kz,.string s.name,.bool s.pp] T.j)=wa
 have hfa:Fz w wa:=by rw[<-hwa];exact ((Fr.refl _ w).dr 1).alloc _
 have hlit:SlS wa (.slice (some ⟨w.heap.size,0,none⟩) 1 1) [s]:=by
  have:=Sl.one (w:=dr w 1) (w':=wa) (x:=s) (enc:=jz) (sz:=8) hwa.symm rfl
  exact this
 have hbka:=hfa.heap hbk fun h=>h
 obtain⟨d0,d1⟩:=aeo hbka
 have hld1: ∀K,ld1 P e.p 0 wa K=K e.v wa:=fun K=>aoc d0 K
 rw[hld1]
 refine⟨⟨rfl,rfl⟩,?_⟩
 have hsz:=hfa.size
 refine yo et.h pt qn ((I.row e he).fr hfa fun _ _ h=>h) hlit (by simp;omega) (by decide) (Nat.zero_le _) _ fun v3 w3 o3 f3 g3=>?_
 have hep: ∀x,e.v.ownBlock=some x->e.p≠x:=fun x hx hpx=>by
  obtain⟨cur,hc⟩:=we (I.row e he) hx
  rw[<-hpx] at hc
  exact ly hc hbk (by decide) rfl
 have hbk3:=f3.heap hbka fun h=>hep _ h rfl
 have f13:Fr (fun b=>b=e.p\/e.v.ownBlock=some b) w w3:=(hfa.mono fun _ _ h=>h.elim).jw f3 fun b _ h=> .inr h
 have hn3: ∀x,v3.ownBlock=some x->e.v.ownBlock=some x\/w.heap.size<=x:=fun x hx=>by
  rcases g3 with g3| ⟨y,e1,e2⟩
  ·rw[hx] at g3;exact .inl g3.symm
  ·rw[hx] at e1;cases e1;exact .inr (by omega)
 obtain⟨a3,cap3,hv3,_⟩:=o3.len
 have k0:(iq w3 e.p 0).isSome=true:=by rw[iw hbk3];rfl
 have kf:=mi hbk3 0
 have hst: ∀K1:KV,K1 undef (w3.setCell ⟨e.p,0,none⟩ v3)->stT P T.h (.pointer (some ⟨e.p,0,none⟩)) v3 w3 K1:=fun K1 hk=>by
  subst hv3
  simpa [k0,kf] using hk
 refine hst _ (h _ v3 (I.upd he (e':={e with v:=v3,l:=e.l ++ [s]}) rfl rfl (f13.setCell (.inl (.inl rfl)) 0 v3) (fun b h=>h) ?_ ?_ hn3) (f13.setCell (.inl (.inl rfl)) 0 v3) hn3)
 ·rw[nl hbk3];rfl
 ·refine o3.jl fun x hx=>?_
  rw[ke]
  intro hpx
  obtain⟨_,cur,_,_,hc,_⟩:=oe o3 hx
  rw[<-hpx] at hc
  exact ly hc hbk3 (by decide) rfl
theorem ug.bfq{w:World}{hb:Nat}{g:Cfg}{O:Nat->Prop}{r:Nat}{m:MP}{es:List Ent}{c:CT}(I:ug w hb g O r m es c)(k:Int):(kh m k=none/\∀e∈es,e.t≠k)\/∃e∈es,e.t=k/\kh m k=some e.ptr:=by
 by_cases h: ∃e∈es,e.t=k
 ·obtain⟨e,he,rfl⟩:=h
  exact .inr ⟨e,he,rfl,I.mg e he⟩
 ·have: ∀e∈es,e.t≠k:=fun e he hk=>h ⟨e,he,hk⟩
  exact .inl ⟨I.mz k this,this⟩
theorem ug.push{w w':World}{hb:Nat}{g:Cfg}{O O':Nat->Prop}{r:Nat}{m m':MP}{es:List Ent}{c:CT}(I:ug w hb g O r m es c){k a:Int}{p:Nat}(hk: ∀e∈es,e.t≠k)(hH:HpB g r w' hb O' (px c k a))(hO: ∀b,O' b->O b\/w.heap.size < b)(hp:p=w.heap.size)
  (hm:lj w' r .u64 m') (hme:m'=tz m k (.pointer (some ⟨p,0,none⟩))) {S:Nat->Prop} (hf:Fr S w w') (hS: ∀b,S b->O b\/b=r) (hbk:w'.heap[p]? =some (.cells #[.slice none 0 0,.bool false] T.bc (0,0))):ug w' hb g O' r m' (es ++ [⟨k,p,.slice none 0 0,[],false⟩]) (px c k a):=by
 have hgn:kh m k=none:=I.mz k hk
 have hkn:k∉jp m:=(ql _ _).1 hgn
 have hkeys:jp m'=jp m ++ [k]:=by rw[hme,adq,if_neg hkn]
 have aiw: ∀y,kh m' y=if k=y then some (.pointer (some ⟨p,0,none⟩)) else kh m y:=fun y=>by rw[hme,aau]
 have nSp: ∀e∈es,¬S e.p:=fun e he h=>by
  rcases hS _ h with h|h
  ·exact I.np e he h
  ·exact abd I.mp (I.blk e he) h.symm
 have nSv: ∀e∈es,∀x,e.v.ownBlock=some x->¬S x:=fun e he x hx h=>by
  rcases hS _ h with h|h
  ·exact I.nv e he x hx h
  ·obtain⟨cur,hc⟩:=we (I.row e he) hx
   exact abd I.mp hc h.symm
 have ltp: ∀e∈es,e.p < w.heap.size:=fun e he=>mh (I.blk e he)
 have hmem: ∀y∈es ++ [(⟨k,p,.slice none 0 0,[],false⟩:Ent)],y∈es\/y=⟨k,p,.slice none 0 0,[],false⟩:=fun y hy=>by
  rcases List.mem_append.1 hy with h|h
  ·exact .inl h
  ·exact .inr (by simpa using h)
 refine⟨hH,hm,by rw[hkeys,List.nodup_append];exact⟨I.mn,by simp,fun x hx y hy hxy=>by simp at hy;subst hy;exact hkn (hxy ▸ hx)⟩,?_,fun y hy=>?_,fun y hy=>?_,?_,?_,fun y hy=>?_,fun y hy=>?_,fun y hy y' hy' x h h'=>?_,fun h=>?_,fun y hy h=>?_,fun y hy x hx h=>?_,?_⟩
 ·have h1:(jp m').length=m'.length:=by simp[jp]
  have h2:(jp m).length=m.length:=by simp[jp]
  rw[<-h1,hkeys,List.length_append,h2,I.ml,List.length_append];rfl
 ·rw[aiw]
  rcases hmem y hy with h|rfl
  ·rw[if_neg fun he=>hk y h he.symm];exact I.mg y h
  ·rw[if_pos rfl];rfl
 ·rw[aiw]
  rw[if_neg fun he=>hy ⟨k,p,.slice none 0 0,[],false⟩ (by simp) he]
  exact I.mz y fun e he=>hy e (by simp[he])
 ·rw[List.map_append,List.nodup_append]
  refine⟨I.tn,by simp,fun x hx y hy hxy=>?_⟩
  obtain⟨e,he,rfl⟩:=List.mem_map.1 hx
  simp at hy;subst hy
  exact hk e he hxy
 ·rw[List.map_append,List.nodup_append]
  refine⟨I.pn,by simp,fun x hx y hy hxy=>?_⟩
  obtain⟨e,he,rfl⟩:=List.mem_map.1 hx
  simp at hy;subst hy
  have:=ltp e he;omega
 ·rcases hmem y hy with h|rfl
  ·exact hf.heap (I.blk y h) (nSp y h)
  ·exact hbk
 ·rcases hmem y hy with h|rfl
  ·exact (I.row y h).fr hf (nSv y h)
  ·exact Ow.none
 ·rcases hmem y hy with h1|rfl <;>rcases hmem y' hy' with h2|rfl
  ·exact I.rn y h1 y' h2 x h h'
  ·simp[Value.ownBlock] at h'
  ·simp[Value.ownBlock] at h
  ·rfl
 ·rcases hO r h with h|h
  ·exact I.nr h
  ·have:=I.mp.lt;omega
 ·rcases hmem y hy with h1|rfl
  ·rcases hO _ h with h|h
   ·exact I.np y h1 h
   ·have:=ltp y h1;omega
  ·rcases hO _ h with h|h
   ·have:= @Hp.lt (sx g r) _ _ _ _ I.hp _ h;simp at this;omega
   ·simp at h;omega
 ·rcases hmem y hy with h1|rfl
  ·rcases hO _ h with h|h
   ·exact I.nv y h1 x hx h
   ·have:=((I.row y h1).lt hx).2;omega
  ·simp[Value.ownBlock] at hx
 ·have hkc:k∉ku c:=fun h=>by
   obtain⟨e,he,h2⟩:=List.mem_map.1 (I.ck.mem_iff.1 h)
   exact hk e he h2
  have:px c k a=(k,a) :: c:=by unfold px;rw[acl hkc]
  rw[this,List.map_append]
  show (k :: ku c).Perm (es.map Ent.t ++ [k])
  exact (I.ck.cons k).trans (List.perm_append_comm (l₁:=[k]))
theorem bdd{w:World}{hb:Nat}{g:Cfg}{O:Nat->Prop}{r:Nat}{c:CT}(H:HpB g r w hb O c):
  iq w hb 2=some (.int .i64 g.li)/\iq w hb 3=some (.int .i64 g.kt)/\iq w hb 4=some (.int .u64 g.jx)/\iq w hb 5=some (.map (some r)):=by
 letI:HE:=sx g r
 obtain⟨v,mv,its,hI,_⟩:=Hp.ex H
 have hb':=hI.hl.blk
 unfold hbk at hb'
 exact⟨by rw[iw hb'];rfl,by rw[iw hb'];rfl,by rw[iw hb'];rfl,by rw[iw hb'];rfl⟩
def aod(g:Cfg)(now:Int):Int:=now+min g.jx (18446744073709551615 - now)
def auf(A:List AE)(k:Int)(s:Spn):List AE:=A.map fun x=>if x.t=k then ⟨x.t,x.l ++ [s],x.nt⟩ else x
def anp(A:List AE)(k:Int):List AE:=A.map fun x=>if x.t=k then ⟨x.t,x.l,true⟩ else x
theorem bci{w:World}{hb:Nat}{g:Cfg}{B:Nat->Prop}{A:List AE}{c:CT}(I:Buf w hb g B A c)(hA:A.length<=1000)(hl: ∀e∈A,e.l.length<=1000)(s:Spn){now:Int}(hnow:0<=now/\now<=18446744073709551615)(hwt:0<=g.jx){K:KV}
  (h1:ll s≠0->∀w',Buf w' hb g B A c->Fz w w'->K (.int .i64 (ll s)) w')
  (h2:ll s=0->(∀e∈A,e.t≠s.jj)->g.li<=A.length->∀w',Buf w' hb g B A c->Fz w w'->K (.int .i64 8) w')
  (h3:ll s=0->(∀e∈A,e.t≠s.jj)->A.length < g.li->∀w' B',Buf w' hb g B' (A ++ [⟨s.jj,[s],false⟩]) (px c s.jj (aod g now))->Fr B w w'->(∀b,B' b->B b\/w.heap.size<=b)->K (.int .i64 0) w')
  (h4:ll s=0->∀e∈A,e.t=s.jj->(e.l.any fun x=>decide (x.id=s.id))=true->∀w',Buf w' hb g B A c->Fz w w'->K (.int .i64 0) w')
  (h5:ll s=0->∀e∈A,e.t=s.jj->(e.l.any fun x=>decide (x.id=s.id))=false->g.kt<=e.l.length->∀w',Buf w' hb g B (anp A s.jj) c->Fr B w w'->K (.int .i64 9) w')
  (h6:ll s=0->∀e∈A,e.t=s.jj->(e.l.any fun x=>decide (x.id=s.id))=false->e.l.length < g.kt->∀w' B',Buf w' hb g B' (auf A s.jj s) c->Fr B w w'->(∀b,B' b->B b\/w.heap.size<=b)->K (.int .i64 0) w'):
  jy P F.ch [.pointer (some ⟨hb,0,none⟩),lw s,.int .u64 now] w K:=by
 apply M.an.calls
 unfold M.an
 rw[apn]
 generalize hwa:w.alloc (.cells #[.int .u64 s.jj,.int .u64 s.id,.int .u64 s.nn,.int .u64 s.km,.int .u64 s.len,.string s.kz,.string s.name,.bool s.pp] T.j)=wa
 have hbx:acb wa w.heap.size s:=by rw[<-hwa];exact ama w s
 have hfa:Fz w wa:=by rw[<-hwa];exact (Fr.refl _ w).alloc _
 simp only[ir]
 simp
 unfold M.an.j0
 simp only[ir]
 simp
 rw[ldS (b:=w.heap.size) (i:=0) (s:=s) (fun k v hk=>by rw[Nat.zero_add];exact si hbx k v hk),M.dw.fcall]
 refine aha s fun w2 fr2=>?_
 have F2:=hfa.trans fr2
 have hbx2:acb w2 w.heap.size s:=fr2.heap hbx fun h=>h
 have I2:=I.jl F2 fun _ _ h=>h
 by_cases hr:ll s=0
 ·simp[hr]
  unfold M.an.j1
  obtain⟨⟨O,r,m,es,hAe,J,hB⟩,hlt⟩:=I2
  obtain⟨q2,q3,q4,q5⟩:=J.cells
  have t0:=si hbx2 0 _ rfl
  have t1:=si hbx2 1 _ rfl
  simp[q5,t0]
  have mp1:lj (dr w2 1) r .u64 m:=J.mp.of_heap rfl
  have mp2:lj (dr (dr w2 1) 1) r .u64 m:=J.mp.of_heap rfl
  have hlenm: ∀K,biT P .len #[T.l] T.d [false] [.map (some r)] (dr (dr w2 1) 1) K=K (.int .i64 m.length) (dr (dr w2 1) 1):=fun K=>ack mt.l mp2 _ K
  have hAl:A.length=m.length:=by rw[hAe,List.length_map,J.ml]
  rw[tp mt.l mp1]
  have fd:Fz w2 (dr (dr w2 1) 1):=((Fr.refl _ w2).dr 1).dr 1
  have Id:Buf (dr (dr w2 1) 1) hb g B A c:=Buf.jl ⟨⟨O,r,m,es,hAe,J,hB⟩,hlt⟩ fd fun _ _ h=>h
  have tA:(∀e∈es,e.t≠s.jj)->∀e∈A,e.t≠s.jj:=fun h e he=>by
   rw[hAe] at he
   obtain⟨x,hx,rfl⟩:=List.mem_map.1 he
   exact h x hx
  rcases J.bfq s.jj with⟨hmn,hne⟩|⟨e,he,het,hme⟩
  ·rw[hmn]
   by_cases hfull:g.li<=m.length
   ·have hfull':(g.li:Int)<=m.length:=by omega
    simp[q5,q2,hlenm,hfull]
    exact h2 hr (tA hne) (by omega) _ Id (F2.trans fd)
   ·have hfull': ¬(g.li:Int)<=m.length:=by omega
    simp[q5,q2,hlenm,hfull]
    generalize hw3:dr ((dr (dr w2 1) 1).alloc (.cells #[.slice none 0 0,.bool false] T.bc)) 1=w3
    have fr3:Fz w2 w3:=by rw[<-hw3];exact (fd.alloc _).dr 1
    have hb3:w3.heap[w2.heap.size]? =some (.cells #[.slice none 0 0,.bool false] T.bc (0,0)):=by
     rw[<-hw3,agq,ja];simp
    have sz3:w3.heap.size=w2.heap.size+1:=by rw[<-hw3];simp
    have J3:=J.jl fr3 fun _ _ h=>h
    have hbx3:acb w3 w.heap.size s:=fr3.heap hbx2 fun h=>h
    obtain⟨_,_,_,r5⟩:=J3.cells
    have u0:=si hbx3 0 _ rfl
    simp[r5,u0]
    refine aey mt.l J3.mp _ _ _ fun o hm4=>?_
    have hr3:=J3.mp.lt
    have f4:Fr (fun b=>b=r) w3 (World.setObj w3 r o):=(Fr.refl (fun b=>b=r) w3).setObj (.inl rfl) o
    have sz4:(World.setObj w3 r o).heap.size=w3.heap.size:=afv w3 r o
    generalize hw4:World.setObj w3 r o=w4 at *
    have H4:HpB g r w4 hb O c:= @Hp.jl (sx g r) _ _ _ _ _ _ J3.hp f4 fun b hb h=>J.nr (h ▸ hb)
    have hrs:r≠w.heap.size:=abd J3.mp hbx3
    have hbx4:acb w4 w.heap.size s:=f4.heap hbx3 fun h=>hrs h.symm
    obtain⟨_,_,s4,_⟩:=bdd H4
    have u4:=si hbx4 0 _ rfl
    have hw1:IntKind.u64.wrap (18446744073709551615 - now)=18446744073709551615 - now:=mu (by omega) (by omega)
    have hw2:IntKind.u64.wrap (now+min g.jx (18446744073709551615 - now))=aod g now:=mu (by omega) (by omega)
    simp[s4,u4,hw1,hw2]
    rw[M.be.fcall]
    have hcl:c.length=m.length:=by
     have:=J.ck.length_eq
     simp[ku] at this
     rw[this,J.ml]
    have H4d:HpB g r (dr w4 1) hb O c:= @Hp.jl (sx g r) _ _ _ _ (fun _=>False) _ H4 ((Fr.refl _ w4).dr 1) fun _ _ h=>h
    refine @att (sx g r) _ _ _ _ H4d (by omega) _ _ _ fun w5 O5 H5 f5 p5=>?_
    have f5':Fr O w4 w5:=⟨f5.size,f5.jl,f5.tape,f5.os,f5.output⟩
    have p5': ∀b,O5 b->O b\/w2.heap.size < b:=fun b hb=>(p5 b hb).imp id fun h=>by simp[agq] at h;omega
    have hOB: ∀b,O b->B b:=fun b hb=>hB b (.inl hb)
    have hnO: ¬O w.heap.size:=fun h=>by have:=I.lt _ (hOB _ h);omega
    have hnp: ¬O w2.heap.size:=fun h=>by have:= @Hp.lt (sx g r) _ _ _ _ J.hp _ h;omega
    have hrlt:=J.mp.lt
    have J5:=J.push (O':=O5) (k:=s.jj) (a:=aod g now) (p:=w2.heap.size) (m':=tz m s.jj (.pointer (some ⟨w2.heap.size,0,none⟩))) (w':=w5) (S:=fun b=>O b\/b=r) hne H5 p5' rfl (hm4.of_heap (f5'.jl r (by omega) J.nr)) rfl
     ((((fr3.mono fun _ _ h=>h.elim).jw f4 fun b _ h=> .inr h)).jw f5' fun b _ h=> .inl h) (fun b h=>h) (f5'.heap (f4.heap hb3 fun h=>by omega) hnp)
    have hbx5:acb w5 w.heap.size s:=f5'.heap hbx4 hnO
    refine awq J5 (e:=⟨s.jj,w2.heap.size,.slice none 0 0,[],false⟩) (by simp) (by simp) hbx5 rfl fun w6 v6 J6 f6 n6=>?_
    have hs2:=F2.size
    have hs5:=f5'.size
    have hs6:=f6.size
    have hes:(es ++ [(⟨s.jj,w2.heap.size,.slice none 0 0,[],false⟩:Ent)]).map (fun x=>if x.t=s.jj then ⟨s.jj,w2.heap.size,v6,[] ++ [s],false⟩ else x)=es ++ [⟨s.jj,w2.heap.size,v6,[s],false⟩]:=by
     rw[List.map_append]
     congr 1
     ·conv=>rhs;rw[<-List.map_id es]
      exact List.map_congr_left fun x hx=>by rw[if_neg (hne x hx)];rfl
     ·simp
    rw[hes] at J6
    refine h3 hr (tA hne) (by omega) w6 (fun b=>B b\/(w.heap.size<=b/\b < w6.heap.size)) ⟨⟨O5,r,_,_,by rw[hAe,List.map_append];rfl,J6,fun b hfp=>?_⟩,fun b hb=>?_⟩ ?_ fun b hb=>hb.imp id fun h=>h.1
    ·have hbl:=J6.lt hfp
     rcases hfp with h|rfl| ⟨x,hx,hxb⟩
     ·rcases p5' b h with h|h
      ·exact .inl (hOB b h)
      ·exact .inr ⟨by omega,hbl⟩
     ·exact .inl (hB _ (.inr (.inl rfl)))
     ·rcases List.mem_append.1 hx with hx|hx
      ·exact .inl (hB b (.inr (.inr ⟨x,hx,hxb⟩)))
      ·simp at hx;subst hx
       rcases hxb with h|h
       ·simp at h;exact .inr ⟨by omega,hbl⟩
       ·rcases n6 b h with h|h
        ·simp[Value.ownBlock] at h
        ·exact .inr ⟨by omega,hbl⟩
    ·rcases hb with h|h
     ·have:=I.lt b h;omega
     ·exact h.2
    ·exact (((((F2.mono fun _ _ h=>h.elim).jw fr3 fun b _ h=>h.elim).jw f4 fun b _ h=>h ▸ hB r (.inr (.inl rfl))).jw f5' fun b _ h=>hOB b h)).jw f6 fun b hlt' h=>by
      rcases h with h|h
      ·simp at h;omega
      ·simp[Value.ownBlock] at h
  ·rw[hme]
   have e1:e.ptr= .pointer (some ⟨e.p,0,none⟩):=rfl
   have eA:e.abs∈A:=by rw[hAe];exact List.mem_map_of_mem he
   have hll:e.l.length<=1000:=hl _ eA
   have inj: ∀x∈es,x.t=e.t->x=e:=fun x hx h=>ue J.tn hx he h
   obtain⟨c0,c1⟩:=aeo (J.blk e he)
   have hsl:SlS (dr (dr w2 1) 1) e.v e.l:=((J.row e he).sl pt).fr fd fun _ _ _ h=>h
   simp[e1,c0]
   rw[zm,M.ac.fcall]
   refine avj hsl (by omega) (id:=s.id) t1 (mh hbx2) fun w3 f3=>?_
   have f23:Fz w2 w3:=fd.trans f3
   have J3:=J.jl f23 fun _ _ h=>h
   have I3:Buf w3 hb g B A c:=Id.jl f3 fun _ _ h=>h
   have F3:=F2.trans f23
   cases hany:e.l.any fun x=>decide (x.id=s.id) with
   | true=>
    simp
    exact h4 hr e.abs eA het hany w3 I3 F3
   | false=>
    obtain⟨k0,k1⟩:=aeo (J3.blk e he)
    obtain⟨_,_,_,_⟩:=J3.cells
    obtain⟨_,q3',_,_⟩:=J3.cells
    have hsl3:SlS w3 e.v e.l:=(J3.row e he).sl pt
    have hlen3: ∀K,biT P .len #[T.h] T.d [false] [e.v] (dr w3 1) K=K (.int .i64 e.l.length) (dr w3 1):=fun K=>hsl3.jv (by simp) _
    have f3d:Fz w3 (dr w3 1):=(Fr.refl _ w3).dr 1
    by_cases hf:g.kt<=e.l.length
    ·have hf':(g.kt:Int)<=e.l.length:=by omega
     have hbk:=J3.blk e he
     have m1:(iq w3 e.p 1).isSome=true:=by rw[iw hbk];rfl
     have m2:=mi hbk 1
     simp[k0,q3',hlen3,hf,m1,m2]
     have fs:Fr (fun b=>b=e.p) w3 ((dr w3 1).setCell ⟨e.p,1,none⟩ (.bool true)):=((Fr.refl (fun b=>b=e.p) w3).dr 1).setCell (.inl rfl) 1 _
     have J4:=J3.upd he (e':={e with nt:=true}) rfl rfl fs (fun b h=> .inl h) (by rw[nl (w:=dr w3 1) hbk];rfl) ((J3.row e he).fr fs fun x hx h=>by
      obtain⟨cur,hc⟩:=we (J3.row e he) hx
      rw[h] at hc
      exact ly hc hbk (by decide) rfl) fun x hx=> .inl hx
     refine h5 hr e.abs eA het hany hf _ ⟨⟨O,r,m,_,?_,J4,fun b hfp=>?_⟩,fun b hb=>?_⟩ ((F3.mono fun _ _ h=>h.elim).jw fs fun b _ h=>hB b (.inr (.inr ⟨e,he,.inl h.symm⟩)))
     ·rw[hAe,anp,List.map_map,List.map_map]
      refine List.map_congr_left fun x hx=>?_
      show (if x.t=s.jj then _ else _)=Ent.abs (if x.t=e.t then _ else x)
      by_cases hxt:x.t=e.t
      ·rw[if_pos hxt,if_pos (by rw[hxt,het]),inj x hx hxt];rfl
      ·rw[if_neg hxt,if_neg (by rw[<-het];exact hxt)]
     ·refine hB b ?_
      rcases hfp with h|h| ⟨x,hx,hxb⟩
      ·exact .inl h
      ·exact .inr (.inl h)
      ·obtain⟨y,hy,rfl⟩:=List.mem_map.1 hx
       by_cases hyt:y.t=e.t
       ·rw[if_pos hyt] at hxb;exact .inr (.inr ⟨e,he,hxb⟩)
       ·rw[if_neg hyt] at hxb;exact .inr (.inr ⟨y,hy,hxb⟩)
     ·have:=hlt b hb;have:=f23.size;have:=fs.size;omega
    ·have hf': ¬(g.kt:Int)<=e.l.length:=by omega
     simp[k0,q3',hlen3,hf]
     have Jd:=J3.jl f3d fun _ _ h=>h
     have hbxd:acb (dr w3 1) w.heap.size s:=f23.heap hbx2 fun h=>h
     refine awq Jd he hll hbxd rfl fun w6 v6 J6 f6 n6=>?_
     have hs3:=F3.size
     have hs6:=f6.size
     simp only[agq] at hs6
     refine h6 hr e.abs eA het hany (by simp only[Ent.abs];omega) w6 (fun b=>B b\/(w.heap.size<=b/\b < w6.heap.size)) ⟨⟨O,r,m,_,?_,J6,fun b hfp=>?_⟩,fun b hb=>?_⟩ (((F3.trans f3d).mono fun _ _ h=>h.elim).jw f6 fun b _ h=>?_) fun b hb=>hb.imp id fun h=>h.1
     ·rw[hAe,auf,List.map_map,List.map_map]
      refine List.map_congr_left fun x hx=>?_
      show (if x.t=s.jj then _ else _)=Ent.abs (if x.t=e.t then _ else x)
      by_cases hxt:x.t=e.t
      ·rw[if_pos hxt,if_pos (by rw[hxt,het]),inj x hx hxt];rfl
      ·rw[if_neg hxt,if_neg (by rw[<-het];exact hxt)]
     ·have hbl:=J6.lt hfp
      rcases hfp with h|h| ⟨x,hx,hxb⟩
      ·exact .inl (hB b (.inl h))
      ·exact .inl (hB b (.inr (.inl h)))
      ·obtain⟨y,hy,rfl⟩:=List.mem_map.1 hx
       by_cases hyt:y.t=e.t
       ·rw[if_pos hyt] at hxb
        rcases hxb with h|h
        ·exact .inl (hB b (.inr (.inr ⟨e,he,.inl h⟩)))
        ·rcases n6 b h with h|h
         ·exact .inl (hB b (.inr (.inr ⟨e,he,.inr h⟩)))
         ·simp only[agq] at h;exact .inr ⟨by omega,hbl⟩
       ·rw[if_neg hyt] at hxb;exact .inl (hB b (.inr (.inr ⟨y,hy,hxb⟩)))
     ·rcases hb with h|h
      ·have:=I.lt b h;omega
      ·exact h.2
     ·refine hB b (.inr (.inr ⟨e,he,?_⟩))
      rcases h with h|h
      ·exact .inl h.symm
      ·exact .inr h
 ·have hr': ¬ll s=0:=hr
  simp[hr']
  exact h1 hr w2 I2 F2
@[simp] theorem cgg (P : Program) (v : Value) (w : World) (K : KV) : exT P (.tuple #[v]) 0 w K = K v w := Eq.trans rfl rfl
theorem alk{α:Type}(p:α->Bool): ∀l:List α,(l.filter (fun x=>!p x) ++ l.filter p).Perm l
 | []=> .nil
 | x :: l=>by
  have ih:=alk p l
  cases h:p x with
  | true=>simp only[List.filter_cons,h,Bool.not_true,Bool.false_eq_true,if_false,if_true];exact (List.perm_middle).trans (ih.cons x)
  | false=>simp only[List.filter_cons,h,Bool.not_false,Bool.false_eq_true,if_false,if_true,List.cons_append];exact ih.cons x
def vk(c:CT)(now:Int):CT:=(srt c).filter fun p=>decide (p.2<=now)
theorem axe(c:CT)(now:Int):qh c now=(vk c now).map (·.1):=rfl
theorem ahn(c:CT)(now:Int):(wk c now ++ vk c now).Perm c:=by
 have h1:(vk c now).Perm (c.filter fun p=>decide (p.2<=now)):=(aae c).filter _
 have h2:wk c now=c.filter fun p=>!decide (p.2<=now):=by
  unfold wk
  congr 1;funext p
  by_cases h:p.2<=now
  ·have: ¬now < p.2:=by omega
   simp[h,this]
  ·have:now < p.2:=by omega
   simp[h,this]
 rw[h2]
 exact (h1.append_left _).trans (alk _ c)
def bqx(w0:World)(hb:Nat)(g:Cfg)(O:Nat->Prop)(r:Nat)(m:MP)(es:List Ent)(c:CT)(ra it:Nat):KL:=fun _ w1=> ∃(done:List Int)(m2:MP),ya w1 it r .u64 m done/\lj w1 ra .u64 m2/\(∀k∈done,∀a,xk c k=some a->kh m2 k=some (.int .u64 a))/\ug w1 hb g O r m es c/\Fz w0 w1
def bry(w0:World)(hb:Nat)(g:Cfg)(r:Nat)(m:MP)(es:List Ent)(c:CT)(ra:Nat)(m2:MP)(v:Value)(now:Int)(O0:Nat->Prop):KL:=fun x w1=> ∃(i:Nat)(O:Nat->Prop)(c1:CT),gv x 1= .int .i64 (i:Nat)/\i<=(vk c now).length/\c1.Perm (wk c now ++ (vk c now).take i)/\HpB g r w1 hb O c1/\(∀b,O b->O0 b\/w0.heap.size<=b)/\lj w1 ra .u64 m2/\¬O ra/\
 w1.ownsRow w0.heap.size T.a 1 v (qh c now).length (aaq (qh c now))/\(∀x,v.ownBlock=some x->¬O x)/\Fr O0 w0 w1
theorem boc{w:World}{hb:Nat}{g:Cfg}{B:Nat->Prop}{A:List AE}{c:CT}(I:Buf w hb g B A c)(hA:A.length<=1000)(now:Int){K:KV}
  (h: ∀w' v B',Buf w' hb g B' A c->w'.ownsRow w.heap.size T.a 1 v (qh c now).length (aaq (qh c now))->(∀x,v.ownBlock=some x->¬B' x)->Fr B w w'->(∀b,B' b->B b\/w.heap.size<=b)->K v w'):jy P F.bj [.pointer (some ⟨hb,0,none⟩),.int .u64 now] w K:=by
 apply M.ah.calls
 unfold M.ah
 simp only[ir]
 simp
 unfold M.ah.j0
 simp only[ir]
 rw[zu]
 obtain⟨⟨O,r,m,es,hAe,J,hB⟩,hlt⟩:=I
 have hcl:c.length=m.length:=by
  have:=J.ck.length_eq
  simp[ku] at this
  rw[this,J.ml]
 have hAl:A.length=m.length:=by rw[hAe,List.length_map,J.ml]
 generalize hwa:w.alloc (.map #[] 0)=wa
 have hma:lj wa w.heap.size .u64 []:=by rw[<-hwa];exact yi w .u64
 have hfa:Fz w wa:=by rw[<-hwa];exact (Fr.refl _ w).alloc _
 have sza:wa.heap.size=w.heap.size+1:=by rw[<-hwa];simp
 have Ja:=J.jl hfa fun _ _ h=>h
 obtain⟨_,_,_,q5⟩:=Ja.cells
 simp[q5]
 refine aol mt.l Ja.mp fun wi hit hfi=>?_
 have hraw:w.heap.size < wa.heap.size:=by omega
 refine⟨bqx w hb g O r m es c w.heap.size wa.heap.size,fun _ w1=>rk w1 wa.heap.size m.length,⟨[],[],hit,hma.of_heap (hfi.jl _ hraw fun h=>h),fun k hk=>by (cases hk),Ja.jl hfi fun _ _ h=>h,hfa.trans hfi⟩,?_⟩
 rintro x w1 ⟨done,m2,hit1,hm1,hdone,J1,f1⟩
 have hlt1:=hit1.lt
 have hrlt:=J.mp.lt
 refine anb hit1 J.mn _ (fun hall=>?_) fun k v w2 hkm hkd hcur hf2 hless=>?_
 ·simp
  have hOlt: ∀b,O b->b < w.heap.size:= @Hp.lt (sx g r) _ _ _ _ J.hp
  have hnd:(ku c).Nodup:= @Hp.nd (sx g r) _ _ _ _ J.hp
  have hat: ∀p∈c,kh m2 p.1=some (.int .u64 p.2):=fun p hp=>by
   refine hdone p.1 ?_ p.2 (afr hnd hp)
   obtain⟨e,he,het⟩:=List.mem_map.1 (J.ck.mem_iff.1 (List.mem_map_of_mem hp:p.1∈ku c))
   have hgm:=J.mg e he
   have hk:e.t∈jp m:=by
    by_cases hx:e.t∈jp m
    ·exact hx
    ·rw[(ql _ _).2 hx] at hgm;cases hgm
   obtain⟨q,hq,hqk⟩:=List.mem_map.1 hk
   have:=hall q hq
   rw[hqk,het] at this;exact this
  unfold M.ah.j1
  simp only[ir]
  simp
  rw[M.df.fcall]
  have sz1:=f1.size
  refine @bpd (sx g r) _ _ _ _ J1.hp (by omega) now _ fun w2 v H2 r2 f2=>?_
  have r2':w2.ownsRow w.heap.size T.a 1 v (qh c now).length (aaq (qh c now)):=by
   refine⟨r2.1,?_⟩
   rcases r2.2 with hn| ⟨gb,cap,cur,hv,hg,po⟩
   ·exact .inl hn
   ·exact .inr ⟨gb,cap,cur,hv,by omega,po⟩
  have hvO: ∀x,v.ownBlock=some x->¬O x:=fun x hx hO=>by
   obtain⟨_,_,_,hge,_⟩:=oe r2 hx
   have:=hOlt x hO;omega
  have hnra: ¬O w.heap.size:=fun h=>by have:=hOlt _ h;omega
  have hlenv: ∀w K,biT P .len #[T.g] T.d [false] [v] w K=K (.int .i64 (qh c now).length) w:=fun w K=>by
   rcases r2.2 with⟨hv,hn⟩|⟨gb,cap,cur,hv,_⟩
   ·rw[hv,vq (by simp),hn]
   ·rw[hv,vq (by simp)]
  rw[hlenv]
  have hDl:(qh c now).length=(vk c now).length:=by rw[axe,List.length_map]
  have hDc:(vk c now).length<=c.length:=by
   unfold vk
   have:=List.length_filter_le (fun p:Int×Int=>decide (p.2<=now)) (srt c)
   have:=(aae c).length_eq
   omega
  have hndD:(ku (wk c now ++ vk c now)).Nodup:=by
   unfold ku at hnd⊢
   exact ((ahn c now).map _).nodup_iff.2 hnd
  refine⟨bry w hb g r m es c w.heap.size m2 v now O,fun x _=>(vk c now).length - ms x 1,⟨0,O,wk c now,rfl,Nat.zero_le _,by simp,H2,fun b hb=> .inl hb,hm1.of_heap (f2.jl _ hm1.lt hnra),hnra,r2',hvO,(f1.mono fun _ _ h=>h.elim).jw f2 fun b _ h=>h⟩,?_⟩
  rintro x w3 ⟨i,O3,c3,hx1,hi,hp3,H3,hO3,hm3,hra3,r3,hv3,f3⟩
  simp only[hx1]
  by_cases hil:i < (vk c now).length
  ·have hil':(i:Int) < (qh c now).length:=by omega
   have hil2:i < (qh c now).length:=by omega
   simp[hil2]
   unfold M.ah.j6
   simp only[ir,hx1]
   obtain⟨gb,cap,cur,hvf,hgb,hgc,_⟩:=yn r3 (by omega)
   have hvg:v.ownBlock=some gb:=by rw[hvf];rfl
   have hk0:(qh c now)[i]=(vk c now)[i].1:=by simp[axe]
   have ci:=yr r3 hvg (i:=i) (x:= .int .u64 (vk c now)[i].1) (by simp[aaq,hil2,hk0])
   have hw:IntKind.i64.wrap ((i:Int)+1)=((i+1:Nat):Int):=by rw[jc];rfl
   have hDm:(vk c now)[i]∈c:=(ahn c now).mem_iff.1 (List.mem_append_right _ (List.getElem_mem hil))
   have hm3d:lj (dr w3 1) w.heap.size .u64 m2:=hm3.of_heap rfl
   rw[hvf]
   simp[hil2,ci]
   rw[tp mt.ax hm3d,hat _ hDm]
   simp
   rw[M.be.fcall]
   have H3d:HpB g r (dr w3 1) hb O3 c3:= @Hp.jl (sx g r) _ _ _ _ (fun _=>False) _ H3 ((Fr.refl _ w3).dr 1) fun _ _ h=>h
   have hc3:c3.length<=c.length:=by
    rw[hp3.length_eq,<-(ahn c now).length_eq];simp;omega
   refine @att (sx g r) _ _ _ _ H3d (by omega) _ _ _ fun w4 O4 H4 f4 p4=>?_
   have f4':Fr O3 w3 w4:=⟨f4.size,f4.jl,f4.tape,f4.os,f4.output⟩
   have p4': ∀b,O4 b->O3 b\/w3.heap.size<=b:=p4
   have s3:=f3.size
   have hnk:(vk c now)[i].1∉ku c3:=fun hk=>by
    have hk2:(vk c now)[i].1∈ku (wk c now ++ (vk c now).take i):=by
     unfold ku at hk⊢
     exact (hp3.map _).mem_iff.1 hk
    have hsp:wk c now ++ vk c now=(wk c now ++ (vk c now).take i) ++ (vk c now)[i] :: (vk c now).drop (i+1):=by
     rw[List.append_assoc,<-List.drop_eq_getElem_cons hil,List.take_append_drop]
    rw[hsp] at hndD
    unfold ku at hndD hk2
    rw[List.map_append,List.nodup_append] at hndD
    exact hndD.2.2 _ hk2 _ (by rw[List.map_cons];exact List.mem_cons_self ..) rfl
   refine⟨⟨i+1,O4,_,by rw[hw];rfl,by omega,?_,H4,fun b hb=>?_,hm3.of_heap (f4'.jl _ hm3.lt hra3),fun h=>?_,?_,fun x hx h=>?_,?_⟩,?_⟩
   ·unfold px
    rw[acl hnk,List.take_succ_eq_append_getElem hil,<-List.append_assoc]
    exact (hp3.cons _).trans (List.perm_append_comm (l₁:=[_]))
   ·rcases p4' b hb with h|h
    ·exact hO3 b h
    ·exact .inr (by omega)
   ·rcases p4' _ h with h|h
    ·exact hra3 h
    ·have:=hm3.lt;omega
   ·rw[<-hvf]
    exact sy r3 fun x hx=>f4'.jl x (by obtain⟨_,_,_,_,hc,_⟩:=oe r3 hx;exact mh hc) (hv3 x hx)
   ·rw[<-hvf] at hx
    rcases p4' _ h with h|h
    ·exact hv3 x hx h
    ·obtain⟨_,_,_,_,hc,_⟩:=oe r3 hx;have:=mh hc;omega
   ·exact f3.jw f4' fun b hlt h=>(hO3 b h).elim id fun h=>by omega
   ·have:ms x 1=i:=by unfold ms;rw[hx1];rfl
    rw[this];simp[ms,gv,hw];omega
  ·have hil2: ¬i < (qh c now).length:=by omega
   simp[hil2]
   have hie:i=(vk c now).length:=by omega
   subst hie
   rw[List.take_length] at hp3
   have H:HpB g r w3 hb O3 c:= @Hp.congr (sx g r) _ _ _ _ _ H3 (hp3.trans (ahn c now))
   have J3:=J.heap f3 H hO3 J.ck
   refine h w3 v (fun b=>B b\/O3 b) ⟨⟨O3,r,m,es,hAe,J3,fun b hb=>?_⟩,fun b hb=>?_⟩ r3 (fun x hx hB'=>?_) (f3.mono fun b _ hO=>hB b (.inl hO)) fun b hb=>?_
   ·rcases hb with h|h
    ·exact .inr h
    ·exact .inl (hB b (.inr h))
   ·rcases hb with h|h
    ·have:=hlt b h;have:=f3.size;omega
    ·exact @Hp.lt (sx g r) _ _ _ _ H b h
   ·obtain⟨_,_,_,hge,_⟩:=oe r3 hx
    rcases hB' with h|h
    ·have:=hlt x h;omega
    ·exact hv3 x hx h
   ·rcases hb with h|h
    ·exact .inl h
    ·exact (hO3 b h).imp (fun h=>hB b (.inl h)) id
 ·simp
  unfold M.ah.j3
  rw[aof hcur]
  simp
  rw[M.di.fcall]
  have hOlt: ∀b,O b->b < w.heap.size:= @Hp.lt (sx g r) _ _ _ _ J.hp
  have J2:=J1.jl hf2 fun b hb h=>by
   have:=J.lt hb;omega
  have hmk:k∈ku c:=by
   have h1:kh m k≠none:=fun hn=>(ql _ _).1 hn (List.mem_map_of_mem hkm)
   by_cases hex: ∃e∈es,e.t=k
   ·obtain⟨e,he,rfl⟩:=hex
    exact J.ck.mem_iff.2 (List.mem_map_of_mem he)
   ·exact absurd (J.mz k fun e he hk=>hex ⟨e,he,hk⟩) h1
  refine @baq (sx g r) _ _ _ _ J2.hp k _ (fun hn=>absurd hmk ((adi _ _).1 hn)) fun a ha=>?_
  simp
  have hm2':lj w2 w.heap.size .u64 m2:=hm1.of_heap (hf2.jl _ hm1.lt (by omega))
  refine aey mt.ax hm2' _ _ _ fun o hm3=>?_
  have f3:Fr (fun b=>b=w.heap.size) w2 (World.setObj w2 w.heap.size o):=(Fr.refl (fun b=>b=w.heap.size) w2).setObj (.inl rfl) o
  generalize hw3:World.setObj w2 w.heap.size o=w3 at *
  have hit2:=hcur.1
  have hl2:=hit2.lt
  refine⟨⟨k :: done,_,hit2.jl (f3.jl _ hl2.1 (by omega)) (f3.jl _ hl2.2 (by omega)),hm3,fun y hy b hb=>?_,J2.jl f3 fun b hb h=>by have:=J.lt hb;omega,?_⟩,?_⟩
  ·rw[aau]
   by_cases hky:k=y
   ·rw[if_pos hky]
    subst hky
    rw[ha] at hb;cases hb;rfl
   ·rw[if_neg hky]
    rcases List.mem_cons.1 hy with h|h
    ·exact absurd h.symm hky
    ·exact hdone y h b hb
  ·exact (f1.jw hf2 fun b hlt h=>by omega).jw f3 fun b hlt h=>by omega
  ·have:rk w3 wa.heap.size m.length=rk w2 wa.heap.size m.length:=by
    unfold rk
    rw[f3.jl _ hl2.1 (by omega)]
   omega
theorem aal{w:World}{v:Value}{l:List Spn}(hs:SlS w v l)(hlen:l.length<=1000000){K:KV}(h: ∀w' v',SlS w' v' l->(∀x,v'.ownBlock=some x->w.heap.size<=x/\x < w'.heap.size)->Fz w w'->K v' w'):jy P F.e [v] w K:=by
 apply M.y.calls
 unfold M.y
 simp only[ir]
 have hs':=hs
 obtain⟨a,cap,rfl,_⟩:=hs'
 cases a with
 | none=>
  simp
  have hz:l=[]:=by
   obtain⟨a',cap',hv,_,_,h3⟩:=hs
   cases l with
   | nil=>rfl
   | cons x l=>
    obtain⟨b,o,ha,_⟩:=h3 0 x rfl
    injection hv with h1 _ _
    rw[<-h1] at ha;cases ha
  subst hz
  exact h w _ Sl.nil (fun x hx=>by simp[Value.ownBlock] at hx) (Fr.refl _ _)
 | some a=>
  simp
  have f0:Fz w (w.alloc (.cells #[] T.j)):=(Fr.refl _ w).alloc _
  refine yo et.h pt qn (base:=w.heap.size) (Ow.empty (by rw[ja,if_pos rfl]) (Nat.le_refl _)) (hs.fr f0 fun _ _ _ h=>h) (by simp;omega) (by decide) (by simp) _ fun v3 w3 o3 f3 g3=>?_
  rw[List.nil_append] at o3
  exact h w3 v3 (o3.sl pt) (fun x hx=>o3.lt hx) (f0.jw f3 fun b hb hv=>by simp[Value.ownBlock] at hv;omega)
theorem bnn{w:World}{hb:Nat}{g:Cfg}{B:Nat->Prop}{A:List AE}{c:CT}(I:Buf w hb g B A c)(hl: ∀e∈A,e.l.length<=1000)(k:Int){K:KV}
  (h0:(∀e∈A,e.t≠k)->K (.tuple #[.slice none 0 0,.bool false,.bool false]) w)
  (h1: ∀e∈A,e.t=k->∀w' v',SlS w' v' e.l->(∀x,v'.ownBlock=some x->w.heap.size<=x/\x < w'.heap.size)->Fz w w'->K (.tuple #[v',.bool e.nt,.bool true]) w'):jy P F.cy [.pointer (some ⟨hb,0,none⟩),.int .u64 k] w K:=by
 obtain⟨⟨O,r,m,es,hAe,J,hB⟩,hlt⟩:=I
 apply M.cr.calls
 unfold M.cr
 simp only[ir]
 obtain⟨_,_,_,q5⟩:=J.cells
 simp[q5]
 rw[tp mt.l J.mp]
 rcases J.bfq k with⟨hmn,hne⟩|⟨e,he,het,hme⟩
 ·rw[hmn]
  simp
  refine h0 fun e he=>?_
  rw[hAe] at he
  obtain⟨x,hx,rfl⟩:=List.mem_map.1 he
  exact hne x hx
 ·rw[hme]
  have e1:e.ptr= .pointer (some ⟨e.p,0,none⟩):=rfl
  simp[e1]
  unfold M.cr.j0
  simp[q5]
  rw[tp mt.l J.mp,hme]
  obtain⟨c0,c1⟩:=aeo (J.blk e he)
  simp[e1,c0,c1]
  rw[M.y.fcall]
  have eA:e.abs∈A:=by rw[hAe];exact List.mem_map_of_mem he
  have hll:e.l.length<=1000:=hl _ eA
  have fd:Fz w (dr w 1):=(Fr.refl _ w).dr 1
  refine aal (((J.row e he).sl pt).fr fd fun _ _ _ h=>h) (by omega) fun w2 v2 s2 o2 f2=>?_
  have f2':=fd.trans f2
  obtain⟨d0,d1⟩:=aeo (f2'.heap (J.blk e he) fun h=>h)
  simp[d1]
  exact h1 e.abs eA het w2 v2 s2 o2 f2'
def nk(k:Int):List Value:=[.int .u64 k]
theorem amc(p:Int):(nk p).length=1:=rfl
theorem bip(p:Int): ∀u∈nk p,lc u=true:=fun u hu=>by
 simp only[nk,List.mem_cons,List.not_mem_nil,or_false] at hu
 subst hu;rfl
abbrev SlU(w:World)(v:Value)(l:List Int):Prop:=Sl w 1 nk v l
abbrev OwU(w:World)(base:Nat)(v:Value)(l:List Int):Prop:=Ow w base T.a 1 nk v l
theorem bea(l:List Int):l.flatMap nk=aaq l:=by
 unfold aaq
 induction l with
 | nil=>rfl
 | cons x l ih=>rw[List.flatMap_cons,List.map_cons,ih];rfl
theorem azv{w:World}{base n:Nat}{v:Value}{l:List Int}(h:w.ownsRow base T.a 1 v n (aaq l)):OwU w base v l:=by
 have hn:l.length=n:=by have:=bnb h;simpa [aaq] using this
 unfold OwU Ow
 rw[bea,hn];exact h
theorem bey{w:World}{v:Value}{l:List Int}(h:SlU w v l){i:Nat}(hi:i < l.length): ∃b o cap,v= .slice (some ⟨b,o,none⟩) l.length cap/\b < w.heap.size/\iq w b (o+i)=some (.int .u64 l[i]):=by
 obtain⟨b,o,cap,hv,hb,_,hr⟩:=h.at hi
 have:=hr 0 _ rfl
 simp only[Nat.mul_one,Nat.add_zero] at this
 exact⟨b,o,cap,hv,hb,this⟩
def xh(es:List Ent)(k:Int):List Ent:=es.filter fun e=>!decide (e.t=k)
def tq(A:List AE)(k:Int):List AE:=A.filter fun e=>!decide (e.t=k)
theorem avf(es:List Ent)(k:Int):(xh es k).map Ent.abs=tq (es.map Ent.abs) k:=by
 unfold tq xh
 rw[List.filter_map];rfl
theorem rg{es:List Ent}{k:Int}{e:Ent}(h:e∈xh es k):e∈es/\e.t≠k:=by
 unfold xh at h
 rw[List.mem_filter] at h
 exact⟨h.1,by simpa using h.2⟩
theorem aed(es:List Ent)(k:Int):(xh es k).map Ent.t=(es.map Ent.t).filter fun x=>!decide (x=k):=by
 unfold xh
 rw[List.filter_map];rfl
theorem ug.del{w w':World}{hb:Nat}{g:Cfg}{O:Nat->Prop}{r:Nat}{m:MP}{es:List Ent}{c:CT}(I:ug w hb g O r m es c){k:Int}(hk:k∈es.map Ent.t)(hH:HpB g r w' hb O (rj c k))(hm:lj w' r .u64 (xp m k)){S:Nat->Prop}(hf:Fr S w w')(hS: ∀b,S b->O b\/b=r):ug w' hb g O r (xp m k) (xh es k) (rj c k):=by
 have hkm:k∈jp m:=by
  obtain⟨e,he,rfl⟩:=List.mem_map.1 hk
  by_cases hx:e.t∈jp m
  ·exact hx
  ·have:=I.mg e he
   rw[(ql _ _).2 hx] at this;cases this
 have nSp: ∀e∈es,¬S e.p:=fun e he h=>by
  rcases hS _ h with h|h
  ·exact I.np e he h
  ·exact abd I.mp (I.blk e he) h.symm
 have nSv: ∀e∈es,∀x,e.v.ownBlock=some x->¬S x:=fun e he x hx h=>by
  rcases hS _ h with h|h
  ·exact I.nv e he x hx h
  ·obtain⟨cur,hc⟩:=we (I.row e he) hx
   exact abd I.mp hc h.symm
 refine⟨hH,hm,by rw[aaz];exact I.mn.erase _,?_,fun e he=>?_,fun y hy=>?_,by rw[aed];exact I.tn.filter _,(List.Sublist.map _ List.filter_sublist).nodup I.pn,fun e he=>hf.heap (I.blk e (rg he).1) (nSp e (rg he).1),fun e he=>(I.row e (rg he).1).fr hf (nSv e (rg he).1),
  fun e he e' he'=>I.rn e (rg he).1 e' (rg he').1,I.nr,fun e he=>I.np e (rg he).1,fun e he=>I.nv e (rg he).1,?_⟩
 ·have h1:(jp (xp m k)).length=(xp m k).length:=by simp[jp]
  have h2:(jp m).length=m.length:=by simp[jp]
  have h3:(xh es k).length=((es.map Ent.t).filter fun x=>!decide (x=k)).length:=by rw[<-aed,List.length_map]
  have h4:((es.map Ent.t).filter fun x=>!decide (x=k))=(es.map Ent.t).erase k:=by
   rw[I.tn.erase_eq_filter]
   congr 1
  rw[<-h1,aaz,List.length_erase_of_mem hkm,h2,I.ml,h3,h4,List.length_erase_of_mem hk,List.length_map]
 ·obtain⟨h1,h2⟩:=rg he
  rw[abb _ _ _ (fun h=>h2 h.symm)]
  exact I.mg e h1
 ·by_cases hyk:k=y
  ·subst hyk;exact aga _ _ I.mn
  ·rw[abb _ _ _ hyk]
   refine I.mz y fun e he hey=>?_
   refine hy e ?_ hey
   unfold xh
   rw[List.mem_filter]
   exact⟨he,by simp;rw[hey];exact fun h=>hyk h.symm⟩
 ·rw[ajo,aed]
  exact I.ck.filter _
theorem bme{w:World}{hb:Nat}{g:Cfg}{B:Nat->Prop}{A:List AE}{c:CT}(I:Buf w hb g B A c)(hA:A.length<=1000)(k:Int){K:KV}
  (h0:(∀e∈A,e.t≠k)->K (.slice none 0 0) w)
  (h1: ∀e∈A,e.t=k->∀w' v B',Buf w' hb g B' (tq A k) (rj c k)->SlS w' v e.l->(∀x,v.ownBlock=some x->x < w'.heap.size/\¬B' x/\B x)->(∀b,B' b->B b)->Fr B w w'->K v w'):jy P F.ce [.pointer (some ⟨hb,0,none⟩),.int .u64 k] w K:=by
 obtain⟨⟨O,r,m,es,hAe,J,hB⟩,hlt⟩:=I
 apply M.ch.calls
 unfold M.ch
 simp only[ir]
 obtain⟨_,_,_,q5⟩:=J.cells
 simp[q5]
 rw[tp mt.l J.mp]
 rcases J.bfq k with⟨hmn,hne⟩|⟨e,he,het,hme⟩
 ·rw[hmn]
  simp
  refine h0 fun e he=>?_
  rw[hAe] at he
  obtain⟨x,hx,rfl⟩:=List.mem_map.1 he
  exact hne x hx
 ·rw[hme]
  have e1:e.ptr= .pointer (some ⟨e.p,0,none⟩):=rfl
  simp[e1]
  unfold M.ch.j0
  simp[q5]
  rw[tp mt.l J.mp,hme]
  obtain⟨c0,c1⟩:=aeo (J.blk e he)
  simp[e1,c0,q5]
  refine aui mt.l J.mp _ _ _ _ fun o hm2=>?_
  have f2:Fr (fun b=>b=r) w (World.setObj w r o):=(Fr.refl (fun b=>b=r) w).setObj (.inl rfl) o
  generalize World.setObj w r o=w2 at *
  have H2:HpB g r w2 hb O c:= @Hp.jl (sx g r) _ _ _ _ _ _ J.hp f2 fun b hb h=>J.nr (h ▸ hb)
  have hnd:(ku c).Nodup:= @Hp.nd (sx g r) _ _ _ _ J.hp
  have hkt:k∈es.map Ent.t:=by rw[<-het];exact List.mem_map_of_mem he
  obtain⟨a,ha⟩: ∃a,xk c k=some a:=by
   cases hg:xk c k with
   | none=>exact absurd (J.ck.mem_iff.2 hkt) ((adi _ _).1 hg)
   | some a=>exact⟨a,rfl⟩
  have hcl:c.length=es.length:=by
   have:=J.ck.length_eq
   simpa [ku] using this
  have hAl:A.length=es.length:=by rw[hAe,List.length_map]
  rw[M.cs.fcall]
  refine @auv (sx g r) _ _ _ _ H2 (by omega) k a ha _ fun w3 H3 f3=>?_
  have f23:Fr (fun b=>O b\/b=r) w w3:=(f2.mono fun _ _ h=> .inr h).jw f3 fun b _ h=> .inl h
  have J3:=J.del hkt H3 (hm2.of_heap (f3.jl r hm2.lt J.nr)) f23 fun b h=>h
  have hrow3:OwS w3 0 e.v e.l:=(J.row e he).fr f23 fun x hx h=>by
   rcases h with h|h
   ·exact J.nv e he x hx h
   ·obtain⟨cur,hc⟩:=we (J.row e he) hx
    exact abd J.mp hc h.symm
  have eA:e.abs∈A:=by rw[hAe];exact List.mem_map_of_mem he
  have hfB:Fr B w w3:=f23.mono fun b _ h=>h.elim (fun h=>hB b (.inl h)) fun h=>hB b (.inr (.inl h))
  refine h1 e.abs eA het w3 e.v (fun b=>B b/\e.v.ownBlock≠some b) ⟨⟨O,r,_,_,by rw[avf,hAe],J3,fun b hfp=>?_⟩,fun b hb=>Nat.lt_of_lt_of_le (hlt b hb.1) hfB.size⟩ (hrow3.sl pt) (fun x hx=>⟨(hrow3.lt hx).2,fun h=>h.2 hx,hB x (.inr (.inr ⟨e,he,.inr hx⟩))⟩) (fun b h=>h.1) hfB
  rcases hfp with h|rfl| ⟨x,hx,hxb⟩
  ·exact⟨hB b (.inl h),fun hx=>J.nv e he b hx h⟩
  ·refine⟨hB _ (.inr (.inl rfl)),fun hx=>?_⟩
   obtain⟨cur,hc⟩:=we (J.row e he) hx
   exact abd J.mp hc rfl
  ·obtain⟨hx1,hx2⟩:=rg hx
   refine⟨hB b (.inr (.inr ⟨x,hx1,hxb⟩)),fun hv=>?_⟩
   rcases hxb with h|h
   ·obtain⟨cur,hc⟩:=we (J.row e he) hv
    rw[<-h] at hc
    exact ly hc (J.blk x hx1) (by decide) rfl
   ·exact hx2 (by rw[J.rn x hx1 e he b h hv,het])
def ns(hb:Nat)(g:Cfg)(A:List AE)(c:CT):Asn where
 ok w B:=Buf w hb g B A c
 jl h hf hn:=Buf.jl h hf hn
def uk(g:Cfg)(A:List AE)(s:Spn):List AE:=
 if ll s≠0 then A else match A.find? fun e=>decide (e.t=s.jj) with
  | none=>if g.li<=A.length then A else A ++ [⟨s.jj,[s],false⟩]
  | some e=>if (e.l.any fun x=>decide (x.id=s.id))=true then A else if g.kt<=e.l.length then anp A s.jj else auf A s.jj s
def ada(g:Cfg)(A:List AE)(c:CT)(s:Spn)(now:Int):CT:=
 if ll s≠0 then c else match A.find? fun e=>decide (e.t=s.jj) with
  | none=>if g.li<=A.length then c else px c s.jj (aod g now)
  | some _=>c
def rt(g:Cfg)(A:List AE)(s:Spn):Int:=
 if ll s≠0 then ll s else match A.find? fun e=>decide (e.t=s.jj) with
  | none=>if g.li<=A.length then 8 else 0
  | some e=>if (e.l.any fun x=>decide (x.id=s.id))=true then 0 else if g.kt<=e.l.length then 9 else 0
section
variable {w0 w : World} {hb : Nat} {g : Cfg} {A : List AE} {c : CT} {R : List Asn}
theorem awv(A:List AE)(k:Int):(∃e,A.find? (fun e=>decide (e.t=k))=some e/\e∈A/\e.t=k)\/(A.find? (fun e=>decide (e.t=k))=none/\∀e∈A,e.t≠k):=by
 cases h:A.find? (fun e=>decide (e.t=k)) with
 | none=>exact .inr ⟨rfl,fun e he=>by have:=List.find?_eq_none.1 h e he;simpa using this⟩
 | some e=>exact .inl ⟨e,rfl,List.mem_of_find?_eq_some h,by have:=List.find?_some h;simpa using this⟩
theorem Buf.azf{B:Nat->Prop}(I:Buf w hb g B A c):(A.map AE.t).Nodup:=by
 obtain⟨⟨O,r,m,es,hAe,J,_⟩,_⟩:=I
 rw[hAe,List.map_map]
 exact J.tn
theorem bei{A:List AE}(h:(A.map AE.t).Nodup){e e':AE}(he:e∈A)(he':e'∈A)(ht:e.t=e'.t):e=e':=ue h he he' ht
theorem ber(S:St w0 w (ns hb g A c :: R))(hA:A.length<=1000)(hl: ∀e∈A,e.l.length<=1000)(s:Spn){now:Int}(hnow:0<=now/\now<=18446744073709551615)(hwt:0<=g.jx){K:KV}
  (h: ∀w',St w0 w' (ns hb g (uk g A s) (ada g A c s now) :: R)->K (.int .i64 (rt g A s)) w'):ik P F.ch [.pointer (some ⟨hb,0,none⟩),lw s,.int .u64 now] w K:=by
 obtain⟨B,I,hB,cl⟩:=S.open
 have I':Buf w hb g B A c:=I
 have done: ∀w' B' A' c',Buf w' hb g B' A' c'->Fr B w w'->(∀b,B' b->B b\/w.heap.size<=b)->St w0 w' (ns hb g A' c' :: R):=fun w' B' A' c' hI hf hB'=>
  cl w' [ns hb g A' c'] hf (Rs.one (B:=B') hI fun b hb=>(hB' b hb).imp id fun h=>⟨h,hI.lt b hb⟩)
 rw[M.an.fcall]
 unfold uk ada rt at h
 rcases awv A s.jj with⟨e,hfd,he,het⟩|⟨hfd,hno⟩
 ·rw[hfd] at h
  have heq: ∀e'∈A,e'.t=s.jj->e'=e:=fun e' he' h'=>bei I'.azf he' he (h'.trans het.symm)
  refine bci I' hA hl s hnow hwt (fun hr w' hI hf=>?_) (fun hr hn=>absurd het (hn e he)) (fun hr hn=>absurd het (hn e he)) (fun hr e' he' ht ha w' hI hf=>?_) (fun hr e' he' ht ha hg w' hI hf=>?_) (fun hr e' he' ht ha hg w' B' hI hf hB'=>?_)
  ·simp only[hr,ne_eq,not_false_eq_true,if_true] at h
   exact h w' (done w' B A c hI (hf.mono fun _ _ h=>h.elim) fun b hb=> .inl hb)
  ·obtain rfl:=heq e' he' ht
   simp only[hr,ne_eq,not_true_eq_false,if_false,ha,if_true] at h
   exact h w' (done w' B A c hI (hf.mono fun _ _ h=>h.elim) fun b hb=> .inl hb)
  ·obtain rfl:=heq e' he' ht
   simp only[hr,ne_eq,not_true_eq_false,if_false,ha,Bool.false_eq_true,hg,if_true] at h
   exact h w' (done w' B _ c hI hf fun b hb=> .inl hb)
  ·obtain rfl:=heq e' he' ht
   have hg': ¬g.kt<=e'.l.length:=by omega
   simp only[hr,ne_eq,not_true_eq_false,if_false,ha,Bool.false_eq_true,hg'] at h
   exact h w' (done w' B' _ c hI hf hB')
 ·rw[hfd] at h
  refine bci I' hA hl s hnow hwt (fun hr w' hI hf=>?_) (fun hr hn hg w' hI hf=>?_) (fun hr hn hg w' B' hI hf hB'=>?_) (fun hr e' he' ht=>absurd ht (hno e' he')) (fun hr e' he' ht=>absurd ht (hno e' he')) (fun hr e' he' ht=>absurd ht (hno e' he'))
  ·simp only[hr,ne_eq,not_false_eq_true,if_true] at h
   exact h w' (done w' B A c hI (hf.mono fun _ _ h=>h.elim) fun b hb=> .inl hb)
  ·simp only[hr,ne_eq,not_true_eq_false,if_false,hg,if_true] at h
   exact h w' (done w' B A c hI (hf.mono fun _ _ h=>h.elim) fun b hb=> .inl hb)
  ·have hg': ¬g.li<=A.length:=by omega
   simp only[hr,ne_eq,not_true_eq_false,if_false,hg'] at h
   exact h w' (done w' B' _ _ hI hf hB')
theorem beo(S:St w0 w R)(li kt jx:Int){K:KV}(h0:(li < 1\/64 < li\/kt < 1\/16 < kt\/1099511627776 < jx)->K (.tuple #[.pointer none,.int .i64 1]) w)
  (h1: ∀(g:Cfg) w' hb,li=g.li->kt=g.kt->jx=g.jx->1<=g.li->g.li<=64->1<=g.kt->g.kt<=16->g.jx<=1099511627776->St w0 w' (ns hb g [] [] :: R)->K (.tuple #[.pointer (some ⟨hb,0,none⟩),.int .i64 0]) w'):
  ik P F.fu [.int .i64 li,.int .i64 kt,.int .u64 jx] w K:=by
 rw[M.fw.fcall]
 refine bpi li kt jx h0 fun g w' e1 e2 e3 e4 e5 e6 e7 e8 I f=>?_
 have hlt:=I.lt _ (.inr rfl)
 exact h1 g w' _ e1 e2 e3 e4 e5 e6 e7 e8 (S.add (a:=ns _ g [] []) f I fun b hb=>by rcases hb with rfl|rfl <;>omega)
abbrev yd(v:Value)(l:List Spn):Asn:=qa T.j 8 jz v l
theorem boo(S:St w0 w (ns hb g A c :: R))(hl: ∀e∈A,e.l.length<=1000)(k:Int){K:KV}
  (h0:A.find? (fun e=>decide (e.t=k))=none->K (.tuple #[.slice none 0 0,.bool false,.bool false]) w)
  (h1: ∀e,A.find? (fun e=>decide (e.t=k))=some e->∀w' v',St w0 w' (rdA 8 jz v' e.l :: ns hb g A c :: R)->K (.tuple #[v',.bool e.nt,.bool true]) w'):ik P F.cy [.pointer (some ⟨hb,0,none⟩),.int .u64 k] w K:=by
 obtain⟨B,I,hB,cl⟩:=S.open
 have I':Buf w hb g B A c:=I
 rw[M.cr.fcall]
 refine bnn I' hl k (fun hn=>h0 ?_) fun e he het w' v' hs hn hf=>h1 e ?_ w' v' (S.add (a:=rdA 8 jz v' e.l) hf (B:=fun x=>v'.ownBlock=some x) ⟨hs,fun b hb=>hb⟩ hn)
 ·rw[List.find?_eq_none];intro e he;simpa using hn e he
 ·rcases awv A k with⟨e',hf',he',het'⟩|⟨_,hno⟩
  ·rw[hf',bei I'.azf he he' (het.trans het'.symm)]
  ·exact absurd het (hno e he)
end
def sq(x y:Spn):Bool:=x.jj == y.jj && (x.id == y.id && (x.nn == y.nn && (x.km == y.km && (x.len == y.len && (x.kz.toList == y.kz.toList && (x.name.toList == y.name.toList && (x.pp == y.pp)))))))
theorem ans(x:Spn):sq x x=true:=by simp[sq]
theorem ams(x y:Spn)(w:World):(Op.equalIn 10000 T.j (lw x) (lw y)).run P w= .ok (sq x y) w:=by
 have hS:P.underlying T.j=some (.struct (P.fieldsOf T.j)):=by kernel_rfl
 have hp:P.stoodInHeld T.j=false:=by kernel_rfl
 unfold lw
 rw[show (10000:Nat)=9999+1 from rfl,run_equalIn_agg w 9999 T.j _ _ hS hp]
 have u22:P.underlying 23=some (.int .u64):=Tryz.underlying23
 have u9:P.underlying 9=some .string:=Tryz.underlying9
 have u4:P.underlying 4=some .bool:=Tryz.underlying4
 simp only[Program.fieldsOf,show P.underlying T.j=_ from Tryz.underlying59]
 have a22:adb P 23=false:=by kernel_rfl
 have a9:adb P 9=false:=by kernel_rfl
 have a4:adb P 4=false:=by kernel_rfl
 unfold sq
 refine eqF (by decide) a22 rfl rfl (run_equalIn_int w 9998 23 _ _ _ _ u22) ?_
 refine eqF (by decide) a22 rfl rfl (run_equalIn_int w 9998 23 _ _ _ _ u22) ?_
 refine eqF (by decide) a22 rfl rfl (run_equalIn_int w 9998 23 _ _ _ _ u22) ?_
 refine eqF (by decide) a22 rfl rfl (run_equalIn_int w 9998 23 _ _ _ _ u22) ?_
 refine eqF (by decide) a22 rfl rfl (run_equalIn_int w 9998 23 _ _ _ _ u22) ?_
 refine eqF (by decide) a9 rfl rfl (run_equalIn_string w 9998 9 _ _ u9) ?_
 refine eqF (by decide) a9 rfl rfl (run_equalIn_string w 9998 9 _ _ u9) ?_
 have:=eqF (fs:=[]) (d:=9999) (xs:= #[.int .u64 x.jj,.int .u64 x.id,.int .u64 x.nn,.int .u64 x.km,.int .u64 x.len,.string x.kz,.string x.name,.bool x.pp]) (ys:= #[.int .u64 y.jj,.int .u64 y.id,.int .u64 y.nn,.int .u64 y.km,.int .u64 y.len,.string y.kz,.string y.name,.bool y.pp]) (f:={name:= "Fail",type:=4,offset:=7,embedded:=false,tag:= "",pkgPath:= "",byteOffset:=72}) (w:=w) (c:=true) (by decide) a4 rfl rfl (run_equalIn_bool' w 9998 4 _ _ u4) rfl
 simpa using this
theorem bmu(rx ry:Operand)(x y:Spn)(w:World)(K:KV):iy P .neq T.j rx ry (lw x) (lw y) w K=K (.bool !(sq x y)) w:=by
 have hm:P.eqGuardType P.depth T.j=false:=by kernel_rfl
 have hg:=run_eqGuard_agg (P:=P) w .neq T.j rx ry #[.int .u64 x.jj,.int .u64 x.id,.int .u64 x.nn,.int .u64 x.km,.int .u64 x.len,.string x.kz,.string x.name,.bool x.pp] #[.int .u64 y.jj,.int .u64 y.id,.int .u64 y.nn,.int .u64 y.km,.int .u64 y.len,.string y.kz,.string y.name,.bool y.pp] hm
 have he:=ams x y w
 unfold iy jt
 unfold lw at he⊢
 rw[Sem.run_bind,hg]
 simp only[Result.andThen]
 rw[run_neq_struct,he]
 rfl
theorem asw{c:CT}(hn:(ku c).Nodup){k:Int}(hk:k∈ku c)(a:Int):(ku (px c k a)).Perm (ku c):=by
 have e:ku (px c k a)=k :: (ku c).erase k:=by
  rw[List.Nodup.erase_eq_filter hn]
  unfold px rj ku
  rw[List.map_cons,List.filter_map]
  congr 2
 rw[e]
 exact (List.perm_cons_erase hk).symm
section
variable {w0 w : World} {hb : Nat} {g : Cfg} {A : List AE} {c : CT} {R : List Asn}
theorem asq(S:St w0 w (ns hb g A c :: R))(hA:A.length<=1000)(k:Int){K:KV}
  (h0:(∀e∈A,e.t≠k)->K (.slice none 0 0) w)
  (h1: ∀e∈A,e.t=k->∀w' v,St w0 w' (rdA 8 jz v e.l :: ns hb g (tq A k) (rj c k) :: R)->K v w'):ik P F.ce [.pointer (some ⟨hb,0,none⟩),.int .u64 k] w K:=by
 obtain⟨B,I,hB,cl⟩:=S.open
 have I':Buf w hb g B A c:=I
 rw[M.ch.fcall]
 refine bme I' hA k h0 fun e he het w' v B' hI hs hn hsub hf=>h1 e he het w' v (cl w' [rdA 8 jz v e.l,ns hb g _ _] hf ⟨fun x=>v.ownBlock=some x,⟨hs,fun b hb=>hb⟩,fun b hb=> .inl (hn b hb).2.2,B',hI,fun b hb=>⟨.inl (hsub b hb),fun hv=>(hn b hv).2.1 hb⟩,trivial⟩)
theorem aum(S:St w0 w (ns hb g A c :: R))(hA:A.length<=1000){k t:Int}{e:AE}(he:e∈A)(het:e.t=k){K:KV}(h: ∀w',St w0 w' (ns hb g A (px c k t) :: R)->K (.bool true) w'):ik P F.bt [.pointer (some ⟨hb,0,none⟩),.int .u64 k,.int .u64 t] w K:=by
 obtain⟨B,I,hBB,cl⟩:=S.open
 obtain⟨⟨O,r,m,es,hAe,J,hB⟩,hlt⟩:=(I:Buf w hb g B A c)
 rw[M.dr.fcall]
 apply M.dr.calls
 unfold M.dr
 simp only[ir]
 obtain⟨_,_,_,q5⟩:=J.cells
 simp[q5]
 rw[tp mt.l J.mp]
 rw[hAe] at he
 obtain⟨e',he',rfl⟩:=List.mem_map.1 he
 have hg:=J.mg e' he'
 have het':e'.t=k:=het
 rw[het'] at hg
 rw[hg]
 have e1:e'.ptr= .pointer (some ⟨e'.p,0,none⟩):=rfl
 simp[e1]
 have hcl:c.length=es.length:=by
  have:=J.ck.length_eq
  simpa [ku] using this
 have hAl:A.length=es.length:=by rw[hAe,List.length_map]
 rw[M.be.fcall]
 refine @att (sx g r) _ _ _ _ J.hp (by omega) _ _ _ fun w5 O5 H5 f5 p5=>?_
 have f5':Fr O w w5:=⟨f5.size,f5.jl,f5.tape,f5.os,f5.output⟩
 have hkt:k∈ku c:=J.ck.mem_iff.2 (by rw[<-het'];exact List.mem_map_of_mem he')
 have hnd:(ku c).Nodup:= @Hp.nd (sx g r) _ _ _ _ J.hp
 have hck:(ku (px c k t)).Perm (es.map Ent.t):=(asw hnd hkt t).trans J.ck
 have J5:=J.heap f5' H5 p5 hck
 refine h w5 (cl w5 [ns hb g A (px c k t)] (f5'.mono fun b _ hb=>hB b (.inl hb)) (Rs.one (B:=fun b=>fpB O5 r es b) ⟨⟨O5,r,m,es,hAe,J5,fun b hb=>hb⟩,fun b hb=>J5.lt hb⟩ fun b hb=>?_))
 rcases hb with hb|hb
 ·rcases p5 b hb with hb|hb
  ·exact .inl (hB b (.inl hb))
  ·exact .inr ⟨hb,J5.lt (.inl (by assumption))⟩
 ·exact .inl (hB b (.inr hb))
theorem bex(S:St w0 w (ns hb g A c :: R))(hA:A.length<=1000)(now:Int){K:KV}(h: ∀w' v,St w0 w' (rdA 1 nk v (qh c now) :: ns hb g A c :: R)->K v w'):ik P F.bj [.pointer (some ⟨hb,0,none⟩),.int .u64 now] w K:=by
 obtain⟨B,I,hBB,cl⟩:=S.open
 rw[M.ah.fcall]
 refine boc (I:Buf w hb g B A c) hA now fun w' v B' hI ho hn hf hs=>?_
 have ow:=azv ho
 refine h w' v (cl w' [rdA 1 nk v (qh c now),ns hb g A c] hf ⟨fun x=>v.ownBlock=some x,⟨ow.sl amc,fun b hb=>hb⟩,fun b hb=> .inr (ow.lt hb),B',hI,fun b hb=>⟨?_,fun hv=>hn b hv hb⟩,trivial⟩)
 rcases hs b hb with h1|h1
 ·exact .inl h1
 ·exact .inr ⟨h1,hI.lt b hb⟩
end
theorem bfg(v:Value)(rx ry:Operand)(w:World)(K:KV):iy P .eql T.bh rx ry (.iface T.z v) .nilIface w K=K (.bool false) w:=kr
theorem alw(v:Value)(w:World)(K:KV):taT P (.iface T.s v) T.bh T.z true w K=K (.tuple #[.agg #[.int .u64 0,.bool false,.slice none 0 0],.bool false]) w:=kr
theorem ave(v:Value)(rx ry:Operand)(w:World)(K:KV):iy P .eql T.bh rx ry (.iface T.s v) .nilIface w K=K (.bool false) w:=kr
theorem ajb(v:Value)(w:World)(K:KV):taT P (.iface T.aj v) T.bh T.z true w K=K (.tuple #[.agg #[.int .u64 0,.bool false,.slice none 0 0],.bool false]) w:=kr
theorem agc(v:Value)(w:World)(K:KV):taT P (.iface T.aj v) T.bh T.s true w K=K (.tuple #[.agg #[.slice none 0 0],.bool false]) w:=kr
theorem bks(v:Value)(rx ry:Operand)(w:World)(K:KV):iy P .eql T.bh rx ry (.iface T.aj v) .nilIface w K=K (.bool false) w:=kr
theorem abv(v:Value)(w:World)(K:KV):taT P (.iface T.m v) T.bh T.z true w K=K (.tuple #[.agg #[.int .u64 0,.bool false,.slice none 0 0],.bool false]) w:=kr
theorem aaj(v:Value)(w:World)(K:KV):taT P (.iface T.m v) T.bh T.s true w K=K (.tuple #[.agg #[.slice none 0 0],.bool false]) w:=kr
theorem aka(v:Value)(w:World)(K:KV):taT P (.iface T.m v) T.bh T.aj true w K=K (.tuple #[.agg #[.int .u64 0,.int .u64 0,.int .u64 0,.int .i64 0],.bool false]) w:=kr
theorem bcc(v:Value)(rx ry:Operand)(w:World)(K:KV):iy P .eql T.bh rx ry (.iface T.m v) .nilIface w K=K (.bool false) w:=kr
theorem aid(v:Value)(w:World)(K:KV):taT P (.iface T.ag v) T.bh T.z true w K=K (.tuple #[.agg #[.int .u64 0,.bool false,.slice none 0 0],.bool false]) w:=kr
theorem afc(v:Value)(w:World)(K:KV):taT P (.iface T.ag v) T.bh T.s true w K=K (.tuple #[.agg #[.slice none 0 0],.bool false]) w:=kr
theorem alh(v:Value)(w:World)(K:KV):taT P (.iface T.ag v) T.bh T.aj true w K=K (.tuple #[.agg #[.int .u64 0,.int .u64 0,.int .u64 0,.int .i64 0],.bool false]) w:=kr
theorem aie(v:Value)(w:World)(K:KV):taT P (.iface T.ag v) T.bh T.m true w K=K (.tuple #[.agg #[.int .u64 0,.int .u64 0,.int .u64 0,.bool false,.int .u64 0,.int .u64 0,.int .i64 0,.bool false],.bool false]) w:=kr
theorem bio(v:Value)(rx ry:Operand)(w:World)(K:KV):iy P .eql T.bh rx ry (.iface T.ag v) .nilIface w K=K (.bool false) w:=kr
theorem afm(v:Value)(w:World)(K:KV):taT P (.iface T.w v) T.bh T.z true w K=K (.tuple #[.agg #[.int .u64 0,.bool false,.slice none 0 0],.bool false]) w:=kr
theorem adk(v:Value)(w:World)(K:KV):taT P (.iface T.w v) T.bh T.s true w K=K (.tuple #[.agg #[.slice none 0 0],.bool false]) w:=kr
theorem aic(v:Value)(w:World)(K:KV):taT P (.iface T.w v) T.bh T.aj true w K=K (.tuple #[.agg #[.int .u64 0,.int .u64 0,.int .u64 0,.int .i64 0],.bool false]) w:=kr
theorem afe(v:Value)(w:World)(K:KV):taT P (.iface T.w v) T.bh T.m true w K=K (.tuple #[.agg #[.int .u64 0,.int .u64 0,.int .u64 0,.bool false,.int .u64 0,.int .u64 0,.int .i64 0,.bool false],.bool false]) w:=kr
theorem agu(v:Value)(w:World)(K:KV):taT P (.iface T.w v) T.bh T.ag true w K=K (.tuple #[.agg #[.int .u64 0,.int .i64 0],.bool false]) w:=kr
theorem bar(v:Value)(rx ry:Operand)(w:World)(K:KV):iy P .eql T.bh rx ry (.iface T.w v) .nilIface w K=K (.bool false) w:=kr
theorem ags(v:Value)(w:World)(K:KV):taT P (.iface T.ab v) T.bh T.z true w K=K (.tuple #[.agg #[.int .u64 0,.bool false,.slice none 0 0],.bool false]) w:=kr
theorem aes(v:Value)(w:World)(K:KV):taT P (.iface T.ab v) T.bh T.s true w K=K (.tuple #[.agg #[.slice none 0 0],.bool false]) w:=kr
theorem air(v:Value)(w:World)(K:KV):taT P (.iface T.ab v) T.bh T.aj true w K=K (.tuple #[.agg #[.int .u64 0,.int .u64 0,.int .u64 0,.int .i64 0],.bool false]) w:=kr
theorem agf(v:Value)(w:World)(K:KV):taT P (.iface T.ab v) T.bh T.m true w K=K (.tuple #[.agg #[.int .u64 0,.int .u64 0,.int .u64 0,.bool false,.int .u64 0,.int .u64 0,.int .i64 0,.bool false],.bool false]) w:=kr
theorem aih(v:Value)(w:World)(K:KV):taT P (.iface T.ab v) T.bh T.ag true w K=K (.tuple #[.agg #[.int .u64 0,.int .i64 0],.bool false]) w:=kr
theorem aex(v:Value)(w:World)(K:KV):taT P (.iface T.ab v) T.bh T.w true w K=K (.tuple #[.agg #[.int .u64 0,.int .u64 0,.int .u64 0,.slice none 0 0],.bool false]) w:=kr
theorem bcm(v:Value)(rx ry:Operand)(w:World)(K:KV):iy P .eql T.bh rx ry (.iface T.ab v) .nilIface w K=K (.bool false) w:=kr
end Go.Proofs.YtgepcfcicngceaaGreatDoor
set_option maxRecDepth 100000
namespace Go.Proofs.YtgepcfcicngceaaGreatDoor.CB
open Go.Eng
end Go.Proofs.YtgepcfcicngceaaGreatDoor.CB
set_option maxRecDepth 100000
namespace Go.Proofs.YtgepcfcicngceaaGreatDoor.Sint
open Go.Eng Go.Sort
end Go.Proofs.YtgepcfcicngceaaGreatDoor.Sint
set_option maxRecDepth 100000
namespace Go.Proofs.YtgepcfcicngceaaGreatDoor.KeyD
open Go.Eng Go.Sort Go.Proofs.YtgepcfcicngceaaGreatDoor.Sint
end Go.Proofs.YtgepcfcicngceaaGreatDoor.KeyD
set_option maxRecDepth 100000
namespace Go.Proofs.YtgepcfcicngceaaGreatDoor
open Go.Eng Go.Proofs.YtgepcfcicngceaaGreatDoor.Sint
structure Fil where
 n:Int
 bqv:List Int
 bqk:List Int
structure Dk where
 cgs:Int
 left:Int
 cgl:Bool
 vm:Bool
 fs:List Fil
structure FE where
 n:Int
 p:Nat
 fv:Value
 lv:Value
 bqv:List Int
 bqk:List Int
abbrev aaw(v:Value)(l:List Int):Asn:=qa T.be 1 aej v l
abbrev SlB(w:World)(v:Value)(l:List Int):Prop:=Sl w 1 aej v l
section
variable {w0 w : World} {hb r : Nat} {m : MP} {es : List FE} {D : Dk} {R : List Asn} {e : FE}
end
set_option maxRecDepth 100000
section
variable {w0 w : World} {hb r : Nat} {m : MP} {es a b : List FE} {D : Dk} {R : List Asn} {e e' : FE}
end
section
variable {w0 w : World} {hb r : Nat} {m : MP} {es a b : List FE} {D : Dk} {R : List Asn} {e e' : FE}
end
section
variable {w0 w : World} {hb r : Nat} {m : MP} {es a b : List FE} {D : Dk} {R : List Asn} {e e' : FE}
end
section
variable {w0 w : World} {hb r : Nat} {m : MP} {es a b : List FE} {D : Dk} {R : List Asn} {e e' : FE}
end
section
variable {w0 w : World} {hb : Nat} {D : Dk} {R : List Asn}
end
end Go.Proofs.YtgepcfcicngceaaGreatDoor
