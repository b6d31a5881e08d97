/-
  Sorting a row of whole numbers: the pivot, the patterns. No condition.
-/
import Derived.Test.YtgepcfcicngceaaGreatDoorZSpn0
import Derived.Test.YtgepcfcicngceaaGreatDoorZEngSl
import Derived.Test.YtgepcfcicngceaaGreatDoorEnc
import Derived.Test.YtgepcfcicngceaaGreatDoorM
import Derived.Test.YtgepcfcicngceaaGreatDoorFacts
set_option maxRecDepth 100000
namespace Go.Proofs.YtgepcfcicngceaaGreatDoor.SG
open Go.Eng Go.Sort
variable [SE]
theorem Rf.ahj{w w' w'':World}{g cap sb:Nat}{e:TypeId}{d:Array Int}(h:Rf w w' g e cap d)(f:Fr (fun b=>b=sb) w' w'')(hs:w.heap.size<=sb)(hne:sb≠g):Rf w w'' g e cap d:=
 ⟨h.row.fr f fun h=>hne h.symm,h.fr.jt f fun b hb he=>by omega⟩
theorem Rf.new{w w':World}{g cap:Nat}{e:TypeId}{d:Array Int}(h:Rf w w' g e cap d)(o:Obj):Rf w (w'.alloc o) g e cap d:=
 ⟨h.row.fr ((Fr.refl (fun _=>False) w').alloc o) fun h=>h,h.fr.alloc o⟩
def Sw(w:World)(sb:Nat):Prop:= ∃x e,w.heap[sb]? =some (.cells #[.int .i64 x] e (0,0))
theorem agu{w:World}{g cap n sb:Nat}{e:TypeId}{d:Array Int}(H:Rw w g e cap d)(hn:d.size=n)(S:Sw w sb)(hne:sb≠g){a b:Nat}(ha:a < n)(hb:b < n){K:KV}
  (h: ∀w' x y,(x=a/\y=b\/x=b/\y=a)->Sw w' sb->Fr (fun b=>b=sb) w w'->K (.tuple #[.int .i64 (x:Nat),.int .i64 (y:Nat)]) w'):
  ie P F.hi [.slice (some ⟨g,0,none⟩) n cap,.int .i64 a,.int .i64 b,.pointer (some ⟨sb,0,none⟩)] w K:=by
 rw[M.fx.fcall]
 apply M.fx.calls
 unfold M.fx
 have a1:=H.at (show a < d.size by omega)
 have a2:=H.at (show b < d.size by omega)
 have b1:(a:Int) < n:=by omega
 have b2:(b:Int) < n:=by omega
 simp[b1,b2,a1,a2]
 refine qk _ _ ?_
 obtain⟨x,e',hx⟩:=S
 cases hl:ltInt d[b]! d[a]! with
 | false=>
  simp
  exact h _ a b (.inl ⟨rfl,rfl⟩) ⟨x,e',hx⟩ ((Fr.refl _ _).dr 1)
 | true=>
  have c0:=iq hx 0
  have f0:=lk hx 0
  simp only[List.size_toArray,List.getElem?_toArray,List.getElem?_cons_zero] at c0
  simp[c0,f0]
  exact h _ b a (.inr ⟨rfl,rfl⟩) ⟨IntKind.i64.wrap (x+1),e',afu hx⟩ (((Fr.refl (fun b=>b=sb) w).dr 1).setCell (.inl rfl) _ _)
theorem aoa{w:World}{g cap n sb:Nat}{e:TypeId}{d:Array Int}(H:Rw w g e cap d)(hn:d.size=n)(S:Sw w sb)(hne:sb≠g){a b c:Nat}(ha:a < n)(hb:b < n)(hc:c < n){K:KV}
  (h: ∀w' x,(x=a\/x=b\/x=c)->Sw w' sb->Fr (fun b=>b=sb) w w'->K (.int .i64 (x:Nat)) w'):
  ie P F.hj [.slice (some ⟨g,0,none⟩) n cap,.int .i64 a,.int .i64 b,.int .i64 c,.pointer (some ⟨sb,0,none⟩)] w K:=by
 rw[M.fy.fcall]
 apply M.fy.calls
 unfold M.fy
 refine agu H hn S hne ha hb fun w1 x1 y1 h1 S1 f1=>?_
 simp
 have H1:=H.fr f1 fun h=>hne h.symm
 refine agu H1 hn S1 hne (a:=y1) (b:=c) (by omega) hc fun w2 x2 y2 h2 S2 f2=>?_
 simp
 have H2:=H1.fr f2 fun h=>hne h.symm
 refine agu H2 hn S2 hne (a:=x1) (b:=x2) (by omega) (by omega) fun w3 x3 y3 h3 S3 f3=>?_
 simp
 exact h w3 y3 (by omega) S3 ((f1.trans f2).trans f3)
theorem aqz{w:World}{g cap n sb:Nat}{e:TypeId}{d:Array Int}(H:Rw w g e cap d)(hn:d.size=n)(h6:n < 100000)(S:Sw w sb)(hne:sb≠g){a:Nat}(ha:1<=a)(hb:a+1 < n){K:KV}
  (h: ∀w' x,(x=a - 1\/x=a\/x=a+1)->Sw w' sb->Fr (fun b=>b=sb) w w'->K (.int .i64 (x:Nat)) w'):
  ie P F.gv [.slice (some ⟨g,0,none⟩) n cap,.int .i64 a,.pointer (some ⟨sb,0,none⟩)] w K:=by
 rw[M.fg.fcall]
 apply M.fg.calls
 unfold M.fg
 have hw1:IntKind.i64.wrap ((a:Int) - 1)=((a - 1:Nat):Int):=by rw[iy];omega
 have hw2:IntKind.i64.wrap ((a:Int)+1)=((a+1:Nat):Int):=qg (by omega)
 simp only[nf,lx,hw1,hw2]
 refine aoa H hn S hne (by omega) (by omega) (by omega) fun w' x hx S' f'=>?_
 exact h w' x hx S' f'
theorem bbk{w:World}{g cap n:Nat}{e:TypeId}{d:Array Int}(H:Rw w g e cap d)(hn:d.size=n)(h6:n < 100000){a b:Nat}(hb:b<=n)(hab:a+12 < b){K:KV}
  (h: ∀w' (p hint:Nat),a<=p->p < b->hint<=2->Rf w w' g e cap d->K (.tuple #[.int .i64 (p:Nat),.int .i64 (hint:Nat)]) w'):
  jo P F.ht [.slice (some ⟨g,0,none⟩) n cap,.int .i64 a,.int .i64 b] w K:=by
 apply M.fc.calls
 unfold M.fc
 have hw0:IntKind.i64.wrap ((b:Int) - a)=((b - a:Nat):Int):=xv (by omega) (by omega)
 generalize hl:b - a=l at *
 have q4:IntKind.i64.wrap (((l:Nat):Int).tdiv 4)=((l / 4:Nat):Int):=by rw[Int.tdiv_eq_ediv_of_nonneg (by omega),iy];omega
 have m1:IntKind.i64.wrap (((l / 4:Nat):Int) * 1)=((l / 4:Nat):Int):=by rw[iy];omega
 have m2:IntKind.i64.wrap (((l / 4:Nat):Int) * 2)=((l / 4 * 2:Nat):Int):=by rw[iy];omega
 have m3:IntKind.i64.wrap (((l / 4:Nat):Int) * 3)=((l / 4 * 3:Nat):Int):=by rw[iy];omega
 have s1:IntKind.i64.wrap ((a:Int)+((l / 4:Nat):Int))=((a+l / 4:Nat):Int):=by rw[iy];omega
 have s2:IntKind.i64.wrap ((a:Int)+((l / 4 * 2:Nat):Int))=((a+l / 4 * 2:Nat):Int):=by rw[iy];omega
 have s3:IntKind.i64.wrap ((a:Int)+((l / 4 * 3:Nat):Int))=((a+l / 4 * 3:Nat):Int):=by rw[iy];omega
 have bq: ∀(x:Int)(t:TypeId)(rx ry:Operand)(w:World)(K:KV),ip P .quo t rx ry (.int .i64 x) (.int .i64 4) w K=K (.int .i64 (IntKind.i64.wrap (x.tdiv 4))) w:=fun x t rx ry w K=>als (by decide)
 have al: ∀(w:World)(K:KV),alT P T.d w K=K (.pointer (some ⟨w.heap.size,0,none⟩)) (w.alloc (.cells #[.int .i64 0] T.d)):=fun w K=>kr
 have c8:(8:Int)<=(l:Int):=by omega
 simp only[nf,lx,vm,bq,hw0,q4,m1,m2,m3,s1,s2,s3,al,qu,c8,decide_true,Eng.cond_true]
 clear q4 m1 m2 m3 s1 s2 s3 bq al c8 hw0
 have H0:=H.nc.new (.cells #[.int .i64 0] T.d)
 have S0:Sw (w.alloc (.cells #[.int .i64 0] T.d)) w.heap.size:=⟨0,T.d,by rw[iw,if_pos rfl]⟩
 have hne:w.heap.size≠g:=by have:=H.lt;omega
 generalize w.alloc (.cells #[.int .i64 0] T.d)=w0 at *
 have fin: ∀(w1:World)(p:Nat)(v1 v2:Value),a<=p->p < b->Rf w w1 g e cap d->Sw w1 w.heap.size->M.fc.j0 (.pointer (some ⟨w.heap.size,0,none⟩)) [v1,.int .i64 (p:Nat),v2] w1 K:=by
  intro w1 p v1 v2 hp1 hp2 H1 S1
  obtain⟨x,e',hx⟩:=S1
  unfold M.fc.j0
  have c0:=iq hx 0
  simp only[List.size_toArray,List.getElem?_toArray,List.getElem?_cons_zero] at c0
  have q1: ∀a b c:Value,gv [a,b,c] 1=b:=fun _ _ _=>rfl
  by_cases x0:x=0
  ·simp[c0,q1,x0]
   exact h w1 p 1 hp1 hp2 (by decide) H1
  by_cases x12:x=12
  ·simp[c0,q1,x12]
   exact h w1 p 2 hp1 hp2 (by decide) H1
  ·simp[c0,q1,x0,x12]
   exact h w1 p 0 hp1 hp2 (by decide) H1
 simp only[il]
 have ke: ∀(w1:World)(x y z:Nat),a<=x->x < b->a<=y->y < b->a<=z->z < b->Rf w w1 g e cap d->Sw w1 w.heap.size->
   ie P F.hj [.slice (some ⟨g,0,none⟩) n cap,gv [.int .i64 (x:Int),.int .i64 (y:Int),.int .i64 (z:Int)] 0,gv [.int .i64 (x:Int),.int .i64 (y:Int),.int .i64 (z:Int)] 1,gv [.int .i64 (x:Int),.int .i64 (y:Int),.int .i64 (z:Int)] 2,.pointer (some ⟨w.heap.size,0,none⟩)] w1 fun t48 w'=>
    M.fc.j0 (.pointer (some ⟨w.heap.size,0,none⟩)) [gv [.int .i64 (x:Int),.int .i64 (y:Int),.int .i64 (z:Int)] 0,t48,gv [.int .i64 (x:Int),.int .i64 (y:Int),.int .i64 (z:Int)] 2] w' K:=by
  intro w1 x y z hx1 hx2 hy1 hy2 hz1 hz2 H1 S1
  refine aoa H1.row hn S1 hne (a:=x) (b:=y) (c:=z) (by omega) (by omega) (by omega) fun w2 p hp S2 f2=>?_
  exact fin w2 p _ _ (by omega) (by omega) (H1.ahj f2 (Nat.le_refl _) hne) S2
 by_cases h50:50<=l
 ·have h50':(50:Int)<=(l:Int):=by omega
  simp only[h50',decide_true,Eng.cond_true]
  refine aqz H0.row hn h6 S0 hne (by omega) (by omega) fun w1 x hx S1 f1=>?_
  have H1:=H0.ahj f1 (Nat.le_refl _) hne
  refine aqz H1.row hn h6 S1 hne (by omega) (by omega) fun w2 y hy S2 f2=>?_
  have H2:=H1.ahj f2 (Nat.le_refl _) hne
  refine aqz H2.row hn h6 S2 hne (by omega) (by omega) fun w3 z hz S3 f3=>?_
  have H3:=H2.ahj f3 (Nat.le_refl _) hne
  exact ke w3 x y z (by omega) (by omega) (by omega) (by omega) (by omega) (by omega) H3 S3
 ·have h50': ¬(50:Int)<=(l:Int):=by omega
  simp only[h50',decide_false,Eng.cond_false]
  exact ke w0 (a+l / 4) (a+l / 4 * 2) (a+l / 4 * 3) (by omega) (by omega) (by omega) (by omega) (by omega) (by omega) H0 S0
def BpI(w:World)(g:Nat)(e:TypeId)(cap n a b idx0:Nat)(d:Array Int):KL:=fun x w1=> ∃(u:Value)(k:Nat)(d1:Array Int)(r:Int),x=[u,.int .i64 ((idx0+k:Nat):Int)]/\Rf w w1 g e cap d1/\d1.size=n/\k<=3/\PermIn a b d d1/\0<=r/\r < 18446744073709551616/\w1.heap[w.heap.size]? =some (.cells #[.int .u64 r] T.ag (0,0))
theorem bek{w:World}{g cap n:Nat}{e:TypeId}{d:Array Int}(H:Rw w g e cap d)(hn:d.size=n)(h6:n < 60000){a b:Nat}(hb:b<=n)(hab:a+12 < b){K:KV}
  (h: ∀w' d',PermIn a b d d'->Rf w w' g e cap d'->K (.tuple #[]) w'):
  jo P F.hs [.slice (some ⟨g,0,none⟩) n cap,.int .i64 a,.int .i64 b] w K:=by
 apply M.ev.calls
 unfold M.ev
 have hw0:IntKind.i64.wrap ((b:Int) - a)=((b - a:Nat):Int):=xv (by omega) (by omega)
 have hlb:a+(b - a)=b:=by omega
 generalize hl:b - a=l at *
 have bq: ∀(x:Int)(t:TypeId)(rx ry:Operand)(w:World)(K:KV),ip P .quo t rx ry (.int .i64 x) (.int .i64 4) w K=K (.int .i64 (IntKind.i64.wrap (x.tdiv 4))) w:=fun x t rx ry w K=>als (by decide)
 have q4:IntKind.i64.wrap (((l:Nat):Int).tdiv 4)=((l / 4:Nat):Int):=by rw[Int.tdiv_eq_ediv_of_nonneg (by omega),iy];omega
 have m2:IntKind.i64.wrap (((l / 4:Nat):Int) * 2)=((l / 4 * 2:Nat):Int):=by rw[iy];omega
 have s2:IntKind.i64.wrap ((a:Int)+((l / 4 * 2:Nat):Int))=((a+l / 4 * 2:Nat):Int):=by rw[iy];omega
 have s3:IntKind.i64.wrap (((a+l / 4 * 2:Nat):Int) - 1)=((a+l / 4 * 2 - 1+0:Nat):Int):=by rw[iy];omega
 have s4:IntKind.i64.wrap (((a+l / 4 * 2:Nat):Int)+1)=((a+l / 4 * 2+1:Nat):Int):=qg (by omega)
 have c8:(8:Int)<=(l:Int):=by omega
 have i64B:xf P T.d .i64=true:=by kernel_rfl
 have uB:xf P T.bs .u64=true:=by kernel_rfl
 have xB:xf P T.ag .u64=true:=by kernel_rfl
 simp only[nf,hw0,qu,c8,decide_true,Eng.cond_true]
 rw[ou i64B xB,ww (by omega)]
 have hx0:(w.alloc (.cells #[.int .u64 0] T.ag)).heap[w.heap.size]? =some (.cells #[.int .u64 0] T.ag (0,0)):=by rw[iw,if_pos rfl]
 have H0:=H.nc.new (.cells #[.int .u64 0] T.ag)
 have hne:w.heap.size≠g:=by have:=H.lt;omega
 have c0:=iq hx0 0
 have f0:=lk hx0 0
 simp only[List.size_toArray,List.getElem?_toArray,List.getElem?_cons_zero] at c0
 simp[c0,f0,-il]
 have hx1:((w.alloc (.cells #[.int .u64 0] T.ag)).setCell ⟨w.heap.size,0,none⟩ (.int .u64 l)).heap[w.heap.size]? =some (.cells #[.int .u64 l] T.ag (0,0)):=mh hx0
 have H1:=H0.ahj ((Fr.refl (fun b=>b=w.heap.size) _).setCell (.inl rfl) 0 (.int .u64 (l:Int))) (Nat.le_refl _) hne
 generalize (w.alloc (.cells #[.int .u64 0] T.ag)).setCell ⟨w.heap.size,0,none⟩ (.int .u64 (l:Int))=w1 at *
 rw[M.de.fcall]
 refine bgm (by omega) ?_
 have hp2:2 ^ bitsLen l<=2 * l:=two_pow_bitsLen_le (by omega)
 have hp1:0 < 2 ^ bitsLen l:=Nat.pow_pos (by decide)
 simp only[bq,q4,vm,m2,lx,s2,nf,s3]
 generalize 2 ^ bitsLen l=md at *
 generalize hi0:a+l / 4 * 2 - 1=i0 at *
 refine⟨BpI w g e cap n a b i0 d,fun x _=>i0+3 - ms x 1,⟨_,0,d,l,rfl,H1,hn,by omega,permIn_refl d a b,by omega,by omega,hx1⟩,?_⟩
 rintro x w2 ⟨u,k,d2,r,rfl,H2,hn2,hk,hP,hr0,hr1,hx2⟩
 unfold M.ev.j0
 simp only[il,bq,q4,vm,m2,lx,s2,s4,g21,aeh]
 by_cases hk3:k < 3
 ·have hle:((i0+k:Nat):Int)<=((a+l / 4 * 2+1:Nat):Int):=by omega
  simp only[hle,decide_true,Eng.cond_true]
  unfold M.ev.j1
  simp only[il,g21]
  rw[M.df.fcall]
  refine avk hx2 fun w3 y hy0 hy1 hx3 f3=>?_
  have H3:=H2.ahj f3 (Nat.le_refl _) hne
  obtain⟨z,rfl⟩: ∃z:Nat,y=z:=⟨y.toNat,by omega⟩
  have hm1:IntKind.u64.wrap ((md:Int) - 1)=((md - 1:Nat):Int):=by rw[lr (by omega) (by omega)];omega
  have hand:(BitVec.ofInt IntKind.u64.bits (z:Int) &&& BitVec.ofInt IntKind.u64.bits ((md - 1:Nat):Int)).toNat<=md - 1:=bka (x:=z) (y:=md - 1) (by omega) (by omega)
  simp only[nf,hm1,amh]
  generalize (BitVec.ofInt IntKind.u64.bits (z:Int) &&& BitVec.ofInt IntKind.u64.bits ((md - 1:Nat):Int)).toNat=o at *
  rw[ww (by omega),ou uB i64B,auf (by omega)]
  have tail: ∀(o:Nat),o < l->M.ev.j3 (.int .i64 a) [.int .i64 (o:Nat)] (.slice (some ⟨g,0,none⟩) n cap) [u,.int .i64 ((i0+k:Nat):Int)] (fun x2 w'=>BpI w g e cap n a b i0 d [gv x2 0,.int .i64 (IntKind.i64.wrap (((i0+k:Nat):Int)+1))] w'/\i0+3 - ms [gv x2 0,.int .i64 (IntKind.i64.wrap (((i0+k:Nat):Int)+1))] 1 < i0+3 - ms [u,.int .i64 ((i0+k:Nat):Int)] 1) w3 K:=by
   intro o ho
   unfold M.ev.j3
   have wr:IntKind.i64.wrap ((a:Int)+(o:Int))=((a+o:Nat):Int):=by rw[iy];omega
   have a1:=H3.row.at (show i0+k < d2.size by omega)
   have a2:=H3.row.at (show a+o < d2.size by omega)
   have b1:((i0+k:Nat):Int) < n:=by omega
   have b2:((a+o:Nat):Int) < n:=by omega
   have f1:=H3.row.frz (i0+k)
   have f2:=H3.row.frz (a+o)
   simp[g0,g21,wr,b1,b2,a1,a2,f1,f2,ka,lf,-Int.natCast_add]
   have hw5:IntKind.i64.wrap (((i0+k:Nat):Int)+1)=((i0+(k+1):Nat):Int):=by rw[iy];omega
   rw[hw5]
   refine⟨⟨_,k+1,_,z,rfl,(H3.dr 1).swp (by omega) (by omega),by rw[size_swp];exact hn2,by omega,permIn_trans _ _ _ a b hP (swp_permIn _ a b _ _ (by omega) (by omega) (by omega) (by omega) (by omega)),by omega,by omega,?_⟩,?_⟩
   ·rw[jv (by omega),jv (by omega)];exact hx3
   ·simp only[ms,g21];omega
  simp only[il,qu,lx]
  by_cases hol:l<=o
  ·have hol':(l:Int)<=o:=by omega
   have hwo:IntKind.i64.wrap ((o:Int) - l)=((o - l:Nat):Int):=xv (by omega) (by omega)
   simp only[hol',decide_true,Eng.cond_true,nf,hwo]
   exact tail (o - l) (by omega)
  ·have hol': ¬(l:Int)<=o:=by omega
   simp only[hol',decide_false,Eng.cond_false]
   exact tail o (by omega)
 ·have hle: ¬((i0+k:Nat):Int)<=((a+l / 4 * 2+1:Nat):Int):=by omega
  simp only[hle,decide_false,Eng.cond_false]
  exact h w2 d2 hP H2
end Go.Proofs.YtgepcfcicngceaaGreatDoor.SG
set_option maxRecDepth 100000
namespace Go.Proofs.YtgepcfcicngceaaGreatDoor.SG
open Go.Eng Go.Sort
variable [SE]
section
omit [SE] in
theorem f5(a0 a1 a2 a3 a4 a5 a6 a7 a8 a9 a10 a11 a12 a13:Value):gv [a0,a1,a2,a3,a4,a5,a6,a7,a8,a9,a10,a11,a12,a13] 5=a5:=rfl
omit [SE] in
theorem f13(a0 a1 a2 a3 a4 a5 a6 a7 a8 a9 a10 a11 a12 a13:Value):gv [a0,a1,a2,a3,a4,a5,a6,a7,a8,a9,a10,a11,a12,a13] 13=a13:=rfl
end
structure bmj(w w1:World)(g:Nat)(e:TypeId)(cap n a0 b0:Nat)(d0:Array Int)(a b limit:Nat)(wb wp:Bool)(d:Array Int):Prop where
 rf:Rf w w1 g e cap d
 sz:d.size=n
 ab:a<=b
 bb:b - a<=b0 - a0
 bn:b<=n
 be:Below ltInt a b d
 fin: ∀R,PermIn a b d R->SortedIn ltInt a b R->PermIn a0 b0 d0 R/\SortedIn ltInt a0 b0 R
def PdI(w:World)(g:Nat)(e:TypeId)(cap n a0 b0:Nat)(d0:Array Int):KL:=fun x w1=> ∃(u0 u2 u3 u4 u6 u7 u9 u10 u11:Value)(a b limit:Nat)(wb wp:Bool)(d:Array Int),
 x=[u0,.int .i64 (limit:Nat),u2,u3,u4,.int .i64 (a:Nat),u6,u7,.bool wp,u9,u10,u11,.bool wb,.int .i64 (b:Nat)]/\limit < 1000/\bmj w w1 g e cap n a0 b0 d0 a b limit wb wp d
def IH(m:Nat):Prop:= ∀{w:World}{g cap n:Nat}{e:TypeId}{d:Array Int}(_:Rw w g e cap d)(_:d.size=n)(_:n < 60000){a b limit:Nat}(_:b - a<=m)(_:a<=b)(_:b<=n)(_:limit < 1000)(_:Below ltInt a b d){K:KV}
  (_: ∀w' d',PermIn a b d d'->SortedIn ltInt a b d'->Rf w w' g e cap d'->K (.tuple #[]) w'),jo P F.hk [.slice (some ⟨g,0,none⟩) n cap,.int .i64 a,.int .i64 b,.int .i64 limit] w K
section
variable {m : Nat} {w : World} {g cap n : Nat} {e : TypeId} {d d5 : Array Int} {a0 b0 a b pv hint4 lim2 : Nat} {wb wp : Bool} {x0 : List Value} {K : KV}
theorem att(ih:IH m)(h6:n < 60000)(hm:b0 - a0<=m+1)(hbb:b - a<=b0 - a0)(hbn:b<=n)(hab:a<=b)(hpv1:a<=pv)(hpv2:pv < b)(hlim2:lim2 < 1000){w5:World}(H5:Rf w w5 g e cap d5)(hn5:d5.size=n)(B5:Below ltInt a b d5)
  (hfin5: ∀R,PermIn a b d5 R->SortedIn ltInt a b R->PermIn a0 b0 d R/\SortedIn ltInt a0 b0 R) (e5:gv x0 5= .int .i64 (a:Nat)) (e8:gv x0 8= .bool wp) (e12:gv x0 12= .bool wb) (e13:gv x0 13= .int .i64 (b:Nat)) (m5:ms x0 5=a) (m13:ms x0 13=b) (v0:Value):
  M.bv.j6 (.slice (some ⟨g,0,none⟩) n cap) [v0,.int .i64 (a:Nat)] x0 [.int .i64 (pv:Nat),.int .i64 (hint4:Nat)] (.int .i64 ((b - a:Nat):Int)) [.int .i64 (lim2:Nat)] (fun x' w'=>PdI w g e cap n a0 b0 d x' w'/\ms x' 13 - ms x' 5 < ms x0 13 - ms x0 5) w5 K:=by
 unfold M.bv.j6
 simp only[g20,g21,e13]
 rw[M.bk.fcall]
 refine aqc H5.row hn5 (by omega) hbn hpv1 hpv2 fun w7 H7=>?_
 have H7':=H5.trans H7
 obtain⟨r1,r2,r3,rBa,rBr,rL,rR⟩:=round_part swo_ltInt (partition_holds ltInt) hpv1 hpv2 (by omega) B5 (show partition ltInt d5 a b pv=((partition ltInt d5 a b pv).1,(partition ltInt d5 a b pv).2.1,(partition ltInt d5 a b pv).2.2) from rfl)
 generalize (partition ltInt d5 a b pv).1=mid at *
 generalize (partition ltInt d5 a b pv).2.1=ap at *
 generalize (partition ltInt d5 a b pv).2.2=d7 at *
 have hn7:d7.size=n:=by omega
 have wl:IntKind.i64.wrap ((mid:Int) - a)=((mid - a:Nat):Int):=xv (by omega) (by omega)
 have wr:IntKind.i64.wrap ((b:Int) - mid)=((b - mid:Nat):Int):=xv (by omega) (by omega)
 have wm:IntKind.i64.wrap ((mid:Int)+1)=((mid+1:Nat):Int):=qg (by omega)
 have bq: ∀(x:Int)(t:TypeId)(rx ry:Operand)(w:World)(K:KV),ip P .quo t rx ry (.int .i64 x) (.int .i64 8) w K=K (.int .i64 (IntKind.i64.wrap (x.tdiv 8))) w:=fun x t rx ry w K=>als (by decide)
 simp only[aap,aau,g0,nf,wl,wr,bq,mw,qu]
 by_cases hlt:mid - a < b - mid
 ·have hlt':((mid - a:Nat):Int) < ((b - mid:Nat):Int):=by omega
  simp only[hlt',decide_true,Eng.cond_true]
  rw[M.bv.fcall]
  refine ih H7.row hn7 h6 (by omega) r1 (by omega) hlim2 rBa fun w8 d8 P8 S8 H8=>?_
  obtain⟨hBL,hfinL⟩:=rL d8 P8 S8
  simp only[lx,wm]
  refine⟨⟨_,_,_,_,_,_,_,_,_,mid+1,b,lim2,_,ap,d8,rfl,hlim2,⟨H7'.trans H8,by rw[P8.1];exact hn7,by omega,by omega,hbn,hBL,fun R h1 h2=>?_⟩⟩,?_⟩
  ·obtain⟨k1,k2⟩:=hfinL R h1 h2
   exact hfin5 R k1 k2
  ·have: ∀y0 y1 y2 y3 y4 y6 y7 y8 y9 y10 y11 y12:Value,ms [y0,y1,y2,y3,y4,.int .i64 ((mid+1:Nat):Int),y6,y7,y8,y9,y10,y11,y12,.int .i64 (b:Nat)] 13=b/\ms [y0,y1,y2,y3,y4,.int .i64 ((mid+1:Nat):Int),y6,y7,y8,y9,y10,y11,y12,.int .i64 (b:Nat)] 5=mid+1:=fun _ _ _ _ _ _ _ _ _ _ _ _=>⟨rfl,rfl⟩
   rw[(this _ _ _ _ _ _ _ _ _ _ _ _).1,(this _ _ _ _ _ _ _ _ _ _ _ _).2,m5,m13];omega
 ·have hlt': ¬((mid - a:Nat):Int) < ((b - mid:Nat):Int):=by omega
  simp only[hlt',decide_false,Eng.cond_false,lx,wm]
  rw[M.bv.fcall]
  refine ih H7.row hn7 h6 (by omega) (by omega) hbn hlim2 rBr fun w8 d8 P8 S8 H8=>?_
  obtain⟨hBL,hfinL⟩:=rR d8 P8 S8
  refine⟨⟨_,_,_,_,_,_,_,_,_,a,mid,lim2,_,ap,d8,rfl,hlim2,⟨H7'.trans H8,by rw[P8.1];exact hn7,by omega,by omega,by omega,hBL,fun R h1 h2=>?_⟩⟩,?_⟩
  ·obtain⟨k1,k2⟩:=hfinL R h1 h2
   exact hfin5 R k1 k2
  ·have: ∀y0 y1 y2 y3 y4 y6 y7 y8 y9 y10 y11 y12:Value,ms [y0,y1,y2,y3,y4,.int .i64 (a:Nat),y6,y7,y8,y9,y10,y11,y12,.int .i64 (mid:Nat)] 13=mid/\ms [y0,y1,y2,y3,y4,.int .i64 (a:Nat),y6,y7,y8,y9,y10,y11,y12,.int .i64 (mid:Nat)] 5=a:=fun _ _ _ _ _ _ _ _ _ _ _ _=>⟨rfl,rfl⟩
   rw[(this _ _ _ _ _ _ _ _ _ _ _ _).1,(this _ _ _ _ _ _ _ _ _ _ _ _).2,m5,m13];omega
theorem blq(ih:IH m)(h6:n < 60000)(hm:b0 - a0<=m+1)(hbb:b - a<=b0 - a0)(hbn:b<=n)(hab:a<=b)(hpv1:a<=pv)(hpv2:pv < b)(hlim2:lim2 < 1000){w5:World}(H5:Rf w w5 g e cap d5)(hn5:d5.size=n)(B5:Below ltInt a b d5)
  (hfin5: ∀R,PermIn a b d5 R->SortedIn ltInt a b R->PermIn a0 b0 d R/\SortedIn ltInt a0 b0 R) (e5:gv x0 5= .int .i64 (a:Nat)) (e8:gv x0 8= .bool wp) (e12:gv x0 12= .bool wb) (e13:gv x0 13= .int .i64 (b:Nat)) (m5:ms x0 5=a) (m13:ms x0 13=b):
  M.bv.j5 x0 (.slice (some ⟨g,0,none⟩) n cap) [.int .i64 (pv:Nat),.int .i64 (hint4:Nat)] (fun x' w'=>PdI w g e cap n a0 b0 d x' w'/\ms x' 13 - ms x' 5 < ms x0 13 - ms x0 5) (.int .i64 ((b - a:Nat):Int)) [.int .i64 (lim2:Nat)] w5 K:=by
 unfold M.bv.j5
 simp only[il,pz,vu,e5,e13,g20,true_and,and_true,vj,zw]
 by_cases ha0:0 < a
 ·have ha0':(0:Int) < (a:Int):=by omega
  have hwa:IntKind.i64.wrap ((a:Int) - 1)=((a - 1:Nat):Int):=by rw[iy];omega
  have a1:=H5.row.at (show a - 1 < d5.size by omega)
  have a2:=H5.row.at (show pv < d5.size by omega)
  have b1:((a - 1:Nat):Int) < n:=by omega
  have b2:(pv:Int) < n:=by omega
  simp[ha0,ha0',hwa,a1,a2,b1,b2]
  refine qk _ _ ?_
  cases hl:ltInt d5[a - 1]! d5[pv]! with
  | true=>
   simp
   exact att ih h6 hm hbb hbn hab hpv1 hpv2 hlim2 (H5.dr 1) hn5 B5 hfin5 e5 e8 e12 e13 m5 m13 _
  | false=>
   simp
   rw[M.eb.fcall]
   refine aik (H5.dr 1).row hn5 (by omega) hbn hpv1 hpv2 fun w7 H7=>?_
   have H7':=(H5.dr 1).trans H7
   obtain⟨r1,r2,r3,rB,rF⟩:=round_eq swo_ltInt (partitionEqual_holds ltInt) ha0 hpv1 hpv2 (by omega) B5 hl (show partitionEqual ltInt d5 a b pv=((partitionEqual ltInt d5 a b pv).1,(partitionEqual ltInt d5 a b pv).2) from rfl)
   generalize (partitionEqual ltInt d5 a b pv).1=mid at *
   generalize (partitionEqual ltInt d5 a b pv).2=d7 at *
   have hn7:d7.size=n:=by omega
   refine⟨⟨_,_,_,_,_,_,_,_,_,mid,b,lim2,wb,wp,d7,by rw[e8,e12],hlim2,⟨H7',hn7,r2,by omega,hbn,rB,fun R h1 h2=>?_⟩⟩,?_⟩
   ·obtain⟨k1,k2⟩:=rF R h1 h2
    exact hfin5 R k1 k2
   ·have: ∀y0 y1 y2 y3 y4 y6 y7 y8 y9 y10 y11 y12:Value,ms [y0,y1,y2,y3,y4,.int .i64 (mid:Nat),y6,y7,y8,y9,y10,y11,y12,.int .i64 (b:Nat)] 13=b/\ms [y0,y1,y2,y3,y4,.int .i64 (mid:Nat),y6,y7,y8,y9,y10,y11,y12,.int .i64 (b:Nat)] 5=mid:=fun _ _ _ _ _ _ _ _ _ _ _ _=>⟨rfl,rfl⟩
    rw[(this _ _ _ _ _ _ _ _ _ _ _ _).1,(this _ _ _ _ _ _ _ _ _ _ _ _).2,m5,m13];omega
 ·have ha0': ¬(0:Int) < (a:Int):=by omega
  simp[ha0,ha0']
  exact att ih h6 hm hbb hbn hab hpv1 hpv2 hlim2 (H5.dr 1) hn5 B5 hfin5 e5 e8 e12 e13 m5 m13 _
theorem atb{d1:Array Int}(ih:IH m)(h6:n < 60000)(hm:b0 - a0<=m+1)(hbb:b - a<=b0 - a0)(hbn:b<=n)(hab:a<=b)(hlim2:lim2 < 1000)(h12: ¬b - a<=12)(hn1:d1.size=n)(hB1:Below ltInt a b d1)
  (hfin: ∀R,PermIn a b d1 R->SortedIn ltInt a b R->PermIn a0 b0 d R/\SortedIn ltInt a0 b0 R) (h: ∀w' d',PermIn a0 b0 d d'->SortedIn ltInt a0 b0 d'->Rf w w' g e cap d'->K (.tuple #[]) w')
  (e5:gv x0 5= .int .i64 (a:Nat)) (e8:gv x0 8= .bool wp) (e12:gv x0 12= .bool wb) (e13:gv x0 13= .int .i64 (b:Nat)) (m5:ms x0 5=a) (m13:ms x0 13=b) {w4:World} {d4:Array Int} (H4:Rf w w4 g e cap d4) (P4:PermIn a b d1 d4) (hpv1:a<=pv) (hpv2:pv < b):
  M.bv.j4 x0 [.int .i64 (pv:Nat),.int .i64 (hint4:Nat)] (.slice (some ⟨g,0,none⟩) n cap) (fun x' w'=>PdI w g e cap n a0 b0 d x' w'/\ms x' 13 - ms x' 5 < ms x0 13 - ms x0 5) (.int .i64 ((b - a:Nat):Int)) [.int .i64 (lim2:Nat)] w4 K:=by
 have hn4:d4.size=n:=by rw[P4.1];exact hn1
 have B4:=hB1.perm (by omega) P4
 have st5: ∀(w5:World)(d5:Array Int),Rf w w5 g e cap d5->PermIn a b d1 d5->
   M.bv.j5 x0 (.slice (some ⟨g,0,none⟩) n cap) [.int .i64 (pv:Nat),.int .i64 (hint4:Nat)] (fun x' w'=>PdI w g e cap n a0 b0 d x' w'/\ms x' 13 - ms x' 5 < ms x0 13 - ms x0 5) (.int .i64 ((b - a:Nat):Int)) [.int .i64 (lim2:Nat)] w5 K:=fun w5 d5 H5 P5=>
  blq ih h6 hm hbb hbn hab hpv1 hpv2 hlim2 H5 (by rw[P5.1];exact hn1) (hB1.perm (by omega) P5) (fun R h1 h2=>hfin R (permIn_trans _ _ _ a b P5 h1) h2) e5 e8 e12 e13 m5 m13
 unfold M.bv.j4
 simp only[il,e5,e8,e12,e13,zw,g21]
 cases wb with
 | false=>simp;exact st5 w4 d4 H4 P4
 | true=>
  cases wp with
  | false=>simp;exact st5 w4 d4 H4 P4
  | true=>
   by_cases hh1:hint4=1
   ·have hd:decide ((hint4:Int)=1)=true:=by rw[decide_eq_true_eq];omega
    simp only[zw,alf,abi,beq_self_eq_true,_root_.cond_true,zq,hd,Eng.cond_true]
    rw[M.ax.fcall]
    refine aoe H4.row hn4 (by omega) hbn (by omega) fun w5 H5=>?_
    have hpi:=partialInsertionSort_holds swo_ltInt d4 a b (by omega) (by omega) B4
    cases hr:(partialInsertionSort ltInt d4 a b).2 with
    | true=>
     simp
     obtain⟨p1,p2⟩:=hfin _ (permIn_trans _ _ _ a b P4 hpi.1) (hpi.2 hr)
     exact h w5 _ p1 p2 (H4.trans H5)
    | false=>
     simp
     exact st5 w5 _ (H4.trans H5) (permIn_trans _ _ _ a b P4 hpi.1)
   ·have hd:decide ((hint4:Int)=1)=false:=by rw[decide_eq_false_iff_not];omega
    simp only[zw,alf,abi,beq_self_eq_true,_root_.cond_true,zq,hd,Eng.cond_false]
    exact st5 w4 d4 H4 P4
theorem apl{d1:Array Int}(ih:IH m)(h6:n < 60000)(hm:b0 - a0<=m+1)(hbb:b - a<=b0 - a0)(hbn:b<=n)(hab:a<=b)(hlim2:lim2 < 1000)(h12: ¬b - a<=12)(hn1:d1.size=n)(hB1:Below ltInt a b d1)
  (hfin: ∀R,PermIn a b d1 R->SortedIn ltInt a b R->PermIn a0 b0 d R/\SortedIn ltInt a0 b0 R) (h: ∀w' d',PermIn a0 b0 d d'->SortedIn ltInt a0 b0 d'->Rf w w' g e cap d'->K (.tuple #[]) w')
  (e5:gv x0 5= .int .i64 (a:Nat)) (e8:gv x0 8= .bool wp) (e12:gv x0 12= .bool wb) (e13:gv x0 13= .int .i64 (b:Nat)) (m5:ms x0 5=a) (m13:ms x0 13=b) {w2:World} {d2:Array Int} (H2:Rf w w2 g e cap d2) (P2:PermIn a b d1 d2):
  M.bv.j3 (.slice (some ⟨g,0,none⟩) n cap) x0 (fun x' w'=>PdI w g e cap n a0 b0 d x' w'/\ms x' 13 - ms x' 5 < ms x0 13 - ms x0 5) (.int .i64 ((b - a:Nat):Int)) [.int .i64 (lim2:Nat)] w2 K:=by
 have hn2:d2.size=n:=by rw[P2.1];exact hn1
 have B2:=hB1.perm (by omega) P2
 unfold M.bv.j3
 simp only[e5,e13,il]
 rw[M.fc.fcall]
 refine bbk H2.row hn2 (by omega) hbn (by omega) fun w3 p hint hp1 hp2 hh H3=>?_
 have H3':=H2.trans H3
 simp only[aap,aau,zq]
 by_cases hh2:hint=2
 ·have hh2':(hint:Int)=2:=by omega
  simp only[hh2',decide_true,Eng.cond_true]
  rw[M.fi.fcall]
  refine awj H3.row hn2 (by omega) hbn (by omega) fun w4 H4=>?_
  have hrev:=reverseRange_holds d2 a b hab (by omega)
  have w1':IntKind.i64.wrap ((b:Int) - 1)=((b - 1:Nat):Int):=by rw[iy];omega
  have w2':IntKind.i64.wrap ((p:Int) - a)=((p - a:Nat):Int):=xv (by omega) (by omega)
  have w3':IntKind.i64.wrap (((b - 1:Nat):Int) - ((p - a:Nat):Int))=((b - 1 - (p - a):Nat):Int):=xv (by omega) (by omega)
  simp only[nf,w1',w2',w3']
  exact atb (hint4:=1) ih h6 hm hbb hbn hab hlim2 h12 hn1 hB1 hfin h e5 e8 e12 e13 m5 m13 (H3'.trans H4) (permIn_trans _ _ _ a b P2 hrev) (by omega) (by omega)
 ·have hh2': ¬(hint:Int)=2:=by omega
  simp only[hh2',decide_false,Eng.cond_false]
  exact atb ih h6 hm hbb hbn hab hlim2 h12 hn1 hB1 hfin h e5 e8 e12 e13 m5 m13 H3' P2 hp1 hp2
end
theorem bjv: ∀(m:Nat),IH m:=by
 intro m
 induction m with
 | zero=>
  intro w g cap n e d H hn h6 a b limit hm hab hb hlim hB K h
  -- nothing to sort
  have hba:b=a:=by omega
  subst hba
  apply M.bv.calls
  unfold M.bv
  refine⟨fun x w1=>x=[undef,.int .i64 (limit:Nat),undef,undef,undef,.int .i64 (b:Nat),undef,undef,.bool true,undef,undef,undef,.bool true,.int .i64 (b:Nat)]/\w1=w,fun _ _=>0,⟨rfl,rfl⟩,?_⟩
  rintro x w1 ⟨rfl,rfl⟩
  unfold M.bv.j0
  have hw0:IntKind.i64.wrap ((b:Int) - b)=0:=by rw[iy];omega
  simp only[f13,f5,nf,hw0,il,aeh]
  rw[M.ea.fcall]
  simp
  refine ahs H hn (by omega) hb hb fun w2 H2=>?_
  have hi:=insertionSort_holds swo_ltInt d b b (Nat.le_refl _) (by omega)
  exact h w2 _ hi.1 hi.2 H2
 | succ m ih=>
  intro w g cap n e d H hn h6 a0 b0 limit0 hm hab0 hb0 hlim0 hB K h
  apply M.bv.calls
  unfold M.bv
  refine⟨PdI w g e cap n a0 b0 d,fun x _=>ms x 13 - ms x 5,⟨_,_,_,_,_,_,_,_,_,a0,b0,limit0,true,true,d,rfl,hlim0,⟨H.nc,hn,hab0,Nat.le_refl _,hb0,hB,fun R h1 h2=>⟨h1,h2⟩⟩⟩,?_⟩
  rintro x w1 ⟨u0,u2,u3,u4,u6,u7,u9,u10,u11,a,b,limit,wb,wp,d1,rfl,hlim,⟨H1,hn1,hab,hbb,hbn,hB1,hfin⟩⟩
  generalize hx0:[u0,.int .i64 (limit:Nat),u2,u3,u4,.int .i64 (a:Nat),u6,u7,.bool wp,u9,u10,u11,.bool wb,.int .i64 (b:Nat)]=x0
  have e1:gv x0 1= .int .i64 (limit:Nat):=by rw[<-hx0];rfl
  have e5:gv x0 5= .int .i64 (a:Nat):=by rw[<-hx0];rfl
  have e8:gv x0 8= .bool wp:=by rw[<-hx0];rfl
  have e12:gv x0 12= .bool wb:=by rw[<-hx0];rfl
  have e13:gv x0 13= .int .i64 (b:Nat):=by rw[<-hx0];rfl
  have m5:ms x0 5=a:=by simp[ms,e5]
  have m13:ms x0 13=b:=by simp[ms,e13]
  clear hx0
  have hw0:IntKind.i64.wrap ((b:Int) - a)=((b - a:Nat):Int):=xv (by omega) (by omega)
  unfold M.bv.j0
  simp only[e13,e5,nf,hw0,il,aeh]
  by_cases h12:b - a<=12
  ·have h12':((b - a:Nat):Int)<=12:=by omega
   simp only[h12',decide_true,Eng.cond_true]
   rw[M.ea.fcall]
   refine ahs H1.row hn1 (by omega) hbn (by omega) fun w2 H2=>?_
   have hi:=insertionSort_holds swo_ltInt d1 a b hab (by omega)
   obtain⟨p1,p2⟩:=hfin _ hi.1 hi.2
   exact h w2 _ p1 p2 (H1.trans H2)
  have h12': ¬((b - a:Nat):Int)<=12:=by omega
  simp only[h12',decide_false,Eng.cond_false]
  unfold M.bv.j1
  simp only[e1,e5,e13,il,zq]
  by_cases hl0:limit=0
  ·have hl0':(limit:Int)=0:=by omega
   simp only[hl0',decide_true,Eng.cond_true]
   rw[M.du.fcall]
   refine asq H1.row hn1 (by omega) hbn (by omega) fun w2 H2=>?_
   have hi:=heapSort_holds swo_ltInt d1 a b hab (by omega)
   obtain⟨p1,p2⟩:=hfin _ hi.1 hi.2
   exact h w2 _ p1 p2 (H1.trans H2)
  have hl0': ¬(limit:Int)=0:=by omega
  simp only[hl0',decide_false,Eng.cond_false]
  unfold M.bv.j2
  simp only[e12,e1,e5,e13,il,ayh]
  cases wb with
  | true=>
   simp
   exact apl ih h6 hm hbb hbn hab hlim h12 hn1 hB1 hfin h e5 e8 e12 e13 m5 m13 H1 (permIn_refl d1 a b)
  | false=>
   simp
   rw[M.ev.fcall]
   refine bek H1.row hn1 h6 hbn (by omega) fun w2 d2 P2 H2=>?_
   have wl:IntKind.i64.wrap ((limit:Int) - 1)=((limit - 1:Nat):Int):=by rw[iy];omega
   simp only[wl]
   exact apl ih h6 hm hbb hbn hab (by omega) h12 hn1 hB1 hfin h e5 e8 e12 e13 m5 m13 (H1.trans H2) P2
theorem alx{w:World}{g cap n:Nat}{e:TypeId}{d:Array Int}(H:Rw w g e cap d)(hn:d.size=n)(h6:n < 60000){K:KV}
  (h: ∀w',Rf w w' g e cap (d.toList.mergeSort fun x y=>decide (x<=y)).toArray->K (.tuple #[]) w'):jo P F.hv [.slice (some ⟨g,0,none⟩) n cap] w K:=by
 apply M.fh.calls
 unfold M.fh
 have i64B:xf P T.d .i64=true:=by kernel_rfl
 have uB:xf P T.bs .u64=true:=by kernel_rfl
 simp
 rw[ou i64B uB,ww (by omega),M.dr.fcall]
 refine aih (by omega) ?_
 rw[M.bv.fcall]
 have hlen:bitsLen n<=16:=(bitsLen_le_iff n 16).2 (by omega)
 refine bjv n (a:=0) H hn h6 (by omega) (Nat.zero_le _) (Nat.le_refl _) (by omega) (.inl rfl) fun w' d' h1 h2 H'=>?_
 have hs:d'.toList=d.toList.mergeSort (fun x y=>decide (x<=y)):=by
  have:=sorted_unique_holds swo_ltInt (fun x y h1 h2=>by simp[ltInt] at h1 h2;omega) d d' (by rw[hn];exact h1) (by rw[hn];exact h2)
  rw[this]
  congr 1
  funext x y
  simp only[ltInt]
  by_cases hxy:x<=y
  ·simp[hxy]
  ·have:y < x:=by omega
   simp[hxy,this]
 refine h w' ?_
 rw[<-hs]
 exact H'
theorem ajl{w:World}{K:KV}(h:K (.tuple #[]) w):jo P F.hv [.slice none 0 0] w K:=by
 apply M.fh.calls
 unfold M.fh
 have i64B:xf P T.d .i64=true:=by kernel_rfl
 have uB:xf P T.bs .u64=true:=by kernel_rfl
 simp
 rw[ou i64B uB,show IntKind.u64.wrap 0=((0:Nat):Int) from by decide,M.dr.fcall]
 refine aih (by omega) ?_
 rw[M.bv.fcall]
 apply M.bv.calls
 unfold M.bv
 refine⟨fun x w1=>gv x 5= .int .i64 0/\gv x 13= .int .i64 0/\w1=w,fun _ _=>0,⟨rfl,rfl,rfl⟩,?_⟩
 rintro x w1 ⟨e5,e13,rfl⟩
 unfold M.bv.j0
 have w0:IntKind.i64.wrap 0=0:=by decide
 simp[e5,e13,w0]
 rw[M.ea.fcall]
 apply M.ea.calls
 unfold M.ea
 have w1':IntKind.i64.wrap 1=1:=by decide
 simp[w1']
 refine⟨fun x w2=>gv x 1= .int .i64 1/\w2=w1,fun _ _=>0,⟨rfl,rfl⟩,?_⟩
 rintro x w2 ⟨e1,rfl⟩
 unfold M.ea.j0
 simp[e1]
 exact h
end Go.Proofs.YtgepcfcicngceaaGreatDoor.SG
set_option maxRecDepth 100000
namespace Go.Proofs.YtgepcfcicngceaaGreatDoor.Suint64
open Go.Eng Go.Sort
abbrev Rw(w:World)(g:Nat)(e:TypeId)(cap:Nat)(d:Array Int):Prop:= @SG.Rw seU w g e cap d
abbrev Rf(w w':World)(g:Nat)(e:TypeId)(cap:Nat)(d:Array Int):Prop:= @SG.Rf seU w w' g e cap d
theorem bkj{w w':World}{g:Nat}{e:TypeId}{cap:Nat}{d:Array Int}(h:Rf w w' g e cap d):Rw w' g e cap d:= @SG.Rf.row seU _ _ _ _ _ _ h
theorem blv{w w':World}{g:Nat}{e:TypeId}{cap:Nat}{d:Array Int}(h:Rf w w' g e cap d):Fr (fun b=>b=g) w w':= @SG.Rf.fr seU _ _ _ _ _ _ h
abbrev alu(x:Int):Value:= .int .u64 x
abbrev rk(x:Int):List Value:=[.int .u64 x]
abbrev OwN(w:World)(base:Nat)(v:Value)(l:List Int):Prop:=Ow w base T.a 1 rk v l
theorem bjp:bjo P T.g T.a alu rk 1 8 where
 et:=et.g
 by5:=by decide
 ld:=fun b i w K=>kr
 st:=fun b i a n c w K=>kr
 bs:=fun x w K=>kr
 len:=fun _=>rfl
 one:=fun _ u hu=>by simp at hu;subst hu;rfl
 ne:=by decide
theorem ava {g:FuncId} {gn:Func} (hg:P.funcs[g]? =some gn) (hgn:(gn.name == "runtime.NumGoroutine")=false) (hgb:gn.body.isNone=false) {cap:List Value} {w:World} {Out:List Int->Prop} (hs:apg P g cap alu Out 60000 w) {K:KV}
  (h: ∀w' v xs,Out xs->OwN w' w.heap.size v xs->Fz w w'->K v w'):jo P F.ct [.func (.func g) #[] cap.toArray] w K:=by
 apply M.dd.calls
 unfold M.dd
 have hf: ∀(args:List Value)(w:World)(K:KV),ie P F.m args w K=jo P F.m args w K:=fun args w K=>agv FN.m.at (by kernel_rfl) (by kernel_rfl) args w K
 rw[hf]
 exact arb (tQ:=T.bz) (bdq bjp) bjp.ld FN.m.at (by kernel_rfl) (by kernel_rfl) (by kernel_rfl) hg hgn hgb hs h
theorem Ow.rw{w:World}{base g n cap:Nat}{l:List Int}(h:OwN w base (.slice (some ⟨g,0,none⟩) n cap) l):n=l.length/\base<=g/\cap<=maxLen/\Rw w g T.a cap l.toArray:=by
 rcases h.2 with⟨h0,_⟩|⟨g',cap',cur,hv,hb,hc,h1,h2,h3,h4⟩
 ·cases h0
 ·injection hv with q1 q2 q3
  injection q1 with q1
  injection q1 with q1
  subst q1 q2 q3
  refine⟨rfl,hb,h2,cur,hc,by simpa using h3,by simpa using h1,fun j hj=>?_⟩
  show cur[j]? =some (.int .u64 l.toArray[j]!)
  have hj':j < l.length:=by simpa using hj
  have h5:(cur.toList.take (l.length * 1))[j]? =(l.flatMap rk)[j]? :=by rw[h4]
  rw[List.getElem?_take_of_lt (by omega)] at h5
  have h6:(l.flatMap rk)[j]? =some (.int .u64 l[j]):=by
   have:=abo (enc:=rk) (sz:=1) (fun _=>rfl) l j l[j] 0 (.int .u64 l[j]) (List.getElem?_eq_getElem hj') rfl
   simpa using this
  rw[h6] at h5
  simpa [hj'] using h5
theorem alp: ∀l:List Int,l.flatMap rk=l.map alu
 | []=>rfl
 | x :: l=>by rw[List.flatMap_cons,alp l];rfl
theorem blp{w:World}{base g cap:Nat}{l:List Int}(hb:base<=g)(hm:cap<=maxLen)(h:Rw w g T.a cap l.toArray):OwN w base (.slice (some ⟨g,0,none⟩) l.length cap) l:=by
 obtain⟨cur,h1,h2,h3,h4'⟩:=h
 have h4: ∀j,j < l.toArray.size->cur[j]? =some (.int .u64 l.toArray[j]!):=h4'
 refine⟨by rw[alp];simp,.inr ⟨g,cap,cur,rfl,hb,h1,by simpa using h3,hm,by simpa using h2,?_⟩⟩
 rw[alp]
 apply List.ext_getElem?
 intro j
 by_cases hj:j < l.length
 ·rw[List.getElem?_take_of_lt (by omega)]
  have:=h4 j (by simpa using hj)
  simp[hj] at this⊢
  exact this
 ·rw[List.getElem?_take_eq_none (by omega),List.getElem?_eq_none (by simp;omega)]
theorem ajl{w:World}{K:KV}(h:K (.tuple #[]) w):jo P F.g [.slice none 0 0] w K:= @SG.ajl seU w K h
theorem alx{w:World}{g cap n:Nat}{e:TypeId}{d:Array Int}(H:Rw w g e cap d)(hn:d.size=n)(h6:n < 60000){K:KV}
  (h: ∀w',Rf w w' g e cap (d.toList.mergeSort fun x y=>decide (x<=y)).toArray->K (.tuple #[]) w'):jo P F.g [.slice (some ⟨g,0,none⟩) n cap] w K:= @SG.alx seU w g cap n e d H hn h6 K h
def tk(l:List Int):List Int:=l.mergeSort fun x y=>decide (x<=y)
theorem adi(l:List Int):(tk l).Perm l:=List.mergeSort_perm ..
theorem agy{l l':List Int}(h:l.Perm l'):tk l=tk l':=by
 unfold tk
 have hs: ∀l:List Int,(l.mergeSort fun x y=>decide (x<=y)).Pairwise fun a b=>decide (a<=b)=true:=fun l=>List.pairwise_mergeSort (fun a b c h1 h2=>by simp at *;omega) (fun a b=>by simp;omega) l
 exact List.Perm.eq_of_pairwise (fun a b _ _ h1 h2=>by simp at h1 h2;omega) (hs l) (hs l') (((List.mergeSort_perm ..).trans h).trans (List.mergeSort_perm ..).symm)
theorem ank {g:FuncId} {gn:Func} (hg:P.funcs[g]? =some gn) (hgn:(gn.name == "runtime.NumGoroutine")=false) (hgb:gn.body.isNone=false) {cap:List Value} {w:World} {ks:List Int} (hk:ks.length < 60000) (hs:apg P g cap alu (fun xs=>xs.Perm ks) 60000 w) {K:KV}
  (h: ∀w' v,OwN w' w.heap.size v (tk ks)->Fz w w'->K v w'):jo P F.ao [.func (.func g) #[] cap.toArray] w K:=by
 apply M.cw.calls
 unfold M.cw
 rw[M.dd.fcall]
 refine ava hg hgn hgb hs fun w1 v xs hx o1 f1=>?_
 rw[M.ga.fcall]
 have hlen:=hx.length_eq
 rcases o1.2 with⟨rfl,h0⟩|⟨g1,cap1,cur,rfl,hb1,_⟩
 ·refine ajl ?_
  have hx0:xs=[]:=List.length_eq_zero_iff.1 h0
  have hk0:ks=[]:=List.length_eq_zero_iff.1 (by rw[<-hlen,hx0];rfl)
  refine h w1 _ ?_ f1
  subst hk0
  rw[show tk []=[] from by simp[tk]]
  exact Ow.none
 ·obtain⟨_,hbg,hcm,hrw⟩:=Ow.rw o1
  refine alx hrw (by simp) (by omega) fun w2 H2=>?_
  have hp:tk xs=tk ks:=agy hx
  have hl:(tk xs).length=xs.length:=(adi xs).length_eq
  refine h w2 _ ?_ (f1.jt (blv H2) fun b hb he=>by omega)
  rw[<-hp]
  have:=blp (base:=w.heap.size) (l:=tk xs) hbg hcm (bkj H2)
  rw[hl] at this
  exact this
end Go.Proofs.YtgepcfcicngceaaGreatDoor.Suint64
set_option maxRecDepth 100000
namespace Go.Proofs.YtgepcfcicngceaaGreatDoor.KeyV
open Go.Eng Go.Sort Go.Proofs.YtgepcfcicngceaaGreatDoor.Suint64
end Go.Proofs.YtgepcfcicngceaaGreatDoor.KeyV
set_option maxRecDepth 100000
namespace Go.Proofs.YtgepcfcicngceaaGreatDoor.CM
open Go.Eng
end Go.Proofs.YtgepcfcicngceaaGreatDoor.CM
set_option maxRecDepth 100000
namespace Go.Proofs.YtgepcfcicngceaaGreatDoor
open Go.Eng
def ws(x y:Int):Int:=if x < y then -1 else if y < x then 1 else 0
theorem aiw{w:World}(x y:Int){K:KV}(h:K (.int .i64 (ws x y)) w):ie P F.ax [.int .u64 x,.int .u64 y] w K:=by
 rw[M.bc.fcall]
 apply M.bc.calls
 unfold M.bc
 have nan: ∀(z:Int){K:KV},K (.bool false) w->ie P F.ae [.int .u64 z] w K:=fun z K hK=>by
  rw[M.cy.fcall]
  apply M.cy.calls
  unfold M.cy
  simp;exact hK
 refine nan x ?_
 refine nan y ?_
 simp
 unfold M.bc.j2 ws at *
 by_cases h1:x < y
 ·simp[h1] at h⊢;exact h
 ·by_cases h2:y < x
  ·simp[h1,h2] at h⊢;exact h
  ·simp[h1,h2] at h⊢;exact h
def ara(x:Int):List Value:=[.int .i64 x]
def O2I(w:World)(x y:Int):KL:=fun z w1=>w1=w/\∃(u0 u1:Value)(i:Nat),z=[u0,u1,.int .i64 (i:Nat)]/\i<=2/\(0 < i->x=0)/\(1 < i->y=0)
theorem bki{w:World}{v:Value}{x y:Int}(hs:Sl w 1 ara v [x,y]){K:KV}(h:K (.int .i64 (if x≠0 then x else y)) w):ie P F.fj [v] w K:=by
 rw[M.dl.fcall]
 apply M.dl.calls
 unfold M.dl
 simp only[il]
 rw[hs.jq (by kernel_rfl)]
 refine⟨O2I w x y,fun z _=>2 - ms z 2,⟨rfl,_,_,0,rfl,by omega,fun h=>by omega,fun h=>by omega⟩,?_⟩
 rintro z w1 ⟨rfl,u0,u1,i,rfl,hi,hx,hy⟩
 have q2:gv [u0,u1,.int .i64 (i:Nat)] 2= .int .i64 (i:Nat):=rfl
 simp only[q2]
 obtain⟨a,cap,hv,_,_,hc⟩:=id hs
 obtain⟨b,o,rfl,_,e0⟩:=hc 0 x rfl
 obtain⟨b',o',hbo,_,e1⟩:=hc 1 y rfl
 injection hbo with hbo
 injection hbo with h1 h2
 subst h1 h2
 have c0:=e0 0 _ rfl
 have c1:=e1 0 _ rfl
 simp only[Nat.zero_mul,Nat.add_zero,Nat.one_mul] at c0 c1
 unfold M.dl.j2
 have hv2:v= .slice (some ⟨b,o,none⟩) 2 cap:=hv
 subst hv2
 have w1':IntKind.i64.wrap ((0:Int)+1)=((1:Nat):Int):=by rw[iy];rfl
 have w2':IntKind.i64.wrap ((1:Int)+1)=((2:Nat):Int):=by rw[iy];rfl
 have w1'':IntKind.i64.wrap 1=1:=iy
 have w2'':IntKind.i64.wrap 2=2:=iy
 match i,hi,hx,hy with
 | 0,_,_,_=>
  by_cases hx0:x=0
  ·subst hx0
   simp[q2,c0,w1'']
   exact⟨⟨rfl,_,_,1,rfl,by omega,fun _=>rfl,fun h=>by omega⟩,by simp[ms,gv]⟩
  ·simp[hx0] at h
   simp[q2,c0,hx0]
   exact h
 | 1,_,hx,_=>
  have hx0:=hx (by omega)
  subst hx0
  simp at h
  by_cases hy0:y=0
  ·subst hy0
   simp[q2,c1,w2'']
   exact⟨⟨rfl,_,_,2,rfl,by omega,fun _=>rfl,fun _=>rfl⟩,by simp[ms,gv]⟩
  ·simp[q2,c1,hy0]
   exact h
 | 2,_,hx,hy=>
  have hx0:=hx (by omega)
  have hy0:=hy (by omega)
  subst hx0 hy0
  simp at h
  simp[q2]
  exact h
set_option maxRecDepth 100000
def aew(A:List Mem)(k:Int):Option Mem:=A.find? fun x=>decide (x.id=k)
abbrev zx(v:Value)(l:List Mem):Asn:=pc T.n 3 acn v l
section
variable {w0 w : World} {R : List Asn} {r : Nat} {A L : List Mem} {tv : Value}
theorem arg{m:MP}(S:St w0 w (jh r .u64 m :: R)):kx w r .u64 m/\(jm m).Nodup:=by
 obtain⟨B,h1,_⟩:=S.open
 exact h1.1
theorem biv{m:MP}(S:St w0 w (jh r .u64 m :: R)){o:Obj}{k:Int}{v:Value}(h:kx (World.setObj w r o) r .u64 (ub m k v)):St w0 (World.setObj w r o) (jh r .u64 (ub m k v) :: R):=by
 obtain⟨B,⟨k1,k2⟩,hB,cl⟩:=S.open
 refine cl (World.setObj w r o) [jh r .u64 (ub m k v)] ((Fr.refl B w).setObj (.inl k2) o) (Rs.one (B:=B) ⟨⟨h,?_⟩,k2⟩ fun b hb=> .inl hb)
 rw[abn]
 split
 ·exact k1.2
 ·rename_i hx
  rw[List.nodup_append]
  exact⟨k1.2,by simp,fun a ha b hb' hab=>by
   simp at hb'
   exact hx (by rw[<-hb',<-hab];exact ha)⟩
end
theorem apy(l:List Mem):vf l=0\/vf l=6:=by
 unfold vf
 split
 ·exact .inl rfl
 ·split <;>simp
section
variable {w0 w : World} {R : List Asn} {r : Nat} {A L : List Mem} {tv : Value}
end
theorem aed{α:Type}{sz:Nat}{enc:α->List Value}{v:Value}{l:List α}{w0 w:World}{L:List Asn}(S:St w0 w L)(h:rdA sz enc v l∈L):Sl w sz enc v l:=by
 obtain⟨s,t,rfl⟩:=List.append_of_mem h
 exact (S.perm List.perm_middle).rd
structure ahy(l:List Mem):Prop where
 bjr:(l.map Mem.id).Pairwise (· < ·)
 pos: ∀m∈l,0 < m.id
 odd: ∀m∈l,xw m=false
 few:l.length<=16
theorem bao(l:List Mem): ∀ke,wv ke l=true↔(l.map Mem.id).Pairwise (· < ·)/\∀m∈l,ke < m.id:=by
 induction l with
 | nil=>intro ke;simp[wv]
 | cons x l ih=>
  intro ke
  unfold wv
  rw[Bool.and_eq_true,ih x.id,List.map_cons,List.pairwise_cons]
  constructor
  ·rintro⟨h1,h2,h3⟩
   have h1:ke < x.id:=by simpa using h1
   refine⟨⟨fun k hk=>?_,h2⟩,fun m hm=>?_⟩
   ·obtain⟨m,hm,rfl⟩:=List.mem_map.1 hk
    exact h3 m hm
   ·rcases List.mem_cons.1 hm with rfl|hm
    ·exact h1
    ·have:=h3 m hm;omega
  ·rintro⟨⟨h1,h2⟩,h3⟩
   exact⟨by simpa using h3 x (by simp),h2,fun m hm=>h1 _ (List.mem_map_of_mem hm)⟩
theorem afc(l:List Mem):vf l=0↔ahy l:=by
 unfold vf
 by_cases h0:l=[]
 ·subst h0
  simp
  exact⟨by simp,by simp,by simp,by simp⟩
 ·rw[if_neg h0]
  have hpos:0 < l.length:=List.length_pos_iff.2 h0
  have:(if vw l=true then (0:Int) else 6)=0↔vw l=true:=by split <;>simp_all
  rw[this]
  unfold vw
  rw[Bool.and_eq_true,Bool.and_eq_true,Bool.and_eq_true,bao]
  constructor
  ·rintro⟨⟨⟨h1,h2⟩,h3,h4⟩,h5⟩
   refine⟨h1,h2,fun m hm=>?_,by simpa using h4⟩
   have:l.any xw=false:=by simpa using h5
   rw[List.any_eq_false] at this
   simpa using this m hm
  ·rintro⟨h1,h2,h3,h4⟩
   refine⟨⟨⟨h1,h2⟩,by simpa using hpos,by simpa using h4⟩,?_⟩
   have:l.any xw=false:=by
    rw[List.any_eq_false]
    intro m hm;rw[h3 m hm];simp
   rw[this];rfl
theorem bkg{w0 w:World}{b:Nat}{c:Array Value}(z:Mem)(hb:w.heap[b]? =some (.cells c T.n (0,0)))(hc:c.size=3)(hn:w0.heap.size<=b)(hf:Fz w0 w){Q:World->Prop}
  (h: ∀w',Fz w0 w'->w'.heap[b]? =some (.cells (acn z).toArray T.n (0,0))->Q w'):stN P b 0 [.int .u64 z.id,.int .u64 z.inc,.int .i64 z.st] w fun _ w=>Q w:=by
 refine jw (vs:=[.int .u64 z.id,.int .u64 z.inc,.int .i64 z.st]) hb hc.symm (by simp) fun w3 b3 f3=>?_
 exact h w3 (hf.jt f3 fun y hy he=>by subst he;omega) b3
theorem bjq{w:World}{b:Nat}{z:Mem}(hb:w.heap[b]? =some (.cells (acn z).toArray T.n (0,0)))(K:KV):ldN P 3 b 0 w K=K (qa z) w:=
 ldM (m:=z) (i:=0) (fun k v hk=>by rw[iq hb,Nat.zero_add,List.getElem?_toArray];exact hk) K
structure Nd where
 id:Int
 lz:Int
 jn:Int
 now:Int
 due:Int
 left:Bool
 v:List Mem
 h:MP
def hat(h:MP)(k:Int):Int:=match ki h k with
 | some (.int _ t)=>t
 | _=>0
def ahe(now jn:Int)(h:MP)(m:Mem):Int:=
 if m.st=0 then (if jn<=IntKind.u64.wrap (now - hat h m.id) then 1 else 0) else if m.st=1 then (if IntKind.u64.wrap (now - hat h m.id) < 2 * jn then 1 else 2) else m.st
def sf(id now jn:Int)(h:MP)(m:Mem):Mem:=if m.id=id then m else ⟨m.id,m.inc,ahe now jn h m⟩
def Nd.new(nc inc lz jn now:Int):Nd:=⟨nc,lz,jn,now,now,false,[⟨nc,inc,0⟩],[]⟩
def ud(a b:Int):Int:=if a < b then b else a
def zr(a b:Int):Int:=if a < b then a else b
def zk(id:Int)(l:List Mem):List Int:=(l.filter fun m=>decide (m.id≠id) && decide (m.st≠2)).map Mem.id
def ot(id:Int)(l:List Mem):List Int:=(l.filter fun m=>decide (m.id≠id) && decide (m.st=2)).map Mem.id
def zl(g:List Int)(pick:Int):List Int:=if g=[] then [] else [g.getD (pick % g.length).toNat 0]
def Nd.vd(n:Nd)(now pick:Int):Nd×List Int:=
 if ud n.now now < n.due then ({n with now:=ud n.now now},[])
 else ({n with now:=ud n.now now,due:=ud n.now now+zr n.lz (18446744073709551615 - ud n.now now),v:=n.v.map (sf n.id (ud n.now now) n.jn n.h)},
  zk n.id (n.v.map (sf n.id (ud n.now now) n.jn n.h)) ++ zl (ot n.id (n.v.map (sf n.id (ud n.now now) n.jn n.h))) pick)
def bku(l:List Mem):Prop:= ∀m∈l,0<=m.inc/\m.inc < 18446744073709551616
structure qn(n:Nd):Prop where
 zm:ahy n.v
 own:aew n.v n.id≠none
 inc:bku n.v
 id0:0 < n.id/\n.id < 18446744073709551616
 per:1<=n.lz/\n.lz<=1099511627776
 wai:1<=n.jn/\n.jn<=1099511627776
 nw:0<=n.now/\n.now < 18446744073709551616
 du:0<=n.due/\n.due < 18446744073709551616
theorem bay{l:List Mem}{g:Mem->Mem}(hg: ∀m,(g m).id=m.id)(k:Int):aew (l.map g) k=(aew l k).map g:=by
 unfold aew
 induction l with
 | nil=>rfl
 | cons x l ih=>
  rw[List.map_cons,List.find?_cons,List.find?_cons,hg]
  by_cases h:x.id=k
  ·simp[h]
  ·simp only[decide_eq_false h];exact ih
theorem bie{l:List Mem}{g:Mem->Mem}(hg: ∀m,(g m).id=m.id):(l.map g).map Mem.id=l.map Mem.id:=by
 rw[List.map_map];exact List.map_congr_left fun x _=>hg x
theorem ahy.map{l:List Mem}{g:Mem->Mem}(h:ahy l)(hg: ∀m,(g m).id=m.id)(ho: ∀m∈l,xw (g m)=false):ahy (l.map g):=by
 refine⟨by rw[bie hg];exact h.bjr,fun m hm=>?_,fun m hm=>?_,by rw[List.length_map];exact h.few⟩
 ·obtain⟨x,hx,rfl⟩:=List.mem_map.1 hm
  rw[hg];exact h.pos x hx
 ·obtain⟨x,hx,rfl⟩:=List.mem_map.1 hm
  exact ho x hx
theorem azp(id now jn:Int)(h:MP)(m:Mem):(sf id now jn h m).id=m.id:=by unfold sf;split <;>rfl
theorem alr(m:Mem):xw m=false↔m.inc≠0/\0<=m.st/\m.st<=2:=by
 unfold xw;simp
theorem ave{now jn:Int}{h:MP}{m:Mem}(ho:0<=m.st/\m.st<=2):m.st<=ahe now jn h m/\ahe now jn h m<=2:=by
 unfold ahe
 split
 ·split <;>omega
 ·split
  ·split <;>omega
  ·omega
theorem aqa{l:List Mem}(h:ahy l)(hi:bku l){m:Mem}(hm:m∈l):1<=m.inc/\0<=m.st/\m.st<=2:=by
 have:=(alr m).1 (h.odd m hm)
 have:=hi m hm
 omega
theorem azr{l:List Mem}{k:Int}{m:Mem}(h:aew l k=some m):m∈l:=List.mem_of_find?_eq_some (show l.find? _=some m from h)
theorem ajx{a b:Int}(ha:0<=a/\a < 18446744073709551616)(hb:0<=b/\b < 18446744073709551616):0<=ud a b/\ud a b < 18446744073709551616:=by
 unfold ud;split <;>omega
section
variable {n : Nd} {frm now pick : Int} {l : List Mem}
theorem aev(h:qn n)(hn:0<=now/\now < 18446744073709551616):qn (n.vd now pick).1:=by
 have ht:=ajx h.nw hn
 have hp:=h.per
 unfold Nd.vd
 generalize ud n.now now=t at *
 split
 ·exact⟨h.zm,h.own,h.inc,h.id0,h.per,h.wai,ht,h.du⟩
 ·refine⟨h.zm.map (azp _ _ _ _) fun x hx=>?_,?_,fun x hx=>?_,h.id0,h.per,h.wai,ht,?_⟩
  ·have:=aqa h.zm h.inc hx
   have:=ave (now:=t) (jn:=n.jn) (h:=n.h) this.2
   rw[alr]
   unfold sf
   split <;>simp <;>omega
  ·show aew (n.v.map _) n.id≠none
   rw[bay (azp _ _ _ _)]
   obtain⟨o,ho⟩:=Option.ne_none_iff_exists'.1 h.own
   rw[ho];simp
  ·obtain⟨y,hy,rfl⟩:=List.mem_map.1 hx
   have:=h.inc y hy
   unfold sf
   split
   ·exact this
   ·exact this
  ·show 0<=t+zr n.lz (18446744073709551615 - t)/\t+zr n.lz (18446744073709551615 - t) < 18446744073709551616
   unfold zr
   split <;>omega
theorem atm{nc inc lz jn:Int}(h1:0 < nc/\nc < 18446744073709551616)(h2:0 < inc/\inc < 18446744073709551616)(h3:1<=lz/\lz<=1099511627776)(h4:1<=jn/\jn<=1099511627776)(hn:0<=now/\now < 18446744073709551616):
  qn (Nd.new nc inc lz jn now):=by
 refine⟨⟨by simp[Nd.new],?_,?_,by simp[Nd.new]⟩,?_,?_,h1,h3,h4,hn,hn⟩
 ·intro m hm;simp[Nd.new] at hm;subst hm;exact h1.1
 ·intro m hm;simp[Nd.new] at hm;subst hm;rw[alr];simp;omega
 ·simp[Nd.new,aew]
 ·intro m hm;simp[Nd.new] at hm;subst hm;simp;omega
end
def bfs(l:List Mem):Prop:= ∀m∈l,0<=m.inc/\m.inc < 18446744073709551616
section
variable {w0 w : World} {R : List Asn}
end
def ui(n:Nd)(v:Value)(r:Nat):Array Value:= #[.int .u64 n.id,.int .u64 n.lz,.int .u64 n.jn,.int .u64 n.now,.int .u64 n.due,.bool n.left,v,.map (some r)]
def ajj(h:MP):Prop:= ∀k v,ki h k=some v->∃t,v= .int .u64 t
def awr(p r:Nat)(v:Value)(n:Nd):List Asn:=[iz p (ui n v r) T.ah,zx v n.v,jh r .u64 n.h]
def jy(p:Nat)(n:Nd):Asn where
 ok w B:= ∃r v,ajj n.h/\Rs (awr p r v n) w B
 jf:=by
  rintro w w' B S ⟨r,v,h1,h2⟩ hf hn
  exact⟨r,v,h1,h2.jf hf hn⟩
def adr(p:Nat):Value:= .pointer (some ⟨p,0,none⟩)
section
variable {w0 w : World} {R : List Asn} {p r : Nat} {v : Value} {n : Nd}
theorem bkq(S:St w0 w (jy p n :: R)): ∃r v,ajj n.h/\St w0 w (iz p (ui n v r) T.ah :: zx v n.v :: jh r .u64 n.h :: R):=by
 obtain⟨B,⟨r,v,h1,h2⟩,_,cl⟩:=S.open
 exact⟨r,v,h1,cl w (awr p r v n) (Fr.refl _ _) (h2.mono fun b hb=> .inl hb)⟩
theorem auk(h:ajj n.h)(S:St w0 w (iz p (ui n v r) T.ah :: zx v n.v :: jh r .u64 n.h :: R)):St w0 w (jy p n :: R):=by
 obtain⟨U,h1,_,g⟩:=St.aki (L:=awr p r v n) (R:=R) S
 exact g w [jy p n] (Fr.refl _ _) ⟨U,⟨r,v,h,h1⟩,fun b hb=> .inl hb,trivial⟩
theorem amf(h:ajj n.h)(k:Int):(ki n.h k).getD (.int .u64 0)= .int .u64 (hat n.h k):=by
 unfold hat
 cases hg:ki n.h k with
 | none=>rfl
 | some x=>
  obtain⟨t,rfl⟩:=h k x hg
  rfl
theorem pu{w:World}(hb:w.heap[p]? =some (.cells (ui n v r) T.ah (0,0))):ik w p 0=some (.int .u64 n.id)/\ik w p 1=some (.int .u64 n.lz)/\ik w p 2=some (.int .u64 n.jn)/\ik w p 3=some (.int .u64 n.now)/\ik w p 4=some (.int .u64 n.due)/\ik w p 5=some (.bool n.left)/\ik w p 6=some v/\ik w p 7=some (.map (some r))/\∀i,pq w p i=false:=
 ⟨by rw[iq hb];rfl,by rw[iq hb];rfl,by rw[iq hb];rfl,by rw[iq hb];rfl,by rw[iq hb];rfl,by rw[iq hb];rfl,by rw[iq hb];rfl,by rw[iq hb];rfl,lk hb⟩
theorem axp{cs cs':Array Value}{e:TypeId}{b i:Nat}{u:Value}(S:St w0 w (iz b cs e :: R))(hc:cs.setIfInBounds i u=cs'):St w0 (w.setCell ⟨b,i,none⟩ u) (iz b cs' e :: R):=
 S.nl ((Fr.refl (fun x=>x=b) w).setCell (.inl rfl) _ _) ((mh S.blk).trans (by rw[hc]))
theorem bhs(S:St w0 w R){nc inc lz jn now:Int}(h1:0<=nc)(h2:0<=inc)(h3:0<=lz)(h4:0<=jn){K:KV}
  (hb:(nc=0\/inc=0\/lz=0\/jn=0\/1099511627776 < lz\/1099511627776 < jn)->∀w',Fz w w'->K (.tuple #[.pointer none,.int .i64 1]) w')
  (hg:0 < nc->0 < inc->1<=lz/\lz<=1099511627776->1<=jn/\jn<=1099511627776->∀w' p,St w0 w' (jy p (Nd.new nc inc lz jn now) :: R)->K (.tuple #[adr p,.int .i64 0]) w'):
  ie P F.gk [.int .u64 nc,.int .u64 inc,.int .u64 lz,.int .u64 jn,.int .u64 now] w K:=by
 rw[M.eu.fcall]
 apply M.eu.calls
 unfold M.eu
 rw[il,bmk]
 generalize hmn:min (min (min nc inc) lz) jn=mn
 by_cases hz:mn=0
 ·simp[hz]
  exact hb (by omega) w (Fr.refl _ _)
 ·simp[hz,ro]
  generalize hmx:max lz jn=mx'
  by_cases hm:1099511627776 < mx'
  ·simp[hm]
   exact hb (by omega) _ (Fr.refl _ _)
  ·simp[hm]
   unfold M.eu.j0
   simp
   have S1:St w0 (w.alloc (.cells #[.int .u64 nc,.int .u64 inc,.int .i64 0] T.n)) (zx (.slice (some ⟨w.heap.size,0,none⟩) 1 1) [⟨nc,inc,0⟩] :: R):=S.add (a:=zx (.slice (some ⟨w.heap.size,0,none⟩) 1 1) [⟨nc,inc,0⟩]) ((Fr.refl _ w).alloc _) (B:=fun x=>x=w.heap.size) ⟨⟨rfl,.inr ⟨w.heap.size,1,_,rfl,Nat.zero_le _,by rw[iw,if_pos rfl],by simp,by decide,rfl,rfl⟩⟩,fun x hx=>by simpa [Value.ownBlock] using hx.symm⟩ fun x hx=>by subst hx;rw[jc];omega
   have z1:(w.alloc (.cells #[.int .u64 nc,.int .u64 inc,.int .i64 0] T.n)).heap.size=w.heap.size+1:=jc _ _
   generalize hv:Value.slice (some ⟨w.heap.size,0,none⟩) 1 1=vv at *
   generalize w.alloc (.cells #[.int .u64 nc,.int .u64 inc,.int .i64 0] T.n)=w1 at *
   rw[zn]
   have hm2:=ym w1 .u64
   have S2:=S1.add (a:=jh w1.heap.size .u64 []) (w':=w1.alloc (.map #[] 0)) ((Fr.refl _ w1).alloc _) (B:=fun x=>x=w1.heap.size) ⟨⟨hm2,by simp[jm]⟩,rfl⟩ fun x hx=>by subst hx;rw[jc];omega
   generalize hr:w1.heap.size=r at *
   generalize w1.alloc (.map #[] 0)=w2 at *
   subst hv
   simp
   have S3:St w0 (w2.alloc (.cells (ui (Nd.new nc inc lz jn now) (.slice (some ⟨w.heap.size,0,none⟩) 1 1) r) T.ah)) (iz w2.heap.size (ui (Nd.new nc inc lz jn now) (.slice (some ⟨w.heap.size,0,none⟩) 1 1) r) T.ah :: jh r .u64 [] :: zx (.slice (some ⟨w.heap.size,0,none⟩) 1 1) [⟨nc,inc,0⟩] :: R):=S2.add ((Fr.refl _ w2).alloc _) (B:=fun x=>x=w2.heap.size) ⟨by rw[iw,if_pos rfl],rfl⟩ fun x hx=>by subst hx;rw[jc];omega
   have S4:=S3.tail (.swap _ _ _)
   exact hg (by omega) (by omega) (by omega) (by omega) _ _ (auk (n:=Nd.new nc inc lz jn now) (fun k v h=>by simp[Nd.new,ki] at h) S4)
abbrev rdM(v:Value)(l:List Mem):Asn:=rdA 3 acn v l
theorem ami(S:St w0 w (jy p n :: R))(hn:qn n){K:KV}(h: ∀w' v',St w0 w' (rdM v' n.v :: jy p n :: R)->K v' w'):ie P F.bs [adr p] w K:=by
 obtain⟨r,v,hh,S1⟩:=bkq S
 rw[M.dw.fcall]
 apply M.dw.calls
 unfold M.dw adr
 have hfew:=hn.zm.few
 obtain⟨c0,_,_,_,_,_,c6,_⟩:=pu S1.blk
 simp[c6]
 have hs:SlM w v n.v:=S1.swap.row yj
 refine adm hs (by omega) fun w1 v1 s1 g1 f1=>?_
 obtain⟨m,hm⟩:=Option.ne_none_iff_exists'.1 hn.own
 obtain⟨b,hb1,hb2⟩:=s1.lt (azr hm)
 have S2:=S1.add (a:=rdM v1 n.v) f1 (B:=fun y=>v1.ownBlock=some y) ⟨s1,fun y hy=>hy⟩ fun y hy=>⟨g1 y hy,by rw[hb1] at hy;cases hy;exact hb2⟩
 exact h w1 v1 (auk (R:=rdM v1 n.v :: R) hh (S2.perm (List.perm_middle (l₁:=[iz p (ui n v r) T.ah,zx v n.v,jh r .u64 n.h])).symm)).swap
end
abbrev qx(v:Value)(l:List Int):Asn:=pc T.a 1 Suint64.rk v l
section
variable {w0 w : World} {R : List Asn}
theorem aet(S:St w0 w R):St w0 w (qx (.slice none 0 0) [] :: R):=S.add (a:=qx (.slice none 0 0) []) (Fr.refl _ w) (B:=fun _=>False) ⟨Ow.none,fun b hb=>by simp[Value.ownBlock] at hb⟩ fun b hb=>hb.elim
theorem aby{v v2:Value}{l l2:List Int}(S:St w0 w (qx v l :: R))(hs:Sl w 1 Suint64.rk v2 l2)(hl:l.length+l2.length<=1000000000){cs:List Bool}{ty:TypeId}{K:KV}(h: ∀w' v',St w0 w' (qx v' (l ++ l2) :: R)->K v' w'):
  biT P .append #[T.g,T.g] ty cs [v,v2] w K:=by
 obtain⟨B,⟨h1,h2⟩,hB,cl⟩:=S.open
 refine zc et.g (fun _=>rfl) (fun x u hu=>by simp[Suint64.rk] at hu;subst hu;rfl) h1 hs hl (by decide) (Nat.zero_le _) cs fun v' w' o f g=>?_
 refine h w' v' (cl w' [qx v' (l ++ l2)] (f.mono fun x _ hx=>h2 x hx) (Rs.one (B:=fun x=>v'.ownBlock=some x) ⟨o,fun b hb=>hb⟩ fun x hx=>?_))
 rcases g with g| ⟨y,g1,g2⟩
 ·exact .inl (h2 x (by rw[<-g];exact hx))
 ·rw[hx] at g1;cases g1
  exact .inr ⟨g2,(o.lt hx).2⟩
end
section
variable {w0 w : World} {R : List Asn} {p r : Nat} {v : Value} {n : Nd}
theorem bhl{m:Mem}(hb:w.heap[p]? =some (.cells (ui n v r) T.ah (0,0)))(hm:kx w r .u64 n.h)(hh:ajj n.h)(hw:1<=n.jn/\n.jn<=1099511627776){K:KV}(h: ∀w',Fz w w'->K (.int .i64 (ahe n.now n.jn n.h m)) w'):ie P F.eb [adr p,qa m] w K:=by
 rw[M.ac.fcall]
 apply M.ac.calls
 unfold M.ac qa adr
 have hb2:(w.alloc (.cells #[.int .u64 m.id,.int .u64 m.inc,.int .i64 m.st] T.n)).heap[w.heap.size]? =some (.cells #[.int .u64 m.id,.int .u64 m.inc,.int .i64 m.st] T.n (0,0)):=by rw[iw,if_pos rfl]
 have f1:Fz w (w.alloc (.cells #[.int .u64 m.id,.int .u64 m.inc,.int .i64 m.st] T.n)):=(Fr.refl _ w).alloc _
 have hm1:kx (w.alloc (.cells #[.int .u64 m.id,.int .u64 m.inc,.int .i64 m.st] T.n)) r .u64 n.h:=hm.of_heap (f1.jf r hm.lt fun h=>h)
 simp
 generalize w.heap.size=g at *
 generalize w.alloc (.cells #[.int .u64 m.id,.int .u64 m.inc,.int .i64 m.st] T.n)=w1 at *
 obtain⟨_,_,c2,c3,_,_,_,c7,_⟩:=pu (f1.heap hb fun h=>h)
 have d0:ik w1 g 0=some (.int .u64 m.id):=by rw[iq hb2];rfl
 have d2:ik w1 g 2=some (.int .i64 m.st):=by rw[iq hb2];rfl
 have hmd:kx (Eng.dr w1 1) r .u64 n.h:=hm1.of_heap rfl
 simp[c3,c7,d0]
 rw[ta mt.bb hmd,amf hh]
 have hwm:IntKind.u64.wrap (2 * n.jn)=2 * n.jn:=by rw[lr (by omega) (by omega)]
 have fin:=h (Eng.dr w1 1) (f1.dr 1)
 unfold ahe at fin
 generalize hat n.h m.id=t at *
 by_cases s0:m.st=0
 ·by_cases k1:n.jn<=IntKind.u64.wrap (n.now - t)
  ·simp[s0,k1] at fin
   simp[d2,s0,M.ac.j3,c2,k1,gv]
   exact fin
  ·simp[s0,k1] at fin
   simp[d2,s0,M.ac.j3,c2,k1,gv]
   exact fin
 ·by_cases s1:m.st=1
  ·by_cases k1:IntKind.u64.wrap (n.now - t) < 2 * n.jn
   ·simp[s1,k1] at fin
    simp[d2,s1,M.ac.j5,M.ac.j2,c2,hwm,k1,gv]
    exact fin
   ·simp[s1,k1] at fin
    simp[d2,s1,M.ac.j5,M.ac.j2,c2,hwm,k1,gv]
    exact fin
  ·simp[s0,s1] at fin
   by_cases s2:m.st=2
   ·simp[s2] at fin
    simp[d2,s2,M.ac.j5,gv]
    exact fin
   ·simp[d2,s0,s1,s2,M.ac.j5,gv]
    exact fin
theorem bdx(a b:Int):max a b=ud a b:=by unfold ud;split <;>omega
theorem bef(a b:Int):min a b=zr a b:=by unfold zr;split <;>omega
def oc(n:Nd)(i:Nat)(V:List Mem):List Mem:=(V.take i).map (sf n.id n.now n.jn n.h) ++ V.drop i
theorem aat(n:Nd)(i:Nat)(V:List Mem):(oc n i V).length=V.length:=by
 unfold oc;simp;omega
theorem ajm(n:Nd){i:Nat}{V:List Mem}(hi:i < V.length)(h:i < (oc n i V).length):(oc n i V)[i]=V[i]:=by
 have:(oc n i V)[i]? =some V[i]:=by
  unfold oc
  rw[List.getElem?_append_right (by simp;omega)]
  simp
  rw[show i - min i V.length=0 by omega]
  simp[List.getElem?_eq_getElem hi]
 rw[List.getElem?_eq_getElem h] at this
 exact Option.some.inj this
theorem anm(n:Nd){i:Nat}{V:List Mem}(hi:i < V.length):(oc n i V).set i (sf n.id n.now n.jn n.h V[i])=oc n (i+1) V:=by
 unfold oc
 have hl:((V.take i).map (sf n.id n.now n.jn n.h)).length=i:=by simp;omega
 rw[List.set_append_right _ _ (by omega),List.take_succ_eq_append_getElem hi,List.map_append,hl,Nat.sub_self]
 rw[List.drop_eq_getElem_cons hi,List.set_cons_zero,List.append_assoc];rfl
theorem aux(n:Nd){i:Nat}{V:List Mem}(hi:i < V.length)(h:sf n.id n.now n.jn n.h V[i]=V[i]):oc n (i+1) V=oc n i V:=by
 rw[<-anm n hi,h]
 have hl:i < (oc n i V).length:=by rw[aat];exact hi
 conv=>lhs;rw[<-ajm n hi hl]
 exact List.set_getElem_self hl
theorem axu(id:Int)(l:List Mem)(m:Mem):zk id (l ++ [m])=zk id l ++ if m.id≠id/\m.st≠2 then [m.id] else []:=by
 unfold zk
 rw[List.filter_append,List.map_append]
 congr 1
 by_cases h1:m.id=id <;>by_cases h2:m.st=2 <;>simp[h1,h2]
theorem awv(id:Int)(l:List Mem)(m:Mem):ot id (l ++ [m])=ot id l ++ if m.id≠id/\m.st=2 then [m.id] else []:=by
 unfold ot
 rw[List.filter_append,List.map_append]
 congr 1
 by_cases h1:m.id=id <;>by_cases h2:m.st=2 <;>simp[h1,h2]
theorem aqo(id:Int)(l:List Mem):(zk id l).length<=l.length/\(ot id l).length<=l.length:=by
 unfold zk ot
 rw[List.length_map,List.length_map]
 exact⟨List.length_filter_le ..,List.length_filter_le ..⟩
def uh(n:Nd)(i:Nat)(V:List Mem):List Mem:=(V.take i).map (sf n.id n.now n.jn n.h)
def TkI(w0:World)(p r:Nat)(n:Nd)(v:Value)(V:List Mem)(R:List Asn):KL:=fun x w1=> ∃(u0 u1 g o:Value)(i:Nat),x=[u0,u1,g,o,.int .i64 (i:Nat)]/\i<=V.length/\
 St w0 w1 (iz p (ui n v r) T.ah :: zx v (oc n i V) :: jh r .u64 n.h :: qx g (ot n.id (uh n i V)) :: qx o (zk n.id (uh n i V)) :: R)
theorem aum(n:Nd){i:Nat}{V:List Mem}(hi:i < V.length):uh n (i+1) V=uh n i V ++ [sf n.id n.now n.jn n.h V[i]]:=by
 unfold uh
 rw[List.take_succ_eq_append_getElem hi,List.map_append];rfl
theorem axx(n:Nd)(i:Nat)(V:List Mem):(uh n i V).length<=V.length:=by unfold uh;simp;omega
theorem bmv{V:List Mem}{g o:Value}{i:Nat}(hh:ajj n.h)(hw:1<=n.jn/\n.jn<=1099511627776)(S:St w0 w (iz p (ui n v r) T.ah :: zx v (oc n i V) :: jh r .u64 n.h :: qx g (ot n.id (uh n i V)) :: qx o (zk n.id (uh n i V)) :: R))(hi:i < V.length)(hV:V.length<=1000){u0 u1:Value}{K3:KL}{K:KV}
  (h: ∀w' y0 y1 g' o',St w0 w' (iz p (ui n v r) T.ah :: zx v (oc n (i+1) V) :: jh r .u64 n.h :: qx g' (ot n.id (uh n (i+1) V)) :: qx o' (zk n.id (uh n (i+1) V)) :: R)->K3 [y0,y1,g',o',.int .i64 ((i+1:Nat):Int)] w'):
  M.u.j4 v [u0,u1,g,o,.int .i64 (i:Nat)] (adr p) K3 w K:=by
 unfold M.u.j4 adr
 have q4:gv [u0,u1,g,o,.int .i64 (i:Nat)] 4= .int .i64 (i:Nat):=rfl
 have q3:gv [u0,u1,g,o,.int .i64 (i:Nat)] 3=o:=rfl
 have q2:gv [u0,u1,g,o,.int .i64 (i:Nat)] 2=g:=rfl
 have hwi:IntKind.i64.wrap ((i:Int)+1)=((i+1:Nat):Int):=by rw[iy];rfl
 have hil:i < (oc n i V).length:=by rw[aat];exact hi
 have hlen:=aat n i V
 obtain⟨b,o',cap,hv,hb,_,hc⟩:=(S.swap.row yj:SlM w v (oc n i V)).at hil
 rw[ajm n hi hil] at hc
 have hld: ∀K,ldN P 3 b (o'+i * 3) w K=K (qa V[i]) w:=fun K=>ldM hc K
 have hT:=aum n hi
 have hS:=anm n hi
 have hSm:=aux n hi
 have hoL:=aqo n.id (uh n i V)
 have hTl:=axx n i V
 have hat:=ajm n hi hil
 rw[hT,awv,axu] at h
 generalize V[i]=m at *
 simp only[il,q2,q3,q4,lx,hwi]
 have hv2:=hv
 rw[hv]
 rw[hlen]
 simp[hi,hld]
 rw[show qa m= .agg #[.int .u64 m.id,.int .u64 m.inc,.int .i64 m.st] from rfl]
 simp
 have hba:(w.alloc (.cells #[.int .u64 0,.int .u64 0,.int .i64 0] T.n)).heap[w.heap.size]? =some (.cells #[.int .u64 0,.int .u64 0,.int .i64 0] T.n (0,0)):=by rw[iw,if_pos rfl]
 refine bkg (w0:=w) m hba rfl (Nat.le_refl _) ((Fr.refl _ w).alloc _) fun w2 f2 b2=>?_
 have S2:=S.ju f2
 generalize w.heap.size=q at *
 obtain⟨c0,_,_,_,_,_,c6,_,_⟩:=pu S2.blk
 have d0:ik w2 q 0=some (.int .u64 m.id):=by rw[iq b2];rfl
 by_cases e1:m.id=n.id
 ·simp[c0,d0,e1]
  have hag:sf n.id n.now n.jn n.h m=m:=by unfold sf;rw[if_pos e1]
  rw[hag,if_neg (fun h=>h.1 e1),if_neg (fun h=>h.1 e1),List.append_nil,List.append_nil,hSm hag] at h
  exact h _ _ _ _ _ (S2.ju ((Fr.refl _ w2).dr 1))
 ·simp[c0,d0,e1]
  unfold M.u.j6
  have hbm:qa m= .agg (acn m).toArray:=rfl
  have hldq: ∀{w'},Fz w2 w'->∀K,ldN P 3 q 0 w' K=K (qa m) w':=fun f K=>bjq (f.heap b2 fun h=>h) K
  have fd:Fz w2 (Eng.dr (Eng.dr w2 1) 1):=((Fr.refl _ w2).dr 1).dr 1
  have S3:=S2.ju fd
  simp[q2,q3,q4,c6]
  rw[hldq fd]
  refine⟨rfl,?_⟩
  refine bhl S3.blk (arg S3.up2).1 hh hw fun w3 f3=>?_
  have S4:=S3.ju f3
  obtain⟨_,_,_,_,_,_,g6,_,_⟩:=pu S4.blk
  have hage:sf n.id n.now n.jn n.h m=⟨m.id,m.inc,ahe n.now n.jn n.h m⟩:=by unfold sf;rw[if_neg e1]
  rw[hage] at h hS
  generalize ahe n.now n.jn n.h m=st at *
  obtain⟨bb,cp,hv',t1,t2,t3,S5⟩:=S4.swap.ayr yj hil ⟨m.id,m.inc,st⟩ (f:=2) (u:= .int .i64 st) (by omega) (by rw[hat];rfl)
  rw[hS] at S5
  have hbq:bb < q:=by
   have hx:=hv2.symm.trans hv'
   injection hx with x1 _ _
   injection x1 with x1
   injection x1 with x1 _
   omega
  rw[hlen] at hv'
  rw[hv'] at g6
  simp[g6]
  rw[hv']
  simp[hi,t1,t2]
  have S6:=S5.swap
  obtain⟨_,_,_,_,_,_,z6,_,_⟩:=pu S6.blk
  rw[hv'] at z6
  have hil2:i < (oc n (i+1) V).length:=by rw[aat];exact hi
  have hz:(oc n (i+1) V)[i]=⟨m.id,m.inc,st⟩:=by
   have:=List.getElem_set_self (l:=oc n i V) (i:=i) (a:=(⟨m.id,m.inc,st⟩:Mem)) (by rw[List.length_set];exact hil)
   have e:(oc n i V).set i ⟨m.id,m.inc,st⟩=oc n (i+1) V:=hS
   have h2:((oc n i V).set i ⟨m.id,m.inc,st⟩)[i]? =some ⟨m.id,m.inc,st⟩:=by
    rw[List.getElem?_set_self hil]
   rw[e,List.getElem?_eq_getElem hil2] at h2
   exact Option.some.inj h2
  obtain⟨b4,o4,cap4,hv4,_,_,hc4⟩:=(S5.row yj:SlM _ v (oc n (i+1) V)).at hil2
  rw[hz] at hc4
  rw[aat] at hv4
  have hx4:=hv'.symm.trans hv4
  cases hx4
  have y2:=hc4 2 _ rfl
  simp only[Nat.zero_add] at y2
  have d0': ∀{w'},Fz w2 w'->ik w' q 0=some (.int .u64 m.id):=fun f=>by rw[iq (f.heap b2 fun h=>h)];rfl
  have dq:ik (w3.setCell ⟨bb,i * 3+2,none⟩ (.int .i64 st)) q 0=some (.int .u64 m.id):=by
   have hne:bb≠q:=by omega
   rw[vl (jv hne),iq ((fd.trans f3).heap b2 fun h=>h)];rfl
  generalize w3.setCell ⟨bb,i * 3+2,none⟩ (.int .i64 st)=w5 at *
  by_cases e2:st=2
  ·subst e2
   rw[if_pos ⟨e1,rfl⟩,if_neg (fun h=>h.2 rfl),List.append_nil] at h
   simp[z6,hi,y2,dq]
   have S7:=S6.up3.ju ((Fr.refl _ _).alloc (.cells #[.int .u64 m.id] T.a))
   refine aby S7 (Sl.one rfl rfl) (by simp;omega) fun w4 g' S8=>?_
   exact h w4 _ _ g' o S8.dn3
  ·have e3: ¬(m.id≠n.id/\st=2):=fun h=>e2 h.2
   rw[if_neg e3,if_pos ⟨e1,e2⟩,List.append_nil] at h
   simp[z6,hi,y2,e2,dq]
   have S7:=S6.up4.ju ((Fr.refl _ _).alloc (.cells #[.int .u64 m.id] T.a))
   refine aby S7 (Sl.one rfl rfl) (by simp;omega) fun w4 o'' S8=>?_
   exact h w4 _ _ g o'' S8.dn4
theorem bgq{now pick:Int}(S:St w0 w (jy p n :: R))(hn:qn n)(hr:0<=now/\now < 18446744073709551616)(hp:0<=pick){K:KV}
  (h: ∀w' v',St w0 w' (qx v' (n.vd now pick).2 :: jy p (n.vd now pick).1 :: R)->K v' w'):ie P F.dz [adr p,.int .u64 now,.int .u64 pick] w K:=by
 obtain⟨r,v,hh,S1⟩:=bkq S
 rw[M.u.fcall]
 apply M.u.calls
 unfold M.u
 have hfew:=hn.zm.few
 have hmr:=ajx hn.nw hr
 have hper:=hn.per
 simp only[adr]
 simp
 unfold M.u.j0
 obtain⟨_,_,_,c3,_,_,_,_,c8⟩:=pu S1.blk
 simp[c3,c8,ro,bdx]
 have S2:=axp (i:=3) (u:= .int .u64 (ud n.now now)) S1 (cs':=ui {n with now:=ud n.now now} v r) rfl
 generalize w.setCell ⟨p,3,none⟩ (.int .u64 (ud n.now now))=w1 at *
 obtain⟨_,_,_,d3,d4,_,_,_,_⟩:=pu S2.blk
 unfold Nd.vd at h
 by_cases hd:ud n.now now < n.due
 ·rw[if_pos hd] at h
  simp[d3,d4,hd]
  have S3:=S2.ju ((Fr.refl _ w1).dr 1)
  exact h _ _ (aet (auk (n:={n with now:=ud n.now now}) hh S3))
 ·rw[if_neg hd] at h
  simp[d3,d4,hd]
  generalize hto:ud n.now now=t at *
  unfold M.u.j1
  have hw1:IntKind.u64.wrap (18446744073709551615 - t)=18446744073709551615 - t:=lr (by omega) (by omega)
  have hw2:IntKind.u64.wrap (t+zr n.lz (18446744073709551615 - t))=t+zr n.lz (18446744073709551615 - t):=by
   refine lr ?_ ?_ <;>(unfold zr;split <;>omega)
  have S3:=S2.ju ((Fr.refl _ w1).dr 1)
  obtain⟨_,e1,_,e3,_,_,_,_,e8⟩:=pu S3.blk
  simp[d3,pu S2.blk,hw1,aiu,bef,hw2]
  have S4:=S3.ju ((Fr.refl _ (Eng.dr w1 1)).dr 1)
  have S5:=axp (i:=4) (u:= .int .u64 (t+zr n.lz (18446744073709551615 - t))) S4 (cs':=ui {n with now:=t,due:=t+zr n.lz (18446744073709551615 - t)} v r) rfl
  generalize (Eng.dr (Eng.dr w1 1) 1).setCell ⟨p,4,none⟩ (.int .u64 (t+zr n.lz (18446744073709551615 - t)))=w2 at *
  obtain⟨_,_,_,_,_,_,f6,_,_⟩:=pu S5.blk
  simp[f6]
  generalize hn2:({n with now:=t,due:=t+zr n.lz (18446744073709551615 - t)}:Nd)=n2 at *
  have hid:n2.id=n.id:=by rw[<-hn2]
  have hv2:n2.v=n.v:=by rw[<-hn2]
  have hh2:n2.h=n.h:=by rw[<-hn2]
  have ht2:n2.now=t:=by rw[<-hn2]
  have hwt:n2.jn=n.jn:=by rw[<-hn2]
  have hhh:ajj n2.h:=by rw[hh2];exact hh
  have hww:1<=n2.jn/\n2.jn<=1099511627776:=by rw[hwt];exact hn.wai
  have hlenV: ∀w' K',biT P .len #[T.s] T.d [false] [v] w' K'=K' (.int .i64 n.v.length) w':=fun w' K'=>(S5.swap.row yj:SlM w2 v n.v).jq (by kernel_rfl) [false]
  rw[hlenV]
  have e0:oc n2 0 n.v=n.v:=by unfold oc;simp
  have S6:St w0 w2 (iz p (ui n2 v r) T.ah :: zx v (oc n2 0 n.v) :: jh r .u64 n2.h :: qx (.slice none 0 0) (ot n2.id (uh n2 0 n.v)) :: qx (.slice none 0 0) (zk n2.id (uh n2 0 n.v)) :: R):=by
   rw[e0,hh2]
   exact (aet (aet S5).dn3).dn3
  refine⟨TkI w0 p r n2 v n.v R,fun x _=>n.v.length - ms x 4,⟨_,_,_,_,0,rfl,Nat.zero_le _,S6⟩,?_⟩
  rintro x w3 ⟨u0,u1,g,o,i,rfl,hil,S7⟩
  have q4:gv [u0,u1,g,o,.int .i64 (i:Nat)] 4= .int .i64 (i:Nat):=rfl
  simp only[q4,il]
  by_cases hi':i < n.v.length
  ·have hi'':(i:Int) < n.v.length:=by omega
   simp[hi'']
   refine bmv hhh hww S7 hi' (by omega) fun w' y0 y1 g' o' S8=>?_
   exact⟨⟨_,_,_,_,i+1,rfl,by omega,S8⟩,by simp[ms,gv];omega⟩
  ·have hi'': ¬(i:Int) < n.v.length:=by omega
   simp[hi'']
   unfold M.u.j2
   have eL:oc n2 i n.v=n.v.map (sf n.id t n.jn n.h):=by
    unfold oc
    rw[List.take_of_length_le (by omega),List.drop_of_length_le (by omega),List.append_nil,hid,ht2,hwt,hh2]
   have eT:uh n2 i n.v=n.v.map (sf n.id t n.jn n.h):=by
    unfold uh
    rw[List.take_of_length_le (by omega),hid,ht2,hwt,hh2]
   rw[eL,eT,hid] at S7
   have hll:(n.v.map (sf n.id t n.jn n.h)).length<=16:=by rw[List.length_map];exact hfew
   have hol:=aqo n.id (n.v.map (sf n.id t n.jn n.h))
   generalize n.v.map (sf n.id t n.jn n.h)=V at *
   have q5:gv [v,.int .i64 (n.v.length:Nat),.int .i64 (i:Nat),u0,u1,g,o] 5=g:=rfl
   have q6:gv [v,.int .i64 (n.v.length:Nat),.int .i64 (i:Nat),u0,u1,g,o] 6=o:=rfl
   have q2:gv [u0,u1,g,o,.int .i64 (i:Nat)] 2=g:=rfl
   have q3:gv [u0,u1,g,o,.int .i64 (i:Nat)] 3=o:=rfl
   have q0:gv [u0,u1,g,o,.int .i64 (i:Nat)] 0=u0:=rfl
   have q1:gv [u0,u1,g,o,.int .i64 (i:Nat)] 1=u1:=rfl
   simp only[q0,q1,q2,q3,q5,q6,il]
   have sg:Sl w3 1 Suint64.rk g (ot n.id V):=S7.up3.row fun _=>rfl
   have so:Sl w3 1 Suint64.rk o (zk n.id V):=S7.up4.row fun _=>rfl
   have lg: ∀w' K',biT P .len #[T.g] T.d [false] [g] w' K'=K' (.int .i64 (ot n.id V).length) w':=fun w' K'=>sg.jq (by kernel_rfl) [false]
   rw[lg]
   have fin: ∀w' v',St w0 w' (qx v' (zk n.id V ++ zl (ot n.id V) pick) :: iz p (ui n2 v r) T.ah :: zx v V :: jh r .u64 n2.h :: R)->K v' w':=fun w' v' S'=>by
    refine h w' v' ?_
    rw[hh2] at S'
    have:=auk (p:=p) (r:=r) (v:=v) (n:={n2 with v:=V}) (R:=qx v' (zk n.id V ++ zl (ot n.id V) pick) :: R) hhh (by
     show St w0 w' (iz p (ui n2 v r) T.ah :: zx v V :: jh r .u64 n2.h :: _)
     rw[hh2];exact S'.dn3)
    rw[<-hn2] at this
    exact this.swap
   by_cases hg0:ot n.id V=[]
   ·have hpk:zl (ot n.id V) pick=[]:=by unfold zl;rw[if_pos hg0]
    rw[hpk,List.append_nil] at fin
    rw[hg0]
    simp
    exact fin w3 o S7.up3.drop.up3
   ·have hlg:0 < (ot n.id V).length:=List.length_pos_iff.2 hg0
    have hpk:zl (ot n.id V) pick=[(ot n.id V).getD (pick % (ot n.id V).length).toNat 0]:=by unfold zl;rw[if_neg hg0]
    have hj0:0<=pick % (ot n.id V).length:=Int.emod_nonneg _ (by omega)
    have hj1:pick % (ot n.id V).length < (ot n.id V).length:=Int.emod_lt_of_pos _ (by omega)
    have hwl:IntKind.u64.wrap ((ot n.id V).length:Int)=(ot n.id V).length:=lr (by omega) (by omega)
    rw[hpk] at fin
    generalize ot n.id V=G at *
    have hj2:(pick % G.length).toNat < G.length:=by omega
    obtain⟨b,oo,cap,hv,_,_,hc⟩:=sg.at hj2
    have c0:=hc 0 _ rfl
    simp only[Nat.mul_one,Nat.add_zero] at c0
    have hgd:G.getD (pick % G.length).toNat 0=G[(pick % G.length).toNat]:=by rw[List.getD_eq_getElem?_getD,List.getElem?_eq_getElem hj2];rfl
    rw[hgd] at fin
    generalize G[(pick % G.length).toNat]=z at *
    have htm:pick.tmod (G.length:Int)=pick % G.length:=Int.tmod_eq_emod_of_nonneg hp
    have hlg':(0:Int) < G.length:=by omega
    simp[hlg']
    rw[lg,ou (ks:= .i64) (kd:= .u64) (by kernel_rfl) (by kernel_rfl),hwl,asv (by omega),htm,hv]
    simp[hj0,hj1,c0,hlg]
    have S8:=S7.up4.ju ((Fr.refl _ w3).alloc (.cells #[.int .u64 z] T.a))
    refine aby S8 (Sl.one rfl rfl) (by simp;omega) fun w4 o' S9=>?_
    exact fin w4 o' S9.up4.drop
end
end Go.Proofs.YtgepcfcicngceaaGreatDoor
namespace Go.Eng
structure It where
 p:Nat
 k:Int
 a:Int
 deriving DecidableEq
def xq(x y:It):Bool:=decide (x.a < y.a) || (decide (x.a=y.a) && decide (x.k < y.k))
def le(x y:It):Prop:=x.a < y.a\/(x.a=y.a/\x.k<=y.k)
theorem acu(x y:It):xq x y=true↔¬le y x:=by
 simp only[xq,le,Bool.or_eq_true,Bool.and_eq_true,decide_eq_true_eq];omega
theorem adz(x y:It):xq x y=false↔le y x:=by
 rw[<-Bool.not_eq_true,acu];unfold le;omega
theorem le_trans{x y z:It}(h:le x y)(h':le y z):le x z:=by unfold le at *;omega
theorem le_refl(x:It):le x x:=by unfold le;omega
theorem ahk{x y:It}(h: ¬le x y):le y x:=by unfold le at *;omega
def par(c:Nat):Nat:=(c - 1) / 2
theorem qq{c:Nat}(h:0 < c):par c < c:=by unfold par;omega
def sw(A:Nat->It)(i j:Nat):Nat->It:=fun c=>if c=j then A i else if c=i then A j else A c
def uy(A:Nat->It)(n:Nat):Prop:= ∀c,0 < c->c < n->le (A (par c)) (A c)
structure afl(A:Nat->It)(n j:Nat):Prop where
 ok: ∀c,0 < c->c < n->c≠j->le (A (par c)) (A c)
 up: ∀c,0 < c->c < n->par c=j->0 < j->le (A (par j)) (A c)
structure adv(A:Nat->It)(n i0 k:Nat):Prop where
 ok: ∀c,0 < c->c < n->par c≠k->(c=i0/\k=i0)\/le (A (par c)) (A c)
 up: ∀c,0 < c->c < n->par c=k->0 < k->le (A (par k)) (A c)
theorem bhm{A:Nat->It}{n j:Nat}(h:afl A n j)(hj:0 < j)(hjn:j < n)(hl: ¬le (A (par j)) (A j)):afl (sw A (par j) j) n (par j):=by
 have hp:=qq hj
 have hle:=ahk hl
 refine⟨fun c h0 hc hne=>?_,fun c h0 hc hpc hi=>?_⟩
 ·have hpc:=qq h0
  by_cases hcj:c=j
  ·subst hcj
   simp only[sw,if_neg (Nat.ne_of_lt hp),if_true]
   exact hle
  ·simp only[sw,if_neg hcj,if_neg hne]
   by_cases h1:par c=j
   ·rw[if_pos h1];exact h.up c h0 hc h1 hj
   ·rw[if_neg h1]
    by_cases h2:par c=par j
    ·rw[if_pos h2]
     have:=h.ok c h0 hc hcj
     rw[h2] at this
     exact le_trans hle this
    ·rw[if_neg h2];exact h.ok c h0 hc hcj
 ·have hpp:=qq hi
  have hok:=h.ok (par j) hi (Nat.lt_trans hp hjn) (Nat.ne_of_lt hp)
  have e1:sw A (par j) j (par (par j))=A (par (par j)):=by simp only[sw];rw[if_neg (by omega),if_neg (by omega)]
  rw[e1]
  by_cases hcj:c=j
  ·subst hcj;simp only[sw,if_true];exact hok
  ·have hlt:=qq h0
   simp only[sw,if_neg hcj]
   rw[if_neg (by omega)]
   have:=h.ok c h0 hc hcj
   rw[hpc] at this
   exact le_trans hok this
theorem ate{A:Nat->It}{n j:Nat}(h:afl A n j)(hl:j=0\/le (A (par j)) (A j)):uy A n:=by
 intro c h0 hc
 by_cases hcj:c=j
 ·subst hcj;exact hl.resolve_left (by omega)
 ·exact h.ok c h0 hc hcj
theorem baz{A:Nat->It}{n i0 k j:Nat}(h:adv A n i0 k)(h0j:0 < j)(hjn:j < n)(hp:par j=k)(hi:i0<=k)(hmin: ∀c,0 < c->c < n->par c=k->le (A j) (A c))(hl: ¬le (A k) (A j)):adv (sw A k j) n i0 j:=by
 have hkj:=qq h0j
 rw[hp] at hkj
 have hle:=ahk hl
 refine⟨fun c h0 hc hne=> .inr ?_,fun c h0 hc hpc _=>?_⟩
 ·have hpc:=qq h0
  by_cases hcj:c=j
  ·subst hcj
   simp only[sw,hp,if_neg (Nat.ne_of_lt hkj),if_true]
   exact hle
  ·simp only[sw,if_neg hcj,if_neg hne]
   by_cases h1:par c=k
   ·rw[if_pos h1,if_neg (by omega)];exact hmin c h0 hc h1
   ·rw[if_neg h1]
    by_cases h2:c=k
    ·subst h2;rw[if_pos rfl];exact h.up j h0j hjn hp h0
    ·rw[if_neg h2]
     rcases h.ok c h0 hc h1 with h3|h3
     ·omega
     ·exact h3
 ·have hlt:=qq h0
  have e1:sw A k j (par j)=A j:=by simp[sw,hp,Nat.ne_of_lt hkj]
  have e2:sw A k j c=A c:=by simp only[sw];rw[if_neg (by omega),if_neg (by omega)]
  rw[e1,e2]
  rcases h.ok c h0 hc (by omega) with h3|h3
  ·omega
  ·rw[hpc] at h3;exact h3
theorem bac{A:Nat->It}{n i0 k:Nat}(h:adv A n i0 k)(hd: ∀c,0 < c->c < n->par c=k->le (A k) (A c))(hk:i0 < k):uy A n:=by
 intro c h0 hc
 by_cases hpc:par c=k
 ·have:=hd c h0 hc hpc;rw[hpc];exact this
 ·rcases h.ok c h0 hc hpc with h3|h3
  ·omega
  ·exact h3
theorem bhd{A:Nat->It}{n i0:Nat}(h:adv A n i0 i0)(hd: ∀c,0 < c->c < n->par c=i0->le (A i0) (A c)):afl A n i0:=by
 refine⟨fun c h0 hc hne=>?_,h.up⟩
 by_cases hpc:par c=i0
 ·have:=hd c h0 hc hpc;rw[hpc];exact this
 ·rcases h.ok c h0 hc hpc with h3|h3
  ·omega
  ·exact h3
theorem awi{A B:Nat->It}{n i:Nat}(h:uy A n)(hin:i < n)(hB: ∀c,c≠i->B c=A c):adv B n i i:=by
 refine⟨fun c h0 hc hpc=>?_,fun c h0 hc hpc hi=>?_⟩
 ·by_cases hci:c=i
  ·exact .inl ⟨hci,rfl⟩
  ·rw[hB c hci,hB _ hpc];exact .inr (h c h0 hc)
 ·have:=qq h0
  have:=qq hi
  rw[hB c (by omega),hB _ (by omega)]
  have h1:=h c h0 hc
  rw[hpc] at h1
  exact le_trans (h i hi hin) h1
theorem asn{A:Nat->It}{n i:Nat}(h:uy A (n+1))(hin:i < n):adv (sw A i n) n i i:=by
 have h':uy A n:=fun c h0 hc=>h c h0 (by omega)
 refine⟨fun c h0 hc hpc=>?_,fun c h0 hc hpc hi=>?_⟩
 ·have:=qq h0
  by_cases hci:c=i
  ·exact .inl ⟨hci,rfl⟩
  ·simp only[sw]
   rw[if_neg (by omega),if_neg hpc,if_neg (by omega),if_neg hci];exact .inr (h' c h0 hc)
 ·have:=qq h0
  have:=qq hi
  simp only[sw]
  rw[if_neg (by omega),if_neg (by omega),if_neg (by omega),if_neg (by omega)]
  have h1:=h' c h0 hc
  rw[hpc] at h1
  exact le_trans (h' i hi hin) h1
theorem bbe{A:Nat->It}{n:Nat}(h:uy A n): ∀c,c < n->le (A 0) (A c):=by
 intro c
 induction c using Nat.strongRecOn with
 | _ c ih=>
  intro hc
  by_cases h0:c=0
  ·subst h0;exact le_refl _
  ·have hp:=qq (c:=c) (by omega)
   exact le_trans (ih (par c) hp (by omega)) (h c (by omega) hc)
def At(its:List It)(i:Nat):It:=its.getD i ⟨0,0,0⟩
def uj(its:List It)(i j:Nat)(x y:It):List It:=(its.set i y).set j x
theorem atn{its:List It}{i:Nat}{x:It}(h:its[i]? =some x):At its i=x:=by simp[At,h]
theorem vk{its:List It}{i:Nat}(h:i < its.length):its[i]? =some (At its i):=by simp[At,h]
theorem amb{its:List It}{i j:Nat}(hi:i < its.length)(hj:j < its.length)(c:Nat):At (uj its i j (At its i) (At its j)) c=sw (At its) i j c:=by
 simp only[At,uj,sw,List.getD_eq_getElem?_getD,List.getElem?_set,List.length_set]
 by_cases h1:c=j
 ·subst h1;simp[hj]
 ·rw[if_neg (Ne.symm h1),if_neg h1]
  by_cases h2:c=i
  ·subst h2;simp[hi]
  ·rw[if_neg (Ne.symm h2),if_neg h2]
theorem adx{its:List It}{i j:Nat}(hi:i < its.length)(hj:j < its.length):At (uj its i j (At its i) (At its j))=sw (At its) i j:=funext (amb hi hj)
theorem agn(its:List It)(i j:Nat)(x y:It):(uj its i j x y).length=its.length:=by simp[uj]
theorem aey{its:List It}{i j:Nat}(hi:i < its.length)(hj:j < its.length):(uj its i j (At its i) (At its j)).Perm its:=by
 have e1:At its i=its[i]:=by simp[At,hi]
 have e2:At its j=its[j]:=by simp[At,hj]
 rw[e1,e2]
 exact List.set_set_perm hi hj
end Go.Eng
set_option maxRecDepth 100000
namespace Go.Proofs.YtgepcfcicngceaaGreatDoor
open Go.Eng
def _root_.Go.Eng.It.ptr(t:It):Value:= .pointer (some ⟨t.p,0,none⟩)
def uo(w:World)(t:It)(i:Nat):Prop:=w.heap[t.p]? =some (.cells #[.int .u64 t.k,.int .u64 t.a,.int .i64 i] T.au (0,0))
theorem qk{w:World}{g n cap i j pi pj:Nat}{x y:It}(hi:i < n)(hj:j < n)(ci:ik w g i=some x.ptr)(cj:ik w g j=some y.ptr)(hx:uo w x pi)(hy:uo w y pj){K:KV}
  (h:K (.bool (xq x y)) (dr w 1)):jo P F.dh [.slice (some ⟨g,0,none⟩) n cap,.int .i64 i,.int .i64 j] w K:=by
 apply M.eh.calls
 unfold M.eh
 unfold uo at hx hy
 obtain⟨hx0,hx1,hx2⟩:=xh hx
 obtain⟨hy0,hy1,hy2⟩:=xh hy
 have hi':(i:Int) < n:=by omega
 have hj':(j:Int) < n:=by omega
 have e1:x.ptr= .pointer (some ⟨x.p,0,none⟩):=rfl
 have e2:y.ptr= .pointer (some ⟨y.p,0,none⟩):=rfl
 unfold xq at h
 clear hx hy
 by_cases h1:x.a < y.a
 ·simp[*] at h⊢
  exact h
 ·by_cases h2:x.a=y.a
  ·simp[*] at h⊢
   exact h
  ·simp[*] at h⊢
   exact h
class HE where
 e:TypeId
 od:List Value
 n1:e≠T.aa
 n2:e≠T.au
variable [HE]
def hbk(v mv:Value):Obj:= .cells (v :: mv :: HE.od).toArray HE.e (0,0)
theorem uk{w:World}{b:Nat}{x y:Value}(h:w.heap[b]? =some (hbk x y)):ik w b 0=some x/\ik w b 1=some y:=⟨by rw[iq h];rfl,by rw[iq h];rfl⟩
theorem bcw{w:World}{b:Nat}{x y v:Value}(h:w.heap[b]? =some (hbk x y)):(w.setCell ⟨b,0,none⟩ v).heap[b]? =some (hbk v y):=by
 rw[mh h];rfl
theorem bdc{w:World}{b:Nat}{x y v:Value}(h:w.heap[b]? =some (hbk x y)):(w.setCell ⟨b,1,none⟩ v).heap[b]? =some (hbk x v):=by
 rw[mh h];rfl
structure HL(w:World)(hb:Nat)(v mv:Value)(its:List It):Prop where
 blk:w.heap[hb]? =some (hbk v mv)
 row:w.ownsRow 0 T.aa 1 v its.length (its.map It.ptr)
 itm: ∀i t,its[i]? =some t->uo w t i
omit [HE] in
theorem abq{w:World}{t u:It}{i j:Nat}(h:uo w t i)(h':uo w u j)(hp:t.p=u.p):i=j:=by
 unfold uo at h h'
 rw[hp,h'] at h
 simp at h
 omega
def fpL(v:Value)(its:List It)(b:Nat):Prop:=v.ownBlock=some b\/∃t∈its,t.p=b
theorem bhn{w:World}{hb i j:Nat}{v mv:Value}{its:List It}{x y:It}(H:HL w hb v mv its)(hi:its[i]? =some x)(hj:its[j]? =some y)(hij:i≠j){K:KV}
  (h: ∀w',HL w' hb v mv (uj its i j x y)->Fr (fpL v its) w w'->K (.tuple #[]) w'):jo P F.di [v,.int .i64 i,.int .i64 j] w K:=by
 have hil:i < its.length:=(List.getElem?_eq_some_iff.1 hi).1
 have hjl:j < its.length:=(List.getElem?_eq_some_iff.1 hj).1
 obtain⟨g,cap,cur,hv,_,hgb,hnc,_,hcs,_⟩:=wu H.row (by omega)
 have hg:v.ownBlock=some g:=by rw[hv];rfl
 have hx:=H.itm i x hi
 have hy:=H.itm j y hj
 have hpn:x.p≠y.p:=fun h=>hij (abq hx hy h)
 have ci:=wk H.row hg (i:=i) (x:=x.ptr) (by simp[hi])
 have cj:=wk H.row hg (i:=j) (x:=y.ptr) (by simp[hj])
 have fz:=bhx H.row hg
 have gx:g≠x.p:=la hgb hx (by first|decide|exact HE.n1|exact HE.n2|exact HE.n1.symm|exact HE.n2.symm)
 have gy:g≠y.p:=la hgb hy (by first|decide|exact HE.n1|exact HE.n2|exact HE.n1.symm|exact HE.n2.symm)
 have hbg:hb≠g:=la H.blk hgb (by first|decide|exact HE.n1|exact HE.n2|exact HE.n1.symm|exact HE.n2.symm)
 have hbx:hb≠x.p:=la H.blk hx (by first|decide|exact HE.n1|exact HE.n2|exact HE.n1.symm|exact HE.n2.symm)
 have hby:hb≠y.p:=la H.blk hy (by first|decide|exact HE.n1|exact HE.n2|exact HE.n1.symm|exact HE.n2.symm)
 obtain⟨hx0,hx1,hx2⟩:=xh hx
 obtain⟨hy0,hy1,hy2⟩:=xh hy
 have fx:=lk hx 2
 have fy:=lk hy 2
 have hi':(i:Int) < its.length:=by omega
 have hj':(j:Int) < its.length:=by omega
 have e1:x.ptr= .pointer (some ⟨x.p,0,none⟩):=rfl
 have e2:y.ptr= .pointer (some ⟨y.p,0,none⟩):=rfl
 have hji:j≠i:=hij.symm
 apply M.ei.calls
 unfold M.ei
 subst hv
 simp[*,ka,lf]
 apply h
 ·have r1:(dr w 1).ownsRow 0 T.aa 1 (.slice (some ⟨g,0,none⟩) its.length cap) its.length (its.map It.ptr):=qr H.row fun _ _=>rfl
  have r2:=atd (atd r1 (g:=g) rfl i y.ptr) (g:=g) rfl j x.ptr
  refine⟨?_,?_,?_⟩
  ·rw[jv hbx.symm,jv hby.symm]
   show (World.setCell _ _ _).heap[hb]? =_
   rw[jv hbg.symm,jv hbg.symm]
   exact H.blk
  ·have hl:(uj its i j x y).length=its.length:=by simp[uj]
   have hm:(uj its i j x y).map It.ptr=(((its.map It.ptr).set i y.ptr).set j x.ptr):=by simp[uj,List.map_set]
   rw[hl,hm]
   refine qr r2 fun g' hg'=>?_
   cases hg'
   rw[jv gx.symm,jv gy.symm]
   rfl
  ·intro k t hk
   unfold uo
   simp only[uj] at hk
   rw[List.getElem?_set] at hk
   by_cases hkj:j=k
   ·subst hkj
    rw[if_pos rfl,if_pos (by simpa using hjl)] at hk
    cases hk
    have:(World.setCell (dr (World.setCell (World.setCell (dr w 1) ⟨g,i,none⟩ (.pointer (some ⟨y.p,0,none⟩))) ⟨g,j,none⟩ (.pointer (some ⟨x.p,0,none⟩))) 1) ⟨y.p,2,none⟩ (.int .i64 i)).heap[x.p]? =some (.cells #[.int .u64 x.k,.int .u64 x.a,.int .i64 (i:Nat)] T.au (0,0)):=by
     rw[jv hpn.symm]
     show (World.setCell _ _ _).heap[x.p]? =_
     rw[jv gx,jv gx]
     exact hx
    rw[mh this]
    rfl
   ·rw[if_neg hkj,List.getElem?_set] at hk
    by_cases hki:i=k
    ·subst hki
     rw[if_pos rfl,if_pos hil] at hk
     cases hk
     rw[jv hpn]
     have:(dr (World.setCell (World.setCell (dr w 1) ⟨g,i,none⟩ (.pointer (some ⟨y.p,0,none⟩))) ⟨g,j,none⟩ (.pointer (some ⟨x.p,0,none⟩))) 1).heap[y.p]? =some (.cells #[.int .u64 y.k,.int .u64 y.a,.int .i64 (j:Nat)] T.au (0,0)):=by
      show (World.setCell _ _ _).heap[y.p]? =_
      rw[jv gy,jv gy]
      exact hy
     rw[mh this]
     rfl
    ·rw[if_neg hki] at hk
     have ht:=H.itm k t hk
     have n1:x.p≠t.p:=fun h=>hki (abq hx ht h)
     have n2:y.p≠t.p:=fun h=>hkj (abq hy ht h)
     have n3:g≠t.p:=la hgb ht (by first|decide|exact HE.n1|exact HE.n2|exact HE.n1.symm|exact HE.n2.symm)
     rw[jv n1,jv n2]
     show (World.setCell _ _ _).heap[t.p]? =_
     rw[jv n3,jv n3]
     exact ht
 ·have mx:x∈its:=List.mem_of_getElem? hi
  have my:y∈its:=List.mem_of_getElem? hj
  exact ((((((Fr.refl _ w).dr 1).setCell (.inl (.inl rfl)) _ _).setCell (.inl (.inl rfl)) _ _).dr 1).setCell (.inl (.inr ⟨y,my,rfl⟩)) _ _).setCell (.inl (.inr ⟨x,mx,rfl⟩)) _ _
theorem amm{w:World}{hb:Nat}{v mv:Value}{its:List It}(H:HL w hb v mv its)(K:KV)(h:K (.int .i64 its.length) w):
  mm P (.iface T.bc (.pointer (some ⟨hb,0,none⟩))) "Len" [] w K:=by
 obtain⟨h0,_⟩:=uk H.blk
 rw[amd (f:=F.fe) (by simp) h0,M.et.fcall]
 apply M.et.calls
 unfold M.et
 rcases H.row.2 with⟨rfl,hn⟩|⟨g,cap,cur,rfl,_⟩
 ·simp[hn] at h⊢;exact h
 ·simp;exact h
theorem acd{w:World}{hb i j:Nat}{v mv:Value}{its:List It}{x y:It}(H:HL w hb v mv its)(hi:its[i]? =some x)(hj:its[j]? =some y)(K:KV)(h:K (.bool (xq x y)) (dr w 1)):
  mm P (.iface T.bc (.pointer (some ⟨hb,0,none⟩))) "Less" [.int .i64 i,.int .i64 j] w K:=by
 obtain⟨h0,_⟩:=uk H.blk
 have hil:i < its.length:=(List.getElem?_eq_some_iff.1 hi).1
 have hjl:j < its.length:=(List.getElem?_eq_some_iff.1 hj).1
 rw[amd (f:=F.dh) (by simp) h0,M.eh.fcall]
 obtain⟨g,cap,cur,hv,_,hgb,_⟩:=wu H.row (by omega)
 have hg:v.ownBlock=some g:=by rw[hv];rfl
 have ci:=wk H.row hg (i:=i) (x:=x.ptr) (by simp[hi])
 have cj:=wk H.row hg (i:=j) (x:=y.ptr) (by simp[hj])
 rw[hv]
 exact qk hil hjl ci cj (H.itm i x hi) (H.itm j y hj) h
theorem aix{w:World}{hb i j:Nat}{v mv:Value}{its:List It}{x y:It}(H:HL w hb v mv its)(hi:its[i]? =some x)(hj:its[j]? =some y)(hij:i≠j)(K:KV)
  (h: ∀w',HL w' hb v mv (uj its i j x y)->Fr (fpL v its) w w'->K (.tuple #[]) w'):
  mm P (.iface T.bc (.pointer (some ⟨hb,0,none⟩))) "Swap" [.int .i64 i,.int .i64 j] w K:=by
 obtain⟨h0,_⟩:=uk H.blk
 rw[amd (f:=F.di) (by simp) h0,M.ei.fcall]
 exact bhn H hi hj hij h
theorem HL.dr{w:World}{hb:Nat}{v mv:Value}{its:List It}(H:HL w hb v mv its)(n:Nat):HL (dr w n) hb v mv its:=⟨H.blk,qr H.row fun _ _=>rfl,H.itm⟩
end Go.Proofs.YtgepcfcicngceaaGreatDoor
set_option maxRecDepth 100000
namespace Go.Proofs.YtgepcfcicngceaaGreatDoor
open Go.Eng
variable [HE]
def zd(hb:Nat):Value:= .iface T.bc (.pointer (some ⟨hb,0,none⟩))
omit [HE] in
theorem ya{v:Value}{its its':List It}(h:its'.Perm its){b:Nat}(hf:fpL v its' b):fpL v its b:=by
 rcases hf with h'| ⟨t,ht,hp⟩
 ·exact .inl h'
 ·exact .inr ⟨t,h.mem_iff.1 ht,hp⟩
def UpI(w:World)(hb:Nat)(v mv:Value)(its:List It)(n:Nat):KL:=fun x w1=> ∃j1 its1,x=[gv x 0,.int .i64 (j1:Nat)]/\HL w1 hb v mv its1/\its1.Perm its/\its1.length=its.length/\j1 < n/\afl (At its1) n j1/\(∀c,n<=c->At its1 c=At its c)/\Fr (fpL v its) w w1
theorem avr{w:World}{hb j:Nat}{v mv:Value}{its:List It}(H:HL w hb v mv its)(hj:j < its.length)(hlen:its.length<=140737488355328){n:Nat}(hn:n<=its.length)(hjn:j < n)(hU:afl (At its) n j){K:KV}
  (h: ∀w' its',HL w' hb v mv its'->its'.Perm its->its'.length=its.length->uy (At its') n->(∀c,n<=c->At its' c=At its c)->Fr (fpL v its) w w'->K (.tuple #[]) w'):
  jo P F.gl [zd hb,.int .i64 j] w K:=by
 apply M.ez.calls
 unfold M.ez
 refine⟨UpI w hb v mv its n,fun x _=>ms x 1,⟨j,its,rfl,H,List.Perm.refl _,rfl,hjn,hU,fun _ _=>rfl,Fr.refl _ _⟩,?_⟩
 rintro x w1 ⟨j1,its1,hx,H1,hp1,hl1,hjn1,hU1,hc1,hf1⟩
 rw[hx]
 unfold M.ez.j0
 have e1:IntKind.i64.wrap ((j1:Int) - 1)=(j1:Int) - 1:=iy
 have e2:IntKind.i64.wrap (((j1:Int) - 1).tdiv 2)=((par j1:Nat):Int):=by
  unfold par
  by_cases h0:j1=0
  ·subst h0;decide
  ·have:((j1:Int) - 1).tdiv 2=(((j1 - 1) / 2:Nat):Int):=by
    rw[show (j1:Int) - 1=((j1 - 1:Nat):Int) from by omega]
    rfl
   rw[this];exact iy
 by_cases h0:j1=0
 ·have e3:((par j1:Nat):Int)=(j1:Int):=by subst h0;rfl
  simp[e1,e2,e3]
  exact h w1 its1 H1 hp1 hl1 (ate hU1 (.inl h0)) hc1 hf1
 ·have hpl:=qq (c:=j1) (by omega)
  have e3: ¬((par j1:Nat):Int)=(j1:Int):=by omega
  have g1:=vk (its:=its1) (i:=j1) (by omega)
  have g2:=vk (its:=its1) (i:=par j1) (by omega)
  by_cases hl:xq (At its1 j1) (At its1 (par j1))=true
  ·simp[e1,e2,e3]
   refine acd H1 g1 g2 _ ?_
   simp[hl]
   refine aix (H1.dr 1) g2 g1 (by omega) _ fun w2 H2 hf2=>?_
   have hl':=(acu _ _).1 hl
   have b1:par j1 < its1.length:=by omega
   have b2:j1 < its1.length:=by omega
   refine⟨⟨par j1,uj its1 (par j1) j1 (At its1 (par j1)) (At its1 j1),rfl,H2,(aey b1 b2).trans hp1,by rw[agn];exact hl1,by omega,?_,fun c hc=>?_,?_⟩,?_⟩
   ·rw[adx (by omega) (by omega)]
    exact bhm hU1 (by omega) hjn1 hl'
   ·rw[amb (by omega) (by omega),<-hc1 c hc]
    simp only[sw];rw[if_neg (by omega),if_neg (by omega)]
   ·exact (hf1.dr 1).jt hf2 fun b _ hb'=>ya hp1 hb'
   ·simp[ms,gv];omega
  ·have hl2:xq (At its1 j1) (At its1 (par j1))=false:=by simpa using hl
   simp[e1,e2,e3]
   refine acd H1 g1 g2 _ ?_
   simp[hl2]
   exact h _ its1 (H1.dr 1) hp1 hl1 (ate hU1 (.inr ((adz _ _).1 hl2))) hc1 (hf1.dr 1)
def DnI(w:World)(hb:Nat)(v mv:Value)(its:List It)(n i0:Nat):KL:=fun x w1=> ∃k its1,x=[gv x 0,gv x 1,gv x 2,.int .i64 (k:Nat)]/\HL w1 hb v mv its1/\its1.Perm its/\its1.length=its.length/\k < n/\i0<=k/\adv (At its1) n i0 k/\(∀c,n<=c->At its1 c=At its c)/\Fr (fpL v its) w w1
omit [HE] in
theorem acv{c k:Nat}(h0:0 < c)(h:par c=k):c=2 * k+1\/c=2 * k+2:=by unfold par at h;omega
theorem ato{w:World}{hb i0 n:Nat}{v mv:Value}{its:List It}(H:HL w hb v mv its)(hlen:its.length<=140737488355328)(hn:n<=its.length)(hi:i0 < n)(hD:adv (At its) n i0 i0){K:KV}
  (h: ∀w' its' b,HL w' hb v mv its'->its'.Perm its->its'.length=its.length->(b=true->uy (At its') n)->(b=false->afl (At its') n i0)->(∀c,n<=c->At its' c=At its c)->Fr (fpL v its) w w'->K (.bool b) w'):
  jo P F.gh [zd hb,.int .i64 i0,.int .i64 n] w K:=by
 apply M.cu.calls
 unfold M.cu
 simp only[il]
 refine⟨DnI w hb v mv its n i0,fun x _=>n - ms x 3,⟨i0,its,rfl,H,List.Perm.refl _,rfl,hi,Nat.le_refl _,hD,fun _ _=>rfl,Fr.refl _ _⟩,?_⟩
 rintro x w1 ⟨k,its1,hx,H1,hp1,hl1,hkn,hik,hD1,hc1,hf1⟩
 rw[hx]
 have fin: ∀(w2:World)(K':KV),HL w2 hb v mv its1->Fr (fpL v its) w w2->(∀c,0 < c->c < n->par c=k->le (At its1 k) (At its1 c))->K (.bool (decide (i0 < k))) w2:=fun w2 _ H2 hf2 hd=>by
  refine h w2 its1 _ H2 hp1 hl1 (fun hb=>bac hD1 hd (by simpa using hb)) (fun hb=>?_) hc1 hf2
  have:k=i0:=by simp at hb;omega
  subst this
  exact bhd hD1 hd
 unfold M.cu.j1
 have e1:IntKind.i64.wrap (2 * (k:Int))=2 * (k:Int):=iy
 have e2:IntKind.i64.wrap (2 * (k:Int)+1)=2 * (k:Int)+1:=iy
 have e3:IntKind.i64.wrap (2 * (k:Int)+1+1)=2 * (k:Int)+2:=by rw[iy];omega
 by_cases h1:(n:Int)<=2 * (k:Int)+1
 ·simp[e1,e2,h1]
  exact fin w1 K H1 hf1 fun c h0 hc hpc=>by rcases acv h0 hpc with h|h <;>omega
 ·have h1': ¬(2 * (k:Int)+1 < 0):=by omega
  simp[e1,e2,h1,h1']
  -- lc is done once the lesser child is known
  have go: ∀(j:Nat)(z:Int)(w2:World)(y:Value),z=(j:Nat)->j < n->par j=k->0 < j->(∀c,0 < c->c < n->par c=k->le (At its1 j) (At its1 c))->HL w2 hb v mv its1->Fr (fpL v its) w w2->
    M.cu.j3 (zd hb) [y,.int .i64 z] [gv x 0,gv x 1,gv x 2,.int .i64 k]
     (fun x0 w=>ip P .gtr T.d (.tmp 45) (.tmp 46) (gv x0 3) (.int .i64 i0) w fun t47 w=>K t47 w) (.int .i64 (2 * (k:Int)+1)) (fun x' w'=>DnI w hb v mv its n i0 x' w'/\n - ms x' 3 < n - ms [gv x 0,gv x 1,gv x 2,.int .i64 k] 3) w2 K:=by
   intro j z w2 y hz hj hpj h0j hmin H2 hf2
   subst hz
   have g1:=vk (its:=its1) (i:=j) (by omega)
   have g2:=vk (its:=its1) (i:=k) (by omega)
   have hkj:k < j:=by rw[<-hpj];exact qq h0j
   unfold M.cu.j3
   by_cases hl:xq (At its1 j) (At its1 k)=true
   ·simp
    refine acd H2 g1 g2 _ ?_
    simp[hl]
    refine aix (H2.dr 1) g2 g1 (by omega) _ fun w3 H3 hf3=>?_
    have b1:k < its1.length:=by omega
    have b2:j < its1.length:=by omega
    refine⟨⟨j,uj its1 k j (At its1 k) (At its1 j),rfl,H3,(aey b1 b2).trans hp1,by rw[agn];exact hl1,hj,by omega,?_,fun c hc=>?_,?_⟩,?_⟩
    ·rw[adx b1 b2]
     exact baz hD1 h0j hj hpj hik hmin ((acu _ _).1 hl)
    ·rw[amb b1 b2,<-hc1 c hc]
     simp only[sw];rw[if_neg (by omega),if_neg (by omega)]
    ·exact (hf2.dr 1).jt hf3 fun b _ hb'=>ya hp1 hb'
    ·simp[ms,gv];omega
   ·have hl2:xq (At its1 j) (At its1 k)=false:=by simpa using hl
    simp
    refine acd H2 g1 g2 _ ?_
    simp[hl2]
    exact fin _ K (H2.dr 1) (hf2.dr 1) fun c h0 hc hpc=>le_trans ((adz _ _).1 hl2) (hmin c h0 hc hpc)
  unfold M.cu.j2
  have p1:par (2 * k+1)=k:=by unfold par;omega
  have p2:par (2 * k+2)=k:=by unfold par;omega
  have z1:2 * (k:Int)+1=((2 * k+1:Nat):Int):=by omega
  have z2:2 * (k:Int)+2=((2 * k+2:Nat):Int):=by omega
  have q1:=vk (its:=its1) (i:=2 * k+1) (by omega)
  by_cases h2:2 * (k:Int)+2 < n
  ·have q2:=vk (its:=its1) (i:=2 * k+2) (by omega)
   simp[e3,h2]
   rw[z1,z2]
   refine acd H1 q2 q1 _ ?_
   by_cases hl:xq (At its1 (2 * k+2)) (At its1 (2 * k+1))=true
   ·simp[hl]
    have hl':=ahk ((acu _ _).1 hl)
    refine go (2 * k+2) _ _ _ (by omega) (by omega) p2 (by omega) (fun c h0 hc hpc=>?_) (H1.dr 1) (hf1.dr 1)
    rcases acv h0 hpc with rfl|rfl
    ·exact hl'
    ·exact le_refl _
   ·have hl2:xq (At its1 (2 * k+2)) (At its1 (2 * k+1))=false:=by simpa using hl
    simp[hl2]
    refine go (2 * k+1) _ _ _ (by omega) (by omega) p1 (by omega) (fun c h0 hc hpc=>?_) (H1.dr 1) (hf1.dr 1)
    rcases acv h0 hpc with rfl|rfl
    ·exact le_refl _
    ·exact (adz _ _).1 hl2
  ·simp[e3,h2]
   refine go (2 * k+1) _ _ _ (by omega) (by omega) p1 (by omega) (fun c h0 hc hpc=>?_) H1 hf1
   rcases acv h0 hpc with rfl|rfl
   ·exact le_refl _
   ·omega
end Go.Proofs.YtgepcfcicngceaaGreatDoor
set_option maxRecDepth 100000
namespace Go.Proofs.YtgepcfcicngceaaGreatDoor
open Go.Eng
variable [HE]
theorem HL.jf{w w':World}{hb:Nat}{v mv:Value}{its:List It}{S:Nat->Prop}(H:HL w hb v mv its)(hf:Fr S w w')(h1: ¬S hb)(h2: ∀b,fpL v its b->¬S b):HL w' hb v mv its:=by
 refine⟨hf.heap H.blk h1,qr H.row fun g hg=>?_,fun i t ht=>hf.heap (H.itm i t ht) (h2 _ (.inr ⟨t,List.mem_of_getElem? ht,rfl⟩))⟩
 obtain⟨cap,cur,_,_,hb',_⟩:=mq H.row hg
 exact hf.jf g (lj hb') (h2 g (.inl hg))
theorem akx{w:World}{hb:Nat}{v mv:Value}{its:List It}(H:HL w hb v mv its){b:Nat}(h:fpL v its b):b < w.heap.size:=by
 rcases h with hg| ⟨t,ht,rfl⟩
 ·obtain⟨cap,cur,_,_,hb',_⟩:=mq H.row hg
  exact lj hb'
 ·obtain⟨i,hi⟩:=List.mem_iff_getElem?.1 ht
  exact lj (H.itm i t hi)
theorem bbw{w:World}{hb:Nat}{v mv:Value}{its:List It}(H:HL w hb v mv its)(hlen:its.length < 1099511627776){t:It}{z:Int}(ht:w.heap[t.p]? =some (.cells #[.int .u64 t.k,.int .u64 t.a,.int .i64 z] T.au (0,0)))
  (hnew: ∀u∈its,u.p≠t.p) (K:KV)
  (h: ∀w' v',HL w' hb v' mv (its ++ [t])->Fr (fun b=>fpL v its b\/b=hb\/b=t.p) w w'->(∀b,v'.ownBlock=some b->v.ownBlock=some b\/w.heap.size<=b)->K (.tuple #[]) w'):
  mm P (zd hb) "Push" [.iface T.aa t.ptr] w K:=by
 unfold zd
 rw[aua (P:=P) (t:=T.bc) (name:= "Push") (f:=F.ef) (by simp),M.dy.fcall]
 apply M.dy.calls
 unfold M.dy
 obtain⟨h0,h1⟩:=uk H.blk
 obtain⟨t0,t1,t2⟩:=xh ht
 have f2:=lk ht 2
 have fb:=lk H.blk 0
 have hbt:hb≠t.p:=la H.blk ht (by first|decide|exact HE.n1|exact HE.n2|exact HE.n1.symm|exact HE.n2.symm)
 have e1:t.ptr= .pointer (some ⟨t.p,0,none⟩):=rfl
 have hlenv: ∀(w1:World)(K1:KV),K1 (.int .i64 its.length) w1->biT P .len #[T.ae] T.d [false] [v] w1 K1:=fun w1 K1 hk=>by
  rcases H.row.2 with⟨rfl,hn⟩|⟨g,cap,cur,rfl,_⟩
  ·simp[hn] at hk⊢;exact hk
  ·simp;exact hk
 simp[h0,e1]
 refine hlenv _ _ ?_
 simp[h0,t2,f2,ka,hbt.symm]
 -- the new row of one
 generalize hw1:w.setCell ⟨t.p,2,none⟩ (.int .i64 its.length)=w1
 have hs1:w1.heap.size=w.heap.size:=by rw[<-hw1,wq]
 have hf1:Fr (fun b=>fpL v its b\/b=hb\/b=t.p) w w1:=by
  rw[<-hw1];exact (Fr.refl _ w).setCell (.inl (.inr (.inr rfl))) _ _
 have hrow1:w1.ownsRow 0 T.aa 1 v its.length (its.map It.ptr):=qr H.row fun g hg=>by
  obtain⟨cap,cur,_,_,hb',_⟩:=mq H.row hg
  rw[<-hw1,jv]
  exact (la hb' ht (by first|decide|exact HE.n1|exact HE.n2|exact HE.n1.symm|exact HE.n2.symm)).symm
 have hrow2:=hrow1.alloc (.cells #[.pointer (some ⟨t.p,0,none⟩)] T.aa)
 refine alo (P:=P) et.ae hrow2 (b:=w.heap.size) (o:=0) (m:=1) (c:=1) (news:=[t.ptr]) rfl ?_ ?_ (by omega) (by omega) (Nat.zero_le _) _ _ ?_
 ·intro j u hj
  have:j=0/\u=t.ptr:=by
   cases j with
   | zero=>simp at hj;exact⟨rfl,hj.symm⟩
   | succ j=>simp at hj
  obtain⟨rfl,rfl⟩:=this
  rw[Nat.zero_add,abm hs1.symm];rfl
 ·intro u hu;simp at hu;subst hu;rfl
 ·intro v' w2 hrow3 hgr _ hwhere
  have hf2:Fr (fun b=>fpL v its b\/b=hb\/b=t.p) w w2:=(hf1.alloc _).jt (Fr.bfa hgr) fun b _ h=> .inl (.inl h)
  have hbg: ∀g,v.ownBlock=some g->g≠hb:=fun g hg=>by
   obtain⟨cap,cur,_,_,hb',_⟩:=mq H.row hg
   exact la hb' H.blk (by first|decide|exact HE.n1|exact HE.n2|exact HE.n1.symm|exact HE.n2.symm)
  have hblt:=lj H.blk
  have hblk1:(w1.alloc (.cells #[.pointer (some ⟨t.p,0,none⟩)] T.aa)).heap[hb]? =some (hbk v mv):=by
   rw[iw,if_neg (by omega),<-hw1,jv hbt.symm];exact H.blk
  have hblk2:w2.heap[hb]? =some (hbk v mv):=by
   rw[hgr.block hb (by rw[jc];omega) (fun he=>hbg hb he.symm rfl)];exact hblk1
  have c0:(ik w2 hb 0).isSome=true:=by rw[iq hblk2];rfl
  have ff:pq w2 hb 0=false:=lk hblk2 0
  have hv':v'= .slice none 0 0\/∃g c,v'= .slice (some ⟨g,0,none⟩) (its.length+1) c:=by
   rcases hrow3.2 with⟨h,_⟩|⟨g,c,_,h,_⟩
   ·exact .inl h
   ·exact .inr ⟨g,c,h⟩
  have hst: ∀K1:KV,K1 undef (w2.setCell ⟨hb,0,none⟩ v')->stT P T.ae (.pointer (some ⟨hb,0,none⟩)) v' w2 K1:=fun K1 hk=>by
   rcases hv' with rfl| ⟨g,c,rfl⟩ <;>simp[c0,ff] <;>exact hk
  refine hst _ (h _ v' ⟨?_,?_,?_⟩ (hf2.setCell (.inl (.inr (.inl rfl))) _ _) ?_)
  ·exact bcw hblk2
  ·have hr:(its ++ [t]).map It.ptr=its.map It.ptr ++ [t.ptr]:=by simp
   rw[hr,List.length_append]
   refine qr hrow3 fun g hg=>?_
   obtain⟨cap,cur,_,_,hb',_⟩:=mq hrow3 hg
   rw[jv]
   exact (la hb' hblk2 (by first|decide|exact HE.n1|exact HE.n2|exact HE.n1.symm|exact HE.n2.symm)).symm
  ·-- the items
   have jf: ∀p o,w1.heap[p]? =some o->v.ownBlock≠some p->p≠hb->(w2.setCell ⟨hb,0,none⟩ v').heap[p]? =some o:=fun p o hp hg hph=>by
    have hlt:=lj hp
    rw[jv hph.symm,hgr.block p (by rw[jc];omega) (fun he=>hg he.symm),iw,if_neg (by omega)]
    exact hp
   intro i u hu
   rw[List.getElem?_append] at hu
   split at hu
   ·have hu':=H.itm i u hu
    have hne:t.p≠u.p:=fun h=>hnew u (List.mem_of_getElem? hu) h.symm
    refine jf _ _ (by rw[<-hw1,jv hne];exact hu') (fun hg=>?_) (fun h=>?_)
    ·obtain⟨cap,cur,_,_,hb',_⟩:=mq H.row hg
     exact la hb' hu' (by first|decide|exact HE.n1|exact HE.n2|exact HE.n1.symm|exact HE.n2.symm) rfl
    ·unfold uo at hu';rw[h] at hu';exact la H.blk hu' (by first|decide|exact HE.n1|exact HE.n2|exact HE.n1.symm|exact HE.n2.symm) rfl
   ·rename_i hlt
    have hi:i=its.length/\u=t:=by
     cases hd:i - its.length with
     | zero=>rw[hd] at hu;simp at hu;exact⟨by omega,hu.symm⟩
     | succ n=>rw[hd] at hu;simp at hu
    obtain⟨rfl,rfl⟩:=hi
    refine jf _ _ (by rw[<-hw1,mh ht];rfl) (fun hg=>?_) hbt.symm
    obtain⟨cap,cur,_,_,hb',_⟩:=mq H.row hg
    exact la hb' ht (by first|decide|exact HE.n1|exact HE.n2|exact HE.n1.symm|exact HE.n2.symm) rfl
  ·intro b hb'
   rcases hwhere with h| ⟨g,h,hge⟩
   ·exact .inl (h ▸ hb')
   ·rw[hb'] at h;cases h
    rw[jc] at hge;exact .inr (by omega)
theorem bhz{w:World}{hb n:Nat}{v mv:Value}{its:List It}(H:HL w hb v mv its)(hlen:its.length < 1099511627776)(hn:its.length=n+1)(K:KV)
  (h: ∀w' v',HL w' hb v' mv (its.take n)->Fr (fun b=>b=hb) w w'->v'.ownBlock=v.ownBlock->K (.iface T.aa (At its n).ptr) w'):
  mm P (zd hb) "Pop" [] w K:=by
 unfold zd
 rw[aua (P:=P) (t:=T.bc) (name:= "Pop") (f:=F.en) (by simp),M.ej.fcall]
 apply M.ej.calls
 unfold M.ej
 obtain⟨h0,h1⟩:=uk H.blk
 have fb:=lk H.blk 0
 obtain⟨g,cap,cur,hv,_,hgb,hnc,_,_,_⟩:=wu H.row (by omega)
 have cn:=wk H.row (g:=g) (by rw[hv];rfl) (i:=n) (x:=(At its n).ptr) (by rw[List.getElem?_map,vk (by omega)];rfl)
 have hw:IntKind.i64.wrap ((its.length:Int) - 1)=(n:Int):=by rw[iy];omega
 have l1:(n:Int) < its.length:=by omega
 have l2:(n:Int)<=cap:=by omega
 have hbg:hb≠g:=(la hgb H.blk (by first|decide|exact HE.n1|exact HE.n2|exact HE.n1.symm|exact HE.n2.symm)).symm
 have hnl:n < its.length:=by omega
 have hnc':n<=cap:=by omega
 subst hv
 simp[h0,hw,hnl,hnc',cn,fb]
 refine h _ (.slice (some ⟨g,0,none⟩) n cap) ⟨?_,?_,?_⟩ ((Fr.refl (fun b=>b=hb) w).setCell (.inl rfl) _ _) rfl
 ·rw[mh H.blk];rfl
 ·have hl:(its.take n).length=n:=by rw[List.length_take];omega
  rw[hl,List.map_take]
  have:=bbu (m:=n) (qr (w':=w.setCell ⟨hb,0,none⟩ (.slice (some ⟨g,0,none⟩) n cap)) H.row fun g' hg'=>by cases hg';rw[jv hbg]) (by omega)
  simpa using this
 ·intro i u hu
  rw[List.getElem?_take] at hu
  split at hu
  ·have hu':=H.itm i u hu
   unfold uo at hu'⊢
   rw[jv (la H.blk hu' (by first|decide|exact HE.n1|exact HE.n2|exact HE.n1.symm|exact HE.n2.symm))]
   exact hu'
  ·cases hu
theorem bjb{w:World}{hb i:Nat}{v mv:Value}{its:List It}(H:HL w hb v mv its)(hlen:its.length < 1099511627776)(hi:i < its.length)(hD:adv (At its) its.length i i){K:KV}
  (h: ∀w' its',HL w' hb v mv its'->its'.Perm its->uy (At its') its'.length->Fr (fpL v its) w w'->K (.tuple #[]) w'):jo P F.gq [zd hb,.int .i64 i] w K:=by
 apply M.fz.calls
 unfold M.fz
 refine amm H _ ?_
 rw[M.cu.fcall]
 refine ato H (by omega) (Nat.le_refl _) hi hD fun w1 its1 b H1 hp1 hl1 ht hf _ hf1=>?_
 cases b with
 | true=>
  simp
  exact h w1 its1 H1 hp1 (by rw[hl1];exact ht rfl) hf1
 | false=>
  simp
  rw[M.ez.fcall]
  refine avr H1 (by omega) (by omega) (Nat.le_of_eq hl1.symm) hi (hf rfl) fun w2 its2 H2 hp2 hl2 hh _ hf2=>?_
  exact h w2 its2 H2 (hp2.trans hp1) (by rw[hl2,hl1];exact hh) (hf1.jt hf2 fun b _ hb'=>ya hp1 hb')
theorem bid{w:World}{hb:Nat}{v mv:Value}{its:List It}(H:HL w hb v mv its)(hlen:its.length < 1099511627776)(hh:uy (At its) its.length){t:It}{z:Int}(ht:w.heap[t.p]? =some (.cells #[.int .u64 t.k,.int .u64 t.a,.int .i64 z] T.au (0,0)))
  (hnew: ∀u∈its,u.p≠t.p) {K:KV}
  (h: ∀w' v' its',HL w' hb v' mv its'->its'.Perm (its ++ [t])->uy (At its') its'.length->Fr (fun b=>fpL v its b\/b=hb\/b=t.p) w w'->(∀b,v'.ownBlock=some b->v.ownBlock=some b\/w.heap.size<=b)->K (.tuple #[]) w'):
  jo P F.gp [zd hb,.iface T.aa t.ptr] w K:=by
 apply M.fu.calls
 unfold M.fu
 refine bbw H hlen ht hnew _ fun w1 v1 H1 hf1 hv1=>?_
 refine amm H1 _ ?_
 have hw:IntKind.i64.wrap ((((its ++ [t]).length:Nat):Int) - 1)=((its.length:Nat):Int):=by rw[iy (by simp <;>omega) (by simp <;>omega)];simp
 rw[nf,hw,M.ez.fcall]
 have hl:(its ++ [t]).length=its.length+1:=by simp
 refine avr H1 (by omega) (by omega) (Nat.le_refl _) (by omega) ⟨fun c h0 hc hne=>?_,fun c h0 hc hpc _=>?_⟩ fun w2 its2 H2 hp2 hl2 hh2 _ hf2=>?_
 ·have hc':c < its.length:=by omega
  have hp:=qq h0
  have e1:At (its ++ [t]) c=At its c:=by simp[At,List.getElem?_append,hc']
  have e2:At (its ++ [t]) (par c)=At its (par c):=by simp[At,List.getElem?_append,show par c < its.length from by omega]
  rw[e1,e2];exact hh c h0 hc'
 ·have:=qq h0;omega
 ·refine h w2 v1 its2 H2 hp2 (by rw[hl2];exact hh2) (hf1.jt hf2 fun b hlt hb'=>?_) hv1
  rcases ya (List.Perm.refl _) hb' with hg| ⟨u,hu,hp⟩
  ·rcases hv1 b hg with hg|hg
   ·exact .inl (.inl hg)
   ·omega
  ·rcases List.mem_append.1 hu with hu|hu
   ·exact .inl (.inr ⟨u,hu,hp⟩)
   ·rw[List.mem_singleton] at hu;subst hu;exact .inr (.inr hp.symm)
theorem azv{w:World}{hb i:Nat}{v mv:Value}{its:List It}(H:HL w hb v mv its)(hlen:its.length < 1099511627776)(hi:i < its.length)(hh:uy (At its) its.length){K:KV}
  (h: ∀w' v' its',HL w' hb v' mv its'->(At its i :: its').Perm its->uy (At its') its'.length->Fr (fun b=>fpL v its b\/b=hb) w w'->v'.ownBlock=v.ownBlock->K (.iface T.aa (At its i).ptr) w'):
  jo P F.gc [zd hb,.int .i64 i] w K:=by
 apply M.fe.calls
 unfold M.fe
 refine amm H _ ?_
 obtain⟨n,hn⟩: ∃n,its.length=n+1:=⟨its.length - 1,by omega⟩
 have hw:IntKind.i64.wrap (((its.length:Nat):Int) - 1)=((n:Nat):Int):=by rw[iy];omega
 -- the end:the ke one is taken
 have fin: ∀(w1:World) (its1:List It),HL w1 hb v mv its1->its1.Perm its->At its1 n=At its i->uy (At its1) n->Fr (fpL v its) w w1->mm P (zd hb) "Pop" [] w1 K:=fun w1 its1 H1 hp1 hlast hh1 hf1=>by
  have hl1:=hp1.length_eq
  refine bhz H1 (n:=n) (by omega) (by omega) _ fun w2 v2 H2 hf2 hv2=>?_
  rw[hlast]
  have hlt:(its1.take n).length=n:=by rw[List.length_take];omega
  have ht:its1=its1.take n ++ [At its1 n]:=by
   have h1:its1.take (n+1)=its1.take n ++ [its1[n]'(by omega)]:=by rw[List.take_succ_eq_append_getElem (by omega)]
   rw[List.take_of_length_le (by omega)] at h1
   have h2:At its1 n=its1[n]'(by omega):=by simp[At,show n < its1.length from by omega]
   rw[h2];exact h1
  refine h w2 v2 _ H2 ?_ ?_ ((hf1.mono fun _ _ h=> .inl h).jt hf2 fun b _ hb'=> .inr hb') hv2
  ·rw[<-hlast]
   have:(At its1 n :: its1.take n).Perm (its1.take n ++ [At its1 n]):=(List.perm_append_comm (l₁:=[At its1 n]) (l₂:=its1.take n))
   rw[<-ht] at this
   exact this.trans hp1
  ·rw[hlt]
   intro c h0 hc
   have hp:=qq h0
   have e1:At (its1.take n) c=At its1 c:=by simp[At,hc]
   have e2:At (its1.take n) (par c)=At its1 (par c):=by simp[At,show par c < n from by omega]
   rw[e1,e2];exact hh1 c h0 hc
 by_cases hin:i=n
 ·subst hin
  simp[hw]
  exact fin w its H (List.Perm.refl _) rfl (fun c h0 hc=>hh c h0 (by omega)) (Fr.refl _ _)
 ·have hne: ¬((n:Int)=(i:Int)):=by omega
  have b1:i < its.length:=hi
  have b2:n < its.length:=by omega
  simp[hw,hne]
  refine aix H (vk b1) (vk b2) hin _ fun w1 H1 hf1=>?_
  have hs:At (uj its i n (At its i) (At its n))=sw (At its) i n:=adx b1 b2
  have hl1:=agn its i n (At its i) (At its n)
  have hp1:=aey b1 b2
  rw[M.cu.fcall]
  refine ato H1 (by omega) (by omega) (by omega) (by rw[hs];exact asn (by rw[<-hn];exact hh) (by omega)) fun w2 its2 b H2 hp2 hl2 ht hf hc2 hf2=>?_
  have hf12:Fr (fpL v its) w w2:=hf1.jt hf2 fun b _ hb'=>ya hp1 hb'
  have hlast2:At its2 n=At its i:=by rw[hc2 n (Nat.le_refl _),hs];simp[sw]
  cases b with
  | true=>
   simp
   exact fin w2 its2 H2 (hp2.trans hp1) hlast2 (ht rfl) hf12
  | false=>
   simp
   rw[M.ez.fcall]
   refine avr H2 (by omega) (by omega) (n:=n) (by omega) (by omega) (hf rfl) fun w3 its3 H3 hp3 hl3 hh3 hc3 hf3=>?_
   exact fin w3 its3 H3 (hp3.trans (hp2.trans hp1)) (by rw[hc3 n (Nat.le_refl _)];exact hlast2) hh3 (hf12.jt hf3 fun b _ hb'=>ya (hp2.trans hp1) hb')
end Go.Proofs.YtgepcfcicngceaaGreatDoor
namespace Go.Eng
abbrev CT:=List (Int×Int)
def qm(c:CT)(k:Int):CT:=c.filter fun p=>!decide (p.1=k)
def pa(c:CT)(k a:Int):CT:=(k,a) :: qm c k
def vc:CT->Int->Option Int
 | [],_=>none
 | (y,a) :: c,k=>if y=k then some a else vc c k
def jz(c:CT):List Int:=c.map (·.1)
def leP(p q:Int×Int):Bool:=decide (p.2 < q.2) || (decide (p.2=q.2) && decide (p.1<=q.1))
def srt(c:CT):CT:=c.mergeSort leP
theorem axs(a b c:Int×Int):leP a b=true->leP b c=true->leP a c=true:=by
 simp only[leP,Bool.or_eq_true,Bool.and_eq_true,decide_eq_true_eq];omega
theorem azn(a b:Int×Int):(leP a b || leP b a)=true:=by
 simp only[leP,Bool.or_eq_true,Bool.and_eq_true,decide_eq_true_eq];omega
theorem bbz{a b:Int×Int}(h:leP a b=true)(h':leP b a=true):a=b:=by
 simp only[leP,Bool.or_eq_true,Bool.and_eq_true,decide_eq_true_eq] at h h'
 obtain⟨a1,a2⟩:=a
 obtain⟨b1,b2⟩:=b
 simp only at h h'
 have e1:a2=b2:=by omega
 have e2:a1=b1:=by omega
 rw[e1,e2]
theorem vy(c:CT):(srt c).Perm c:=List.mergeSort_perm c leP
theorem azc(c:CT):(srt c).Pairwise (fun a b=>leP a b=true):=List.pairwise_mergeSort axs azn c
theorem bag{l l':CT}(h:l.Perm l')(h1:l.Pairwise (fun a b=>leP a b=true))(h2:l'.Pairwise (fun a b=>leP a b=true)):l=l':=
 List.Perm.eq_of_pairwise (fun _ _ _ _ ha hb=>bbz ha hb) h1 h2 h
theorem abe(c:CT)(k:Int):vc c k=none↔k∉jz c:=by
 induction c with
 | nil=>simp[vc,jz]
 | cons p c ih=>
  obtain⟨y,a⟩:=p
  simp only[vc,jz,List.map_cons,List.mem_cons,not_or] at ih⊢
  by_cases hy:y=k
  ·simp[hy]
  ·simp[hy,ih,Ne.symm hy]
theorem bby{c:CT}{k a:Int}(h:vc c k=some a):(k,a)∈c:=by
 induction c with
 | nil=>simp[vc] at h
 | cons p c ih=>
  obtain⟨y,b⟩:=p
  simp only[vc] at h
  split at h
  ·rename_i hy;subst hy;cases h;exact List.mem_cons_self ..
  ·exact List.mem_cons_of_mem _ (ih h)
theorem adw{c:CT}(hn:(jz c).Nodup){k a:Int}(h:(k,a)∈c):vc c k=some a:=by
 induction c with
 | nil=>cases h
 | cons p c ih=>
  obtain⟨y,b⟩:=p
  simp only[jz,List.map_cons,List.nodup_cons] at hn
  simp only[vc]
  rcases List.mem_cons.1 h with h|h
  ·cases h;simp
  ·split
   ·rename_i hy;subst hy
    exact absurd (List.mem_map.2 ⟨_,h,rfl⟩) hn.1
   ·exact ih hn.2 h
theorem agf(c:CT)(k:Int):jz (qm c k)=(jz c).filter fun x=>!decide (x=k):=by
 unfold jz qm
 rw[List.filter_map]
 rfl
theorem akr{c:CT}(h:(jz c).Nodup)(k:Int):(jz (qm c k)).Nodup:=by rw[agf];exact h.filter _
theorem apa(c:CT)(k:Int):k∉jz (qm c k):=by rw[agf];simp
theorem akd{c:CT}(h:(jz c).Nodup)(k a:Int):(jz (pa c k a)).Nodup:=by
 unfold pa jz
 rw[List.map_cons,List.nodup_cons]
 exact⟨apa c k,akr h k⟩
theorem aax{c:CT}{k:Int}(h:k∉jz c):qm c k=c:=by
 unfold qm
 rw[List.filter_eq_self]
 intro p hp
 simp only[Bool.not_eq_true',decide_eq_false_iff_not]
 exact fun he=>h (List.mem_map.2 ⟨p,hp,he⟩)
theorem anq{c c':CT}(h:c.Perm c')(k:Int):(qm c k).Perm (qm c' k):=h.filter _
theorem bas{c c':CT}(h:c.Perm c')(k a:Int):(pa c k a).Perm (pa c' k a):=(anq h k).cons _
theorem apo{c:CT}(hn:(jz c).Nodup){i:Nat}{k a b:Int}(hi:c[i]? =some (k,a)):(c.set i (k,b)).Perm (pa c k b):=by
 induction c generalizing i with
 | nil=>simp at hi
 | cons p c ih=>
  simp only[jz,List.map_cons,List.nodup_cons] at hn
  cases i with
  | zero=>
   simp at hi
   subst hi
   simp only[List.set_cons_zero,pa]
   have:qm ((k,a) :: c) k=c:=by
    unfold qm
    rw[List.filter_cons]
    simp only[decide_true,Bool.not_true,Bool.false_eq_true,if_false]
    exact aax hn.1
   rw[this]
  | succ i=>
   have hi':c[i]? =some (k,a):=by simpa using hi
   have hpk:p.1≠k:=fun h=>hn.1 (by rw[h];exact List.mem_map.2 ⟨_,List.mem_of_getElem? hi',rfl⟩)
   simp only[List.set_cons_succ]
   have h1:=(ih hn.2 hi').cons p
   refine h1.trans ?_
   have:pa (p :: c) k b=(k,b) :: p :: qm c k:=by
    unfold pa qm
    rw[List.filter_cons]
    simp[hpk]
   rw[this]
   exact List.Perm.swap _ _ _
theorem bdg{c:CT}(hn:(jz c).Nodup){l:CT}{k a:Int}(h:((k,a) :: l).Perm c):l.Perm (qm c k):=by
 have hn':(jz ((k,a) :: l)).Nodup:=((h.map _).nodup_iff).2 hn
 simp only[jz,List.map_cons,List.nodup_cons] at hn'
 have h1:=anq h k
 have:qm ((k,a) :: l) k=l:=by
  unfold qm
  rw[List.filter_cons]
  simp only[decide_true,Bool.not_true,Bool.false_eq_true,if_false]
  exact aax hn'.1
 rw[this] at h1
 exact h1
theorem agx{α β:Type}{f:α->β}{l:List α}{i:Nat}{t t':α}(hi:l[i]? =some t)(hf:f t'=f t):(l.set i t').map f=l.map f:=by
 rw[List.map_set]
 refine List.ext_getElem? fun j=>?_
 rw[List.getElem?_set]
 have hil:=(List.getElem?_eq_some_iff.1 hi).1
 split
 ·rename_i hij;subst hij
  rw[List.length_map,if_pos hil,List.getElem?_map,hi,hf];rfl
 ·rfl
def nk(c:CT)(now:Int):List Int:=((srt c).filter fun p=>decide (p.2<=now)).map (·.1)
def ug(c:CT)(now:Int):CT:=c.filter fun p=>decide (now < p.2)
theorem aot{c:CT}{p:Int×Int}{l:CT}(h:(p :: l).Perm c)(hm: ∀q∈l,leP p q=true):srt c=p :: srt l:=by
 refine bag ((vy c).trans (h.symm.trans ((vy l).symm.cons p))) (azc c) ?_
 refine List.Pairwise.cons (fun q hq=>hm q ((vy l).mem_iff.1 hq)) (azc l)
theorem axn{c:CT}{p:Int×Int}{l:CT}{now:Int}(h:(p :: l).Perm c)(hm: ∀q∈l,leP p q=true)(hd:p.2<=now):nk c now=p.1 :: nk l now:=by
 unfold nk
 rw[aot h hm,List.filter_cons,if_pos (by simpa using hd)]
 rfl
theorem ban{c:CT}{now:Int}(h: ∀q∈c,now < q.2):nk c now=[]:=by
 unfold nk
 rw[List.filter_eq_nil_iff.2]
 ·rfl
 ·intro q hq
  have:=h q ((vy c).mem_iff.1 hq)
  simp;omega
theorem auq{p:Int×Int}{l c:CT}{now:Int}(h:(p :: l).Perm c)(hd:p.2<=now):(ug l now).Perm (ug c now):=by
 have:=h.filter fun q=>decide (now < q.2)
 rw[List.filter_cons,if_neg (by simp;omega)] at this
 exact this
theorem axd{c:CT}{now:Int}(h: ∀q∈c,now < q.2):ug c now=c:=by
 unfold ug
 rw[List.filter_eq_self]
 intro q hq;simpa using h q hq
end Go.Eng
set_option maxRecDepth 100000
namespace Go.Proofs.YtgepcfcicngceaaGreatDoor
open Go.Eng
variable [HE]
def It.pr(t:It):Int×Int:=(t.k,t.a)
def ako(w:World)(mv:Value)(its:List It):Prop:=
 (mv= .map none/\its=[])\/∃r m,mv= .map (some r)/\kx w r .u64 m/\(jm m).Nodup/\(∀t∈its,ki m t.k=some t.ptr)/\∀k,(∀t∈its,t.k≠k)->ki m k=none
structure HpI(w:World)(hb:Nat)(v mv:Value)(its:List It):Prop where
 hl:HL w hb v mv its
 hh:uy (At its) its.length
 nd:(its.map (·.k)).Nodup
 mp:ako w mv its
def yx(hb:Nat):Value:= .pointer (some ⟨hb,0,none⟩)
structure Hp(w:World)(hb:Nat)(O:Nat->Prop)(c:CT):Prop where
 ex: ∃v mv its,HpI w hb v mv its/\(its.map It.pr).Perm c/\O hb/\(∀b,fpL v its b->O b)/\∀r,mv= .map (some r)->O r
 lt: ∀b,O b->b < w.heap.size
 nd:(jz c).Nodup
omit [HE] in
theorem ako.jf{w w':World}{mv:Value}{its:List It}(h:ako w mv its)(hk: ∀r,mv= .map (some r)->w'.heap[r]? =w.heap[r]?):ako w' mv its:=by
 rcases h with h| ⟨r,m,hr,hm,h1,h2,h3⟩
 ·exact .inl h
 ·exact .inr ⟨r,m,hr,hm.of_heap (hk r hr),h1,h2,h3⟩
theorem Hp.jf{w w':World}{hb:Nat}{O S:Nat->Prop}{c:CT}(H:Hp w hb O c)(hf:Fr S w w')(hd: ∀b,O b->¬S b):Hp w' hb O c:=by
 obtain⟨v,mv,its,hI,hp,h1,h2,h3⟩:=H.ex
 refine⟨⟨v,mv,its,⟨hI.hl.jf hf (hd _ h1) fun b hb'=>hd _ (h2 b hb'),hI.hh,hI.nd,hI.mp.jf fun r hr=>hf.jf r (H.lt r (h3 r hr)) (hd _ (h3 r hr))⟩,hp,h1,h2,h3⟩,fun b hb'=>Nat.lt_of_lt_of_le (H.lt b hb') hf.size,H.nd⟩
theorem Hp.congr{w:World}{hb:Nat}{O:Nat->Prop}{c c':CT}(H:Hp w hb O c)(h:c.Perm c'):Hp w hb O c':=by
 obtain⟨v,mv,its,hI,hp,h1,h2,h3⟩:=H.ex
 exact⟨⟨v,mv,its,hI,hp.trans h,h1,h2,h3⟩,H.lt,((h.map _).nodup_iff).1 H.nd⟩
theorem jq{w:World}{hb:Nat}{O:Nat->Prop}{c:CT}(H:Hp w hb O c){K:KV}(h:K (.int .i64 c.length) w):jo P F.em [yx hb] w K:=by
 obtain⟨v,mv,its,hI,hp,_⟩:=H.ex
 apply M.eg.calls
 unfold M.eg yx
 obtain⟨h0,h1⟩:=uk hI.hl.blk
 have hl:c.length=its.length:=by rw[<-hp.length_eq];simp
 rw[hl] at h
 simp[h0]
 rcases hI.hl.row.2 with⟨rfl,hn⟩|⟨g,cap,cur,rfl,_⟩
 ·simp[hn] at h⊢;exact h
 ·simp;exact h
omit [HE] in
theorem atj{w:World}{mv:Value}{its:List It}{c:CT}(hm:ako w mv its)(hp:(its.map It.pr).Perm c)(hn:(jz c).Nodup)(k:Int)(ok:Bool)(K:KV):
  (vc c k=none->K (cond ok (.tuple #[.pointer none,.bool false]) (.pointer none)) w)->(∀t∈its,t.k=k->vc c k=some t.a->K (cond ok (.tuple #[t.ptr,.bool true]) t.ptr) w)->
  (mv= .map none->ok=false)->luT P T.o mv (.int .u64 k) ok w K:=by
 intro h0 h1 hok
 rcases hm with⟨rfl,rfl⟩|⟨r,m,rfl,hm,_,h2,h3⟩
 ·rw[hok rfl,bkv mt.o]
  rw[hok rfl] at h0
  have hc:c=[]:=hp.symm.eq_nil
  exact h0 (by rw[hc];rfl)
 ·rw[akg mt.o hm]
  by_cases hex: ∃t∈its,t.k=k
  ·obtain⟨t,ht,htk⟩:=hex
   have:=h2 t ht
   rw[htk] at this
   rw[this]
   refine h1 t ht htk (adw hn (hp.mem_iff.1 ?_))
   rw[<-htk]
   exact List.mem_map.2 ⟨t,ht,rfl⟩
  ·have hno: ∀t∈its,t.k≠k:=fun t ht htk=>hex ⟨t,ht,htk⟩
   rw[h3 k hno]
   refine h0 ((abe _ _).2 fun hk=>?_)
   obtain⟨p,hp',rfl⟩:=List.mem_map.1 hk
   obtain⟨t,ht,rfl⟩:=List.mem_map.1 (hp.mem_iff.2 hp')
   exact hno t ht rfl
theorem auv{w:World}{hb:Nat}{O:Nat->Prop}{c:CT}(H:Hp w hb O c)(k:Int){K:KV}(h0:vc c k=none->K (.tuple #[.int .u64 0,.bool false]) w)(h1: ∀a,vc c k=some a->K (.tuple #[.int .u64 a,.bool true]) w):
  jo P F.ez [yx hb,.int .u64 k] w K:=by
 obtain⟨v,mv,its,hI,hp,_⟩:=H.ex
 apply M.da.calls
 unfold M.da M.da.j0 yx
 obtain⟨c0,c1⟩:=uk hI.hl.blk
 simp[c1]
 refine atj hI.mp hp H.nd k false _ (fun hn=>?_) (fun t ht htk ha=>?_) fun _=>rfl
 ·simp;exact h0 hn
 ·obtain⟨i,hi⟩:=List.mem_iff_getElem?.1 ht
  obtain⟨t0,t1,t2⟩:=xh (hI.hl.itm i t hi)
  simp[It.ptr,c1]
  refine atj hI.mp hp H.nd k false _ (fun hn=>?_) (fun u hu huk hb'=>?_) fun _=>rfl
  ·rw[hn] at ha;cases ha
  ·obtain⟨j,hj⟩:=List.mem_iff_getElem?.1 hu
   obtain⟨u0,u1,u2⟩:=xh (hI.hl.itm j u hj)
   simp[It.ptr,u1]
   exact h1 _ hb'
theorem big{w:World}{hb:Nat}{O:Nat->Prop}{c:CT}(H:Hp w hb O c)(hlen:c.length < 1099511627776){K:KV}(h0:c=[]->K (.tuple #[.int .u64 0,.int .u64 0,.bool false]) w)
  (h1: ∀k a,(k,a)∈c->(∀q∈c,leP (k,a) q=true)->K (.tuple #[.int .u64 k,.int .u64 a,.bool true]) (dr w 1)):jo P F.ed [yx hb] w K:=by
 obtain⟨v,mv,its,hI,hp,_⟩:=H.ex
 have hl:c.length=its.length:=by rw[<-hp.length_eq];simp
 apply M.cp.calls
 unfold M.cp M.cp.j0
 simp only[il]
 rw[M.eg.fcall]
 refine jq H ?_
 by_cases hc:c=[]
 ·subst hc
  simp
  exact h0 rfl
 ·have hpos:0 < c.length:=List.length_pos_iff.2 hc
  have hz: ¬((c.length:Int)=0):=by omega
  obtain⟨c0,c1⟩:=uk hI.hl.blk
  obtain⟨g,cap,cur,hv,_,hgb,hnc,_,_,_⟩:=wu hI.hl.row (by omega)
  have hat:=vk (its:=its) (i:=0) (by omega)
  obtain⟨t0,t1,t2⟩:=xh (hI.hl.itm 0 _ hat)
  have cn:=wk hI.hl.row (g:=g) (by rw[hv];rfl) (i:=0) (x:=(At its 0).ptr) (by rw[List.getElem?_map,hat];rfl)
  rw[hv] at c0
  have e1:(At its 0).ptr= .pointer (some ⟨(At its 0).p,0,none⟩):=rfl
  have hpos':0 < its.length:=by omega
  simp[hc,yx,c0,cn,e1,t0,t1,hpos']
  have hm:At its 0∈its:=List.mem_of_getElem? hat
  refine h1 _ _ (hp.mem_iff.1 (List.mem_map.2 ⟨_,hm,rfl⟩)) fun q hq=>?_
  obtain⟨u,hu,rfl⟩:=List.mem_map.1 (hp.mem_iff.2 hq)
  obtain⟨j,hj⟩:=List.mem_iff_getElem?.1 hu
  have hjl:=(List.getElem?_eq_some_iff.1 hj).1
  have:=bbe hI.hh j hjl
  rw[atn hj] at this
  unfold le at this
  have hle:leP ((At its 0).k,(At its 0).a) (u.k,u.a)=true:=by
   simp only[leP,Bool.or_eq_true,Bool.and_eq_true,decide_eq_true_eq]
   omega
  exact hle
theorem HL.apz{w w':World}{hb:Nat}{v mv mv':Value}{its:List It}(H:HL w hb v mv its)(hb':w'.heap[hb]? =some (hbk v mv'))(hk: ∀b,fpL v its b->w'.heap[b]? =w.heap[b]?):HL w' hb v mv' its:=by
 refine⟨hb',qr H.row fun g hg=>hk g (.inl hg),fun i t ht=>?_⟩
 have:=H.itm i t ht
 unfold uo at this⊢
 rw[hk _ (.inr ⟨t,List.mem_of_getElem? ht,rfl⟩)]
 exact this
theorem uq{w:World}{hb r:Nat}{v mv:Value}{its:List It}{m:MP}(H:HL w hb v mv its)(hm:kx w r .u64 m){b:Nat}(hf:fpL v its b\/b=hb):b≠r:=by
 obtain⟨es,clk,hr,_⟩:=hm
 rcases hf with (hg| ⟨t,ht,rfl⟩)|rfl
 ·obtain⟨cap,cur,_,_,hb',_⟩:=mq H.row hg
  exact ahf hb' hr
 ·obtain⟨i,hi⟩:=List.mem_iff_getElem?.1 ht
  exact ahf (H.itm i t hi) hr
 ·exact ahf H.blk hr
theorem arl{w:World}{hb r:Nat}{v:Value}{its:List It}{m:MP}{c:CT}{O:Nat->Prop}(hI:HpI w hb v (.map (some r)) its)(hm:kx w r .u64 m)(hmn:(jm m).Nodup)(hm2: ∀t∈its,ki m t.k=some t.ptr)
  (hm3: ∀k,(∀t∈its,t.k≠k)->ki m k=none) (hp:(its.map It.pr).Perm c) (hO1:O hb) (hO2: ∀b,fpL v its b->O b) (hO3:O r) (hlt: ∀b,O b->b < w.heap.size) (hnd:(jz c).Nodup) (hlen:c.length < 1000000) (k a:Int) {K:KV}
  (h: ∀w' O',Hp w' hb O' (pa c k a)->Fr O w w'->(∀b,O' b->O b\/w.heap.size<=b)->K (.tuple #[]) w'):M.az.j0 (yx hb) (.int .u64 k) (.int .u64 a) w K:=by
 have hl:c.length=its.length:=by rw[<-hp.length_eq];simp
 obtain⟨c0,c1⟩:=uk hI.hl.blk
 unfold M.az.j0 yx
 simp[c1]
 rw[akg mt.o hm]
 by_cases hex: ∃t∈its,t.k=k
 ·obtain⟨t,ht,rfl⟩:=hex
  obtain⟨i,hi⟩:=List.mem_iff_getElem?.1 ht
  have hil:=(List.getElem?_eq_some_iff.1 hi).1
  have hit:=hI.hl.itm i t hi
  obtain⟨t0,t1,t2⟩:=xh hit
  have tf:=lk hit 1
  rw[hm2 t ht]
  simp[It.ptr,t1,tf,t2,ka]
  rw[M.fz.fcall]
  -- the item's time is turned
  generalize hw1:w.setCell ⟨t.p,1,none⟩ (.int .u64 a)=w1
  have hbt:hb≠t.p:=la hI.hl.blk hit (by first|decide|exact HE.n1|exact HE.n2|exact HE.n1.symm|exact HE.n2.symm)
  have hf1:Fr (fpL v its) w w1:=by rw[<-hw1];exact (Fr.refl _ w).setCell (.inl (.inr ⟨t,ht,rfl⟩)) _ _
  let t':It:=⟨t.p,t.k,a⟩
  have hptr:(its.set i t').map It.ptr=its.map It.ptr:=agx hi rfl
  have H1:HL w1 hb v (.map (some r)) (its.set i t'):=by
   refine⟨?_,?_,fun j u hu=>?_⟩
   ·rw[<-hw1,jv hbt.symm];exact hI.hl.blk
   ·rw[hptr,List.length_set]
    refine qr hI.hl.row fun g hg=>?_
    obtain⟨cap,cur,_,_,hb',_⟩:=mq hI.hl.row hg
    rw[<-hw1,jv (la hb' hit (by first|decide|exact HE.n1|exact HE.n2|exact HE.n1.symm|exact HE.n2.symm)).symm]
   ·rw[List.getElem?_set] at hu
    split at hu
    ·rename_i hij;subst hij
     simp[hil] at hu;subst hu
     unfold uo
     rw[<-hw1,mh hit];rfl
    ·rename_i hij
     have hu':=hI.hl.itm j u hu
     have hne:t.p≠u.p:=fun h=>hij (abq hit hu' h)
     unfold uo at hu'⊢
     rw[<-hw1,jv hne];exact hu'
  have hD:adv (At (its.set i t')) (its.set i t').length i i:=by
   rw[List.length_set]
   refine awi hI.hh hil fun c hc=>?_
   simp[At,List.getElem?_set,Ne.symm hc]
  have hfix:=bjb (K:=fun _ w=>K (.tuple #[]) w) (H1.dr 1) (by rw[List.length_set];omega) (by rw[List.length_set];exact hil) hD fun w2 its2 H2 hp2 hh2 hf2=>by
   have hkeys:(its.set i t').map (·.k)=its.map (·.k):=agx hi rfl
   have hfr:Fr (fun b=>fpL v its b) w w2:=(hf1.dr 1).jt hf2 fun b _ hb'=>by
    rcases hb' with hg| ⟨u,hu,hpu⟩
    ·exact .inl hg
    ·obtain⟨j,hj⟩:=List.mem_iff_getElem?.1 hu
     rw[List.getElem?_set] at hj
     split at hj
     ·rename_i hij;subst hij
      simp[hil] at hj;subst hj
      exact .inr ⟨t,ht,hpu⟩
     ·exact .inr ⟨u,List.mem_of_getElem? hj,hpu⟩
   have hm':kx w2 r .u64 m:=hm.of_heap (hfr.jf r hm.lt fun hf=>uq hI.hl hm (.inl hf) rfl)
   have mem2: ∀u∈its2,∃x∈its,x.k=u.k/\x.p=u.p:=fun u hu=>by
    obtain⟨j,hj⟩:=List.mem_iff_getElem?.1 (hp2.mem_iff.1 hu)
    rw[List.getElem?_set] at hj
    split at hj
    ·rename_i hij;subst hij
     simp[hil] at hj;subst hj
     exact⟨t,ht,rfl,rfl⟩
    ·exact⟨u,List.mem_of_getElem? hj,rfl,rfl⟩
   refine h w2 O ⟨⟨v,.map (some r),its2,⟨H2,hh2,?_,.inr ⟨r,m,rfl,hm',hmn,fun u hu=>?_,fun k' hk'=>?_⟩⟩,?_,hO1,fun b hb'=>?_,fun r' hr'=>by cases hr';exact hO3⟩,fun b hb'=>Nat.lt_of_lt_of_le (hlt b hb') hfr.size,akd hnd _ _⟩ (hfr.mono fun b _ hb'=>hO2 b hb') fun b hb'=> .inl hb'
   ·rw[((hp2.map (·.k)).nodup_iff),hkeys];exact hI.nd
   ·obtain⟨x,hx,h1,h2⟩:=mem2 u hu
    have:=hm2 x hx
    rw[h1] at this
    rw[this];unfold It.ptr;rw[h2]
   ·refine hm3 k' fun x hx hxk=>?_
    obtain⟨j,hj⟩:=List.mem_iff_getElem?.1 hx
    by_cases hij:i=j
    ·subst hij
     rw[hi] at hj;cases hj
     have:t'∈its2:=hp2.mem_iff.2 (List.mem_iff_getElem?.2 ⟨i,by simp[List.getElem?_set,hil]⟩)
     exact hk' t' this hxk
    ·have:x∈its2:=hp2.mem_iff.2 (List.mem_iff_getElem?.2 ⟨j,by simp[List.getElem?_set,hij,hj]⟩)
     exact hk' x this hxk
   ·have h1:(its2.map It.pr).Perm ((its.map It.pr).set i (t.k,a)):=by
     have:=hp2.map It.pr
     rw[List.map_set] at this
     exact this
    refine h1.trans ?_
    have hnd':(jz (its.map It.pr)).Nodup:=((hp.map _).nodup_iff).2 hnd
    have h2:=apo hnd' (i:=i) (k:=t.k) (a:=t.a) (b:=a) (by simp[hi,It.pr])
    exact h2.trans (bas hp _ _)
   ·rcases hb' with hg| ⟨u,hu,hpu⟩
    ·exact hO2 b (.inl hg)
    ·obtain⟨x,hx,h1,h2⟩:=mem2 u hu
     exact hO2 b (.inr ⟨x,hx,h2.trans hpu⟩)
  exact hfix
 ·have hno: ∀t∈its,t.k≠k:=fun t ht htk=>hex ⟨t,ht,htk⟩
  rw[hm3 k hno]
  have hck:k∉jz c:=fun hk=>by
   obtain⟨q,hq,rfl⟩:=List.mem_map.1 hk
   obtain⟨t,ht,rfl⟩:=List.mem_map.1 (hp.mem_iff.2 hq)
   exact hno t ht rfl
  have hca:pa c k a=(k,a) :: c:=by unfold pa;rw[aax hck]
  simp
  unfold M.az.j1
  simp
  -- the new item
  generalize hw1:w.alloc (.cells #[.int .u64 k,.int .u64 a,.int .i64 0] T.au)=w1
  have hblt:=lj hI.hl.blk
  have hs1:w1.heap.size=w.heap.size+1:=by rw[<-hw1,jc]
  have keep1: ∀b,b < w.heap.size->w1.heap[b]? =w.heap[b]? :=fun b hb'=>by rw[<-hw1,iw,if_neg (by omega)]
  have hf1:Fz w w1:=by rw[<-hw1];exact (Fr.refl _ w).alloc _
  have c1':ik w1 hb 1=some (.map (some r)):=by rw[vl (keep1 hb hblt)];exact c1
  have hm1:kx w1 r .u64 m:=hm.of_heap (keep1 r hm.lt)
  have hL1:HL w1 hb v (.map (some r)) its:=hI.hl.jf hf1 (fun h=>h) fun _ _ h=>h
  simp[c1']
  refine akn mt.o hm1 k _ _ fun o hm2'=>?_
  generalize hw2:World.setObj w1 r o=w2 at hm2'
  have hrlt:r < w1.heap.size:=hm1.lt
  have keep2: ∀b,b≠r->w2.heap[b]? =w1.heap[b]? :=fun b hb'=>by rw[<-hw2,pd _ _ _ _ hrlt,if_neg (Ne.symm hb')]
  have hf2:Fr (fun b=>b=r) w1 w2:=by rw[<-hw2];exact (Fr.refl (fun b=>b=r) w1).setObj (.inl rfl) _
  have hL2:HL w2 hb v (.map (some r)) its:=hL1.jf hf2 (uq hL1 hm1 (.inr rfl)) fun b hf=>uq hL1 hm1 (.inl hf)
  rw[M.fu.fcall]
  have hti:w2.heap[w.heap.size]? =some (.cells #[.int .u64 k,.int .u64 a,.int .i64 0] T.au (0,0)):=by
   have hr':=hm.lt
   rw[keep2 _ (by omega),<-hw1,iw,if_pos rfl]
  refine bid (t:=⟨w.heap.size,k,a⟩) hL2 (by omega) hI.hh hti (fun u hu hp'=>?_) fun w3 v3 its3 H3 hp3 hh3 hf3 hv3=>?_
  ·have:=akx hI.hl (.inr ⟨u,hu,rfl⟩)
   simp at hp';omega
  have hs2:w1.heap.size<=w2.heap.size:=hf2.size
  have hfr:Fr O w w3:=(((hf1.mono fun _ _ h=>h.elim).jt hf2 fun b _ hb'=>by rw[hb'];exact hO3).jt hf3 fun b hlt' hb'=>by
   rcases hb' with hf|rfl|rfl
   ·exact hO2 b hf
   ·exact hO1
   ·simp at hlt')
  have hm3':kx w3 r .u64 (ub m k (.pointer (some ⟨w.heap.size,0,none⟩))):=hm2'.of_heap (hf3.jf r hm2'.lt fun hf=>by
   rcases hf with hf|hf|hf
   ·exact uq hL1 hm1 (.inl hf) rfl
   ·exact uq hL1 hm1 (.inr hf) rfl
   ·have:=hm.lt;simp at hf;omega)
  have hkeys:((its ++ [(⟨w.heap.size,k,a⟩:It)]).map (·.k)).Nodup:=by
   rw[List.map_append,List.nodup_append]
   refine⟨hI.nd,by simp,fun x hx y hy=>?_⟩
   simp at hy;rw[hy]
   obtain⟨t,ht,rfl⟩:=List.mem_map.1 hx
   exact hno t ht
  refine h w3 (fun b=>O b\/(w.heap.size<=b/\b < w3.heap.size)) ⟨⟨v3,.map (some r),its3,⟨H3,hh3,?_,.inr ⟨r,_,rfl,hm3',?_,fun u hu=>?_,fun k' hk'=>?_⟩⟩,?_,.inl hO1,fun b hb'=>?_,fun r' hr'=>by cases hr';exact .inl hO3⟩,fun b hb'=>?_,akd hnd _ _⟩ hfr fun b hb'=>hb'.imp id fun h=>h.1
  ·rw[((hp3.map (·.k)).nodup_iff)];exact hkeys
  ·rw[abn,if_neg ((pe _ _).1 (hm3 k hno)),List.nodup_append]
   refine⟨hmn,by simp,fun x hx y hy=>?_⟩
   simp at hy;rw[hy]
   exact fun he=>(pe _ _).1 (hm3 k hno) (he ▸ hx)
  ·rw[aas]
   rcases List.mem_append.1 (hp3.mem_iff.1 hu) with hu|hu
   ·rw[if_neg (Ne.symm (hno u hu))];exact hm2 u hu
   ·rw[List.mem_singleton] at hu;rw[hu];simp[It.ptr]
  ·have h1:k≠k':=hk' ⟨w.heap.size,k,a⟩ (hp3.mem_iff.2 (by simp))
   rw[aas,if_neg h1]
   exact hm3 k' fun t ht=>hk' t (hp3.mem_iff.2 (by simp[ht]))
  ·rw[hca]
   have h1:=hp3.map It.pr
   rw[List.map_append] at h1
   refine h1.trans (List.perm_append_comm.trans ?_)
   exact hp.cons (k,a)
  ·rcases ya hp3 hb' with hg| ⟨u,hu,hpu⟩
   ·rcases hv3 b hg with hg|hge
    ·exact .inl (hO2 b (.inl hg))
    ·refine .inr ⟨by omega,?_⟩
     exact akx H3 hb'
   ·rcases List.mem_append.1 hu with hu|hu
    ·exact .inl (hO2 b (.inr ⟨u,hu,hpu⟩))
    ·rw[List.mem_singleton] at hu;rw[hu] at hpu
     simp at hpu
     exact .inr ⟨by omega,akx H3 hb'⟩
  ·rcases hb' with hb'|hb'
   ·exact Nat.lt_of_lt_of_le (hlt b hb') hfr.size
   ·exact hb'.2
end Go.Proofs.YtgepcfcicngceaaGreatDoor
