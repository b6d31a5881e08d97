/-
  Sorting a row of whole numbers: the pivot, the patterns. No condition.
-/
import Derived.Test.YtgepcfcicngceaaGreatDoorZSpn0
import Derived.Test.YtgepcfcicngceaaGreatDoorZEngSl
import Derived.Test.YtgepcfcicngceaaGreatDoorEnc
import Derived.Test.YtgepcfcicngceaaGreatDoorM
import Derived.Test.YtgepcfcicngceaaGreatDoorFacts
set_option maxRecDepth 100000
namespace Go.Proofs.YtgepcfcicngceaaGreatDoor.SG
open Go.Eng Go.Sort
variable [SE]
theorem Rf.ajn{w w' w'':World}{g cap sb:Nat}{e:TypeId}{d:Array Int}(h:Rf w w' g e cap d)(f:Fr (fun b=>b=sb) w' w'')(hs:w.heap.size<=sb)(hne:sb≠g):Rf w w'' g e cap d:=
 ⟨h.row.fr f fun h=>hne h.symm,h.fr.jw f fun b hb he=>by omega⟩
theorem Rf.new{w w':World}{g cap:Nat}{e:TypeId}{d:Array Int}(h:Rf w w' g e cap d)(o:Obj):Rf w (w'.alloc o) g e cap d:=
 ⟨h.row.fr ((Fr.refl (fun _=>False) w').alloc o) fun h=>h,h.fr.alloc o⟩
def Sw(w:World)(sb:Nat):Prop:= ∃x e,w.heap[sb]? =some (.cells #[.int .i64 x] e (0,0))
theorem ajz{w:World}{g cap n sb:Nat}{e:TypeId}{d:Array Int}(H:Rw w g e cap d)(hn:d.size=n)(S:Sw w sb)(hne:sb≠g){a b:Nat}(ha:a < n)(hb:b < n){K:KV}
  (h: ∀w' x y,(x=a/\y=b\/x=b/\y=a)->Sw w' sb->Fr (fun b=>b=sb) w w'->K (.tuple #[.int .i64 (x:Nat),.int .i64 (y:Nat)]) w'):
  ik P F.ht [.slice (some ⟨g,0,none⟩) n cap,.int .i64 a,.int .i64 b,.pointer (some ⟨sb,0,none⟩)] w K:=by
 rw[M.gj.fcall]
 apply M.gj.calls
 unfold M.gj
 have a1:=H.at (show a < d.size by omega)
 have a2:=H.at (show b < d.size by omega)
 have b1:(a:Int) < n:=by omega
 have b2:(b:Int) < n:=by omega
 simp[b1,b2,a1,a2]
 refine sf _ _ ?_
 obtain⟨x,e',hx⟩:=S
 cases hl:ltInt d[b]! d[a]! with
 | false=>
  simp
  exact h _ a b (.inl ⟨rfl,rfl⟩) ⟨x,e',hx⟩ ((Fr.refl _ _).dr 1)
 | true=>
  have c0:=iw hx 0
  have f0:=mi hx 0
  simp only[List.size_toArray,List.getElem?_toArray,List.getElem?_cons_zero] at c0
  simp[c0,f0]
  exact h _ b a (.inr ⟨rfl,rfl⟩) ⟨IntKind.i64.wrap (x+1),e',ahu hx⟩ (((Fr.refl (fun b=>b=sb) w).dr 1).setCell (.inl rfl) _ _)
theorem aqa{w:World}{g cap n sb:Nat}{e:TypeId}{d:Array Int}(H:Rw w g e cap d)(hn:d.size=n)(S:Sw w sb)(hne:sb≠g){a b c:Nat}(ha:a < n)(hb:b < n)(hc:c < n){K:KV}
  (h: ∀w' x,(x=a\/x=b\/x=c)->Sw w' sb->Fr (fun b=>b=sb) w w'->K (.int .i64 (x:Nat)) w'):
  ik P F.hu [.slice (some ⟨g,0,none⟩) n cap,.int .i64 a,.int .i64 b,.int .i64 c,.pointer (some ⟨sb,0,none⟩)] w K:=by
 rw[M.gk.fcall]
 apply M.gk.calls
 unfold M.gk
 refine ajz H hn S hne ha hb fun w1 x1 y1 h1 S1 f1=>?_
 simp
 have H1:=H.fr f1 fun h=>hne h.symm
 refine ajz H1 hn S1 hne (a:=y1) (b:=c) (by omega) hc fun w2 x2 y2 h2 S2 f2=>?_
 simp
 have H2:=H1.fr f2 fun h=>hne h.symm
 refine ajz H2 hn S2 hne (a:=x1) (b:=x2) (by omega) (by omega) fun w3 x3 y3 h3 S3 f3=>?_
 simp
 exact h w3 y3 (by omega) S3 ((f1.trans f2).trans f3)
theorem atw{w:World}{g cap n sb:Nat}{e:TypeId}{d:Array Int}(H:Rw w g e cap d)(hn:d.size=n)(h6:n < 100000)(S:Sw w sb)(hne:sb≠g){a:Nat}(ha:1<=a)(hb:a+1 < n){K:KV}
  (h: ∀w' x,(x=a - 1\/x=a\/x=a+1)->Sw w' sb->Fr (fun b=>b=sb) w w'->K (.int .i64 (x:Nat)) w'):
  ik P F.hh [.slice (some ⟨g,0,none⟩) n cap,.int .i64 a,.pointer (some ⟨sb,0,none⟩)] w K:=by
 rw[M.fs.fcall]
 apply M.fs.calls
 unfold M.fs
 have hw1:IntKind.i64.wrap ((a:Int) - 1)=((a - 1:Nat):Int):=by rw[jc];omega
 have hw2:IntKind.i64.wrap ((a:Int)+1)=((a+1:Nat):Int):=rl (by omega)
 simp only[ol,mm,hw1,hw2]
 refine aqa H hn S hne (by omega) (by omega) (by omega) fun w' x hx S' f'=>?_
 exact h w' x hx S' f'
theorem bix{w:World}{g cap n:Nat}{e:TypeId}{d:Array Int}(H:Rw w g e cap d)(hn:d.size=n)(h6:n < 100000){a b:Nat}(hb:b<=n)(hab:a+12 < b){K:KV}
  (h: ∀w' (p hint:Nat),a<=p->p < b->hint<=2->Rf w w' g e cap d->K (.tuple #[.int .i64 (p:Nat),.int .i64 (hint:Nat)]) w'):
  jy P F.ie [.slice (some ⟨g,0,none⟩) n cap,.int .i64 a,.int .i64 b] w K:=by
 apply M.fo.calls
 unfold M.fo
 have hw0:IntKind.i64.wrap ((b:Int) - a)=((b - a:Nat):Int):=zw (by omega) (by omega)
 generalize hl:b - a=l at *
 have q4:IntKind.i64.wrap (((l:Nat):Int).tdiv 4)=((l / 4:Nat):Int):=by rw[Int.tdiv_eq_ediv_of_nonneg (by omega),jc];omega
 have m1:IntKind.i64.wrap (((l / 4:Nat):Int) * 1)=((l / 4:Nat):Int):=by rw[jc];omega
 have m2:IntKind.i64.wrap (((l / 4:Nat):Int) * 2)=((l / 4 * 2:Nat):Int):=by rw[jc];omega
 have m3:IntKind.i64.wrap (((l / 4:Nat):Int) * 3)=((l / 4 * 3:Nat):Int):=by rw[jc];omega
 have s1:IntKind.i64.wrap ((a:Int)+((l / 4:Nat):Int))=((a+l / 4:Nat):Int):=by rw[jc];omega
 have s2:IntKind.i64.wrap ((a:Int)+((l / 4 * 2:Nat):Int))=((a+l / 4 * 2:Nat):Int):=by rw[jc];omega
 have s3:IntKind.i64.wrap ((a:Int)+((l / 4 * 3:Nat):Int))=((a+l / 4 * 3:Nat):Int):=by rw[jc];omega
 have bq: ∀(x:Int)(t:TypeId)(rx ry:Operand)(w:World)(K:KV),iy P .quo t rx ry (.int .i64 x) (.int .i64 4) w K=K (.int .i64 (IntKind.i64.wrap (x.tdiv 4))) w:=fun x t rx ry w K=>app (by decide)
 have al: ∀(w:World)(K:KV),alT P T.d w K=K (.pointer (some ⟨w.heap.size,0,none⟩)) (w.alloc (.cells #[.int .i64 0] T.d)):=fun w K=>kr
 have c8:(8:Int)<=(l:Int):=by omega
 simp only[ol,mm,xy,bq,hw0,q4,m1,m2,m3,s1,s2,s3,al,su,c8,decide_true,Eng.cond_true]
 clear q4 m1 m2 m3 s1 s2 s3 bq al c8 hw0
 have H0:=H.ou.new (.cells #[.int .i64 0] T.d)
 have S0:Sw (w.alloc (.cells #[.int .i64 0] T.d)) w.heap.size:=⟨0,T.d,by rw[ja,if_pos rfl]⟩
 have hne:w.heap.size≠g:=by have:=H.lt;omega
 generalize w.alloc (.cells #[.int .i64 0] T.d)=w0 at *
 have fin: ∀(w1:World)(p:Nat)(v1 v2:Value),a<=p->p < b->Rf w w1 g e cap d->Sw w1 w.heap.size->M.fo.j0 (.pointer (some ⟨w.heap.size,0,none⟩)) [v1,.int .i64 (p:Nat),v2] w1 K:=by
  intro w1 p v1 v2 hp1 hp2 H1 S1
  obtain⟨x,e',hx⟩:=S1
  unfold M.fo.j0
  have c0:=iw hx 0
  simp only[List.size_toArray,List.getElem?_toArray,List.getElem?_cons_zero] at c0
  have q1: ∀a b c:Value,gv [a,b,c] 1=b:=fun _ _ _=>rfl
  by_cases x0:x=0
  ·simp[c0,q1,x0]
   exact h w1 p 1 hp1 hp2 (by decide) H1
  by_cases x12:x=12
  ·simp[c0,q1,x12]
   exact h w1 p 2 hp1 hp2 (by decide) H1
  ·simp[c0,q1,x0,x12]
   exact h w1 p 0 hp1 hp2 (by decide) H1
 simp only[ir]
 have kx: ∀(w1:World)(x y z:Nat),a<=x->x < b->a<=y->y < b->a<=z->z < b->Rf w w1 g e cap d->Sw w1 w.heap.size->
   ik P F.hu [.slice (some ⟨g,0,none⟩) n cap,gv [.int .i64 (x:Int),.int .i64 (y:Int),.int .i64 (z:Int)] 0,gv [.int .i64 (x:Int),.int .i64 (y:Int),.int .i64 (z:Int)] 1,gv [.int .i64 (x:Int),.int .i64 (y:Int),.int .i64 (z:Int)] 2,.pointer (some ⟨w.heap.size,0,none⟩)] w1 fun t48 w'=>
    M.fo.j0 (.pointer (some ⟨w.heap.size,0,none⟩)) [gv [.int .i64 (x:Int),.int .i64 (y:Int),.int .i64 (z:Int)] 0,t48,gv [.int .i64 (x:Int),.int .i64 (y:Int),.int .i64 (z:Int)] 2] w' K:=by
  intro w1 x y z hx1 hx2 hy1 hy2 hz1 hz2 H1 S1
  refine aqa H1.row hn S1 hne (a:=x) (b:=y) (c:=z) (by omega) (by omega) (by omega) fun w2 p hp S2 f2=>?_
  exact fin w2 p _ _ (by omega) (by omega) (H1.ajn f2 (Nat.le_refl _) hne) S2
 by_cases h50:50<=l
 ·have h50':(50:Int)<=(l:Int):=by omega
  simp only[h50',decide_true,Eng.cond_true]
  refine atw H0.row hn h6 S0 hne (by omega) (by omega) fun w1 x hx S1 f1=>?_
  have H1:=H0.ajn f1 (Nat.le_refl _) hne
  refine atw H1.row hn h6 S1 hne (by omega) (by omega) fun w2 y hy S2 f2=>?_
  have H2:=H1.ajn f2 (Nat.le_refl _) hne
  refine atw H2.row hn h6 S2 hne (by omega) (by omega) fun w3 z hz S3 f3=>?_
  have H3:=H2.ajn f3 (Nat.le_refl _) hne
  exact kx w3 x y z (by omega) (by omega) (by omega) (by omega) (by omega) (by omega) H3 S3
 ·have h50': ¬(50:Int)<=(l:Int):=by omega
  simp only[h50',decide_false,Eng.cond_false]
  exact kx w0 (a+l / 4) (a+l / 4 * 2) (a+l / 4 * 3) (by omega) (by omega) (by omega) (by omega) (by omega) (by omega) H0 S0
def BpI(w:World)(g:Nat)(e:TypeId)(cap n a b idx0:Nat)(d:Array Int):KL:=fun x w1=> ∃(u:Value)(k:Nat)(d1:Array Int)(r:Int),x=[u,.int .i64 ((idx0+k:Nat):Int)]/\Rf w w1 g e cap d1/\d1.size=n/\k<=3/\PermIn a b d d1/\0<=r/\r < 18446744073709551616/\w1.heap[w.heap.size]? =some (.cells #[.int .u64 r] T.ai (0,0))
theorem bjf{w:World}{g cap n:Nat}{e:TypeId}{d:Array Int}(H:Rw w g e cap d)(hn:d.size=n)(h6:n < 60000){a b:Nat}(hb:b<=n)(hab:a+12 < b){K:KV}
  (h: ∀w' d',PermIn a b d d'->Rf w w' g e cap d'->K (.tuple #[]) w'):
  jy P F.id [.slice (some ⟨g,0,none⟩) n cap,.int .i64 a,.int .i64 b] w K:=by
 apply M.fg.calls
 unfold M.fg
 have hw0:IntKind.i64.wrap ((b:Int) - a)=((b - a:Nat):Int):=zw (by omega) (by omega)
 have hlb:a+(b - a)=b:=by omega
 generalize hl:b - a=l at *
 have bq: ∀(x:Int)(t:TypeId)(rx ry:Operand)(w:World)(K:KV),iy P .quo t rx ry (.int .i64 x) (.int .i64 4) w K=K (.int .i64 (IntKind.i64.wrap (x.tdiv 4))) w:=fun x t rx ry w K=>app (by decide)
 have q4:IntKind.i64.wrap (((l:Nat):Int).tdiv 4)=((l / 4:Nat):Int):=by rw[Int.tdiv_eq_ediv_of_nonneg (by omega),jc];omega
 have m2:IntKind.i64.wrap (((l / 4:Nat):Int) * 2)=((l / 4 * 2:Nat):Int):=by rw[jc];omega
 have s2:IntKind.i64.wrap ((a:Int)+((l / 4 * 2:Nat):Int))=((a+l / 4 * 2:Nat):Int):=by rw[jc];omega
 have s3:IntKind.i64.wrap (((a+l / 4 * 2:Nat):Int) - 1)=((a+l / 4 * 2 - 1+0:Nat):Int):=by rw[jc];omega
 have s4:IntKind.i64.wrap (((a+l / 4 * 2:Nat):Int)+1)=((a+l / 4 * 2+1:Nat):Int):=rl (by omega)
 have c8:(8:Int)<=(l:Int):=by omega
 have i64B:zc P T.d .i64=true:=by kernel_rfl
 have uB:zc P T.bu .u64=true:=by kernel_rfl
 have xB:zc P T.ai .u64=true:=by kernel_rfl
 simp only[ol,hw0,su,c8,decide_true,Eng.cond_true]
 rw[pw i64B xB,za (by omega)]
 have hx0:(w.alloc (.cells #[.int .u64 0] T.ai)).heap[w.heap.size]? =some (.cells #[.int .u64 0] T.ai (0,0)):=by rw[ja,if_pos rfl]
 have H0:=H.ou.new (.cells #[.int .u64 0] T.ai)
 have hne:w.heap.size≠g:=by have:=H.lt;omega
 have c0:=iw hx0 0
 have f0:=mi hx0 0
 simp only[List.size_toArray,List.getElem?_toArray,List.getElem?_cons_zero] at c0
 simp[c0,f0,-ir]
 have hx1:((w.alloc (.cells #[.int .u64 0] T.ai)).setCell ⟨w.heap.size,0,none⟩ (.int .u64 l)).heap[w.heap.size]? =some (.cells #[.int .u64 l] T.ai (0,0)):=nl hx0
 have H1:=H0.ajn ((Fr.refl (fun b=>b=w.heap.size) _).setCell (.inl rfl) 0 (.int .u64 (l:Int))) (Nat.le_refl _) hne
 generalize (w.alloc (.cells #[.int .u64 0] T.ai)).setCell ⟨w.heap.size,0,none⟩ (.int .u64 (l:Int))=w1 at *
 rw[M.dm.fcall]
 refine bmp (by omega) ?_
 have hp2:2 ^ bitsLen l<=2 * l:=two_pow_bitsLen_le (by omega)
 have hp1:0 < 2 ^ bitsLen l:=Nat.pow_pos (by decide)
 simp only[bq,q4,xy,m2,mm,s2,ol,s3]
 generalize 2 ^ bitsLen l=md at *
 generalize hi0:a+l / 4 * 2 - 1=i0 at *
 refine⟨BpI w g e cap n a b i0 d,fun x _=>i0+3 - ms x 1,⟨_,0,d,l,rfl,H1,hn,by omega,permIn_refl d a b,by omega,by omega,hx1⟩,?_⟩
 rintro x w2 ⟨u,k,d2,r,rfl,H2,hn2,hk,hP,hr0,hr1,hx2⟩
 unfold M.fg.j0
 simp only[ir,bq,q4,xy,m2,mm,s2,s4,g21,agj]
 by_cases hk3:k < 3
 ·have hle:((i0+k:Nat):Int)<=((a+l / 4 * 2+1:Nat):Int):=by omega
  simp only[hle,decide_true,Eng.cond_true]
  unfold M.fg.j1
  simp only[ir,g21]
  rw[M.dn.fcall]
  refine axr hx2 fun w3 y hy0 hy1 hx3 f3=>?_
  have H3:=H2.ajn f3 (Nat.le_refl _) hne
  obtain⟨z,rfl⟩: ∃z:Nat,y=z:=⟨y.toNat,by omega⟩
  have hm1:IntKind.u64.wrap ((md:Int) - 1)=((md - 1:Nat):Int):=by rw[mu (by omega) (by omega)];omega
  have hand:(BitVec.ofInt IntKind.u64.bits (z:Int) &&& BitVec.ofInt IntKind.u64.bits ((md - 1:Nat):Int)).toNat<=md - 1:=bpg (x:=z) (y:=md - 1) (by omega) (by omega)
  simp only[ol,hm1,ape]
  generalize (BitVec.ofInt IntKind.u64.bits (z:Int) &&& BitVec.ofInt IntKind.u64.bits ((md - 1:Nat):Int)).toNat=o at *
  rw[za (by omega),pw uB i64B,axs (by omega)]
  have tail: ∀(o:Nat),o < l->M.fg.j3 (.int .i64 a) [.int .i64 (o:Nat)] (.slice (some ⟨g,0,none⟩) n cap) [u,.int .i64 ((i0+k:Nat):Int)] (fun x2 w'=>BpI w g e cap n a b i0 d [gv x2 0,.int .i64 (IntKind.i64.wrap (((i0+k:Nat):Int)+1))] w'/\i0+3 - ms [gv x2 0,.int .i64 (IntKind.i64.wrap (((i0+k:Nat):Int)+1))] 1 < i0+3 - ms [u,.int .i64 ((i0+k:Nat):Int)] 1) w3 K:=by
   intro o ho
   unfold M.fg.j3
   have wr:IntKind.i64.wrap ((a:Int)+(o:Int))=((a+o:Nat):Int):=by rw[jc];omega
   have a1:=H3.row.at (show i0+k < d2.size by omega)
   have a2:=H3.row.at (show a+o < d2.size by omega)
   have b1:((i0+k:Nat):Int) < n:=by omega
   have b2:((a+o:Nat):Int) < n:=by omega
   have f1:=H3.row.frz (i0+k)
   have f2:=H3.row.frz (a+o)
   simp[g0,g21,wr,b1,b2,a1,a2,f1,f2,kp,me,-Int.natCast_add]
   have hw5:IntKind.i64.wrap (((i0+k:Nat):Int)+1)=((i0+(k+1):Nat):Int):=by rw[jc];omega
   rw[hw5]
   refine⟨⟨_,k+1,_,z,rfl,(H3.dr 1).swp (by omega) (by omega),by rw[size_swp];exact hn2,by omega,permIn_trans _ _ _ a b hP (swp_permIn _ a b _ _ (by omega) (by omega) (by omega) (by omega) (by omega)),by omega,by omega,?_⟩,?_⟩
   ·rw[ke (by omega),ke (by omega)];exact hx3
   ·simp only[ms,g21];omega
  simp only[ir,su,mm]
  by_cases hol:l<=o
  ·have hol':(l:Int)<=o:=by omega
   have hwo:IntKind.i64.wrap ((o:Int) - l)=((o - l:Nat):Int):=zw (by omega) (by omega)
   simp only[hol',decide_true,Eng.cond_true,ol,hwo]
   exact tail (o - l) (by omega)
  ·have hol': ¬(l:Int)<=o:=by omega
   simp only[hol',decide_false,Eng.cond_false]
   exact tail o (by omega)
 ·have hle: ¬((i0+k:Nat):Int)<=((a+l / 4 * 2+1:Nat):Int):=by omega
  simp only[hle,decide_false,Eng.cond_false]
  exact h w2 d2 hP H2
end Go.Proofs.YtgepcfcicngceaaGreatDoor.SG
set_option maxRecDepth 100000
namespace Go.Proofs.YtgepcfcicngceaaGreatDoor.SG
open Go.Eng Go.Sort
variable [SE]
section
omit [SE] in
theorem f5(a0 a1 a2 a3 a4 a5 a6 a7 a8 a9 a10 a11 a12 a13:Value):gv [a0,a1,a2,a3,a4,a5,a6,a7,a8,a9,a10,a11,a12,a13] 5=a5:=rfl
omit [SE] in
theorem f13(a0 a1 a2 a3 a4 a5 a6 a7 a8 a9 a10 a11 a12 a13:Value):gv [a0,a1,a2,a3,a4,a5,a6,a7,a8,a9,a10,a11,a12,a13] 13=a13:=rfl
end
structure brj(w w1:World)(g:Nat)(e:TypeId)(cap n a0 b0:Nat)(d0:Array Int)(a b limit:Nat)(wb wp:Bool)(d:Array Int):Prop where
 rf:Rf w w1 g e cap d
 sz:d.size=n
 ab:a<=b
 bb:b - a<=b0 - a0
 bn:b<=n
 be:Below ltInt a b d
 fin: ∀R,PermIn a b d R->SortedIn ltInt a b R->PermIn a0 b0 d0 R/\SortedIn ltInt a0 b0 R
def PdI(w:World)(g:Nat)(e:TypeId)(cap n a0 b0:Nat)(d0:Array Int):KL:=fun x w1=> ∃(u0 u2 u3 u4 u6 u7 u9 u10 u11:Value)(a b limit:Nat)(wb wp:Bool)(d:Array Int),
 x=[u0,.int .i64 (limit:Nat),u2,u3,u4,.int .i64 (a:Nat),u6,u7,.bool wp,u9,u10,u11,.bool wb,.int .i64 (b:Nat)]/\limit < 1000/\brj w w1 g e cap n a0 b0 d0 a b limit wb wp d
def IH(m:Nat):Prop:= ∀{w:World}{g cap n:Nat}{e:TypeId}{d:Array Int}(_:Rw w g e cap d)(_:d.size=n)(_:n < 60000){a b limit:Nat}(_:b - a<=m)(_:a<=b)(_:b<=n)(_:limit < 1000)(_:Below ltInt a b d){K:KV}
  (_: ∀w' d',PermIn a b d d'->SortedIn ltInt a b d'->Rf w w' g e cap d'->K (.tuple #[]) w'),jy P F.hv [.slice (some ⟨g,0,none⟩) n cap,.int .i64 a,.int .i64 b,.int .i64 limit] w K
section
variable {m : Nat} {w : World} {g cap n : Nat} {e : TypeId} {d d5 : Array Int} {a0 b0 a b pv hint4 lim2 : Nat} {wb wp : Bool} {x0 : List Value} {K : KV}
theorem axh(ih:IH m)(h6:n < 60000)(hm:b0 - a0<=m+1)(hbb:b - a<=b0 - a0)(hbn:b<=n)(hab:a<=b)(hpv1:a<=pv)(hpv2:pv < b)(hlim2:lim2 < 1000){w5:World}(H5:Rf w w5 g e cap d5)(hn5:d5.size=n)(B5:Below ltInt a b d5)
  (hfin5: ∀R,PermIn a b d5 R->SortedIn ltInt a b R->PermIn a0 b0 d R/\SortedIn ltInt a0 b0 R) (e5:gv x0 5= .int .i64 (a:Nat)) (e8:gv x0 8= .bool wp) (e12:gv x0 12= .bool wb) (e13:gv x0 13= .int .i64 (b:Nat)) (m5:ms x0 5=a) (m13:ms x0 13=b) (v0:Value):
  M.cc.j6 (.slice (some ⟨g,0,none⟩) n cap) [v0,.int .i64 (a:Nat)] x0 [.int .i64 (pv:Nat),.int .i64 (hint4:Nat)] (.int .i64 ((b - a:Nat):Int)) [.int .i64 (lim2:Nat)] (fun x' w'=>PdI w g e cap n a0 b0 d x' w'/\ms x' 13 - ms x' 5 < ms x0 13 - ms x0 5) w5 K:=by
 unfold M.cc.j6
 simp only[g20,g21,e13]
 rw[M.bq.fcall]
 refine atc H5.row hn5 (by omega) hbn hpv1 hpv2 fun w7 H7=>?_
 have H7':=H5.trans H7
 obtain⟨r1,r2,r3,rBa,rBr,rL,rR⟩:=round_part swo_ltInt (partition_holds ltInt) hpv1 hpv2 (by omega) B5 (show partition ltInt d5 a b pv=((partition ltInt d5 a b pv).1,(partition ltInt d5 a b pv).2.1,(partition ltInt d5 a b pv).2.2) from rfl)
 generalize (partition ltInt d5 a b pv).1=mid at *
 generalize (partition ltInt d5 a b pv).2.1=ap at *
 generalize (partition ltInt d5 a b pv).2.2=d7 at *
 have hn7:d7.size=n:=by omega
 have wl:IntKind.i64.wrap ((mid:Int) - a)=((mid - a:Nat):Int):=zw (by omega) (by omega)
 have wr:IntKind.i64.wrap ((b:Int) - mid)=((b - mid:Nat):Int):=zw (by omega) (by omega)
 have wm:IntKind.i64.wrap ((mid:Int)+1)=((mid+1:Nat):Int):=rl (by omega)
 have bq: ∀(x:Int)(t:TypeId)(rx ry:Operand)(w:World)(K:KV),iy P .quo t rx ry (.int .i64 x) (.int .i64 8) w K=K (.int .i64 (IntKind.i64.wrap (x.tdiv 8))) w:=fun x t rx ry w K=>app (by decide)
 simp only[aba,abc,g0,ol,wl,wr,bq,na,su]
 by_cases hlt:mid - a < b - mid
 ·have hlt':((mid - a:Nat):Int) < ((b - mid:Nat):Int):=by omega
  simp only[hlt',decide_true,Eng.cond_true]
  rw[M.cc.fcall]
  refine ih H7.row hn7 h6 (by omega) r1 (by omega) hlim2 rBa fun w8 d8 P8 S8 H8=>?_
  obtain⟨hBL,hfinL⟩:=rL d8 P8 S8
  simp only[mm,wm]
  refine⟨⟨_,_,_,_,_,_,_,_,_,mid+1,b,lim2,_,ap,d8,rfl,hlim2,⟨H7'.trans H8,by rw[P8.1];exact hn7,by omega,by omega,hbn,hBL,fun R h1 h2=>?_⟩⟩,?_⟩
  ·obtain⟨k1,k2⟩:=hfinL R h1 h2
   exact hfin5 R k1 k2
  ·have: ∀y0 y1 y2 y3 y4 y6 y7 y8 y9 y10 y11 y12:Value,ms [y0,y1,y2,y3,y4,.int .i64 ((mid+1:Nat):Int),y6,y7,y8,y9,y10,y11,y12,.int .i64 (b:Nat)] 13=b/\ms [y0,y1,y2,y3,y4,.int .i64 ((mid+1:Nat):Int),y6,y7,y8,y9,y10,y11,y12,.int .i64 (b:Nat)] 5=mid+1:=fun _ _ _ _ _ _ _ _ _ _ _ _=>⟨rfl,rfl⟩
   rw[(this _ _ _ _ _ _ _ _ _ _ _ _).1,(this _ _ _ _ _ _ _ _ _ _ _ _).2,m5,m13];omega
 ·have hlt': ¬((mid - a:Nat):Int) < ((b - mid:Nat):Int):=by omega
  simp only[hlt',decide_false,Eng.cond_false,mm,wm]
  rw[M.cc.fcall]
  refine ih H7.row hn7 h6 (by omega) (by omega) hbn hlim2 rBr fun w8 d8 P8 S8 H8=>?_
  obtain⟨hBL,hfinL⟩:=rR d8 P8 S8
  refine⟨⟨_,_,_,_,_,_,_,_,_,a,mid,lim2,_,ap,d8,rfl,hlim2,⟨H7'.trans H8,by rw[P8.1];exact hn7,by omega,by omega,by omega,hBL,fun R h1 h2=>?_⟩⟩,?_⟩
  ·obtain⟨k1,k2⟩:=hfinL R h1 h2
   exact hfin5 R k1 k2
  ·have: ∀y0 y1 y2 y3 y4 y6 y7 y8 y9 y10 y11 y12:Value,ms [y0,y1,y2,y3,y4,.int .i64 (a:Nat),y6,y7,y8,y9,y10,y11,y12,.int .i64 (mid:Nat)] 13=mid/\ms [y0,y1,y2,y3,y4,.int .i64 (a:Nat),y6,y7,y8,y9,y10,y11,y12,.int .i64 (mid:Nat)] 5=a:=fun _ _ _ _ _ _ _ _ _ _ _ _=>⟨rfl,rfl⟩
   rw[(this _ _ _ _ _ _ _ _ _ _ _ _).1,(this _ _ _ _ _ _ _ _ _ _ _ _).2,m5,m13];omega
theorem bqj(ih:IH m)(h6:n < 60000)(hm:b0 - a0<=m+1)(hbb:b - a<=b0 - a0)(hbn:b<=n)(hab:a<=b)(hpv1:a<=pv)(hpv2:pv < b)(hlim2:lim2 < 1000){w5:World}(H5:Rf w w5 g e cap d5)(hn5:d5.size=n)(B5:Below ltInt a b d5)
  (hfin5: ∀R,PermIn a b d5 R->SortedIn ltInt a b R->PermIn a0 b0 d R/\SortedIn ltInt a0 b0 R) (e5:gv x0 5= .int .i64 (a:Nat)) (e8:gv x0 8= .bool wp) (e12:gv x0 12= .bool wb) (e13:gv x0 13= .int .i64 (b:Nat)) (m5:ms x0 5=a) (m13:ms x0 13=b):
  M.cc.j5 x0 (.slice (some ⟨g,0,none⟩) n cap) [.int .i64 (pv:Nat),.int .i64 (hint4:Nat)] (fun x' w'=>PdI w g e cap n a0 b0 d x' w'/\ms x' 13 - ms x' 5 < ms x0 13 - ms x0 5) (.int .i64 ((b - a:Nat):Int)) [.int .i64 (lim2:Nat)] w5 K:=by
 unfold M.cc.j5
 simp only[ir,qr,yf,e5,e13,g20,true_and,and_true,wu,abx]
 by_cases ha0:0 < a
 ·have ha0':(0:Int) < (a:Int):=by omega
  have hwa:IntKind.i64.wrap ((a:Int) - 1)=((a - 1:Nat):Int):=by rw[jc];omega
  have a1:=H5.row.at (show a - 1 < d5.size by omega)
  have a2:=H5.row.at (show pv < d5.size by omega)
  have b1:((a - 1:Nat):Int) < n:=by omega
  have b2:(pv:Int) < n:=by omega
  simp[ha0,ha0',hwa,a1,a2,b1,b2]
  refine sf _ _ ?_
  cases hl:ltInt d5[a - 1]! d5[pv]! with
  | true=>
   simp
   exact axh ih h6 hm hbb hbn hab hpv1 hpv2 hlim2 (H5.dr 1) hn5 B5 hfin5 e5 e8 e12 e13 m5 m13 _
  | false=>
   simp
   rw[M.ek.fcall]
   refine ale (H5.dr 1).row hn5 (by omega) hbn hpv1 hpv2 fun w7 H7=>?_
   have H7':=(H5.dr 1).trans H7
   obtain⟨r1,r2,r3,rB,rF⟩:=round_eq swo_ltInt (partitionEqual_holds ltInt) ha0 hpv1 hpv2 (by omega) B5 hl (show partitionEqual ltInt d5 a b pv=((partitionEqual ltInt d5 a b pv).1,(partitionEqual ltInt d5 a b pv).2) from rfl)
   generalize (partitionEqual ltInt d5 a b pv).1=mid at *
   generalize (partitionEqual ltInt d5 a b pv).2=d7 at *
   have hn7:d7.size=n:=by omega
   refine⟨⟨_,_,_,_,_,_,_,_,_,mid,b,lim2,wb,wp,d7,by rw[e8,e12],hlim2,⟨H7',hn7,r2,by omega,hbn,rB,fun R h1 h2=>?_⟩⟩,?_⟩
   ·obtain⟨k1,k2⟩:=rF R h1 h2
    exact hfin5 R k1 k2
   ·have: ∀y0 y1 y2 y3 y4 y6 y7 y8 y9 y10 y11 y12:Value,ms [y0,y1,y2,y3,y4,.int .i64 (mid:Nat),y6,y7,y8,y9,y10,y11,y12,.int .i64 (b:Nat)] 13=b/\ms [y0,y1,y2,y3,y4,.int .i64 (mid:Nat),y6,y7,y8,y9,y10,y11,y12,.int .i64 (b:Nat)] 5=mid:=fun _ _ _ _ _ _ _ _ _ _ _ _=>⟨rfl,rfl⟩
    rw[(this _ _ _ _ _ _ _ _ _ _ _ _).1,(this _ _ _ _ _ _ _ _ _ _ _ _).2,m5,m13];omega
 ·have ha0': ¬(0:Int) < (a:Int):=by omega
  simp[ha0,ha0']
  exact axh ih h6 hm hbb hbn hab hpv1 hpv2 hlim2 (H5.dr 1) hn5 B5 hfin5 e5 e8 e12 e13 m5 m13 _
theorem axi{d1:Array Int}(ih:IH m)(h6:n < 60000)(hm:b0 - a0<=m+1)(hbb:b - a<=b0 - a0)(hbn:b<=n)(hab:a<=b)(hlim2:lim2 < 1000)(h12: ¬b - a<=12)(hn1:d1.size=n)(hB1:Below ltInt a b d1)
  (hfin: ∀R,PermIn a b d1 R->SortedIn ltInt a b R->PermIn a0 b0 d R/\SortedIn ltInt a0 b0 R) (h: ∀w' d',PermIn a0 b0 d d'->SortedIn ltInt a0 b0 d'->Rf w w' g e cap d'->K (.tuple #[]) w')
  (e5:gv x0 5= .int .i64 (a:Nat)) (e8:gv x0 8= .bool wp) (e12:gv x0 12= .bool wb) (e13:gv x0 13= .int .i64 (b:Nat)) (m5:ms x0 5=a) (m13:ms x0 13=b) {w4:World} {d4:Array Int} (H4:Rf w w4 g e cap d4) (P4:PermIn a b d1 d4) (hpv1:a<=pv) (hpv2:pv < b):
  M.cc.j4 x0 [.int .i64 (pv:Nat),.int .i64 (hint4:Nat)] (.slice (some ⟨g,0,none⟩) n cap) (fun x' w'=>PdI w g e cap n a0 b0 d x' w'/\ms x' 13 - ms x' 5 < ms x0 13 - ms x0 5) (.int .i64 ((b - a:Nat):Int)) [.int .i64 (lim2:Nat)] w4 K:=by
 have hn4:d4.size=n:=by rw[P4.1];exact hn1
 have B4:=hB1.perm (by omega) P4
 have st5: ∀(w5:World)(d5:Array Int),Rf w w5 g e cap d5->PermIn a b d1 d5->
   M.cc.j5 x0 (.slice (some ⟨g,0,none⟩) n cap) [.int .i64 (pv:Nat),.int .i64 (hint4:Nat)] (fun x' w'=>PdI w g e cap n a0 b0 d x' w'/\ms x' 13 - ms x' 5 < ms x0 13 - ms x0 5) (.int .i64 ((b - a:Nat):Int)) [.int .i64 (lim2:Nat)] w5 K:=fun w5 d5 H5 P5=>
  bqj ih h6 hm hbb hbn hab hpv1 hpv2 hlim2 H5 (by rw[P5.1];exact hn1) (hB1.perm (by omega) P5) (fun R h1 h2=>hfin R (permIn_trans _ _ _ a b P5 h1) h2) e5 e8 e12 e13 m5 m13
 unfold M.cc.j4
 simp only[ir,e5,e8,e12,e13,abx,g21]
 cases wb with
 | false=>simp;exact st5 w4 d4 H4 P4
 | true=>
  cases wp with
  | false=>simp;exact st5 w4 d4 H4 P4
  | true=>
   by_cases hh1:hint4=1
   ·have hd:decide ((hint4:Int)=1)=true:=by rw[decide_eq_true_eq];omega
    simp only[abx,apk,adr,beq_self_eq_true,_root_.cond_true,aby,hd,Eng.cond_true]
    rw[M.bc.fcall]
    refine arv H4.row hn4 (by omega) hbn (by omega) fun w5 H5=>?_
    have hpi:=partialInsertionSort_holds swo_ltInt d4 a b (by omega) (by omega) B4
    cases hr:(partialInsertionSort ltInt d4 a b).2 with
    | true=>
     simp
     obtain⟨p1,p2⟩:=hfin _ (permIn_trans _ _ _ a b P4 hpi.1) (hpi.2 hr)
     exact h w5 _ p1 p2 (H4.trans H5)
    | false=>
     simp
     exact st5 w5 _ (H4.trans H5) (permIn_trans _ _ _ a b P4 hpi.1)
   ·have hd:decide ((hint4:Int)=1)=false:=by rw[decide_eq_false_iff_not];omega
    simp only[abx,apk,adr,beq_self_eq_true,_root_.cond_true,aby,hd,Eng.cond_false]
    exact st5 w4 d4 H4 P4
theorem asu{d1:Array Int}(ih:IH m)(h6:n < 60000)(hm:b0 - a0<=m+1)(hbb:b - a<=b0 - a0)(hbn:b<=n)(hab:a<=b)(hlim2:lim2 < 1000)(h12: ¬b - a<=12)(hn1:d1.size=n)(hB1:Below ltInt a b d1)
  (hfin: ∀R,PermIn a b d1 R->SortedIn ltInt a b R->PermIn a0 b0 d R/\SortedIn ltInt a0 b0 R) (h: ∀w' d',PermIn a0 b0 d d'->SortedIn ltInt a0 b0 d'->Rf w w' g e cap d'->K (.tuple #[]) w')
  (e5:gv x0 5= .int .i64 (a:Nat)) (e8:gv x0 8= .bool wp) (e12:gv x0 12= .bool wb) (e13:gv x0 13= .int .i64 (b:Nat)) (m5:ms x0 5=a) (m13:ms x0 13=b) {w2:World} {d2:Array Int} (H2:Rf w w2 g e cap d2) (P2:PermIn a b d1 d2):
  M.cc.j3 (.slice (some ⟨g,0,none⟩) n cap) x0 (fun x' w'=>PdI w g e cap n a0 b0 d x' w'/\ms x' 13 - ms x' 5 < ms x0 13 - ms x0 5) (.int .i64 ((b - a:Nat):Int)) [.int .i64 (lim2:Nat)] w2 K:=by
 have hn2:d2.size=n:=by rw[P2.1];exact hn1
 have B2:=hB1.perm (by omega) P2
 unfold M.cc.j3
 simp only[e5,e13,ir]
 rw[M.fo.fcall]
 refine bix H2.row hn2 (by omega) hbn (by omega) fun w3 p hint hp1 hp2 hh H3=>?_
 have H3':=H2.trans H3
 simp only[aba,abc,aby]
 by_cases hh2:hint=2
 ·have hh2':(hint:Int)=2:=by omega
  simp only[hh2',decide_true,Eng.cond_true]
  rw[M.fu.fcall]
  refine baa H3.row hn2 (by omega) hbn (by omega) fun w4 H4=>?_
  have hrev:=reverseRange_holds d2 a b hab (by omega)
  have w1':IntKind.i64.wrap ((b:Int) - 1)=((b - 1:Nat):Int):=by rw[jc];omega
  have w2':IntKind.i64.wrap ((p:Int) - a)=((p - a:Nat):Int):=zw (by omega) (by omega)
  have w3':IntKind.i64.wrap (((b - 1:Nat):Int) - ((p - a:Nat):Int))=((b - 1 - (p - a):Nat):Int):=zw (by omega) (by omega)
  simp only[ol,w1',w2',w3']
  exact axi (hint4:=1) ih h6 hm hbb hbn hab hlim2 h12 hn1 hB1 hfin h e5 e8 e12 e13 m5 m13 (H3'.trans H4) (permIn_trans _ _ _ a b P2 hrev) (by omega) (by omega)
 ·have hh2': ¬(hint:Int)=2:=by omega
  simp only[hh2',decide_false,Eng.cond_false]
  exact axi ih h6 hm hbb hbn hab hlim2 h12 hn1 hB1 hfin h e5 e8 e12 e13 m5 m13 H3' P2 hp1 hp2
end
theorem bpo: ∀(m:Nat),IH m:=by
 intro m
 induction m with
 | zero=>
  intro w g cap n e d H hn h6 a b limit hm hab hb hlim hB K h
  -- nothing to sort
  have hba:b=a:=by omega
  subst hba
  apply M.cc.calls
  unfold M.cc
  refine⟨fun x w1=>x=[undef,.int .i64 (limit:Nat),undef,undef,undef,.int .i64 (b:Nat),undef,undef,.bool true,undef,undef,undef,.bool true,.int .i64 (b:Nat)]/\w1=w,fun _ _=>0,⟨rfl,rfl⟩,?_⟩
  rintro x w1 ⟨rfl,rfl⟩
  unfold M.cc.j0
  have hw0:IntKind.i64.wrap ((b:Int) - b)=0:=by rw[jc];omega
  simp only[f13,f5,ol,hw0,ir,agj]
  rw[M.ej.fcall]
  simp
  refine akd H hn (by omega) hb hb fun w2 H2=>?_
  have hi:=insertionSort_holds swo_ltInt d b b (Nat.le_refl _) (by omega)
  exact h w2 _ hi.1 hi.2 H2
 | succ m ih=>
  intro w g cap n e d H hn h6 a0 b0 limit0 hm hab0 hb0 hlim0 hB K h
  apply M.cc.calls
  unfold M.cc
  refine⟨PdI w g e cap n a0 b0 d,fun x _=>ms x 13 - ms x 5,⟨_,_,_,_,_,_,_,_,_,a0,b0,limit0,true,true,d,rfl,hlim0,⟨H.ou,hn,hab0,Nat.le_refl _,hb0,hB,fun R h1 h2=>⟨h1,h2⟩⟩⟩,?_⟩
  rintro x w1 ⟨u0,u2,u3,u4,u6,u7,u9,u10,u11,a,b,limit,wb,wp,d1,rfl,hlim,⟨H1,hn1,hab,hbb,hbn,hB1,hfin⟩⟩
  generalize hx0:[u0,.int .i64 (limit:Nat),u2,u3,u4,.int .i64 (a:Nat),u6,u7,.bool wp,u9,u10,u11,.bool wb,.int .i64 (b:Nat)]=x0
  have e1:gv x0 1= .int .i64 (limit:Nat):=by rw[<-hx0];rfl
  have e5:gv x0 5= .int .i64 (a:Nat):=by rw[<-hx0];rfl
  have e8:gv x0 8= .bool wp:=by rw[<-hx0];rfl
  have e12:gv x0 12= .bool wb:=by rw[<-hx0];rfl
  have e13:gv x0 13= .int .i64 (b:Nat):=by rw[<-hx0];rfl
  have m5:ms x0 5=a:=by simp[ms,e5]
  have m13:ms x0 13=b:=by simp[ms,e13]
  clear hx0
  have hw0:IntKind.i64.wrap ((b:Int) - a)=((b - a:Nat):Int):=zw (by omega) (by omega)
  unfold M.cc.j0
  simp only[e13,e5,ol,hw0,ir,agj]
  by_cases h12:b - a<=12
  ·have h12':((b - a:Nat):Int)<=12:=by omega
   simp only[h12',decide_true,Eng.cond_true]
   rw[M.ej.fcall]
   refine akd H1.row hn1 (by omega) hbn (by omega) fun w2 H2=>?_
   have hi:=insertionSort_holds swo_ltInt d1 a b hab (by omega)
   obtain⟨p1,p2⟩:=hfin _ hi.1 hi.2
   exact h w2 _ p1 p2 (H1.trans H2)
  have h12': ¬((b - a:Nat):Int)<=12:=by omega
  simp only[h12',decide_false,Eng.cond_false]
  unfold M.cc.j1
  simp only[e1,e5,e13,ir,aby]
  by_cases hl0:limit=0
  ·have hl0':(limit:Int)=0:=by omega
   simp only[hl0',decide_true,Eng.cond_true]
   rw[M.ed.fcall]
   refine avi H1.row hn1 (by omega) hbn (by omega) fun w2 H2=>?_
   have hi:=heapSort_holds swo_ltInt d1 a b hab (by omega)
   obtain⟨p1,p2⟩:=hfin _ hi.1 hi.2
   exact h w2 _ p1 p2 (H1.trans H2)
  have hl0': ¬(limit:Int)=0:=by omega
  simp only[hl0',decide_false,Eng.cond_false]
  unfold M.cc.j2
  simp only[e12,e1,e5,e13,ir,bcl]
  cases wb with
  | true=>
   simp
   exact asu ih h6 hm hbb hbn hab hlim h12 hn1 hB1 hfin h e5 e8 e12 e13 m5 m13 H1 (permIn_refl d1 a b)
  | false=>
   simp
   rw[M.fg.fcall]
   refine bjf H1.row hn1 h6 hbn (by omega) fun w2 d2 P2 H2=>?_
   have wl:IntKind.i64.wrap ((limit:Int) - 1)=((limit - 1:Nat):Int):=by rw[jc];omega
   simp only[wl]
   exact asu ih h6 hm hbb hbn hab (by omega) h12 hn1 hB1 hfin h e5 e8 e12 e13 m5 m13 (H1.trans H2) P2
theorem apz{w:World}{g cap n:Nat}{e:TypeId}{d:Array Int}(H:Rw w g e cap d)(hn:d.size=n)(h6:n < 60000){K:KV}
  (h: ∀w',Rf w w' g e cap (d.toList.mergeSort fun x y=>decide (x<=y)).toArray->K (.tuple #[]) w'):jy P F.ih [.slice (some ⟨g,0,none⟩) n cap] w K:=by
 apply M.ft.calls
 unfold M.ft
 have i64B:zc P T.d .i64=true:=by kernel_rfl
 have uB:zc P T.bu .u64=true:=by kernel_rfl
 simp
 rw[pw i64B uB,za (by omega),M.dz.fcall]
 refine alc (by omega) ?_
 rw[M.cc.fcall]
 have hlen:bitsLen n<=16:=(bitsLen_le_iff n 16).2 (by omega)
 refine bpo n (a:=0) H hn h6 (by omega) (Nat.zero_le _) (Nat.le_refl _) (by omega) (.inl rfl) fun w' d' h1 h2 H'=>?_
 have hs:d'.toList=d.toList.mergeSort (fun x y=>decide (x<=y)):=by
  have:=sorted_unique_holds swo_ltInt (fun x y h1 h2=>by simp[ltInt] at h1 h2;omega) d d' (by rw[hn];exact h1) (by rw[hn];exact h2)
  rw[this]
  congr 1
  funext x y
  simp only[ltInt]
  by_cases hxy:x<=y
  ·simp[hxy]
  ·have:y < x:=by omega
   simp[hxy,this]
 refine h w' ?_
 rw[<-hs]
 exact H'
theorem alx{w:World}{K:KV}(h:K (.tuple #[]) w):jy P F.ih [.slice none 0 0] w K:=by
 apply M.ft.calls
 unfold M.ft
 have i64B:zc P T.d .i64=true:=by kernel_rfl
 have uB:zc P T.bu .u64=true:=by kernel_rfl
 simp
 rw[pw i64B uB,show IntKind.u64.wrap 0=((0:Nat):Int) from by decide,M.dz.fcall]
 refine alc (by omega) ?_
 rw[M.cc.fcall]
 apply M.cc.calls
 unfold M.cc
 refine⟨fun x w1=>gv x 5= .int .i64 0/\gv x 13= .int .i64 0/\w1=w,fun _ _=>0,⟨rfl,rfl,rfl⟩,?_⟩
 rintro x w1 ⟨e5,e13,rfl⟩
 unfold M.cc.j0
 have w0:IntKind.i64.wrap 0=0:=by decide
 simp[e5,e13,w0]
 rw[M.ej.fcall]
 apply M.ej.calls
 unfold M.ej
 have w1':IntKind.i64.wrap 1=1:=by decide
 simp[w1']
 refine⟨fun x w2=>gv x 1= .int .i64 1/\w2=w1,fun _ _=>0,⟨rfl,rfl⟩,?_⟩
 rintro x w2 ⟨e1,rfl⟩
 unfold M.ej.j0
 simp[e1]
 exact h
end Go.Proofs.YtgepcfcicngceaaGreatDoor.SG
set_option maxRecDepth 100000
namespace Go.Proofs.YtgepcfcicngceaaGreatDoor.Suint64
open Go.Eng Go.Sort
abbrev Rw(w:World)(g:Nat)(e:TypeId)(cap:Nat)(d:Array Int):Prop:= @SG.Rw seU w g e cap d
abbrev Rf(w w':World)(g:Nat)(e:TypeId)(cap:Nat)(d:Array Int):Prop:= @SG.Rf seU w w' g e cap d
theorem bpx{w w':World}{g:Nat}{e:TypeId}{cap:Nat}{d:Array Int}(h:Rf w w' g e cap d):Rw w' g e cap d:= @SG.Rf.row seU _ _ _ _ _ _ h
theorem bqb{w w':World}{g:Nat}{e:TypeId}{cap:Nat}{d:Array Int}(h:Rf w w' g e cap d):Fr (fun b=>b=g) w w':= @SG.Rf.fr seU _ _ _ _ _ _ h
abbrev amj(x:Int):Value:= .int .u64 x
abbrev qe(x:Int):List Value:=[.int .u64 x]
abbrev OwN(w:World)(base:Nat)(v:Value)(l:List Int):Prop:=Ow w base T.a 1 qe v l
theorem bod:bol P T.g T.a amj qe 1 8 where
 et:=et.g
 by5:=by decide
 ld:=fun b i w K=>kr
 st:=fun b i a n c w K=>kr
 bs:=fun x w K=>kr
 len:=fun _=>rfl
 one:=fun _ u hu=>by simp at hu;subst hu;rfl
 ne:=by decide
theorem azl {g:FuncId} {gn:Func} (hg:P.funcs[g]? =some gn) (hgn:(gn.name == "runtime.NumGoroutine")=false) (hgb:gn.body.isNone=false) {cap:List Value} {w:World} {Out:List Int->Prop} (hs:apo P g cap amj Out 60000 w) {K:KV}
  (h: ∀w' v xs,Out xs->OwN w' w.heap.size v xs->Fz w w'->K v w'):jy P F.cz [.func (.func g) #[] cap.toArray] w K:=by
 apply M.dl.calls
 unfold M.dl
 have hf: ∀(args:List Value)(w:World)(K:KV),ik P F.n args w K=jy P F.n args w K:=fun args w K=>ait FN.n.at (by kernel_rfl) (by kernel_rfl) args w K
 rw[hf]
 exact aur (tQ:=T.cb) (bhj bod) bod.ld FN.n.at (by kernel_rfl) (by kernel_rfl) (by kernel_rfl) hg hgn hgb hs h
theorem Ow.rw{w:World}{base g n cap:Nat}{l:List Int}(h:OwN w base (.slice (some ⟨g,0,none⟩) n cap) l):n=l.length/\base<=g/\cap<=maxLen/\Rw w g T.a cap l.toArray:=by
 rcases h.2 with⟨h0,_⟩|⟨g',cap',cur,hv,hb,hc,h1,h2,h3,h4⟩
 ·cases h0
 ·injection hv with q1 q2 q3
  injection q1 with q1
  injection q1 with q1
  subst q1 q2 q3
  refine⟨rfl,hb,h2,cur,hc,by simpa using h3,by simpa using h1,fun j hj=>?_⟩
  show cur[j]? =some (.int .u64 l.toArray[j]!)
  have hj':j < l.length:=by simpa using hj
  have h5:(cur.toList.take (l.length * 1))[j]? =(l.flatMap qe)[j]? :=by rw[h4]
  rw[List.getElem?_take_of_lt (by omega)] at h5
  have h6:(l.flatMap qe)[j]? =some (.int .u64 l[j]):=by
   have:=adm (enc:=qe) (sz:=1) (fun _=>rfl) l j l[j] 0 (.int .u64 l[j]) (List.getElem?_eq_getElem hj') rfl
   simpa using this
  rw[h6] at h5
  simpa [hj'] using h5
theorem aps: ∀l:List Int,l.flatMap qe=l.map amj
 | []=>rfl
 | x :: l=>by rw[List.flatMap_cons,aps l];rfl
theorem bql{w:World}{base g cap:Nat}{l:List Int}(hb:base<=g)(hm:cap<=maxLen)(h:Rw w g T.a cap l.toArray):OwN w base (.slice (some ⟨g,0,none⟩) l.length cap) l:=by
 obtain⟨cur,h1,h2,h3,h4'⟩:=h
 have h4: ∀j,j < l.toArray.size->cur[j]? =some (.int .u64 l.toArray[j]!):=h4'
 refine⟨by rw[aps];simp,.inr ⟨g,cap,cur,rfl,hb,h1,by simpa using h3,hm,by simpa using h2,?_⟩⟩
 rw[aps]
 apply List.ext_getElem?
 intro j
 by_cases hj:j < l.length
 ·rw[List.getElem?_take_of_lt (by omega)]
  have:=h4 j (by simpa using hj)
  simp[hj] at this⊢
  exact this
 ·rw[List.getElem?_take_eq_none (by omega),List.getElem?_eq_none (by simp;omega)]
theorem alx{w:World}{K:KV}(h:K (.tuple #[]) w):jy P F.h [.slice none 0 0] w K:= @SG.alx seU w K h
theorem apz{w:World}{g cap n:Nat}{e:TypeId}{d:Array Int}(H:Rw w g e cap d)(hn:d.size=n)(h6:n < 60000){K:KV}
  (h: ∀w',Rf w w' g e cap (d.toList.mergeSort fun x y=>decide (x<=y)).toArray->K (.tuple #[]) w'):jy P F.h [.slice (some ⟨g,0,none⟩) n cap] w K:= @SG.apz seU w g cap n e d H hn h6 K h
def qi(l:List Int):List Int:=l.mergeSort fun x y=>decide (x<=y)
theorem ny(l:List Int):(qi l).Perm l:=List.mergeSort_perm ..
theorem aiu{l l':List Int}(h:l.Perm l'):qi l=qi l':=by
 unfold qi
 have hs: ∀l:List Int,(l.mergeSort fun x y=>decide (x<=y)).Pairwise fun a b=>decide (a<=b)=true:=fun l=>List.pairwise_mergeSort (fun a b c h1 h2=>by simp at *;omega) (fun a b=>by simp;omega) l
 exact List.Perm.eq_of_pairwise (fun a b _ _ h1 h2=>by simp at h1 h2;omega) (hs l) (hs l') (((List.mergeSort_perm ..).trans h).trans (List.mergeSort_perm ..).symm)
theorem ajg {g:FuncId} {gn:Func} (hg:P.funcs[g]? =some gn) (hgn:(gn.name == "runtime.NumGoroutine")=false) (hgb:gn.body.isNone=false) {cap:List Value} {w:World} {ks:List Int} (hk:ks.length < 60000) (hs:apo P g cap amj (fun xs=>xs.Perm ks) 60000 w) {K:KV}
  (h: ∀w' v,OwN w' w.heap.size v (qi ks)->Fz w w'->K v w'):jy P F.w [.func (.func g) #[] cap.toArray] w K:=by
 apply M.cp.calls
 unfold M.cp
 rw[M.dl.fcall]
 refine azl hg hgn hgb hs fun w1 v xs hx o1 f1=>?_
 rw[M.gm.fcall]
 have hlen:=hx.length_eq
 rcases o1.2 with⟨rfl,h0⟩|⟨g1,cap1,cur,rfl,hb1,_⟩
 ·refine alx ?_
  have hx0:xs=[]:=List.length_eq_zero_iff.1 h0
  have hk0:ks=[]:=List.length_eq_zero_iff.1 (by rw[<-hlen,hx0];rfl)
  refine h w1 _ ?_ f1
  subst hk0
  rw[show qi []=[] from by simp[qi]]
  exact Ow.none
 ·obtain⟨_,hbg,hcm,hrw⟩:=Ow.rw o1
  refine apz hrw (by simp) (by omega) fun w2 H2=>?_
  have hp:qi xs=qi ks:=aiu hx
  have hl:(qi xs).length=xs.length:=(ny xs).length_eq
  refine h w2 _ ?_ (f1.jw (bqb H2) fun b hb he=>by omega)
  rw[<-hp]
  have:=bql (base:=w.heap.size) (l:=qi xs) hbg hcm (bpx H2)
  rw[hl] at this
  exact this
end Go.Proofs.YtgepcfcicngceaaGreatDoor.Suint64
set_option maxRecDepth 100000
namespace Go.Proofs.YtgepcfcicngceaaGreatDoor.KeyV
open Go.Eng Go.Sort Go.Proofs.YtgepcfcicngceaaGreatDoor.Suint64
def KI(w W:World)(U:Nat->Prop)(r:Nat)(m:MP)(J:List Int->Asn):KL:=fun x w1=> ∃(done:List Int)(U1:Nat->Prop),x.length=1/\ya w1 W.heap.size r .u64 m done/\(J done.reverse).ok w1 U1/\(∀b,U1 b->w.heap.size<=b/\b < w1.heap.size/\b≠W.heap.size)/\Fr (fun b=>w.heap.size<=b) W w1
theorem yt{w:World}{it r:Nat}{k:IntKind}{m:MP}{done:List Int}(h:ya w it r k m done):done.Nodup/\∀x∈done,x∈jp m:=by
 obtain⟨es,clk,since,c0,ka,_,_,_,_,_,_,_,_,_,h1,h2⟩:=h
 exact⟨h1,h2⟩
theorem aee{w:World}{r Bm:Nat}{m:MP}{e:TypeId}(hm:lj w r .u64 m)(hn:(jp m).Nodup)(hB:w.heap[Bm]? =some (.cells #[.map (some r)] e (0,0)))(hl:m.length < 60000):
  apo P F.b [.pointer (some ⟨Bm,0,none⟩)] amj (fun xs=>xs.Perm (jp m)) 60000 w:=by
 intro l J W U K hf hJ hU hround hend
 apply M.v.calls
 unfold M.v
 have hBm:W.heap[Bm]? =some (.cells #[.map (some r)] e (0,0)):=hf.heap hB fun h=>h
 have c0:=iw hBm 0
 simp only[List.size_toArray,List.getElem?_toArray,List.getElem?_cons_zero] at c0
 have hm':lj W r .u64 m:=hm.of_heap (hf.jl r hm.lt fun h=>h)
 have hrw:=hm.lt
 simp[c0]
 refine aol mt.ak hm' fun w1 hi f1=>?_
 have hWs:=hf.size
 have hWlt:=(hi.lt).1
 refine⟨KI w W U r m J,fun _ w1=>rk w1 W.heap.size m.length,⟨[],U,rfl,hi,(J []).jl hJ f1 fun _ _ h=>h,fun b hb=>?_,f1.mono fun _ _ h=>h.elim⟩,?_⟩
 ·have:=hU b hb
  have:=f1.size
  exact⟨by omega,by omega,by omega⟩
 rintro x w2 ⟨done,U1,hx1,hi2,hJ2,hU2,f2⟩
 unfold M.v.j0
 refine anb hi2 hn T.cc (fun hall=>?_) fun y v w3 hy hyd hc3 f3 hlt=>?_
 ·have e0: ∀w K,exT P (.tuple #[.bool false]) 0 w K=K (.bool false) w:=fun _ _=>rfl
  simp[e0]
  obtain⟨h1,h2⟩:=yt hi2
  refine hend _ w2 done.reverse U1 ?_ hJ2 f2
  refine (List.reverse_perm done).trans ?_
  refine (List.perm_ext_iff_of_nodup h1 hn).2 fun z=>⟨h2 z,fun hz=>?_⟩
  obtain⟨p,hp,rfl⟩:=List.mem_map.1 hz
  exact hall p hp
 ·simp
  rw[aof hc3]
  simp
  have hnit: ∀b,U1 b->¬b=W.heap.size:=fun b hb=>(hU2 b hb).2.2
  have hJ3:=(J done.reverse).jl hJ2 f3 hnit
  have hlen:done.length < m.length:=by
   obtain⟨h1,h2⟩:=yt hi2
   have:=xu (l:=y :: done) (l':=jp m) (List.nodup_cons.2 ⟨hyd,h1⟩) fun z hz=>by
    rcases List.mem_cons.1 hz with rfl|hz
    ·exact List.mem_map_of_mem hy
    ·exact h2 z hz
   simp only[jp,List.length_map,List.length_cons] at this
   omega
  have hs3:=f3.size
  refine hround done.reverse y w3 U1 _ hJ3 (fun b hb=>⟨(hU2 b hb).1,by have:=(hU2 b hb).2.1;omega⟩) (by simp;omega) fun w4 U4 hJ4 hU4 f4=>?_
  simp
  have hit: ¬U1 W.heap.size:=fun h=>hnit _ h rfl
  have hr1: ¬U1 r:=fun h=>by have:=(hU2 r h).1;omega
  have hi3:ya w3 W.heap.size r .u64 m (y :: done):=hc3.1
  have hi4:=hi3.jl (f4.jl _ hi3.lt.1 hit) (f4.jl _ hi3.lt.2 hr1)
  refine⟨⟨y :: done,U4,rfl,hi4,by simpa using hJ4,fun b hb=>?_,?_⟩,?_⟩
  ·rcases hU4 b hb with h|h
   ·have:=hU2 b h
    have:=f4.size
    exact⟨by omega,by omega,by omega⟩
   ·have:=hi3.lt.1
    have:=f2.size
    exact⟨by omega,by omega,by omega⟩
  ·refine (f2.jw f3 fun b hb he=>by omega).jw f4 fun b hb he=>(hU2 b he).1
  ·have:rk w4 W.heap.size m.length=rk w3 W.heap.size m.length:=by
    unfold rk
    rw[f4.jl _ hi3.lt.1 hit]
   rw[this];exact hlt
theorem agm{w:World}{r:Nat}{m:MP}(hm:lj w r .u64 m)(hn:(jp m).Nodup)(hl:m.length < 60000){K:KV}
  (h: ∀w' v,OwN w' w.heap.size v (qi (jp m))->Fz w w'->K v w'):
  ik P F.ac [.map (some r)] w fun t w=>ik P F.w [t] w K:=by
 rw[M.ag.fcall]
 apply M.ag.calls
 unfold M.ag
 rw[vd,zm]
 show ik P F.w _ _ K
 rw[M.cp.fcall]
 have f1:Fz w (w.alloc (.cells #[.map (some r)] T.ak)):=(Fr.refl _ w).alloc _
 have hB:(w.alloc (.cells #[.map (some r)] T.ak)).heap[w.heap.size]? =some (.cells #[.map (some r)] T.ak (0,0)):=by rw[ja,if_pos rfl]
 have hsz:w.heap.size<=(w.alloc (.cells #[.map (some r)] T.ak)).heap.size:=by simp
 refine ajg (ks:=jp m) FN.b.at (by kernel_rfl) (by kernel_rfl) (by simpa [jp] using hl) (aee (hm.of_heap (f1.jl r hm.lt fun h=>h)) hn hB hl) fun w2 v o2 f2=>?_
 exact h w2 v (o2.mono hsz) (f1.trans f2)
end Go.Proofs.YtgepcfcicngceaaGreatDoor.KeyV
set_option maxRecDepth 100000
namespace Go.Proofs.YtgepcfcicngceaaGreatDoor.CM
open Go.Eng
theorem apq{w:World}{n:Nat}(hn:n<=1000000000){K:KV}(h: ∀w' v,Ow w' w.heap.size T.i 3 xf v []->Fz w w'->K v w'):
  jy P F.bi [.slice none 0 0,.int .i64 n] w K:=by
 apply M.ak.calls
 unfold M.ak
 have hneg: ¬(n:Int) < 0:=by omega
 simp[hneg]
 unfold M.ak.j0
 have hsl:nq P T.k=true:=by kernel_rfl
 have w0:IntKind.i64.wrap 0=0:=by decide
 have wn:IntKind.i64.wrap (n:Int)=n:=jc
 rw[ir,amy hsl,vq hsl]
 simp only[ol,wu]
 have e1:IntKind.i64.wrap ((n:Int) - IntKind.i64.wrap (((0:Nat):Int) - ((0:Nat):Int)))=n:=by
  rw[show ((0:Nat):Int) - ((0:Nat):Int)=0 from by omega,w0,Int.sub_zero,wn]
 rw[e1]
 by_cases h0:0 < n
 ·have h0':(0:Int) < n:=by omega
  simp only[h0',decide_true,Eng.cond_true]
  rw[amy hsl,aiy (i:=0) (j:=0) hsl (.inl ⟨rfl,rfl⟩) (.inr ⟨.i64,rfl⟩) (Nat.le_refl _) (Nat.le_refl _)]
  refine bbg (enc:=xf) et.k (kn:= .i64) (by kernel_rfl) h0 hn (by decide) _ fun w' cap hc o f=>?_
  rw[vq hsl,aiy (i:=0) (j:=0) hsl (.inl ⟨rfl,rfl⟩) (.inr ⟨.i64,rfl⟩) (Nat.le_refl _) (Nat.zero_le _)]
  rw[if_neg (by omega)]
  have:=h w' _ o f
  simpa [Addr.add,gv] using this
 ·have h0': ¬(0:Int) < n:=by omega
  simp only[h0',decide_false,Eng.cond_false]
  exact h w _ Ow.none (Fr.refl _ _)
abbrev Sls(w:World)(v:Value)(l:List Mem):Prop:=Sl w 3 xf v l
abbrev Ows(w:World)(base:Nat)(v:Value)(l:List Mem):Prop:=Ow w base T.i 3 xf v l
def tot(L:List (Value×List Mem)):Nat:=(L.map fun p=>p.2.length).sum
theorem aef{L:List (Value×List Mem)}{i:Nat}(hi:i < L.length):tot (L.take (i+1))=tot (L.take i)+L[i].2.length:=by
 unfold tot
 rw[List.take_succ_eq_append_getElem hi,List.map_append,List.sum_append];simp
theorem akh{L:List (Value×List Mem)}(i:Nat):tot (L.take i)<=tot L:=by
 unfold tot
 conv=>rhs;rw[<-List.take_append_drop i L,List.map_append,List.sum_append]
 omega
theorem aly(L:List (Value×List Mem)):(L.flatMap (·.2)).length=tot L:=by
 unfold tot
 induction L with
 | nil=>rfl
 | cons p L ih=>simp[ih]
def CaI(w:World)(L:List (Value×List Mem)):KL:=fun x w1=> ∃(u:Value)(i:Nat),x=[u,.int .i64 (tot (L.take i):Nat),.int .i64 (i:Nat)]/\w1=w/\i<=L.length
def CbI(w:World)(L:List (Value×List Mem)):KL:=fun x w1=> ∃(u v:Value)(i:Nat),x=[u,v,.int .i64 (i:Nat)]/\i<=L.length/\Fz w w1/\Ows w1 w.heap.size v ((L.take i).flatMap (·.2))
theorem aip{w:World}{b cap:Nat}{L:List (Value×List Mem)}{e:TypeId}(hb:w.heap[b]? =some (.cells (L.map (·.1)).toArray e (0,0)))(hs: ∀p∈L,Sls w p.1 p.2)(ht:tot L<=100000000)(hL:L.length<=1000){K:KV}
  (h: ∀w' v,Ows w' w.heap.size v (L.flatMap (·.2))->Fz w w'->K v w'):jy P F.be [.slice (some ⟨b,0,none⟩) L.length cap] w K:=by
 apply M.h.calls
 unfold M.h
 have hss:nq P T.bl=true:=by kernel_rfl
 have hsl:nq P T.k=true:=by kernel_rfl
 have q0: ∀a b c:Value,gv [a,b,c] 0=a:=fun _ _ _=>rfl
 have q1: ∀a b c:Value,gv [a,b,c] 1=b:=fun _ _ _=>rfl
 have q2: ∀a b c:Value,gv [a,b,c] 2=c:=fun _ _ _=>rfl
 have q4: ∀a b c d e:Value,gv [a,b,c,d,e] 4=e:=fun _ _ _ _ _=>rfl
 have cell: ∀(w':World),Fz w w'->∀(i:Nat)(hi:i < L.length),iq w' b i=some L[i].1:=fun w' f i hi=>by
  rw[iw (f.heap hb fun h=>h)]
  simp[hi]
 rw[ir,vq hss]
 refine⟨CaI w L,fun x _=>L.length - ms x 2,⟨_,0,rfl,rfl,Nat.zero_le _⟩,?_⟩
 rintro x w1 ⟨u,i,rfl,rfl,hi⟩
 simp only[q0,q1,q2,na,ir]
 by_cases hil:i < L.length
 ·have hil':(i:Int) < L.length:=by omega
  simp only[hil',decide_true,Eng.cond_true]
  unfold M.h.j2
  have hwi:IntKind.i64.wrap ((i:Int)+1)=((i+1:Nat):Int):=by rw[jc];rfl
  have c0:=cell w1 (Fr.refl _ _) i hil
  have hsi:=hs L[i] (List.getElem_mem hil)
  obtain⟨a',cap',hv',_⟩:=hsi
  have htt:=aef hil
  have hle:=akh (L:=L) (i+1)
  have hwt:IntKind.i64.wrap ((tot (L.take i):Int)+(L[i].2.length:Int))=((tot (L.take (i+1)):Nat):Int):=by rw[jc];omega
  have hng: ¬((tot (L.take (i+1)):Nat):Int) < 0:=by omega
  simp only[q0,q1,q2,ir]
  simp[hil,c0,hv',hwt,hwi,-Int.natCast_add]
  refine⟨⟨_,i+1,rfl,rfl,by omega⟩,?_⟩
  simp[ms,gv];omega
 ·have hie:i=L.length:=by omega
  have hil': ¬(i:Int) < L.length:=by omega
  simp only[hil',decide_false,Eng.cond_false]
  have htk:L.take i=L:=List.take_of_length_le (by omega)
  rw[htk]
  unfold M.h.j0
  simp only[q4]
  rw[M.ak.fcall]
  refine apq (by omega) fun w2 v2 o2 f2=>?_
  rw[ir,vq hss]
  refine⟨CbI w1 L,fun x _=>L.length - ms x 2,⟨_,v2,0,rfl,Nat.zero_le _,f2,o2⟩,?_⟩
  rintro x w3 ⟨u',v,j,rfl,hj,f3,o3⟩
  simp only[q0,q1,q2,na,ir]
  by_cases hjl:j < L.length
  ·have hjl':(j:Int) < L.length:=by omega
   simp only[hjl',decide_true,Eng.cond_true]
   unfold M.h.j6
   have hwj:IntKind.i64.wrap ((j:Int)+1)=((j+1:Nat):Int):=by rw[jc];rfl
   have c0:=cell w3 f3 j hjl
   have hsj:=(hs L[j] (List.getElem_mem hjl)).fr f3 fun _ _ _ h=>h
   have hl1:((L.take j).flatMap (·.2)).length=tot (L.take j):=aly _
   have htt:=aef hjl
   have hle:=akh (L:=L) (j+1)
   simp only[q0,q1,q2,ir]
   simp[hjl,c0,-List.length_flatMap]
   have hge:=f3.size
   refine yo et.k pd alu o3 hsj (by rw[hl1];omega) (by decide) hge _ fun v' w4 o4 f4 g4=>?_
   simp only[hwj]
   refine⟨⟨_,v',j+1,rfl,by omega,f3.jw f4 fun x hx he=>by have:=(o3.lt he).1;omega,?_⟩,?_⟩
   ·rw[List.take_succ_eq_append_getElem hjl,List.flatMap_append]
    simpa using o4
   ·simp[ms,gv];omega
  ·have hjl': ¬(j:Int) < L.length:=by omega
   simp only[hjl',decide_false,Eng.cond_false,q4]
   have htj:L.take j=L:=List.take_of_length_le (by omega)
   rw[htj] at o3
   exact h w3 v o3 f3
end Go.Proofs.YtgepcfcicngceaaGreatDoor.CM
set_option maxRecDepth 100000
namespace Go.Proofs.YtgepcfcicngceaaGreatDoor
open Go.Eng
def qt(x y:Mem):Bool:=decide (y.inc < x.inc) || (decide (x.inc=y.inc) && decide (y.st < x.st))
def ta(x y:Int):Int:=if x < y then -1 else if y < x then 1 else 0
theorem agz{w:World}(x y:Int){K:KV}(h:K (.int .i64 (ta x y)) w):ik P F.av [.int .u64 x,.int .u64 y] w K:=by
 rw[M.bh.fcall]
 apply M.bh.calls
 unfold M.bh
 have nan: ∀(z:Int){K:KV},K (.bool false) w->ik P F.ah [.int .u64 z] w K:=fun z K hK=>by
  rw[M.dg.fcall]
  apply M.dg.calls
  unfold M.dg
  simp;exact hK
 refine nan x ?_
 refine nan y ?_
 simp
 unfold M.bh.j2 ta at *
 by_cases h1:x < y
 ·simp[h1] at h⊢;exact h
 ·by_cases h2:y < x
  ·simp[h1,h2] at h⊢;exact h
  ·simp[h1,h2] at h⊢;exact h
theorem bij{w:World}(x y:Int){K:KV}(h:K (.int .i64 (ta x y)) w):ik P F.fo [.int .i64 x,.int .i64 y] w K:=by
 rw[M.dk.fcall]
 apply M.dk.calls
 unfold M.dk
 have nan: ∀(z:Int){K:KV},K (.bool false) w->ik P F.ff [.int .i64 z] w K:=fun z K hK=>by
  rw[M.fk.fcall]
  apply M.fk.calls
  unfold M.fk
  simp;exact hK
 refine nan x ?_
 refine nan y ?_
 simp
 unfold M.dk.j2 ta at *
 by_cases h1:x < y
 ·simp[h1] at h⊢;exact h
 ·by_cases h2:y < x
  ·simp[h1,h2] at h⊢;exact h
  ·simp[h1,h2] at h⊢;exact h
def ahk(x:Int):List Value:=[.int .i64 x]
def O2I(w:World)(x y:Int):KL:=fun z w1=>w1=w/\∃(u0 u1:Value)(i:Nat),z=[u0,u1,.int .i64 (i:Nat)]/\i<=2/\(0 < i->x=0)/\(1 < i->y=0)
theorem bds{w:World}{v:Value}{x y:Int}(hs:Sl w 1 ahk v [x,y]){K:KV}(h:K (.int .i64 (if x≠0 then x else y)) w):ik P F.ev [v] w K:=by
 rw[M.du.fcall]
 apply M.du.calls
 unfold M.du
 simp only[ir]
 rw[hs.jv (by kernel_rfl)]
 refine⟨O2I w x y,fun z _=>2 - ms z 2,⟨rfl,_,_,0,rfl,by omega,fun h=>by omega,fun h=>by omega⟩,?_⟩
 rintro z w1 ⟨rfl,u0,u1,i,rfl,hi,hx,hy⟩
 have q2:gv [u0,u1,.int .i64 (i:Nat)] 2= .int .i64 (i:Nat):=rfl
 simp only[q2]
 obtain⟨a,cap,hv,_,_,hc⟩:=id hs
 obtain⟨b,o,rfl,_,e0⟩:=hc 0 x rfl
 obtain⟨b',o',hbo,_,e1⟩:=hc 1 y rfl
 injection hbo with hbo
 injection hbo with h1 h2
 subst h1 h2
 have c0:=e0 0 _ rfl
 have c1:=e1 0 _ rfl
 simp only[Nat.zero_mul,Nat.add_zero,Nat.one_mul] at c0 c1
 unfold M.du.j2
 have hv2:v= .slice (some ⟨b,o,none⟩) 2 cap:=hv
 subst hv2
 have w1':IntKind.i64.wrap ((0:Int)+1)=((1:Nat):Int):=by rw[jc];rfl
 have w2':IntKind.i64.wrap ((1:Int)+1)=((2:Nat):Int):=by rw[jc];rfl
 have w1'':IntKind.i64.wrap 1=1:=jc
 have w2'':IntKind.i64.wrap 2=2:=jc
 match i,hi,hx,hy with
 | 0,_,_,_=>
  by_cases hx0:x=0
  ·subst hx0
   simp[q2,c0,w1'']
   exact⟨⟨rfl,_,_,1,rfl,by omega,fun _=>rfl,fun h=>by omega⟩,by simp[ms,gv]⟩
  ·simp[hx0] at h
   simp[q2,c0,hx0]
   exact h
 | 1,_,hx,_=>
  have hx0:=hx (by omega)
  subst hx0
  simp at h
  by_cases hy0:y=0
  ·subst hy0
   simp[q2,c1,w2'']
   exact⟨⟨rfl,_,_,2,rfl,by omega,fun _=>rfl,fun _=>rfl⟩,by simp[ms,gv]⟩
  ·simp[q2,c1,hy0]
   exact h
 | 2,_,hx,hy=>
  have hx0:=hx (by omega)
  have hy0:=hy (by omega)
  subst hx0 hy0
  simp at h
  simp[q2]
  exact h
theorem bgi{w:World}(x y:Mem){K:KV}(h: ∀w',Fz w w'->K (.bool (qt x y)) w'):ik P F.gw [nf x,nf y] w K:=by
 rw[M.gc.fcall]
 apply M.gc.calls
 unfold M.gc nf
 have hb1:(w.alloc (.cells #[.int .u64 x.id,.int .u64 x.inc,.int .i64 x.st] T.i)).heap[w.heap.size]? =some (.cells #[.int .u64 x.id,.int .u64 x.inc,.int .i64 x.st] T.i (0,0)):=by rw[ja,if_pos rfl]
 have f1:Fz w (w.alloc (.cells #[.int .u64 x.id,.int .u64 x.inc,.int .i64 x.st] T.i)):=(Fr.refl _ w).alloc _
 simp
 have hsz:(w.alloc (.cells #[.int .u64 x.id,.int .u64 x.inc,.int .i64 x.st] T.i)).heap.size=w.heap.size+1:=jg _ _
 generalize w.alloc (.cells #[.int .u64 x.id,.int .u64 x.inc,.int .i64 x.st] T.i)=w1 at *
 have hb2:(w1.alloc (.cells #[.int .u64 y.id,.int .u64 y.inc,.int .i64 y.st] T.i)).heap[w1.heap.size]? =some (.cells #[.int .u64 y.id,.int .u64 y.inc,.int .i64 y.st] T.i (0,0)):=by rw[ja,if_pos rfl]
 have f2:Fz w1 (w1.alloc (.cells #[.int .u64 y.id,.int .u64 y.inc,.int .i64 y.st] T.i)):=(Fr.refl _ w1).alloc _
 have hb1':=f2.heap hb1 fun h=>h
 rw[hsz] at hb2
 generalize w1.alloc (.cells #[.int .u64 y.id,.int .u64 y.inc,.int .i64 y.st] T.i)=w2 at *
 have p1:iq w2 w.heap.size 1=some (.int .u64 x.inc):=by rw[iw hb1'];rfl
 have p2:iq w2 w.heap.size 2=some (.int .i64 x.st):=by rw[iw hb1'];rfl
 have q1:iq w2 (w.heap.size+1) 1=some (.int .u64 y.inc):=by rw[iw hb2];rfl
 have q2:iq w2 (w.heap.size+1) 2=some (.int .i64 y.st):=by rw[iw hb2];rfl
 simp[p1,p2,q1,q2]
 refine agz _ _ ?_
 simp[p1,p2,q1,q2]
 refine bij _ _ ?_
 simp
 refine bds (x:=ta x.inc y.inc) (y:=ta x.st y.st) (hs:=?_) ?_
 ·refine⟨some ⟨w2.heap.size,0,none⟩,2,rfl,Nat.le_refl _,by decide,fun i z hz=>?_⟩
  refine⟨w2.heap.size,0,rfl,by simp,fun j u hj=>?_⟩
  rw[iw (c:= #[.int .i64 (ta x.inc y.inc),.int .i64 (ta x.st y.st)]) (e:=T.d) (f:=(0,0)) (by rw[ja,if_pos (show w2.heap.size=(Eng.dr w2 1).heap.size from rfl)])]
  match i,hz with
  | 0,hz=>simp at hz;subst hz;match j,hj with
   | 0,hj=>simp[ahk] at hj;subst hj;rfl
   | j+1,hj=>simp[ahk] at hj
  | 1,hz=>simp at hz;subst hz;match j,hj with
   | 0,hj=>simp[ahk] at hj;subst hj;rfl
   | j+1,hj=>simp[ahk] at hj
  | i+2,hz=>simp at hz
 ·simp
  have e:decide (0 < if ta x.inc y.inc≠0 then ta x.inc y.inc else ta x.st y.st)=qt x y:=by
   unfold qt ta
   by_cases a1:x.inc < y.inc
   ·have a2: ¬y.inc < x.inc:=by omega
    have a3: ¬x.inc=y.inc:=by omega
    simp[a1,a2,a3]
   ·by_cases a2:y.inc < x.inc
    ·simp[a1,a2]
    ·have a3:x.inc=y.inc:=by omega
     by_cases a4:x.st < y.st
     ·have a5: ¬y.st < x.st:=by omega
      simp[a1,a2,a3,a4,a5]
     ·by_cases a5:y.st < x.st <;>simp[a1,a2,a3,a4,a5]
  simp at e
  rw[e]
  exact h _ ((((f1.trans f2).dr 1)).alloc _)
set_option maxRecDepth 100000
def qd:List Mem->Mem->List Mem
 | [],x=>[x]
 | o :: t,x=>if o.id=x.id then (if qt x o=true then x else o) :: t else o :: qd t x
def vj(A:List Mem):MP:=A.map fun x=>(x.id,nf x)
def kc(A:List Mem)(k:Int):Option Mem:=A.find? fun x=>decide (x.id=k)
theorem aqt(A:List Mem)(k:Int):kh (vj A) k=(kc A k).map nf:=by
 unfold kc vj
 induction A with
 | nil=>rfl
 | cons o t ih=>
  rw[List.map_cons,List.find?_cons]
  unfold kh
  by_cases h:o.id=k
  ·simp[h]
  ·simp only[decide_eq_false h,if_neg h]
   exact ih
theorem aqf(A:List Mem)(x:Mem)(h: ∀o,kc A x.id=some o->qt x o=true):tz (vj A) x.id (nf x)=vj (qd A x):=by
 unfold kc at h
 unfold vj
 induction A with
 | nil=>rfl
 | cons o t ih=>
  rw[List.map_cons]
  unfold tz qd
  by_cases ho:o.id=x.id
  ·have hn:=h o (by simp[ho])
   simp[ho,hn]
  ·rw[if_neg ho,if_neg ho,List.map_cons]
   rw[ih fun o' ho'=>h o' (by rw[List.find?_cons,decide_eq_false ho];exact ho')]
theorem azs(A:List Mem)(x:Mem){o:Mem}(h:kc A x.id=some o)(hn:qt x o=false):qd A x=A:=by
 unfold kc at h
 induction A with
 | nil=>cases h
 | cons a t ih=>
  unfold qd
  rw[List.find?_cons] at h
  by_cases ho:a.id=x.id
  ·rw[decide_eq_true ho] at h
   cases h
   rw[if_pos ho,hn];rfl
  ·rw[decide_eq_false ho] at h
   rw[if_neg ho,ih h]
abbrev pm(v:Value)(l:List Mem):Asn:=qa T.i 3 xf v l
section
variable {w0 w : World} {R : List Asn} {r : Nat} {A L : List Mem} {tv : Value}
theorem wg{m:MP}(S:St w0 w (jm r .u64 m :: R)):lj w r .u64 m/\(jp m).Nodup:=by
 obtain⟨B,h1,_⟩:=S.open
 exact h1.1
theorem ana{m:MP}(S:St w0 w (jm r .u64 m :: R)){o:Obj}{k:Int}{v:Value}(h:lj (World.setObj w r o) r .u64 (tz m k v)):St w0 (World.setObj w r o) (jm r .u64 (tz m k v) :: R):=by
 obtain⟨B,⟨k1,k2⟩,hB,cl⟩:=S.open
 refine cl (World.setObj w r o) [jm r .u64 (tz m k v)] ((Fr.refl B w).setObj (.inl k2) o) (Rs.one (B:=B) ⟨⟨h,?_⟩,k2⟩ fun b hb=> .inl hb)
 rw[adq]
 split
 ·exact k1.2
 ·rename_i hx
  rw[List.nodup_append]
  exact⟨k1.2,by simp,fun a ha b hb' hab=>by
   simp at hb'
   exact hx (by rw[<-hb',<-hab];exact ha)⟩
theorem brq(S:St w0 w (pm tv L :: jm r .u64 (vj A) :: R)){i:Nat}(hi:i < L.length)(hL:L.length<=1000000){u:Value}{K2:KL}{K:KV}
  (h: ∀w' y,St w0 w' (pm tv L :: jm r .u64 (vj (qd A L[i])) :: R)->K2 [y,.int .i64 ((i+1:Nat):Int)] w'):M.bm.j3 tv [u,.int .i64 (i:Nat)] (.map (some r)) K2 w K:=by
 unfold M.bm.j3
 have q1:gv [u,.int .i64 (i:Nat)] 1= .int .i64 (i:Nat):=rfl
 have hwi:IntKind.i64.wrap ((i:Int)+1)=((i+1:Nat):Int):=by rw[jc];rfl
 obtain⟨b,o,cap,hv,hb,_,hc⟩:=(S.row pd:SlM w tv L).at hi
 have hld: ∀K,ldN P 3 b (o+i * 3) w K=K (nf L[i]) w:=fun K=>ldM hc K
 generalize L[i]=x at *
 simp only[ir,q1,mm,hwi]
 rw[hv]
 simp[hi,hld]
 rw[show nf x= .agg #[.int .u64 x.id,.int .u64 x.inc,.int .i64 x.st] from rfl]
 simp
 have hba:(w.alloc (.cells #[.int .u64 0,.int .u64 0,.int .i64 0] T.i)).heap[w.heap.size]? =some (.cells #[.int .u64 0,.int .u64 0,.int .i64 0] T.i (0,0)):=by rw[ja,if_pos rfl]
 refine kg (vs:=[.int .u64 x.id,.int .u64 x.inc,.int .i64 x.st]) hba rfl (by simp) fun w2 b2 f2=>?_
 have f2':Fz w w2:=((Fr.refl _ w).alloc _).jw f2 fun y hy he=>by subst he;omega
 have S2:=S.ju f2'
 have hld2: ∀{w'},Fz w2 w'->∀K,ldN P 3 w.heap.size 0 w' K=K (nf x) w':=fun f K=>by
  have b3:=f.heap b2 fun h=>h
  exact ldM (m:=x) (i:=0) (fun k v hk=>by rw[iw b3,Nat.zero_add,List.getElem?_toArray];exact hk) K
 have hc0: ∀{w'},Fz w2 w'->iq w' w.heap.size 0=some (.int .u64 x.id):=fun f=>by
  rw[iw (f.heap b2 fun h=>h)];rfl
 have c0:=hc0 (Fr.refl _ _)
 simp[c0]
 rw[akp mt.ak (wg S2.swap).1,aqt]
 -- the old one,or nothing
 have old: ∀(z:Mem){Q:World->Prop},(∀w',Fz w2 w'->w'.heap[w2.heap.size]? =some (.cells (xf z).toArray T.i (0,0))->Q w')->
   stN P w2.heap.size 0 [.int .u64 z.id,.int .u64 z.inc,.int .i64 z.st] (w2.alloc (.cells #[.int .u64 0,.int .u64 0,.int .i64 0] T.i)) fun _ w=>Q w:=by
  intro z Q hQ
  have hbb:(w2.alloc (.cells #[.int .u64 0,.int .u64 0,.int .i64 0] T.i)).heap[w2.heap.size]? =some (.cells #[.int .u64 0,.int .u64 0,.int .i64 0] T.i (0,0)):=by rw[ja,if_pos rfl]
  refine kg (vs:=[.int .u64 z.id,.int .u64 z.inc,.int .i64 z.st]) hbb rfl (by simp) fun w3 b3 f3=>?_
  exact hQ w3 (((Fr.refl _ w2).alloc _).jw f3 fun y hy he=>by subst he;omega) b3
 cases hf:kc A x.id with
 | none=>
  simp
  refine old ⟨0,0,0⟩ fun w3 f3 hb3=>?_
  have e:=aqf A x fun o ho=>by rw[hf] at ho;cases ho
  simp[hc0 f3]
  rw[hld2 f3]
  have S3:=(S2.ju f3).swap
  refine aey mt.ak (wg S3).1 x.id _ _ fun ob hob=>?_
  have S4:=(ana S3 hob).swap
  rw[e] at S4
  exact h _ _ S4
 | some z=>
  simp
  rw[show nf z= .agg #[.int .u64 z.id,.int .u64 z.inc,.int .i64 z.st] from rfl]
  simp
  refine old z fun w3 f3 hb3=>?_
  have hldz: ∀K,ldN P 3 w2.heap.size 0 w3 K=K (nf z) w3:=fun K=>ldM (m:=z) (i:=0) (fun k v hk=>by rw[iw hb3,Nat.zero_add,List.getElem?_toArray];exact hk) K
  rw[hld2 f3]
  try simp
  rw[hldz]
  try simp
  refine bgi x z fun w4 f4=>?_
  have S4:=(S2.ju (f3.trans f4)).swap
  cases hnw:qt x z with
  | true=>
   have e:=aqf A x fun o ho=>by rw[hf] at ho;cases ho;exact hnw
   simp[hc0 (f3.trans f4)]
   rw[hld2 (f3.trans f4)]
   refine aey mt.ak (wg S4).1 x.id _ _ fun ob hob=>?_
   have S5:=(ana S4 hob).swap
   rw[e] at S5
   exact h _ _ S5
  | false=>
   simp
   have e:=azs A x hf hnw
   rw[e] at h
   exact h _ _ S4.swap
end
def od(L:List Mem):List Mem:=L.foldl qd []
def yb(A:List Mem):List Mem:=(Suint64.qi (A.map Mem.id)).map fun k=>(kc A k).getD ⟨0,0,0⟩
def mo(a b:List Mem):List Mem×Int:=
 if kj a≠0\/kj b≠0 then ([],6) else if 16 < (od (a ++ b)).length then ([],4) else (yb (od (a ++ b)),0)
theorem bfk(A:List Mem)(x:Mem):(qd A x).length<=A.length+1:=by
 induction A with
 | nil=>simp[qd]
 | cons o t ih=>
  unfold qd
  split
  ·simp
  ·simp;omega
theorem aza(L:List Mem):(od L).length<=L.length:=by
 have h: ∀(L A:List Mem),(L.foldl qd A).length<=A.length+L.length:=fun L=>by
  induction L with
  | nil=>intro A;simp
  | cons x L ih=>
   intro A
   have h1:=ih (qd A x)
   have h2:=bfk A x
   rw[List.foldl_cons,List.length_cons];omega
 simpa [od] using h L []
theorem aeb(l:List Mem):kj l=0\/kj l=6:=by
 unfold kj
 split
 ·exact .inl rfl
 ·split <;>simp
section
variable {w0 w : World} {R : List Asn} {r : Nat} {A L : List Mem} {tv : Value}
theorem aop(S:St w0 w R):St w0 w (pm (.slice none 0 0) [] :: R):=S.add (a:=pm (.slice none 0 0) []) (Fr.refl _ w) (B:=fun _=>False) ⟨Ow.none,fun b hb=>by simp[Value.ownBlock] at hb⟩ fun b hb=>hb.elim
theorem bht{v v2:Value}{l l2:List Mem}(S:St w0 w (pm v l :: R))(hs:SlM w v2 l2)(hl:l.length+l2.length<=1000000000){cs:List Bool}{ty:TypeId}{K:KV}(h: ∀w' v',St w0 w' (pm v' (l ++ l2) :: R)->K v' w'):
  biT P .append #[T.k,T.k] ty cs [v,v2] w K:=by
 obtain⟨B,⟨h1,h2⟩,hB,cl⟩:=S.open
 refine yo et.k pd alu h1 hs hl (by decide) (Nat.zero_le _) cs fun v' w' o f g=>?_
 refine h w' v' (cl w' [pm v' (l ++ l2)] (f.mono fun x _ hx=>h2 x hx) (Rs.one (B:=fun x=>v'.ownBlock=some x) ⟨o,fun b hb=>hb⟩ fun x hx=>?_))
 rcases g with g| ⟨y,g1,g2⟩
 ·exact .inl (h2 x (by rw[<-g];exact hx))
 ·rw[hx] at g1;cases g1
  exact .inr ⟨g2,(o.lt hx).2⟩
def OmI(w0:World)(r:Nat)(A:List Mem)(kv:Value)(ks:List Int)(R:List Asn):KL:=fun x w1=> ∃(u0 v:Value)(i:Nat),x=[u0,v,.int .i64 (i:Nat)]/\i<=ks.length/\St w0 w1 (pm v ((ks.take i).map fun k=>(kc A k).getD ⟨0,0,0⟩) :: arz kv ks :: jm r .u64 (vj A) :: R)
where arz (v:Value) (l:List Int):Asn:=qa T.a 1 Suint64.qe v l
theorem bsj(S:St w0 w (jm r .u64 (vj A) :: R))(hA:A.length<=1000){K:KV}(h: ∀w' v,St w0 w' (pm v (yb A) :: R)->K (.tuple #[v,.int .i64 0]) w'):M.bm.j5 (.map (some r)) [.slice none 0 0,.int .i64 0] w K:=by
 unfold M.bm.j5
 obtain⟨hm,hn⟩:=wg S
 have hk:jp (vj A)=A.map Mem.id:=by unfold jp vj;rw[List.map_map];rfl
 rw[ir]
 refine KeyV.agm hm hn (by simp[vj];omega) fun w1 kv o f=>?_
 rw[hk] at o
 generalize hks:Suint64.qi (A.map Mem.id)=ks at o
 have hkl:ks.length=A.length:=by rw[<-hks,(Suint64.ny _).length_eq,List.length_map]
 have S1:St w0 w1 (OmI.arz kv ks :: jm r .u64 (vj A) :: R):=S.add (a:=OmI.arz kv ks) f (B:=fun b=>kv.ownBlock=some b) ⟨o.mono (Nat.zero_le _),fun b hb=>hb⟩ fun b hb=>⟨(o.lt hb).1,(o.lt hb).2⟩
 have hsl: ∀{w R},St w0 w (OmI.arz kv ks :: R)->Sl w 1 Suint64.qe kv ks:=fun S=>S.row fun _=>rfl
 rw[(hsl S1).jv (by kernel_rfl)]
 refine⟨OmI w0 r A kv ks R,fun x _=>ks.length - ms x 2,⟨_,_,0,rfl,Nat.zero_le _,aop S1⟩,?_⟩
 rintro x w2 ⟨u0,v,i,rfl,hi,S2⟩
 have q1:gv [u0,v,.int .i64 (i:Nat)] 1=v:=rfl
 have q2:gv [u0,v,.int .i64 (i:Nat)] 2= .int .i64 (i:Nat):=rfl
 simp only[q2]
 by_cases hil:i < ks.length
 ·have hil':(i:Int) < ks.length:=by omega
  simp[hil']
  unfold M.bm.j8
  have hwi:IntKind.i64.wrap ((i:Int)+1)=((i+1:Nat):Int):=by rw[jc];rfl
  obtain⟨b,o',cap,hv,hb,_,hc⟩:=(hsl S2.swap).at hil
  have c0:=hc 0 _ rfl
  simp only[Nat.mul_one,Nat.add_zero] at c0
  have htk:ks.take (i+1)=ks.take i ++ [ks[i]]:=List.take_succ_eq_append_getElem hil
  have hm2:=(wg S2.amq).1
  have hsz:((ks.take i).map fun k=>(kc A k).getD ⟨0,0,0⟩).length<=1000:=by rw[List.length_map,List.length_take];omega
  generalize hz:(kc A ks[i]).getD ⟨0,0,0⟩=z at *
  have aiw:(kh (vj A) ks[i]).getD (.agg #[.int .u64 0,.int .u64 0,.int .i64 0])=nf z:=by
   rw[aqt,<-hz]
   cases kc A ks[i] <;>rfl
  simp only[ir,q1,q2,mm,hwi]
  rw[hv]
  simp[hil,c0]
  rw[tp mt.ak hm2,aiw]
  rw[show nf z= .agg #[.int .u64 z.id,.int .u64 z.inc,.int .i64 z.st] from rfl]
  simp
  have S3:=S2.ju ((Fr.refl _ w2).alloc (.cells #[.int .u64 z.id,.int .u64 z.inc,.int .i64 z.st] T.i))
  refine bht S3 (l2:=[z]) (Sl.one rfl rfl) (by simp at hsz⊢;omega) fun w3 v3 S4=>?_
  refine⟨⟨_,v3,i+1,rfl,by omega,?_⟩,by simp[ms,gv];omega⟩
  rw[htk,List.map_append]
  show St w0 w3 (pm v3 (_ ++ [(kc A ks[i]).getD ⟨0,0,0⟩]) :: _)
  rw[hz,<-hv]
  exact S4
 ·have hil': ¬(i:Int) < ks.length:=by omega
  simp[hil']
  rw[List.take_of_length_le (by omega)] at S2
  refine h w2 v ?_
  unfold yb
  rw[hks]
  exact S2.swap.drop.swap.drop
def M1I(w0:World)(r:Nat)(L:List Mem)(tv:Value)(R:List Asn):KL:=fun x w1=> ∃(u:Value)(i:Nat),x=[u,.int .i64 (i:Nat)]/\i<=L.length/\St w0 w1 (pm tv L :: jm r .u64 (vj (od (L.take i))) :: R)
theorem bfz{l1 l2:List Mem}{v1 v2:Value}(S:St w0 w R)(h1: ∀w' L,St w0 w' (L ++ R)->SlM w' v1 l1)(h2: ∀w' L,St w0 w' (L ++ R)->SlM w' v2 l2)(n1:l1.length<=400)(n2:l2.length<=400){K:KV}
  (h: ∀w' v',St w0 w' (pm v' (mo l1 l2).1 :: R)->K (.tuple #[v',.int .i64 (mo l1 l2).2]) w'):ik P F.gv [v1,v2] w K:=by
 rw[M.bm.fcall]
 apply M.bm.calls
 unfold M.bm
 rw[ir]
 refine afk (h1 w [] S) (by omega) fun w1 f1=>?_
 have S1:=S.ju f1
 refine afk (h2 w1 [] S1) (by omega) fun w2 f2=>?_
 have S2:=S1.ju f2
 simp
 have S3:=S2.ju ((Fr.refl _ w2).alloc (.cells #[.int .i64 (kj l1),.int .i64 (kj l2)] T.aa))
 have hk:Sl (w2.alloc (.cells #[.int .i64 (kj l1),.int .i64 (kj l2)] T.aa)) 1 zk (.slice (some ⟨w2.heap.size,0,none⟩) 2 2) [kj l1,kj l2]:=by
  refine⟨some ⟨w2.heap.size,0,none⟩,2,rfl,Nat.le_refl _,by decide,fun i z hz=>?_⟩
  refine⟨w2.heap.size,0,rfl,by simp,fun j u hj=>?_⟩
  rw[iw (c:= #[.int .i64 (kj l1),.int .i64 (kj l2)]) (e:=T.aa) (f:=(0,0)) (by rw[ja,if_pos rfl])]
  match i,hz with
  | 0,hz=>simp at hz;subst hz;match j,hj with
   | 0,hj=>simp[zk] at hj;subst hj;rfl
   | j+1,hj=>simp[zk] at hj
  | 1,hz=>simp at hz;subst hz;match j,hj with
   | 0,hj=>simp[zk] at hj;subst hj;rfl
   | j+1,hj=>simp[zk] at hj
  | i+2,hz=>simp at hz
 rw[M.db.fcall]
 refine bkj hk (by simp) ?_
 unfold mo at h
 by_cases hbad:kj l1≠0\/kj l2≠0
 ·have hor:orK [kj l1,kj l2]=6:=by
   rcases aeb l1 with e1|e1 <;>rcases aeb l2 with e2|e2 <;>rw[e1,e2] at hbad⊢ <;>first|rfl|simp at hbad
  rw[if_pos hbad] at h
  rw[hor]
  simp
  exact h _ _ (aop S3)
 ·have e1:kj l1=0:=Decidable.not_not.1 fun h=>hbad (.inl h)
  have e2:kj l2=0:=Decidable.not_not.1 fun h=>hbad (.inr h)
  have hor:orK [kj l1,kj l2]=0:=by rw[e1,e2];rfl
  rw[if_neg hbad] at h
  rw[hor]
  simp
  unfold M.bm.j0
  generalize w2.alloc (.cells #[.int .i64 (kj l1),.int .i64 (kj l2)] T.aa)=w3 at *
  rw[zu]
  have hm:=yi w3 .u64
  have S4:=S3.add (a:=jm w3.heap.size .u64 (vj [])) (w':=w3.alloc (.map #[] 0)) ((Fr.refl _ w3).alloc _) (B:=fun x=>x=w3.heap.size) ⟨⟨hm,by simp[jp,vj]⟩,rfl⟩ fun x hx=>by subst hx;rw[jg];omega
  generalize w3.heap.size=r at *
  generalize w3.alloc (.map #[] 0)=w4 at *
  have s1:=h1 w4 [jm r .u64 (vj [])] S4
  have s2:=h2 w4 [jm r .u64 (vj [])] S4
  obtain⟨a1,c1,hv1,_⟩:=id s1
  obtain⟨a2,c2,hv2,_⟩:=id s2
  rw[hv1,hv2]
  simp
  rw[<-hv1,<-hv2]
  have f5:Fz w4 (w4.alloc (.cells #[v1,v2] T.k)):=(Fr.refl _ w4).alloc _
  have hbl:(w4.alloc (.cells #[v1,v2] T.k)).heap[w4.heap.size]? =some (.cells (([(v1,l1),(v2,l2)]:List (Value×List Mem)).map (·.1)).toArray T.k (0,0)):=by
   rw[ja,if_pos rfl];rfl
  rw[M.h.fcall]
  refine CM.aip (L:=[(v1,l1),(v2,l2)]) hbl (fun p hp=>?_) (by simp[CM.tot];omega) (by simp) fun w6 tv o f6=>?_
  ·simp at hp
   rcases hp with rfl|rfl
   ·exact s1.fr f5 fun _ _ _ h=>h
   ·exact s2.fr f5 fun _ _ _ h=>h
  have hs5:w4.heap.size<=(w4.alloc (.cells #[v1,v2] T.k)).heap.size:=f5.size
  have S6:St w0 w6 (pm tv (l1 ++ l2) :: jm r .u64 (vj []) :: R):=S4.add (a:=pm tv (l1 ++ l2)) (f5.trans f6) (B:=fun b=>tv.ownBlock=some b) ⟨by simpa using o.mono (Nat.zero_le _),fun b hb=>hb⟩ fun b hb=>by
   have:=o.lt hb
   exact⟨by omega,this.2⟩
  generalize hL:l1 ++ l2=L at *
  have hLl:L.length<=800:=by rw[<-hL,List.length_append];omega
  rw[(S6.row pd:SlM w6 tv L).jv (by kernel_rfl)]
  refine⟨M1I w0 r L tv R,fun x _=>L.length - ms x 1,⟨_,0,rfl,Nat.zero_le _,S6⟩,?_⟩
  rintro x w7 ⟨u,i,rfl,hi,S7⟩
  have q1:gv [u,.int .i64 (i:Nat)] 1= .int .i64 (i:Nat):=rfl
  simp only[q1]
  by_cases hil:i < L.length
  ·have hil':(i:Int) < L.length:=by omega
   simp[hil']
   refine brq S7 hil (by omega) fun w8 y S8=>?_
   refine⟨⟨_,i+1,rfl,by omega,?_⟩,by simp[ms,gv];omega⟩
   have:od (L.take (i+1))=qd (od (L.take i)) L[i]:=by
    unfold od
    rw[List.take_succ_eq_append_getElem hil,List.foldl_append];rfl
   rw[this];exact S8
  ·have hil': ¬(i:Int) < L.length:=by omega
   simp[hil']
   rw[List.take_of_length_le (by omega)] at S7
   unfold M.bm.j1
   have hml:=aza L
   rw[ir,ack mt.ak (wg S7.swap).1]
   have hel:(vj (od L)).length=(od L).length:=by simp[vj]
   by_cases h16:16 < (od L).length
   ·rw[if_pos h16] at h
    have h16':(16:Int) < (od L).length:=by omega
    simp[hel,h16']
    exact h _ _ (aop S7.drop.drop)
   ·rw[if_neg h16] at h
    have h16': ¬(16:Int) < (od L).length:=by omega
    simp[hel,h16']
    exact bsj S7.drop (by omega) h
end
theorem acs{α:Type}{sz:Nat}{enc:α->List Value}{v:Value}{l:List α}{w0 w:World}{L:List Asn}(S:St w0 w L)(h:rdA sz enc v l∈L):Sl w sz enc v l:=by
 obtain⟨s,t,rfl⟩:=List.append_of_mem h
 exact (S.perm List.perm_middle).rd
theorem avt(a b c:Mem)(h1:qt a b=true)(h2:qt b c=true):qt a c=true:=by
 unfold qt at *
 simp at *
 omega
def mx(x o:Mem):Mem:=if qt x o=true then x else o
def jn:Option Mem->Option Mem->Option Mem
 | none,b=>b
 | some a,none=>some a
 | some a,some b=>some (mx b a)
theorem aoy(x y z:Mem)(h1:qt x y=false)(h2:qt y z=false):qt x z=false:=by
 unfold qt at *
 simp at *
 omega
theorem bhh(x y z:Mem):mx x (mx y z)=mx (mx x y) z:=by
 unfold mx
 cases h1:qt y z <;>cases h2:qt x y <;>simp[h1,h2]
 ·rw[aoy x y z h2 h1];simp
 ·rw[avt x y z h2 h1];simp
theorem ahq{A:List Mem}{k:Int}{x:Mem}(h:kc A k=some x):x.id=k:=by
 unfold kc at h
 simpa using List.find?_some h
theorem ant(A:List Mem)(x:Mem)(k:Int):kc (qd A x) k=if x.id=k then jn (kc A k) (some x) else kc A k:=by
 unfold kc
 induction A with
 | nil=>
  unfold qd
  by_cases h:x.id=k <;>simp[h,jn]
 | cons o t ih=>
  unfold qd
  by_cases ho:o.id=x.id
  ·rw[if_pos ho]
   have hid:(if qt x o=true then x else o).id=x.id:=by split <;>simp[ho]
   by_cases h:x.id=k
   ·rw[if_pos h]
    have h':o.id=k:=ho.trans h
    simp[List.find?_cons,hid,h,h',jn,mx]
   ·rw[if_neg h]
    have h': ¬o.id=k:=fun h'=>h (ho.symm.trans h')
    simp[List.find?_cons,hid,h,h']
  ·rw[if_neg ho]
   rw[List.find?_cons,List.find?_cons]
   by_cases h':o.id=k
   ·have h: ¬x.id=k:=fun h=>ho (h'.trans h.symm)
    simp[h',h]
   ·simp only[decide_eq_false h']
    exact ih
theorem bis(a b c:Option Mem):jn a (jn b c)=jn (jn a b) c:=by
 cases a <;>cases b <;>cases c <;>simp[jn]
 exact (bhh _ _ _).symm
theorem awe(L:List Mem)(k:Int): ∀A,kc (L.foldl qd A) k=jn (kc A k) (kc (od L) k):=by
 induction L with
 | nil=>intro A;show kc A k=jn (kc A k) none;cases kc A k <;>rfl
 | cons x L ih=>
  intro A
  rw[List.foldl_cons,ih (qd A x)]
  have e:kc (od (x :: L)) k=jn (kc (qd [] x) k) (kc (od L) k):=by
   unfold od;rw[List.foldl_cons];exact ih (qd [] x)
  rw[e,bis,ant,ant]
  congr 1
  by_cases h:x.id=k
  ·simp only[h,if_true]
   show _=jn (kc A k) (jn none (some x))
   rfl
  ·simp only[h,if_false]
   show _=jn (kc A k) none
   cases kc A k <;>rfl
theorem ath(a b:List Mem)(k:Int):kc (od (a ++ b)) k=jn (kc (od a) k) (kc (od b) k):=by
 show kc ((a ++ b).foldl qd []) k=_
 rw[List.foldl_append]
 exact awe b k _
theorem bgn(A:List Mem)(x:Mem):(qd A x).map Mem.id=if x.id∈A.map Mem.id then A.map Mem.id else A.map Mem.id ++ [x.id]:=by
 induction A with
 | nil=>simp[qd]
 | cons o t ih=>
  unfold qd
  by_cases ho:o.id=x.id
  ·rw[if_pos ho]
   have hid:(if qt x o=true then x else o).id=o.id:=by split <;>simp[ho]
   simp[hid,ho]
  ·rw[if_neg ho,List.map_cons,ih]
   have ho': ¬x.id=o.id:=fun h=>ho h.symm
   by_cases hm:x.id∈t.map Mem.id
   ·rw[if_pos hm,if_pos (by rw[List.map_cons];exact List.mem_cons_of_mem _ hm)];rfl
   ·rw[if_neg hm,if_neg (by rw[List.map_cons,List.mem_cons];rintro (h|h);exact ho' h;exact hm h)];rfl
theorem ajt(L:List Mem):((od L).map Mem.id).Nodup:=by
 have h: ∀(L A:List Mem),(A.map Mem.id).Nodup->((L.foldl qd A).map Mem.id).Nodup:=fun L=>by
  induction L with
  | nil=>exact fun A h=>h
  | cons x L ih=>
   intro A hA
   rw[List.foldl_cons]
   refine ih _ ?_
   rw[bgn]
   split
   ·exact hA
   ·rename_i hx
    rw[List.nodup_append]
    exact⟨hA,by simp,fun a ha b hb hab=>by simp at hb;exact hx (by rw[<-hb,<-hab];exact ha)⟩
 exact h L [] List.nodup_nil
theorem agl{A:List Mem}{k:Int}:k∈A.map Mem.id↔kc A k≠none:=by
 unfold kc
 rw[Ne,List.find?_eq_none,List.mem_map]
 constructor
 ·rintro⟨x,hx,rfl⟩ h
  exact h x hx (by simp)
 ·intro h
  exact Classical.byContradiction fun hn=>h fun x hx hk=>hn ⟨x,hx,by simpa using hk⟩
theorem bfl(A:List Mem)(x:Mem)(h:x.id∉A.map Mem.id):qd A x=A ++ [x]:=by
 induction A with
 | nil=>rfl
 | cons o t ih=>
  unfold qd
  rw[List.map_cons,List.mem_cons] at h
  rw[if_neg fun ho=>h (.inl ho.symm),ih fun hm=>h (.inr hm)];rfl
theorem akc(L:List Mem)(h:(L.map Mem.id).Nodup):od L=L:=by
 have g: ∀(L A:List Mem),((A ++ L).map Mem.id).Nodup->L.foldl qd A=A ++ L:=fun L=>by
  induction L with
  | nil=>intro A _;simp
  | cons x L ih=>
   intro A hA
   have hx:x.id∉A.map Mem.id:=by
    rw[List.map_append,List.map_cons,List.nodup_append] at hA
    intro hm
    exact hA.2.2 _ hm _ (List.mem_cons_self ..) rfl
   rw[List.foldl_cons,bfl A x hx,ih (A ++ [x]) (by simpa using hA)]
   simp
 simpa [od] using g L [] (by simpa using h)
theorem aos(A:List Mem):(yb A).map Mem.id=Suint64.qi (A.map Mem.id):=by
 unfold yb
 rw[List.map_map]
 conv=>rhs;rw[<-List.map_id (Suint64.qi (A.map Mem.id))]
 refine List.map_congr_left fun k hk=>?_
 have hm:k∈A.map Mem.id:=(Suint64.ny _).mem_iff.1 hk
 have hn:=agl.1 hm
 show ((kc A k).getD ⟨0,0,0⟩).id=k
 cases hf:kc A k with
 | none=>exact absurd hf hn
 | some x=>exact ahq hf
theorem bef{A:List Mem}(h:(A.map Mem.id).Nodup):((yb A).map Mem.id).Nodup:=by
 rw[aos];exact (Suint64.ny _).nodup_iff.2 h
theorem abl{L:List Mem}(h:(L.map Mem.id).Nodup){x:Mem}(hx:x∈L):kc L x.id=some x:=by
 cases hf:kc L x.id with
 | none=>exact absurd hf (agl.1 (List.mem_map_of_mem hx))
 | some y=>
  have hy:y∈L:=List.mem_of_find?_eq_some (show L.find? _=some y from hf)
  rw[ue h hy hx (ahq hf)]
theorem akf{A:List Mem}(h:(A.map Mem.id).Nodup)(k:Int):kc (yb A) k=kc A k:=by
 cases hf:kc A k with
 | none=>
  cases hg:kc (yb A) k with
  | none=>rfl
  | some y=>
   have:k∈(yb A).map Mem.id:=agl.2 (by rw[hg];exact fun h=>by cases h)
   rw[aos] at this
   have:=agl.1 ((Suint64.ny _).mem_iff.1 this)
   exact absurd hf this
 | some x=>
  have hk:k∈Suint64.qi (A.map Mem.id):=(Suint64.ny _).mem_iff.2 (agl.2 (by rw[hf];exact fun h=>by cases h))
  have hx:x∈yb A:=by
   unfold yb
   exact List.mem_map.2 ⟨k,hk,by rw[hf];rfl⟩
  rw[<-ahq hf]
  exact abl (bef h) hx
theorem aow{A:List Mem}(h:(A.map Mem.id).Nodup){x:Mem}:x∈yb A↔x∈A:=by
 constructor
 ·intro hx
  have:=abl (bef h) hx
  rw[akf h] at this
  exact List.mem_of_find?_eq_some (show A.find? _=some x from this)
 ·intro hx
  have:=abl h hx
  rw[<-akf h] at this
  exact List.mem_of_find?_eq_some (show (yb A).find? _=some x from this)
theorem bhk{A:List Mem}{x y:Mem}(h:y∈qd A x):y∈A\/y=x:=by
 induction A with
 | nil=>simp[qd] at h;exact .inr h
 | cons o t ih=>
  unfold qd at h
  split at h
  ·rcases List.mem_cons.1 h with h|h
   ·split at h
    ·exact .inr h
    ·exact .inl (by simp[h])
   ·exact .inl (by simp[h])
  ·rcases List.mem_cons.1 h with h|h
   ·exact .inl (by simp[h])
   ·rcases ih h with h|h
    ·exact .inl (by simp[h])
    ·exact .inr h
theorem anj{L:List Mem}{y:Mem}(h:y∈od L):y∈L:=by
 have g: ∀(L A:List Mem),y∈L.foldl qd A->y∈A\/y∈L:=fun L=>by
  induction L with
  | nil=>exact fun A h=> .inl h
  | cons x L ih=>
   intro A h
   rcases ih _ h with h|h
   ·rcases bhk h with h|h
    ·exact .inl h
    ·exact .inr (by simp[h])
   ·exact .inr (by simp[h])
 simpa using g L [] h
structure adt(l:List Mem):Prop where
 bgs:(l.map Mem.id).Pairwise (· < ·)
 pos: ∀m∈l,0 < m.id
 odd: ∀m∈l,xm m=false
 few:l.length<=16
theorem bbl(l:List Mem): ∀kx,wh kx l=true↔(l.map Mem.id).Pairwise (· < ·)/\∀m∈l,kx < m.id:=by
 induction l with
 | nil=>intro kx;simp[wh]
 | cons x l ih=>
  intro kx
  unfold wh
  rw[Bool.and_eq_true,ih x.id,List.map_cons,List.pairwise_cons]
  constructor
  ·rintro⟨h1,h2,h3⟩
   have h1:kx < x.id:=by simpa using h1
   refine⟨⟨fun k hk=>?_,h2⟩,fun m hm=>?_⟩
   ·obtain⟨m,hm,rfl⟩:=List.mem_map.1 hk
    exact h3 m hm
   ·rcases List.mem_cons.1 hm with rfl|hm
    ·exact h1
    ·have:=h3 m hm;omega
  ·rintro⟨⟨h1,h2⟩,h3⟩
   exact⟨by simpa using h3 x (by simp),h2,fun m hm=>h1 _ (List.mem_map_of_mem hm)⟩
theorem vt(l:List Mem):kj l=0↔adt l:=by
 unfold kj
 by_cases h0:l=[]
 ·subst h0
  simp
  exact⟨by simp,by simp,by simp,by simp⟩
 ·rw[if_neg h0]
  have hpos:0 < l.length:=List.length_pos_iff.2 h0
  have:(if qu l=true then (0:Int) else 6)=0↔qu l=true:=by split <;>simp_all
  rw[this]
  unfold qu
  rw[Bool.and_eq_true,Bool.and_eq_true,Bool.and_eq_true,bbl]
  constructor
  ·rintro⟨⟨⟨h1,h2⟩,h3,h4⟩,h5⟩
   refine⟨h1,h2,fun m hm=>?_,by simpa using h4⟩
   have:l.any xm=false:=by simpa using h5
   rw[List.any_eq_false] at this
   simpa using this m hm
  ·rintro⟨h1,h2,h3,h4⟩
   refine⟨⟨⟨h1,h2⟩,by simpa using hpos,by simpa using h4⟩,?_⟩
   have:l.any xm=false:=by
    rw[List.any_eq_false]
    intro m hm;rw[h3 m hm];simp
   rw[this];rfl
theorem adt.nd{l:List Mem}(h:adt l):(l.map Mem.id).Nodup:=h.bgs.imp fun h=>by omega
theorem bng{l:List Int}(h:l.Nodup):(Suint64.qi l).Pairwise (· < ·):=by
 have h1:(Suint64.qi l).Pairwise (fun a b=>decide (a<=b)=true):=by
  unfold Suint64.qi
  exact List.pairwise_mergeSort (fun a b c h1 h2=>by simp at *;omega) (fun a b=>by simp;omega) l
 have h2:(Suint64.qi l).Nodup:=(Suint64.ny l).nodup_iff.2 h
 exact (h1.and h2).imp fun⟨h1,h2⟩=>by simp at h1;omega
theorem bje{A:List Mem}(h:(A.map Mem.id).Nodup)(hp: ∀m∈A,0 < m.id/\xm m=false)(hf:A.length<=16):adt (yb A):=by
 refine⟨by rw[aos];exact bng h,fun m hm=>(hp m ((aow h).1 hm)).1,fun m hm=>(hp m ((aow h).1 hm)).2,?_⟩
 unfold yb
 rw[List.length_map,(Suint64.ny _).length_eq,List.length_map];exact hf
theorem ain{a b:List Mem}(ha:kj a=0)(hb:kj b=0)(h:(mo a b).2=0):(mo a b).1=yb (od (a ++ b))/\kj (mo a b).1=0/\∀k,kc (mo a b).1 k=jn (kc a k) (kc b k):=by
 have ga:=(vt a).1 ha
 have gb:=(vt b).1 hb
 have hlen: ¬16 < (od (a ++ b)).length:=fun h16=>by
  unfold mo at h
  rw[if_neg (by rw[ha,hb];simp),if_pos h16] at h
  cases h
 have e:(mo a b).1=yb (od (a ++ b)):=by
  unfold mo
  rw[if_neg (by rw[ha,hb];simp),if_neg hlen]
 refine⟨e,?_,fun k=>?_⟩
 ·rw[e,vt]
  refine bje (ajt _) (fun m hm=>?_) (by omega)
  rcases List.mem_append.1 (anj hm) with hm|hm
  ·exact⟨ga.pos m hm,ga.odd m hm⟩
  ·exact⟨gb.pos m hm,gb.odd m hm⟩
 ·rw[e,akf (ajt _),ath,akc a ga.nd,akc b gb.nd]
def aob(l:List Mem)(k:Int):Mem:=(kc l k).getD ⟨0,0,0⟩
theorem bin{l:List Mem}{k:Int}{i:Nat}(hi:i < l.length)(hk:l[i].id=k)(hz: ∀j (h:j < l.length),j < i->l[j].id≠k):kc l k=some l[i]:=by
 unfold kc
 rw[List.find?_eq_some_iff_getElem]
 exact⟨decide_eq_true hk,i,hi,rfl,fun j hj=>by simpa using hz j (by omega) hj⟩
theorem ayq{l:List Mem}{k:Int}(h: ∀m∈l,m.id≠k):kc l k=none:=by
 unfold kc
 rw[List.find?_eq_none]
 intro m hm;simpa using h m hm
theorem bdw{w0 w:World}{b:Nat}{c:Array Value}(z:Mem)(hb:w.heap[b]? =some (.cells c T.i (0,0)))(hc:c.size=3)(hn:w0.heap.size<=b)(hf:Fz w0 w){Q:World->Prop}
  (h: ∀w',Fz w0 w'->w'.heap[b]? =some (.cells (xf z).toArray T.i (0,0))->Q w'):stN P b 0 [.int .u64 z.id,.int .u64 z.inc,.int .i64 z.st] w fun _ w=>Q w:=by
 refine kg (vs:=[.int .u64 z.id,.int .u64 z.inc,.int .i64 z.st]) hb hc.symm (by simp) fun w3 b3 f3=>?_
 exact h w3 (hf.jw f3 fun y hy he=>by subst he;omega) b3
theorem bnq{w:World}{b:Nat}{z:Mem}(hb:w.heap[b]? =some (.cells (xf z).toArray T.i (0,0)))(K:KV):ldN P 3 b 0 w K=K (nf z) w:=
 ldM (m:=z) (i:=0) (fun k v hk=>by rw[iw hb,Nat.zero_add,List.getElem?_toArray];exact hk) K
structure Nd where
 id:Int
 ng:Int
 jx:Int
 now:Int
 due:Int
 left:Bool
 v:List Mem
 h:MP
def wy(id frm now:Int)(h:MP)(m:Mem):MP:=if m.id≠id/\(kh h m.id=none\/m.id=frm) then tz h m.id (.int .u64 now) else h
def us(id frm now:Int)(h:MP)(l:List Mem):MP:=l.foldl (wy id frm now) h
def xi(id:Int)(m:Mem):Mem:=if m.id=id then ⟨m.id,m.inc+1,0⟩ else m
def hat(h:MP)(k:Int):Int:=match kh h k with
 | some (.int _ t)=>t
 | _=>0
def ahd(now jx:Int)(h:MP)(m:Mem):Int:=
 if m.st=0 then (if jx<=IntKind.u64.wrap (now - hat h m.id) then 1 else 0) else if m.st=1 then (if IntKind.u64.wrap (now - hat h m.id) < 2 * jx then 1 else 2) else m.st
def tx(id now jx:Int)(h:MP)(m:Mem):Mem:=if m.id=id then m else ⟨m.id,m.inc,ahd now jx h m⟩
def Nd.new(ou inc ng jx now:Int):Nd:=⟨ou,ng,jx,now,now,false,[⟨ou,inc,0⟩],[]⟩
def pc(a b:Int):Int:=if a < b then b else a
def abr(a b:Int):Int:=if a < b then a else b
def Nd.ahf(n:Nd)(frm:Int)(l:List Mem)(now:Int):Nd×Int:=
 if (mo n.v l).2≠0 then ({n with now:=pc n.now now},(mo n.v l).2)
 else if (aob (mo n.v l).1 n.id).st≠0/\n.left=false/\(aob (mo n.v l).1 n.id).inc < 18446744073709551615
  then ({n with now:=pc n.now now,v:=(mo n.v l).1.map (xi n.id),h:=us n.id frm (pc n.now now) n.h (mo n.v l).1},0)
  else ({n with now:=pc n.now now,v:=(mo n.v l).1,h:=us n.id frm (pc n.now now) n.h (mo n.v l).1},0)
def aan(id:Int)(l:List Mem):List Int:=(l.filter fun m=>decide (m.id≠id) && decide (m.st≠2)).map Mem.id
def pq(id:Int)(l:List Mem):List Int:=(l.filter fun m=>decide (m.id≠id) && decide (m.st=2)).map Mem.id
def zq(g:List Int)(pick:Int):List Int:=if g=[] then [] else [g.getD (pick % g.length).toNat 0]
def Nd.ro(n:Nd)(now pick:Int):Nd×List Int:=
 if pc n.now now < n.due then ({n with now:=pc n.now now},[])
 else ({n with now:=pc n.now now,due:=pc n.now now+abr n.ng (18446744073709551615 - pc n.now now),v:=n.v.map (tx n.id (pc n.now now) n.jx n.h)},
  aan n.id (n.v.map (tx n.id (pc n.now now) n.jx n.h)) ++ zq (pq n.id (n.v.map (tx n.id (pc n.now now) n.jx n.h))) pick)
def aht(l:List Mem):Prop:= ∀m∈l,0<=m.inc/\m.inc < 18446744073709551616
structure qk(n:Nd):Prop where
 zl:adt n.v
 own:kc n.v n.id≠none
 inc:aht n.v
 id0:0 < n.id/\n.id < 18446744073709551616
 per:1<=n.ng/\n.ng<=1099511627776
 wai:1<=n.jx/\n.jx<=1099511627776
 nw:0<=n.now/\n.now < 18446744073709551616
 du:0<=n.due/\n.due < 18446744073709551616
theorem aqu{l:List Mem}{g:Mem->Mem}(hg: ∀m,(g m).id=m.id)(k:Int):kc (l.map g) k=(kc l k).map g:=by
 unfold kc
 induction l with
 | nil=>rfl
 | cons x l ih=>
  rw[List.map_cons,List.find?_cons,List.find?_cons,hg]
  by_cases h:x.id=k
  ·simp[h]
  ·simp only[decide_eq_false h];exact ih
theorem blc{l:List Mem}{g:Mem->Mem}(hg: ∀m,(g m).id=m.id):(l.map g).map Mem.id=l.map Mem.id:=by
 rw[List.map_map];exact List.map_congr_left fun x _=>hg x
theorem adt.map{l:List Mem}{g:Mem->Mem}(h:adt l)(hg: ∀m,(g m).id=m.id)(ho: ∀m∈l,xm (g m)=false):adt (l.map g):=by
 refine⟨by rw[blc hg];exact h.bgs,fun m hm=>?_,fun m hm=>?_,by rw[List.length_map];exact h.few⟩
 ·obtain⟨x,hx,rfl⟩:=List.mem_map.1 hm
  rw[hg];exact h.pos x hx
 ·obtain⟨x,hx,rfl⟩:=List.mem_map.1 hm
  exact ho x hx
theorem axn(id:Int)(m:Mem):(xi id m).id=m.id:=by unfold xi;split <;>rfl
theorem bdi(id now jx:Int)(h:MP)(m:Mem):(tx id now jx h m).id=m.id:=by unfold tx;split <;>rfl
theorem aky(m:Mem):xm m=false↔m.inc≠0/\0<=m.st/\m.st<=2:=by
 unfold xm;simp
theorem ayw{now jx:Int}{h:MP}{m:Mem}(ho:0<=m.st/\m.st<=2):m.st<=ahd now jx h m/\ahd now jx h m<=2:=by
 unfold ahd
 split
 ·split <;>omega
 ·split
  ·split <;>omega
  ·omega
theorem auu{l:List Mem}{k:Int}{m:Mem}(h:kc l k=some m):aob l k=m:=by unfold aob;rw[h];rfl
theorem als{l:List Mem}(h:adt l)(hi:aht l){m:Mem}(hm:m∈l):1<=m.inc/\0<=m.st/\m.st<=2:=by
 have:=(aky m).1 (h.odd m hm)
 have:=hi m hm
 omega
theorem aqc{l:List Mem}{k:Int}{m:Mem}(h:kc l k=some m):m∈l:=List.mem_of_find?_eq_some (show l.find? _=some m from h)
theorem aze(a b:List Mem):(mo a b).2=0/\kj a=0/\kj b=0\/(mo a b).2=4/\kj a=0/\kj b=0\/(mo a b).2=6/\(kj a≠0\/kj b≠0):=by
 unfold mo
 split
 ·rename_i h;exact .inr (.inr ⟨rfl,h⟩)
 ·rename_i h
  have h1:kj a=0:=Decidable.not_not.1 fun h'=>h (.inl h')
  have h2:kj b=0:=Decidable.not_not.1 fun h'=>h (.inr h')
  split
  ·exact .inr (.inl ⟨rfl,h1,h2⟩)
  ·exact .inl ⟨rfl,h1,h2⟩
theorem aib{a b:List Mem}(h:(mo a b).2=0):kj a=0/\kj b=0:=by
 rcases aze a b with⟨_,h⟩|⟨h',_⟩|⟨h',_⟩
 ·exact h
 ·rw[h] at h';cases h'
 ·rw[h] at h';cases h'
theorem bch{a b:List Mem}(h:(mo a b).2=0){x:Mem}(hx:x∈(mo a b).1):x∈a\/x∈b:=by
 obtain⟨h1,h2⟩:=aib h
 rw[(ain h1 h2 h).1] at hx
 exact List.mem_append.1 (anj ((aow (ajt _)).1 hx))
theorem bcs{a b:List Mem}(h:(mo a b).2=0)(ha:aht a)(hb:aht b):aht (mo a b).1:=fun m hm=>by
 rcases bch h hm with h|h
 ·exact ha m h
 ·exact hb m h
theorem awf(a:Mem)(b:Option Mem): ∃m,jn (some a) b=some m:=by
 cases b with
 | none=>exact⟨_,rfl⟩
 | some b=>exact⟨_,rfl⟩
theorem agx{a b:Int}(ha:0<=a/\a < 18446744073709551616)(hb:0<=b/\b < 18446744073709551616):0<=pc a b/\pc a b < 18446744073709551616:=by
 unfold pc;split <;>omega
section
variable {n : Nd} {frm now pick : Int} {l : List Mem}
theorem awh(h:qk n)(hl:aht l)(hn:0<=now/\now < 18446744073709551616):qk (n.ahf frm l now).1:=by
 have ht:=agx h.nw hn
 unfold Nd.ahf
 by_cases hk:(mo n.v l).2=0
 ·rw[if_neg (by simpa using hk)]
  obtain⟨r1,r2⟩:=aib hk
  obtain⟨_,p1,p2⟩:=ain r1 r2 hk
  have hi:=bcs hk h.inc hl
  have hg:=(vt _).1 p1
  obtain⟨o,ho⟩:=Option.ne_none_iff_exists'.1 h.own
  obtain⟨m,hm⟩:=awf o (kc l n.id)
  have hf:kc (mo n.v l).1 n.id=some m:=by rw[p2,ho,hm]
  have hfp:=auu hf
  rw[hfp]
  generalize (mo n.v l).1=v at *
  split
  ·rename_i hc
   refine⟨hg.map (axn _) fun x hx=>?_,?_,fun x hx=>?_,h.id0,h.per,h.wai,ht,h.du⟩
   ·have:=als hg hi hx
    rw[aky]
    unfold xi
    split <;>simp <;>omega
   ·show kc (v.map (xi n.id)) n.id≠none
    rw[aqu (axn _),hf];simp
   ·obtain⟨y,hy,rfl⟩:=List.mem_map.1 hx
    have:=hi y hy
    unfold xi
    split
    ·rename_i he
     have:y=m:=by
      have:=abl hg.nd hy
      rw[he,hf] at this
      exact (Option.some.inj this).symm
     subst this
     simp;omega
    ·exact this
  ·exact⟨hg,by show kc v n.id≠none;rw[hf];simp,hi,h.id0,h.per,h.wai,ht,h.du⟩
 ·rw[if_pos hk]
  exact⟨h.zl,h.own,h.inc,h.id0,h.per,h.wai,ht,h.du⟩
theorem agb(h:qk n)(hn:0<=now/\now < 18446744073709551616):qk (n.ro now pick).1:=by
 have ht:=agx h.nw hn
 have hp:=h.per
 unfold Nd.ro
 generalize pc n.now now=t at *
 split
 ·exact⟨h.zl,h.own,h.inc,h.id0,h.per,h.wai,ht,h.du⟩
 ·refine⟨h.zl.map (bdi _ _ _ _) fun x hx=>?_,?_,fun x hx=>?_,h.id0,h.per,h.wai,ht,?_⟩
  ·have:=als h.zl h.inc hx
   have:=ayw (now:=t) (jx:=n.jx) (h:=n.h) this.2
   rw[aky]
   unfold tx
   split <;>simp <;>omega
  ·show kc (n.v.map _) n.id≠none
   rw[aqu (bdi _ _ _ _)]
   obtain⟨o,ho⟩:=Option.ne_none_iff_exists'.1 h.own
   rw[ho];simp
  ·obtain⟨y,hy,rfl⟩:=List.mem_map.1 hx
   have:=h.inc y hy
   unfold tx
   split
   ·exact this
   ·exact this
  ·show 0<=t+abr n.ng (18446744073709551615 - t)/\t+abr n.ng (18446744073709551615 - t) < 18446744073709551616
   unfold abr
   split <;>omega
theorem awm{ou inc ng jx:Int}(h1:0 < ou/\ou < 18446744073709551616)(h2:0 < inc/\inc < 18446744073709551616)(h3:1<=ng/\ng<=1099511627776)(h4:1<=jx/\jx<=1099511627776)(hn:0<=now/\now < 18446744073709551616):
  qk (Nd.new ou inc ng jx now):=by
 refine⟨⟨by simp[Nd.new],?_,?_,by simp[Nd.new]⟩,?_,?_,h1,h3,h4,hn,hn⟩
 ·intro m hm;simp[Nd.new] at hm;subst hm;exact h1.1
 ·intro m hm;simp[Nd.new] at hm;subst hm;rw[aky];simp;omega
 ·simp[Nd.new,kc]
 ·intro m hm;simp[Nd.new] at hm;subst hm;simp;omega
end
def bkf(l:List Mem):Prop:= ∀m∈l,0<=m.inc/\m.inc < 18446744073709551616
theorem bln{v:Value}{l:List Mem}{w0 w:World}{L:List Asn}(S:St w0 w L)(h:pm v l∈L):SlM w v l:=by
 obtain⟨s,t,rfl⟩:=List.append_of_mem h
 exact (S.perm List.perm_middle).row pd
section
variable {w0 w : World} {R : List Asn}
end
def qz(n:Nd)(v:Value)(r:Nat):Array Value:= #[.int .u64 n.id,.int .u64 n.ng,.int .u64 n.jx,.int .u64 n.now,.int .u64 n.due,.bool n.left,v,.map (some r)]
def adj(h:MP):Prop:= ∀k v,kh h k=some v->∃t,v= .int .u64 t
def axz(p r:Nat)(v:Value)(n:Nd):List Asn:=[jd p (qz n v r) T.q,pm v n.v,jm r .u64 n.h]
def ki(p:Nat)(n:Nd):Asn where
 ok w B:= ∃r v,adj n.h/\Rs (axz p r v n) w B
 jl:=by
  rintro w w' B S ⟨r,v,h1,h2⟩ hf hn
  exact⟨r,v,h1,h2.jl hf hn⟩
def zi(p:Nat):Value:= .pointer (some ⟨p,0,none⟩)
section
variable {w0 w : World} {R : List Asn} {p r : Nat} {v : Value} {n : Nd}
theorem bih(S:St w0 w (ki p n :: R)): ∃r v,adj n.h/\St w0 w (jd p (qz n v r) T.q :: pm v n.v :: jm r .u64 n.h :: R):=by
 obtain⟨B,⟨r,v,h1,h2⟩,_,cl⟩:=S.open
 exact⟨r,v,h1,cl w (axz p r v n) (Fr.refl _ _) (h2.mono fun b hb=> .inl hb)⟩
theorem alv(h:adj n.h)(S:St w0 w (jd p (qz n v r) T.q :: pm v n.v :: jm r .u64 n.h :: R)):St w0 w (ki p n :: R):=by
 obtain⟨U,h1,_,g⟩:=St.akw (L:=axz p r v n) (R:=R) S
 exact g w [ki p n] (Fr.refl _ _) ⟨U,⟨r,v,h,h1⟩,fun b hb=> .inl hb,trivial⟩
theorem aiw(h:adj n.h)(k:Int):(kh n.h k).getD (.int .u64 0)= .int .u64 (hat n.h k):=by
 unfold hat
 cases hg:kh n.h k with
 | none=>rfl
 | some x=>
  obtain⟨t,rfl⟩:=h k x hg
  rfl
theorem bcv{id frm now:Int}{h:MP}{m:Mem}(hh:adj h):adj (wy id frm now h m):=by
 unfold wy
 split
 ·intro k x hx
  rw[aau] at hx
  split at hx
  ·cases hx;exact⟨_,rfl⟩
  ·exact hh k x hx
 ·exact hh
theorem bhf{id frm now:Int}(l:List Mem): ∀{h:MP},adj h->adj (us id frm now h l):=by
 induction l with
 | nil=>exact fun h=>h
 | cons x l ih=>exact fun h=>ih (bcv h)
theorem mq{w:World}(hb:w.heap[p]? =some (.cells (qz n v r) T.q (0,0))):iq w p 0=some (.int .u64 n.id)/\iq w p 1=some (.int .u64 n.ng)/\iq w p 2=some (.int .u64 n.jx)/\iq w p 3=some (.int .u64 n.now)/\iq w p 4=some (.int .u64 n.due)/\iq w p 5=some (.bool n.left)/\iq w p 6=some v/\iq w p 7=some (.map (some r))/\∀i,qy w p i=false:=
 ⟨by rw[iw hb];rfl,by rw[iw hb];rfl,by rw[iw hb];rfl,by rw[iw hb];rfl,by rw[iw hb];rfl,by rw[iw hb];rfl,by rw[iw hb];rfl,by rw[iw hb];rfl,mi hb⟩
theorem amr{cs cs':Array Value}{e:TypeId}{b i:Nat}{u:Value}(S:St w0 w (jd b cs e :: R))(hc:cs.setIfInBounds i u=cs'):St w0 (w.setCell ⟨b,i,none⟩ u) (jd b cs' e :: R):=
 S.oz ((Fr.refl (fun x=>x=b) w).setCell (.inl rfl) _ _) ((nl S.blk).trans (by rw[hc]))
theorem bnz(hb:w.heap[p]? =some (.cells (qz n v r) T.q (0,0)))(hs:SlM w v n.v)(hl:n.v.length<=1000000)(ho:kc n.v n.id≠none){K:KV}(h: ∀w' (i:Nat) (hi:i < n.v.length),n.v[i].id=n.id->(∀j (hj:j < n.v.length),j < i->n.v[j].id≠n.id)->Fz w w'->K (.int .i64 i) w'):ik P F.et [zi p] w K:=by
 rw[M.en.fcall]
 apply M.en.calls
 unfold M.en zi
 have hb1:(w.alloc (.cells #[.pointer (some ⟨p,0,none⟩)] T.bb)).heap[w.heap.size]? =some (.cells #[.pointer (some ⟨p,0,none⟩)] T.bb (0,0)):=by rw[ja,if_pos rfl]
 have f1:Fz w (w.alloc (.cells #[.pointer (some ⟨p,0,none⟩)] T.bb)):=(Fr.refl _ w).alloc _
 simp
 generalize hg:w.heap.size=g at *
 generalize w.alloc (.cells #[.pointer (some ⟨p,0,none⟩)] T.bb)=w1 at *
 have cg:iq w1 g 0=some (.pointer (some ⟨p,0,none⟩)):=by rw[iw hb1];rfl
 have hbp:=f1.heap hb fun h=>h
 obtain⟨c0,_,_,_,_,_,c6,_⟩:=mq hbp
 simp[cg,c6,zm]
 have hs1:SlM w1 v n.v:=hs.fr f1 fun _ _ _ h=>h
 refine atq (p:=fun m=>decide (m.id=n.id)) hs1 hl (fun m w2 f2 K hK=>?_) (fun w' i hi hpi hz f=>h w' i hi (by simpa using hpi) (fun j hj hji=>by simpa using hz j hj hji) (f1.trans f)) fun w' hn f=>?_
 ·refine (Eq.mpr (M.ea.rcall [] [.pointer (some ⟨g,0,none⟩)] [nf m] w2 K) ?_:lh P (.func (.func F.dw) #[] #[.pointer (some ⟨g,0,none⟩)]) [nf m] w2 K)
  refine M.ea.calls (nf m) (.pointer (some ⟨g,0,none⟩)) ?_
  unfold M.ea nf
  have hb2:(w2.alloc (.cells #[.int .u64 m.id,.int .u64 m.inc,.int .i64 m.st] T.i)).heap[w2.heap.size]? =some (.cells #[.int .u64 m.id,.int .u64 m.inc,.int .i64 m.st] T.i (0,0)):=by rw[ja,if_pos rfl]
  have f3:Fz w2 (w2.alloc (.cells #[.int .u64 m.id,.int .u64 m.inc,.int .i64 m.st] T.i)):=(Fr.refl _ w2).alloc _
  simp
  generalize w2.heap.size=g2 at *
  generalize w2.alloc (.cells #[.int .u64 m.id,.int .u64 m.inc,.int .i64 m.st] T.i)=w3 at *
  have d0:iq w3 g2 0=some (.int .u64 m.id):=by rw[iw hb2];rfl
  have cg3:iq w3 g 0=some (.pointer (some ⟨p,0,none⟩)):=by rw[iw ((f2.trans f3).heap hb1 fun h=>h)];rfl
  obtain⟨c0,_⟩:=mq ((f2.trans f3).heap hbp fun h=>h)
  simp[d0,cg3,c0]
  exact hK _ (f3.dr 1)
 ·exfalso
  refine ho (ayq fun m hm=>?_)
  simpa using hn m hm
theorem bmf{l:List Mem}{g:Mem->Mem}{k:Int}{i:Nat}(hn:(l.map Mem.id).Nodup)(hi:i < l.length)(hk:l[i].id=k)(hg: ∀m,m.id≠k->g m=m):l.map g=l.set i (g l[i]):=by
 apply List.ext_getElem?
 intro j
 rw[List.getElem?_map,List.getElem?_set]
 by_cases hj:i=j
 ·subst hj
  rw[if_pos rfl,if_pos hi,List.getElem?_eq_getElem hi];rfl
 ·rw[if_neg hj]
  cases hx:l[j]? with
  | none=>rfl
  | some m=>
   show some (g m)=some m
   rw[hg m fun hm=>?_]
   obtain⟨hj',rfl⟩:=List.getElem?_eq_some_iff.1 hx
   have:(l.map Mem.id)[i]? =(l.map Mem.id)[j]? :=by simp[List.getElem?_eq_getElem hi,List.getElem?_eq_getElem hj',hk,hm]
   exact hj ((List.getElem?_inj (by simpa using hi) hn).1 this)
theorem bml(S:St w0 w R){ou inc ng jx now:Int}(h1:0<=ou)(h2:0<=inc)(h3:0<=ng)(h4:0<=jx){K:KV}
  (hb:(ou=0\/inc=0\/ng=0\/jx=0\/1099511627776 < ng\/1099511627776 < jx)->∀w',Fz w w'->K (.tuple #[.pointer none,.int .i64 1]) w')
  (hg:0 < ou->0 < inc->1<=ng/\ng<=1099511627776->1<=jx/\jx<=1099511627776->∀w' p,St w0 w' (ki p (Nd.new ou inc ng jx now) :: R)->K (.tuple #[zi p,.int .i64 0]) w'):
  ik P F.gu [.int .u64 ou,.int .u64 inc,.int .u64 ng,.int .u64 jx,.int .u64 now] w K:=by
 rw[M.ff.fcall]
 apply M.ff.calls
 unfold M.ff
 rw[ir,brd]
 generalize hmn:min (min (min ou inc) ng) jx=mn
 by_cases hz:mn=0
 ·simp[hz]
  exact hb (by omega) w (Fr.refl _ _)
 ·simp[hz,qo]
  generalize hmx:max ng jx=mx'
  by_cases hm:1099511627776 < mx'
  ·simp[hm]
   exact hb (by omega) _ (Fr.refl _ _)
  ·simp[hm]
   unfold M.ff.j0
   simp
   have S1:St w0 (w.alloc (.cells #[.int .u64 ou,.int .u64 inc,.int .i64 0] T.i)) (pm (.slice (some ⟨w.heap.size,0,none⟩) 1 1) [⟨ou,inc,0⟩] :: R):=S.add (a:=pm (.slice (some ⟨w.heap.size,0,none⟩) 1 1) [⟨ou,inc,0⟩]) ((Fr.refl _ w).alloc _) (B:=fun x=>x=w.heap.size) ⟨⟨rfl,.inr ⟨w.heap.size,1,_,rfl,Nat.zero_le _,by rw[ja,if_pos rfl],by simp,by decide,rfl,rfl⟩⟩,fun x hx=>by simpa [Value.ownBlock] using hx.symm⟩ fun x hx=>by subst hx;rw[jg];omega
   have z1:(w.alloc (.cells #[.int .u64 ou,.int .u64 inc,.int .i64 0] T.i)).heap.size=w.heap.size+1:=jg _ _
   generalize hv:Value.slice (some ⟨w.heap.size,0,none⟩) 1 1=vv at *
   generalize w.alloc (.cells #[.int .u64 ou,.int .u64 inc,.int .i64 0] T.i)=w1 at *
   rw[zu]
   have hm2:=yi w1 .u64
   have S2:=S1.add (a:=jm w1.heap.size .u64 []) (w':=w1.alloc (.map #[] 0)) ((Fr.refl _ w1).alloc _) (B:=fun x=>x=w1.heap.size) ⟨⟨hm2,by simp[jp]⟩,rfl⟩ fun x hx=>by subst hx;rw[jg];omega
   generalize hr:w1.heap.size=r at *
   generalize w1.alloc (.map #[] 0)=w2 at *
   subst hv
   simp
   have S3:St w0 (w2.alloc (.cells (qz (Nd.new ou inc ng jx now) (.slice (some ⟨w.heap.size,0,none⟩) 1 1) r) T.q)) (jd w2.heap.size (qz (Nd.new ou inc ng jx now) (.slice (some ⟨w.heap.size,0,none⟩) 1 1) r) T.q :: jm r .u64 [] :: pm (.slice (some ⟨w.heap.size,0,none⟩) 1 1) [⟨ou,inc,0⟩] :: R):=S2.add ((Fr.refl _ w2).alloc _) (B:=fun x=>x=w2.heap.size) ⟨by rw[ja,if_pos rfl],rfl⟩ fun x hx=>by subst hx;rw[jg];omega
   have S4:=S3.tail (.swap _ _ _)
   exact hg (by omega) (by omega) (by omega) (by omega) _ _ (alv (n:=Nd.new ou inc ng jx now) (fun k v h=>by simp[Nd.new,kh] at h) S4)
abbrev rdM(v:Value)(l:List Mem):Asn:=rdA 3 xf v l
theorem ald(S:St w0 w (ki p n :: R))(hn:qk n){K:KV}(h: ∀w' v',St w0 w' (rdM v' n.v :: ki p n :: R)->K v' w'):ik P F.bw [zi p] w K:=by
 obtain⟨r,v,hh,S1⟩:=bih S
 rw[M.ef.fcall]
 apply M.ef.calls
 unfold M.ef zi
 have hfew:=hn.zl.few
 obtain⟨c0,_,_,_,_,_,c6,_⟩:=mq S1.blk
 simp[c6]
 have hs:SlM w v n.v:=S1.swap.row pd
 refine acr hs (by omega) fun w1 v1 s1 g1 f1=>?_
 obtain⟨m,hm⟩:=Option.ne_none_iff_exists'.1 hn.own
 obtain⟨b,hb1,hb2⟩:=s1.lt (aqc hm)
 have S2:=S1.add (a:=rdM v1 n.v) f1 (B:=fun y=>v1.ownBlock=some y) ⟨s1,fun y hy=>hy⟩ fun y hy=>⟨g1 y hy,by rw[hb1] at hy;cases hy;exact hb2⟩
 exact h w1 v1 (alv (R:=rdM v1 n.v :: R) hh (S2.perm (List.perm_middle (l₁:=[jd p (qz n v r) T.q,pm v n.v,jm r .u64 n.h])).symm)).swap
end
abbrev tm(v:Value)(l:List Int):Asn:=qa T.a 1 Suint64.qe v l
section
variable {w0 w : World} {R : List Asn}
theorem agp(S:St w0 w R):St w0 w (tm (.slice none 0 0) [] :: R):=S.add (a:=tm (.slice none 0 0) []) (Fr.refl _ w) (B:=fun _=>False) ⟨Ow.none,fun b hb=>by simp[Value.ownBlock] at hb⟩ fun b hb=>hb.elim
theorem aeg{v v2:Value}{l l2:List Int}(S:St w0 w (tm v l :: R))(hs:Sl w 1 Suint64.qe v2 l2)(hl:l.length+l2.length<=1000000000){cs:List Bool}{ty:TypeId}{K:KV}(h: ∀w' v',St w0 w' (tm v' (l ++ l2) :: R)->K v' w'):
  biT P .append #[T.g,T.g] ty cs [v,v2] w K:=by
 obtain⟨B,⟨h1,h2⟩,hB,cl⟩:=S.open
 refine yo et.g (fun _=>rfl) (fun x u hu=>by simp[Suint64.qe] at hu;subst hu;rfl) h1 hs hl (by decide) (Nat.zero_le _) cs fun v' w' o f g=>?_
 refine h w' v' (cl w' [tm v' (l ++ l2)] (f.mono fun x _ hx=>h2 x hx) (Rs.one (B:=fun x=>v'.ownBlock=some x) ⟨o,fun b hb=>hb⟩ fun x hx=>?_))
 rcases g with g| ⟨y,g1,g2⟩
 ·exact .inl (h2 x (by rw[<-g];exact hx))
 ·rw[hx] at g1;cases g1
  exact .inr ⟨g2,(o.lt hx).2⟩
end
section
variable {w0 w : World} {R : List Asn} {p r : Nat} {v : Value} {n : Nd}
theorem bkw{m:Mem}(hb:w.heap[p]? =some (.cells (qz n v r) T.q (0,0)))(hm:lj w r .u64 n.h)(hh:adj n.h)(hw:1<=n.jx/\n.jx<=1099511627776){K:KV}(h: ∀w',Fz w w'->K (.int .i64 (ahd n.now n.jx n.h m)) w'):ik P F.ej [zi p,nf m] w K:=by
 rw[M.ae.fcall]
 apply M.ae.calls
 unfold M.ae nf zi
 have hb2:(w.alloc (.cells #[.int .u64 m.id,.int .u64 m.inc,.int .i64 m.st] T.i)).heap[w.heap.size]? =some (.cells #[.int .u64 m.id,.int .u64 m.inc,.int .i64 m.st] T.i (0,0)):=by rw[ja,if_pos rfl]
 have f1:Fz w (w.alloc (.cells #[.int .u64 m.id,.int .u64 m.inc,.int .i64 m.st] T.i)):=(Fr.refl _ w).alloc _
 have hm1:lj (w.alloc (.cells #[.int .u64 m.id,.int .u64 m.inc,.int .i64 m.st] T.i)) r .u64 n.h:=hm.of_heap (f1.jl r hm.lt fun h=>h)
 simp
 generalize w.heap.size=g at *
 generalize w.alloc (.cells #[.int .u64 m.id,.int .u64 m.inc,.int .i64 m.st] T.i)=w1 at *
 obtain⟨_,_,c2,c3,_,_,_,c7,_⟩:=mq (f1.heap hb fun h=>h)
 have d0:iq w1 g 0=some (.int .u64 m.id):=by rw[iw hb2];rfl
 have d2:iq w1 g 2=some (.int .i64 m.st):=by rw[iw hb2];rfl
 have hmd:lj (Eng.dr w1 1) r .u64 n.h:=hm1.of_heap rfl
 simp[c3,c7,d0]
 rw[tp mt.ax hmd,aiw hh]
 have hwm:IntKind.u64.wrap (2 * n.jx)=2 * n.jx:=by rw[mu (by omega) (by omega)]
 have fin:=h (Eng.dr w1 1) (f1.dr 1)
 unfold ahd at fin
 generalize hat n.h m.id=t at *
 by_cases s0:m.st=0
 ·by_cases k1:n.jx<=IntKind.u64.wrap (n.now - t)
  ·simp[s0,k1] at fin
   simp[d2,s0,M.ae.j3,c2,k1,gv]
   exact fin
  ·simp[s0,k1] at fin
   simp[d2,s0,M.ae.j3,c2,k1,gv]
   exact fin
 ·by_cases s1:m.st=1
  ·by_cases k1:IntKind.u64.wrap (n.now - t) < 2 * n.jx
   ·simp[s1,k1] at fin
    simp[d2,s1,M.ae.j5,M.ae.j2,c2,hwm,k1,gv]
    exact fin
   ·simp[s1,k1] at fin
    simp[d2,s1,M.ae.j5,M.ae.j2,c2,hwm,k1,gv]
    exact fin
  ·simp[s0,s1] at fin
   by_cases s2:m.st=2
   ·simp[s2] at fin
    simp[d2,s2,M.ae.j5,gv]
    exact fin
   ·simp[d2,s0,s1,s2,M.ae.j5,gv]
    exact fin
theorem asi(a b:Int):max a b=pc a b:=by unfold pc;split <;>omega
theorem bfv(a b:Int):min a b=abr a b:=by unfold abr;split <;>omega
def HrI(w0:World)(p r:Nat)(n:Nd)(v:Value)(V:List Mem)(frm:Int)(R:List Asn):KL:=fun x w1=> ∃(u0 u1:Value)(i:Nat),x=[u0,u1,.int .i64 (i:Nat)]/\i<=V.length/\St w0 w1 (jd p (qz n v r) T.q :: pm v V :: jm r .u64 (us n.id frm n.now n.h (V.take i)) :: R)
theorem ayf{id frm now:Int}{h:MP}{l:List Mem}{i:Nat}(hi:i < l.length):us id frm now h (l.take (i+1))=wy id frm now (us id frm now h (l.take i)) l[i]:=by
 unfold us
 rw[List.take_succ_eq_append_getElem hi,List.foldl_append];rfl
theorem brv{V:List Mem}{frm:Int}{H:MP}(S:St w0 w (jd p (qz n v r) T.q :: pm v V :: jm r .u64 H :: R)){i:Nat}(hi:i < V.length)(hV:V.length<=1000){u0 u1:Value}{K3:KL}{K:KV}
  (h: ∀w' y0 y1,St w0 w' (jd p (qz n v r) T.q :: pm v V :: jm r .u64 (wy n.id frm n.now H V[i]) :: R)->K3 [y0,y1,.int .i64 ((i+1:Nat):Int)] w'):M.ai.j4 v [u0,u1,.int .i64 (i:Nat)] (zi p) (.int .u64 frm) K3 w K:=by
 unfold M.ai.j4 zi
 have q2:gv [u0,u1,.int .i64 (i:Nat)] 2= .int .i64 (i:Nat):=rfl
 have hwi:IntKind.i64.wrap ((i:Int)+1)=((i+1:Nat):Int):=by rw[jc];rfl
 obtain⟨b,o,cap,hv,hb,_,hc⟩:=(S.swap.row pd:SlM w v V).at hi
 have hld: ∀K,ldN P 3 b (o+i * 3) w K=K (nf V[i]) w:=fun K=>ldM hc K
 generalize V[i]=m at *
 have hv2:=hv
 simp only[ir,q2,mm,hwi]
 rw[hv]
 simp[hi,hld]
 rw[show nf m= .agg #[.int .u64 m.id,.int .u64 m.inc,.int .i64 m.st] from rfl]
 simp
 have hba:(w.alloc (.cells #[.int .u64 0,.int .u64 0,.int .i64 0] T.i)).heap[w.heap.size]? =some (.cells #[.int .u64 0,.int .u64 0,.int .i64 0] T.i (0,0)):=by rw[ja,if_pos rfl]
 refine bdw (w0:=w) m hba rfl (Nat.le_refl _) ((Fr.refl _ w).alloc _) fun w2 f2 b2=>?_
 have S2:=S.ju f2
 generalize w.heap.size=g at *
 obtain⟨c0,_,_,c3,_,_,_,c7,_⟩:=mq S2.blk
 have d0:iq w2 g 0=some (.int .u64 m.id):=by rw[iw b2];rfl
 simp[c0,c3,c7,d0]
 have S3:=S2.ju ((Fr.refl _ w2).dr 1)
 have hm3:=(wg S3.amq).1
 rw[akp mt.ax hm3]
 have S5: ∀k,St w0 (Eng.dr w2 k) (jd p (qz n v r) T.q :: pm v V :: jm r .u64 H :: R):=fun k=>S2.ju ((Fr.refl _ w2).dr k)
 have put: ∀k,(m.id≠n.id/\(kh H m.id=none\/m.id=frm))->∀y0 y1,muT P T.ax (.map (some r)) (.int .u64 m.id) (.int .u64 n.now) (Eng.dr w2 k) fun _ w=>K3 [y0,y1,.int .i64 ((i+1:Nat):Int)] w:=fun k hc y0 y1=>by
  refine aey mt.ax (wg (S5 k).amq).1 m.id _ _ fun ob hob=>?_
  have S6:=(ana (S5 k).amq hob).dn2
  refine h _ y0 y1 ?_
  unfold wy
  rw[if_pos hc]
  exact S6
 have stay: ∀k,¬(m.id≠n.id/\(kh H m.id=none\/m.id=frm))->∀y0 y1,K3 [y0,y1,.int .i64 ((i+1:Nat):Int)] (Eng.dr w2 k):=fun k hc y0 y1=>by
  refine h _ y0 y1 ?_
  unfold wy
  rw[if_neg hc]
  exact S5 k
 by_cases e1:m.id=n.id
 ·have hst:=stay 2 fun h=>h.1 e1
  simp[d0,c0,e1] at hst⊢
  exact hst _ _
 ·cases hg:kh H m.id with
  | none=>
   have hp:=put 3 ⟨e1,.inl hg⟩
   simp[d0,c0,c3,c7,e1] at hp⊢
   exact hp _ _
  | some z=>
   by_cases e2:m.id=frm
   ·have hp:=put 3 ⟨e1,.inr e2⟩
    have e3: ¬frm=n.id:=fun h=>e1 (e2.trans h)
    simp[d0,c0,c3,c7,e1,e2,e3] at hp⊢
    exact hp _ _
   ·have hst:=stay 2 fun h=>h.2.elim (fun h=>by rw[hg] at h;cases h) fun h=>e2 h
    simp[d0,c0,e1,e2] at hst⊢
    exact hst _ _
theorem baf{L:List Mem}(S:St w0 w (pm v L :: R)): ∃a cap,v= .slice a L.length cap:=by
 obtain⟨a,cap,hv,_⟩:=(S.row pd:SlM w v L)
 exact⟨a,cap,hv⟩
theorem bls{l:List Mem}{lv:Value}{frm now:Int}(S:St w0 w (ki p n :: R))(hn:qk n)(hr:0<=now/\now < 18446744073709551616)(hi:aht l)(hl: ∀w' L,St w0 w' (L ++ R)->SlM w' lv l)(hlen:l.length<=400){K:KV}
  (h: ∀w',St w0 w' (ki p (n.ahf frm l now).1 :: R)->K (.int .i64 (n.ahf frm l now).2) w'):ik P F.eh [zi p,.int .u64 frm,lv,.int .u64 now] w K:=by
 have hok:=awh (frm:=frm) hn hi hr
 obtain⟨r,v,hh,S1⟩:=bih S
 rw[M.ai.fcall]
 apply M.ai.calls
 unfold M.ai
 have hfew:=hn.zl.few
 simp only[zi]
 simp
 unfold M.ai.j0
 obtain⟨_,_,_,c3,_,_,_,_,c8⟩:=mq S1.blk
 simp[c3,c8,qo,asi]
 have S2:=amr (i:=3) (u:= .int .u64 (pc n.now now)) S1 (cs':=qz {n with now:=pc n.now now} v r) rfl
 generalize w.setCell ⟨p,3,none⟩ (.int .u64 (pc n.now now))=w1 at *
 obtain⟨_,_,_,_,_,_,c6,_,_⟩:=mq S2.blk
 simp[c6]
 refine bfz (l1:=n.v) (l2:=l) S2 (fun w' L S=>bln S (by simp)) (fun w' L S=>hl w' (L ++ [_,_,_]) (by simpa using S)) (by omega) (by omega) fun w2 v2 S3=>?_
 simp only[aba,abc]
 unfold Nd.ahf at h hok
 by_cases hk:(mo n.v l).2=0
 ·rw[if_neg (by simpa using hk)] at h hok
  obtain⟨r1,r2⟩:=aib hk
  obtain⟨_,p1,p2⟩:=ain r1 r2 hk
  have hg:=(vt _).1 p1
  obtain⟨o,ho⟩:=Option.ne_none_iff_exists'.1 hn.own
  obtain⟨m,hm⟩:=awf o (kc l n.id)
  have hf:kc (mo n.v l).1 n.id=some m:=by rw[p2,ho,hm]
  rw[auu hf] at h hok
  rw[hk]
  generalize (mo n.v l).1=V at *
  have hV:=hg.few
  simp
  unfold M.ai.j1
  obtain⟨a2,cap2,hv2⟩:=baf S3
  have S4:=S3.swap
  obtain⟨_,_,_,_,_,_,d6,_,d8⟩:=mq S4.blk
  have S5:=amr (i:=6) (u:=v2) S4 (cs':=qz {n with now:=pc n.now now} v2 r) rfl
  have S6:St w0 (w2.setCell ⟨p,6,none⟩ v2) (jd p (qz {n with now:=pc n.now now} v2 r) T.q :: pm v2 V :: jm r .u64 n.h :: R):=(S5.up2.drop.up2).dn2
  subst hv2
  simp[d6,d8]
  generalize w2.setCell ⟨p,6,none⟩ (.slice a2 V.length cap2)=w3 at *
  generalize hvv:Value.slice a2 V.length cap2=vv at *
  have hlenV: ∀w' K',biT P .len #[T.k] T.d [false] [vv] w' K'=K' (.int .i64 V.length) w':=fun w' K'=>by rw[<-hvv];simp
  refine⟨HrI w0 p r {n with now:=pc n.now now} vv V frm R,fun x _=>V.length - ms x 2,⟨_,_,0,rfl,Nat.zero_le _,S6⟩,?_⟩
  rintro x w4 ⟨u0,u1,i,rfl,hil,S7⟩
  have q2:gv [u0,u1,.int .i64 (i:Nat)] 2= .int .i64 (i:Nat):=rfl
  simp only[q2,ir]
  by_cases hi':i < V.length
  ·have hi'':(i:Int) < V.length:=by omega
   simp[hi'']
   refine brv S7 hi' (by omega) fun w' y0 y1 S8=>?_
   refine⟨⟨_,_,i+1,rfl,by omega,?_⟩,by simp[ms,gv];omega⟩
   rw[ayf hi']
   exact S8
  ·have hi'': ¬(i:Int) < V.length:=by omega
   simp[hi'']
   rw[List.take_of_length_le (by omega)] at S7
   unfold M.ai.j2
   have hh':adj (us n.id frm (pc n.now now) n.h V):=bhf V hh
   have S7d:=S7.ju ((Fr.refl _ w4).dr 1)
   obtain⟨_,_,_,_,_,_,e6,_,_⟩:=mq S7.blk
   simp[e6]
   refine bnz (n:={n with now:=pc n.now now,v:=V,h:=us n.id frm (pc n.now now) n.h V}) S7d.blk (S7d.swap.row pd) (by show V.length<=_;omega) (by show kc V n.id≠none;rw[hf];simp) fun w5 j hj hid hz f5=>?_
   have S8:=S7d.ju f5
   obtain⟨_,_,_,_,_,g5,g6,_,_⟩:=mq S8.blk
   have hj':j < V.length:=hj
   have hmj:V[j]=m:=by
    have:=bin (l:=V) (k:=n.id) hj' hid hz
    rw[hf] at this;exact (Option.some.inj this).symm
   obtain⟨b,o,cap,hv,hb,_,hc⟩:=(S8.swap.row pd:SlM w5 vv V).at hj'
   have k1:=hc 1 _ rfl
   have k2:=hc 2 _ rfl
   rw[hmj] at k1 k2
   have hmod:nf m= .agg #[.int .u64 m.id,.int .u64 m.inc,.int .i64 m.st]:=rfl
   simp[g6]
   rw[hv]
   rw[hv] at g6
   have fin0: ∀(hc: ¬(m.st≠0/\n.left=false/\m.inc < 18446744073709551615)),K (.int .i64 0) w5:=fun hc=>by
    rw[if_neg hc] at h
    exact h w5 (alv (v:=vv) (r:=r) hh' S8)
   by_cases z0:m.st=0
   ·simp[hj',k2,z0]
    exact fin0 fun h=>h.1 z0
   ·cases hL:n.left with
    | true=>
     rw[hL] at g5
     simp[hj',k2,z0,g5]
     exact fin0 fun h=>by rw[hL] at h;cases h.2.1
    | false=>
     rw[hL] at g5
     by_cases z1:m.inc < 18446744073709551615
     ·have hcnd:m.st≠0/\n.left=false/\m.inc < 18446744073709551615:=⟨z0,hL,z1⟩
      rw[if_pos hcnd] at h hok
      have hmap:=bmf (g:=xi n.id) hg.nd hj' hid fun x hx=>by unfold xi;rw[if_neg hx]
      have hbm:xi n.id V[j]=⟨V[j].id,V[j].inc+1,0⟩:=by unfold xi;rw[if_pos hid]
      have hwr:IntKind.u64.wrap (m.inc+1)=m.inc+1:=by
       have hpos:=hok.inc (xi n.id m) (List.mem_map_of_mem (aqc hf))
       unfold xi at hpos
       rw[if_pos (ahq hf)] at hpos
       exact mu hpos.1 (by omega)
      obtain⟨bb,cp,hv',t1,t2,t3,S9⟩:=S8.swap.ajr pd hj' ⟨V[j].id,V[j].inc+1,V[j].st⟩ (f:=1) (u:= .int .u64 (V[j].inc+1)) (by omega) rfl
      obtain⟨bb2,cp2,hv'',t4,t5,t6,S10⟩:=S9.ajr pd (by rw[List.length_set];exact hj') (xi n.id V[j]) (f:=2) (u:= .int .i64 0) (by omega) (by rw[List.getElem_set_self,hbm];rfl)
      rw[hv] at hv' hv''
      rw[List.length_set] at hv''
      cases hv'
      cases hv''
      rw[hmj] at S9 S10 t4 t5
      simp only[Nat.zero_add] at k1 k2
      simp[hj',k2,z0,g5,k1,z1,hwr,t1,t2,t4,t5]
      have hms:V.map (xi n.id)=V.set j (xi n.id m):=by rw[hmap,hmj]
      rw[List.set_set,<-hms] at S10
      exact h _ (alv (v:=vv) (r:=r) hh' S10.swap)
     ·simp[hj',k2,z0,g5,k1,z1]
      exact fin0 fun h=>z1 h.2.2
 ·rw[if_pos hk] at h
  simp[hk]
  exact h w2 (alv (v:=v) (r:=r) hh S3.drop)
def pg(n:Nd)(i:Nat)(V:List Mem):List Mem:=(V.take i).map (tx n.id n.now n.jx n.h) ++ V.drop i
theorem acm(n:Nd)(i:Nat)(V:List Mem):(pg n i V).length=V.length:=by
 unfold pg;simp;omega
theorem ami(n:Nd){i:Nat}{V:List Mem}(hi:i < V.length)(h:i < (pg n i V).length):(pg n i V)[i]=V[i]:=by
 have:(pg n i V)[i]? =some V[i]:=by
  unfold pg
  rw[List.getElem?_append_right (by simp;omega)]
  simp
  rw[show i - min i V.length=0 by omega]
  simp[List.getElem?_eq_getElem hi]
 rw[List.getElem?_eq_getElem h] at this
 exact Option.some.inj this
theorem aqi(n:Nd){i:Nat}{V:List Mem}(hi:i < V.length):(pg n i V).set i (tx n.id n.now n.jx n.h V[i])=pg n (i+1) V:=by
 unfold pg
 have hl:((V.take i).map (tx n.id n.now n.jx n.h)).length=i:=by simp;omega
 rw[List.set_append_right _ _ (by omega),List.take_succ_eq_append_getElem hi,List.map_append,hl,Nat.sub_self]
 rw[List.drop_eq_getElem_cons hi,List.set_cons_zero,List.append_assoc];rfl
theorem ayi(n:Nd){i:Nat}{V:List Mem}(hi:i < V.length)(h:tx n.id n.now n.jx n.h V[i]=V[i]):pg n (i+1) V=pg n i V:=by
 rw[<-aqi n hi,h]
 have hl:i < (pg n i V).length:=by rw[acm];exact hi
 conv=>lhs;rw[<-ami n hi hl]
 exact List.set_getElem_self hl
theorem bce(id:Int)(l:List Mem)(m:Mem):aan id (l ++ [m])=aan id l ++ if m.id≠id/\m.st≠2 then [m.id] else []:=by
 unfold aan
 rw[List.filter_append,List.map_append]
 congr 1
 by_cases h1:m.id=id <;>by_cases h2:m.st=2 <;>simp[h1,h2]
theorem azo(id:Int)(l:List Mem)(m:Mem):pq id (l ++ [m])=pq id l ++ if m.id≠id/\m.st=2 then [m.id] else []:=by
 unfold pq
 rw[List.filter_append,List.map_append]
 congr 1
 by_cases h1:m.id=id <;>by_cases h2:m.st=2 <;>simp[h1,h2]
theorem auh(id:Int)(l:List Mem):(aan id l).length<=l.length/\(pq id l).length<=l.length:=by
 unfold aan pq
 rw[List.length_map,List.length_map]
 exact⟨List.length_filter_le ..,List.length_filter_le ..⟩
def wo(n:Nd)(i:Nat)(V:List Mem):List Mem:=(V.take i).map (tx n.id n.now n.jx n.h)
def TkI(w0:World)(p r:Nat)(n:Nd)(v:Value)(V:List Mem)(R:List Asn):KL:=fun x w1=> ∃(u0 u1 g o:Value)(i:Nat),x=[u0,u1,g,o,.int .i64 (i:Nat)]/\i<=V.length/\
 St w0 w1 (jd p (qz n v r) T.q :: pm v (pg n i V) :: jm r .u64 n.h :: tm g (pq n.id (wo n i V)) :: tm o (aan n.id (wo n i V)) :: R)
theorem azk(n:Nd){i:Nat}{V:List Mem}(hi:i < V.length):wo n (i+1) V=wo n i V ++ [tx n.id n.now n.jx n.h V[i]]:=by
 unfold wo
 rw[List.take_succ_eq_append_getElem hi,List.map_append];rfl
theorem bdp(n:Nd)(i:Nat)(V:List Mem):(wo n i V).length<=V.length:=by unfold wo;simp;omega
theorem brs{V:List Mem}{g o:Value}{i:Nat}(hh:adj n.h)(hw:1<=n.jx/\n.jx<=1099511627776)(S:St w0 w (jd p (qz n v r) T.q :: pm v (pg n i V) :: jm r .u64 n.h :: tm g (pq n.id (wo n i V)) :: tm o (aan n.id (wo n i V)) :: R))(hi:i < V.length)(hV:V.length<=1000){u0 u1:Value}{K3:KL}{K:KV}
  (h: ∀w' y0 y1 g' o',St w0 w' (jd p (qz n v r) T.q :: pm v (pg n (i+1) V) :: jm r .u64 n.h :: tm g' (pq n.id (wo n (i+1) V)) :: tm o' (aan n.id (wo n (i+1) V)) :: R)->K3 [y0,y1,g',o',.int .i64 ((i+1:Nat):Int)] w'):
  M.x.j4 v [u0,u1,g,o,.int .i64 (i:Nat)] (zi p) K3 w K:=by
 unfold M.x.j4 zi
 have q4:gv [u0,u1,g,o,.int .i64 (i:Nat)] 4= .int .i64 (i:Nat):=rfl
 have q3:gv [u0,u1,g,o,.int .i64 (i:Nat)] 3=o:=rfl
 have q2:gv [u0,u1,g,o,.int .i64 (i:Nat)] 2=g:=rfl
 have hwi:IntKind.i64.wrap ((i:Int)+1)=((i+1:Nat):Int):=by rw[jc];rfl
 have hil:i < (pg n i V).length:=by rw[acm];exact hi
 have hlen:=acm n i V
 obtain⟨b,o',cap,hv,hb,_,hc⟩:=(S.swap.row pd:SlM w v (pg n i V)).at hil
 rw[ami n hi hil] at hc
 have hld: ∀K,ldN P 3 b (o'+i * 3) w K=K (nf V[i]) w:=fun K=>ldM hc K
 have hT:=azk n hi
 have hS:=aqi n hi
 have hSm:=ayi n hi
 have hoL:=auh n.id (wo n i V)
 have hTl:=bdp n i V
 have hat:=ami n hi hil
 rw[hT,azo,bce] at h
 generalize V[i]=m at *
 simp only[ir,q2,q3,q4,mm,hwi]
 have hv2:=hv
 rw[hv]
 rw[hlen]
 simp[hi,hld]
 rw[show nf m= .agg #[.int .u64 m.id,.int .u64 m.inc,.int .i64 m.st] from rfl]
 simp
 have hba:(w.alloc (.cells #[.int .u64 0,.int .u64 0,.int .i64 0] T.i)).heap[w.heap.size]? =some (.cells #[.int .u64 0,.int .u64 0,.int .i64 0] T.i (0,0)):=by rw[ja,if_pos rfl]
 refine bdw (w0:=w) m hba rfl (Nat.le_refl _) ((Fr.refl _ w).alloc _) fun w2 f2 b2=>?_
 have S2:=S.ju f2
 generalize w.heap.size=q at *
 obtain⟨c0,_,_,_,_,_,c6,_,_⟩:=mq S2.blk
 have d0:iq w2 q 0=some (.int .u64 m.id):=by rw[iw b2];rfl
 by_cases e1:m.id=n.id
 ·simp[c0,d0,e1]
  have hag:tx n.id n.now n.jx n.h m=m:=by unfold tx;rw[if_pos e1]
  rw[hag,if_neg (fun h=>h.1 e1),if_neg (fun h=>h.1 e1),List.append_nil,List.append_nil,hSm hag] at h
  exact h _ _ _ _ _ (S2.ju ((Fr.refl _ w2).dr 1))
 ·simp[c0,d0,e1]
  unfold M.x.j6
  have hbm:nf m= .agg (xf m).toArray:=rfl
  have hldq: ∀{w'},Fz w2 w'->∀K,ldN P 3 q 0 w' K=K (nf m) w':=fun f K=>bnq (f.heap b2 fun h=>h) K
  have fd:Fz w2 (Eng.dr (Eng.dr w2 1) 1):=((Fr.refl _ w2).dr 1).dr 1
  have S3:=S2.ju fd
  simp[q2,q3,q4,c6]
  rw[hldq fd]
  refine⟨rfl,?_⟩
  refine bkw S3.blk (wg S3.up2).1 hh hw fun w3 f3=>?_
  have S4:=S3.ju f3
  obtain⟨_,_,_,_,_,_,g6,_,_⟩:=mq S4.blk
  have hage:tx n.id n.now n.jx n.h m=⟨m.id,m.inc,ahd n.now n.jx n.h m⟩:=by unfold tx;rw[if_neg e1]
  rw[hage] at h hS
  generalize ahd n.now n.jx n.h m=st at *
  obtain⟨bb,cp,hv',t1,t2,t3,S5⟩:=S4.swap.ajr pd hil ⟨m.id,m.inc,st⟩ (f:=2) (u:= .int .i64 st) (by omega) (by rw[hat];rfl)
  rw[hS] at S5
  have hbq:bb < q:=by
   have hx:=hv2.symm.trans hv'
   injection hx with x1 _ _
   injection x1 with x1
   injection x1 with x1 _
   omega
  rw[hlen] at hv'
  rw[hv'] at g6
  simp[g6]
  rw[hv']
  simp[hi,t1,t2]
  have S6:=S5.swap
  obtain⟨_,_,_,_,_,_,z6,_,_⟩:=mq S6.blk
  rw[hv'] at z6
  have hil2:i < (pg n (i+1) V).length:=by rw[acm];exact hi
  have hz:(pg n (i+1) V)[i]=⟨m.id,m.inc,st⟩:=by
   have:=List.getElem_set_self (l:=pg n i V) (i:=i) (a:=(⟨m.id,m.inc,st⟩:Mem)) (by rw[List.length_set];exact hil)
   have e:(pg n i V).set i ⟨m.id,m.inc,st⟩=pg n (i+1) V:=hS
   have h2:((pg n i V).set i ⟨m.id,m.inc,st⟩)[i]? =some ⟨m.id,m.inc,st⟩:=by
    rw[List.getElem?_set_self hil]
   rw[e,List.getElem?_eq_getElem hil2] at h2
   exact Option.some.inj h2
  obtain⟨b4,o4,cap4,hv4,_,_,hc4⟩:=(S5.row pd:SlM _ v (pg n (i+1) V)).at hil2
  rw[hz] at hc4
  rw[acm] at hv4
  have hx4:=hv'.symm.trans hv4
  cases hx4
  have y2:=hc4 2 _ rfl
  simp only[Nat.zero_add] at y2
  have d0': ∀{w'},Fz w2 w'->iq w' q 0=some (.int .u64 m.id):=fun f=>by rw[iw (f.heap b2 fun h=>h)];rfl
  have dq:iq (w3.setCell ⟨bb,i * 3+2,none⟩ (.int .i64 st)) q 0=some (.int .u64 m.id):=by
   have hne:bb≠q:=by omega
   rw[xv (ke hne),iw ((fd.trans f3).heap b2 fun h=>h)];rfl
  generalize w3.setCell ⟨bb,i * 3+2,none⟩ (.int .i64 st)=w5 at *
  by_cases e2:st=2
  ·subst e2
   rw[if_pos ⟨e1,rfl⟩,if_neg (fun h=>h.2 rfl),List.append_nil] at h
   simp[z6,hi,y2,dq]
   have S7:=S6.up3.ju ((Fr.refl _ _).alloc (.cells #[.int .u64 m.id] T.a))
   refine aeg S7 (Sl.one rfl rfl) (by simp;omega) fun w4 g' S8=>?_
   exact h w4 _ _ g' o S8.dn3
  ·have e3: ¬(m.id≠n.id/\st=2):=fun h=>e2 h.2
   rw[if_neg e3,if_pos ⟨e1,e2⟩,List.append_nil] at h
   simp[z6,hi,y2,e2,dq]
   have S7:=S6.up4.ju ((Fr.refl _ _).alloc (.cells #[.int .u64 m.id] T.a))
   refine aeg S7 (Sl.one rfl rfl) (by simp;omega) fun w4 o'' S8=>?_
   exact h w4 _ _ g o'' S8.dn4
theorem awx{now pick:Int}(S:St w0 w (ki p n :: R))(hn:qk n)(hr:0<=now/\now < 18446744073709551616)(hp:0<=pick){K:KV}
  (h: ∀w' v',St w0 w' (tm v' (n.ro now pick).2 :: ki p (n.ro now pick).1 :: R)->K v' w'):ik P F.eg [zi p,.int .u64 now,.int .u64 pick] w K:=by
 obtain⟨r,v,hh,S1⟩:=bih S
 rw[M.x.fcall]
 apply M.x.calls
 unfold M.x
 have hfew:=hn.zl.few
 have hmr:=agx hn.nw hr
 have hper:=hn.per
 simp only[zi]
 simp
 unfold M.x.j0
 obtain⟨_,_,_,c3,_,_,_,_,c8⟩:=mq S1.blk
 simp[c3,c8,qo,asi]
 have S2:=amr (i:=3) (u:= .int .u64 (pc n.now now)) S1 (cs':=qz {n with now:=pc n.now now} v r) rfl
 generalize w.setCell ⟨p,3,none⟩ (.int .u64 (pc n.now now))=w1 at *
 obtain⟨_,_,_,d3,d4,_,_,_,_⟩:=mq S2.blk
 unfold Nd.ro at h
 by_cases hd:pc n.now now < n.due
 ·rw[if_pos hd] at h
  simp[d3,d4,hd]
  have S3:=S2.ju ((Fr.refl _ w1).dr 1)
  exact h _ _ (agp (alv (n:={n with now:=pc n.now now}) hh S3))
 ·rw[if_neg hd] at h
  simp[d3,d4,hd]
  generalize hto:pc n.now now=t at *
  unfold M.x.j1
  have hw1:IntKind.u64.wrap (18446744073709551615 - t)=18446744073709551615 - t:=mu (by omega) (by omega)
  have hw2:IntKind.u64.wrap (t+abr n.ng (18446744073709551615 - t))=t+abr n.ng (18446744073709551615 - t):=by
   refine mu ?_ ?_ <;>(unfold abr;split <;>omega)
  have S3:=S2.ju ((Fr.refl _ w1).dr 1)
  obtain⟨_,e1,_,e3,_,_,_,_,e8⟩:=mq S3.blk
  simp[d3,mq S2.blk,hw1,amb,bfv,hw2]
  have S4:=S3.ju ((Fr.refl _ (Eng.dr w1 1)).dr 1)
  have S5:=amr (i:=4) (u:= .int .u64 (t+abr n.ng (18446744073709551615 - t))) S4 (cs':=qz {n with now:=t,due:=t+abr n.ng (18446744073709551615 - t)} v r) rfl
  generalize (Eng.dr (Eng.dr w1 1) 1).setCell ⟨p,4,none⟩ (.int .u64 (t+abr n.ng (18446744073709551615 - t)))=w2 at *
  obtain⟨_,_,_,_,_,_,f6,_,_⟩:=mq S5.blk
  simp[f6]
  generalize hn2:({n with now:=t,due:=t+abr n.ng (18446744073709551615 - t)}:Nd)=n2 at *
  have hid:n2.id=n.id:=by rw[<-hn2]
  have hv2:n2.v=n.v:=by rw[<-hn2]
  have hh2:n2.h=n.h:=by rw[<-hn2]
  have ht2:n2.now=t:=by rw[<-hn2]
  have hwt:n2.jx=n.jx:=by rw[<-hn2]
  have hhh:adj n2.h:=by rw[hh2];exact hh
  have hww:1<=n2.jx/\n2.jx<=1099511627776:=by rw[hwt];exact hn.wai
  have hlenV: ∀w' K',biT P .len #[T.k] T.d [false] [v] w' K'=K' (.int .i64 n.v.length) w':=fun w' K'=>(S5.swap.row pd:SlM w2 v n.v).jv (by kernel_rfl) [false]
  rw[hlenV]
  have e0:pg n2 0 n.v=n.v:=by unfold pg;simp
  have S6:St w0 w2 (jd p (qz n2 v r) T.q :: pm v (pg n2 0 n.v) :: jm r .u64 n2.h :: tm (.slice none 0 0) (pq n2.id (wo n2 0 n.v)) :: tm (.slice none 0 0) (aan n2.id (wo n2 0 n.v)) :: R):=by
   rw[e0,hh2]
   exact (agp (agp S5).dn3).dn3
  refine⟨TkI w0 p r n2 v n.v R,fun x _=>n.v.length - ms x 4,⟨_,_,_,_,0,rfl,Nat.zero_le _,S6⟩,?_⟩
  rintro x w3 ⟨u0,u1,g,o,i,rfl,hil,S7⟩
  have q4:gv [u0,u1,g,o,.int .i64 (i:Nat)] 4= .int .i64 (i:Nat):=rfl
  simp only[q4,ir]
  by_cases hi':i < n.v.length
  ·have hi'':(i:Int) < n.v.length:=by omega
   simp[hi'']
   refine brs hhh hww S7 hi' (by omega) fun w' y0 y1 g' o' S8=>?_
   exact⟨⟨_,_,_,_,i+1,rfl,by omega,S8⟩,by simp[ms,gv];omega⟩
  ·have hi'': ¬(i:Int) < n.v.length:=by omega
   simp[hi'']
   unfold M.x.j2
   have eL:pg n2 i n.v=n.v.map (tx n.id t n.jx n.h):=by
    unfold pg
    rw[List.take_of_length_le (by omega),List.drop_of_length_le (by omega),List.append_nil,hid,ht2,hwt,hh2]
   have eT:wo n2 i n.v=n.v.map (tx n.id t n.jx n.h):=by
    unfold wo
    rw[List.take_of_length_le (by omega),hid,ht2,hwt,hh2]
   rw[eL,eT,hid] at S7
   have hll:(n.v.map (tx n.id t n.jx n.h)).length<=16:=by rw[List.length_map];exact hfew
   have hol:=auh n.id (n.v.map (tx n.id t n.jx n.h))
   generalize n.v.map (tx n.id t n.jx n.h)=V at *
   have q5:gv [v,.int .i64 (n.v.length:Nat),.int .i64 (i:Nat),u0,u1,g,o] 5=g:=rfl
   have q6:gv [v,.int .i64 (n.v.length:Nat),.int .i64 (i:Nat),u0,u1,g,o] 6=o:=rfl
   have q2:gv [u0,u1,g,o,.int .i64 (i:Nat)] 2=g:=rfl
   have q3:gv [u0,u1,g,o,.int .i64 (i:Nat)] 3=o:=rfl
   have q0:gv [u0,u1,g,o,.int .i64 (i:Nat)] 0=u0:=rfl
   have q1:gv [u0,u1,g,o,.int .i64 (i:Nat)] 1=u1:=rfl
   simp only[q0,q1,q2,q3,q5,q6,ir]
   have sg:Sl w3 1 Suint64.qe g (pq n.id V):=S7.up3.row fun _=>rfl
   have so:Sl w3 1 Suint64.qe o (aan n.id V):=S7.up4.row fun _=>rfl
   have lg: ∀w' K',biT P .len #[T.g] T.d [false] [g] w' K'=K' (.int .i64 (pq n.id V).length) w':=fun w' K'=>sg.jv (by kernel_rfl) [false]
   rw[lg]
   have fin: ∀w' v',St w0 w' (tm v' (aan n.id V ++ zq (pq n.id V) pick) :: jd p (qz n2 v r) T.q :: pm v V :: jm r .u64 n2.h :: R)->K v' w':=fun w' v' S'=>by
    refine h w' v' ?_
    rw[hh2] at S'
    have:=alv (p:=p) (r:=r) (v:=v) (n:={n2 with v:=V}) (R:=tm v' (aan n.id V ++ zq (pq n.id V) pick) :: R) hhh (by
     show St w0 w' (jd p (qz n2 v r) T.q :: pm v V :: jm r .u64 n2.h :: _)
     rw[hh2];exact S'.dn3)
    rw[<-hn2] at this
    exact this.swap
   by_cases hg0:pq n.id V=[]
   ·have hpk:zq (pq n.id V) pick=[]:=by unfold zq;rw[if_pos hg0]
    rw[hpk,List.append_nil] at fin
    rw[hg0]
    simp
    exact fin w3 o S7.up3.drop.up3
   ·have hlg:0 < (pq n.id V).length:=List.length_pos_iff.2 hg0
    have hpk:zq (pq n.id V) pick=[(pq n.id V).getD (pick % (pq n.id V).length).toNat 0]:=by unfold zq;rw[if_neg hg0]
    have hj0:0<=pick % (pq n.id V).length:=Int.emod_nonneg _ (by omega)
    have hj1:pick % (pq n.id V).length < (pq n.id V).length:=Int.emod_lt_of_pos _ (by omega)
    have hwl:IntKind.u64.wrap ((pq n.id V).length:Int)=(pq n.id V).length:=mu (by omega) (by omega)
    rw[hpk] at fin
    generalize pq n.id V=G at *
    have hj2:(pick % G.length).toNat < G.length:=by omega
    obtain⟨b,oo,cap,hv,_,_,hc⟩:=sg.at hj2
    have c0:=hc 0 _ rfl
    simp only[Nat.mul_one,Nat.add_zero] at c0
    have hgd:G.getD (pick % G.length).toNat 0=G[(pick % G.length).toNat]:=by rw[List.getD_eq_getElem?_getD,List.getElem?_eq_getElem hj2];rfl
    rw[hgd] at fin
    generalize G[(pick % G.length).toNat]=z at *
    have htm:pick.tmod (G.length:Int)=pick % G.length:=Int.tmod_eq_emod_of_nonneg hp
    have hlg':(0:Int) < G.length:=by omega
    simp[hlg']
    rw[lg,pw (ks:= .i64) (kd:= .u64) (by kernel_rfl) (by kernel_rfl),hwl,axp (by omega),htm,hv]
    simp[hj0,hj1,c0,hlg]
    have S8:=S7.up4.ju ((Fr.refl _ w3).alloc (.cells #[.int .u64 z] T.a))
    refine aeg S8 (Sl.one rfl rfl) (by simp;omega) fun w4 o' S9=>?_
    exact fin w4 o' S9.up4.drop
end
end Go.Proofs.YtgepcfcicngceaaGreatDoor
namespace Go.Eng
structure It where
 p:Nat
 k:Int
 a:Int
 deriving DecidableEq
def zx(x y:It):Bool:=decide (x.a < y.a) || (decide (x.a=y.a) && decide (x.k < y.k))
def le(x y:It):Prop:=x.a < y.a\/(x.a=y.a/\x.k<=y.k)
theorem afj(x y:It):zx x y=true↔¬le y x:=by
 simp only[zx,le,Bool.or_eq_true,Bool.and_eq_true,decide_eq_true_eq];omega
theorem afx(x y:It):zx x y=false↔le y x:=by
 rw[<-Bool.not_eq_true,afj];unfold le;omega
theorem le_trans{x y z:It}(h:le x y)(h':le y z):le x z:=by unfold le at *;omega
theorem le_refl(x:It):le x x:=by unfold le;omega
theorem aiz{x y:It}(h: ¬le x y):le y x:=by unfold le at *;omega
def par(c:Nat):Nat:=(c - 1) / 2
theorem sr{c:Nat}(h:0 < c):par c < c:=by unfold par;omega
def sw(A:Nat->It)(i j:Nat):Nat->It:=fun c=>if c=j then A i else if c=i then A j else A c
def xg(A:Nat->It)(n:Nat):Prop:= ∀c,0 < c->c < n->le (A (par c)) (A c)
structure ahr(A:Nat->It)(n j:Nat):Prop where
 ok: ∀c,0 < c->c < n->c≠j->le (A (par c)) (A c)
 up: ∀c,0 < c->c < n->par c=j->0 < j->le (A (par j)) (A c)
structure afo(A:Nat->It)(n i0 k:Nat):Prop where
 ok: ∀c,0 < c->c < n->par c≠k->(c=i0/\k=i0)\/le (A (par c)) (A c)
 up: ∀c,0 < c->c < n->par c=k->0 < k->le (A (par k)) (A c)
theorem bma{A:Nat->It}{n j:Nat}(h:ahr A n j)(hj:0 < j)(hjn:j < n)(hl: ¬le (A (par j)) (A j)):ahr (sw A (par j) j) n (par j):=by
 have hp:=sr hj
 have hle:=aiz hl
 refine⟨fun c h0 hc hne=>?_,fun c h0 hc hpc hi=>?_⟩
 ·have hpc:=sr h0
  by_cases hcj:c=j
  ·subst hcj
   simp only[sw,if_neg (Nat.ne_of_lt hp),if_true]
   exact hle
  ·simp only[sw,if_neg hcj,if_neg hne]
   by_cases h1:par c=j
   ·rw[if_pos h1];exact h.up c h0 hc h1 hj
   ·rw[if_neg h1]
    by_cases h2:par c=par j
    ·rw[if_pos h2]
     have:=h.ok c h0 hc hcj
     rw[h2] at this
     exact le_trans hle this
    ·rw[if_neg h2];exact h.ok c h0 hc hcj
 ·have hpp:=sr hi
  have hok:=h.ok (par j) hi (Nat.lt_trans hp hjn) (Nat.ne_of_lt hp)
  have e1:sw A (par j) j (par (par j))=A (par (par j)):=by simp only[sw];rw[if_neg (by omega),if_neg (by omega)]
  rw[e1]
  by_cases hcj:c=j
  ·subst hcj;simp only[sw,if_true];exact hok
  ·have hlt:=sr h0
   simp only[sw,if_neg hcj]
   rw[if_neg (by omega)]
   have:=h.ok c h0 hc hcj
   rw[hpc] at this
   exact le_trans hok this
theorem awr{A:Nat->It}{n j:Nat}(h:ahr A n j)(hl:j=0\/le (A (par j)) (A j)):xg A n:=by
 intro c h0 hc
 by_cases hcj:c=j
 ·subst hcj;exact hl.resolve_left (by omega)
 ·exact h.ok c h0 hc hcj
theorem bbt{A:Nat->It}{n i0 k j:Nat}(h:afo A n i0 k)(h0j:0 < j)(hjn:j < n)(hp:par j=k)(hi:i0<=k)(hmin: ∀c,0 < c->c < n->par c=k->le (A j) (A c))(hl: ¬le (A k) (A j)):afo (sw A k j) n i0 j:=by
 have hkj:=sr h0j
 rw[hp] at hkj
 have hle:=aiz hl
 refine⟨fun c h0 hc hne=> .inr ?_,fun c h0 hc hpc _=>?_⟩
 ·have hpc:=sr h0
  by_cases hcj:c=j
  ·subst hcj
   simp only[sw,hp,if_neg (Nat.ne_of_lt hkj),if_true]
   exact hle
  ·simp only[sw,if_neg hcj,if_neg hne]
   by_cases h1:par c=k
   ·rw[if_pos h1,if_neg (by omega)];exact hmin c h0 hc h1
   ·rw[if_neg h1]
    by_cases h2:c=k
    ·subst h2;rw[if_pos rfl];exact h.up j h0j hjn hp h0
    ·rw[if_neg h2]
     rcases h.ok c h0 hc h1 with h3|h3
     ·omega
     ·exact h3
 ·have hlt:=sr h0
  have e1:sw A k j (par j)=A j:=by simp[sw,hp,Nat.ne_of_lt hkj]
  have e2:sw A k j c=A c:=by simp only[sw];rw[if_neg (by omega),if_neg (by omega)]
  rw[e1,e2]
  rcases h.ok c h0 hc (by omega) with h3|h3
  ·omega
  ·rw[hpc] at h3;exact h3
theorem bdg{A:Nat->It}{n i0 k:Nat}(h:afo A n i0 k)(hd: ∀c,0 < c->c < n->par c=k->le (A k) (A c))(hk:i0 < k):xg A n:=by
 intro c h0 hc
 by_cases hpc:par c=k
 ·have:=hd c h0 hc hpc;rw[hpc];exact this
 ·rcases h.ok c h0 hc hpc with h3|h3
  ·omega
  ·exact h3
theorem bku{A:Nat->It}{n i0:Nat}(h:afo A n i0 i0)(hd: ∀c,0 < c->c < n->par c=i0->le (A i0) (A c)):ahr A n i0:=by
 refine⟨fun c h0 hc hne=>?_,h.up⟩
 by_cases hpc:par c=i0
 ·have:=hd c h0 hc hpc;rw[hpc];exact this
 ·rcases h.ok c h0 hc hpc with h3|h3
  ·omega
  ·exact h3
theorem axx{A B:Nat->It}{n i:Nat}(h:xg A n)(hin:i < n)(hB: ∀c,c≠i->B c=A c):afo B n i i:=by
 refine⟨fun c h0 hc hpc=>?_,fun c h0 hc hpc hi=>?_⟩
 ·by_cases hci:c=i
  ·exact .inl ⟨hci,rfl⟩
  ·rw[hB c hci,hB _ hpc];exact .inr (h c h0 hc)
 ·have:=sr h0
  have:=sr hi
  rw[hB c (by omega),hB _ (by omega)]
  have h1:=h c h0 hc
  rw[hpc] at h1
  exact le_trans (h i hi hin) h1
theorem avm{A:Nat->It}{n i:Nat}(h:xg A (n+1))(hin:i < n):afo (sw A i n) n i i:=by
 have h':xg A n:=fun c h0 hc=>h c h0 (by omega)
 refine⟨fun c h0 hc hpc=>?_,fun c h0 hc hpc hi=>?_⟩
 ·have:=sr h0
  by_cases hci:c=i
  ·exact .inl ⟨hci,rfl⟩
  ·simp only[sw]
   rw[if_neg (by omega),if_neg hpc,if_neg (by omega),if_neg hci];exact .inr (h' c h0 hc)
 ·have:=sr h0
  have:=sr hi
  simp only[sw]
  rw[if_neg (by omega),if_neg (by omega),if_neg (by omega),if_neg (by omega)]
  have h1:=h' c h0 hc
  rw[hpc] at h1
  exact le_trans (h' i hi hin) h1
theorem bgc{A:Nat->It}{n:Nat}(h:xg A n): ∀c,c < n->le (A 0) (A c):=by
 intro c
 induction c using Nat.strongRecOn with
 | _ c ih=>
  intro hc
  by_cases h0:c=0
  ·subst h0;exact le_refl _
  ·have hp:=sr (c:=c) (by omega)
   exact le_trans (ih (par c) hp (by omega)) (h c (by omega) hc)
def At(its:List It)(i:Nat):It:=its.getD i ⟨0,0,0⟩
def wj(its:List It)(i j:Nat)(x y:It):List It:=(its.set i y).set j x
theorem awk{its:List It}{i:Nat}{x:It}(h:its[i]? =some x):At its i=x:=by simp[At,h]
theorem xx{its:List It}{i:Nat}(h:i < its.length):its[i]? =some (At its i):=by simp[At,h]
theorem aor{its:List It}{i j:Nat}(hi:i < its.length)(hj:j < its.length)(c:Nat):At (wj its i j (At its i) (At its j)) c=sw (At its) i j c:=by
 simp only[At,wj,sw,List.getD_eq_getElem?_getD,List.getElem?_set,List.length_set]
 by_cases h1:c=j
 ·subst h1;simp[hj]
 ·rw[if_neg (Ne.symm h1),if_neg h1]
  by_cases h2:c=i
  ·subst h2;simp[hi]
  ·rw[if_neg (Ne.symm h2),if_neg h2]
theorem afu{its:List It}{i j:Nat}(hi:i < its.length)(hj:j < its.length):At (wj its i j (At its i) (At its j))=sw (At its) i j:=funext (aor hi hj)
theorem ajy(its:List It)(i j:Nat)(x y:It):(wj its i j x y).length=its.length:=by simp[wj]
theorem ahy{its:List It}{i j:Nat}(hi:i < its.length)(hj:j < its.length):(wj its i j (At its i) (At its j)).Perm its:=by
 have e1:At its i=its[i]:=by simp[At,hi]
 have e2:At its j=its[j]:=by simp[At,hj]
 rw[e1,e2]
 exact List.set_set_perm hi hj
end Go.Eng
