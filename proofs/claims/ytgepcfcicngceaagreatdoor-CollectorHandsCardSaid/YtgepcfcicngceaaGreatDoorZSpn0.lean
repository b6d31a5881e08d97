/-
  Names of spans: which are right. No condition.
-/
import Derived.Test.YtgepcfcicngceaaGreatDoorM
import Derived.Test.YtgepcfcicngceaaGreatDoorFacts
import Derived.Test.YtgepcfcicngceaaGreatDoorZEngSl
import Derived.Test.YtgepcfcicngceaaGreatDoorRows
import Derived.Laws.StructEq
import Derived.Test.YtgepcfcicngceaaGreatDoorEnc
import Derived.Sort.AssemblyPlain
set_option maxRecDepth 100000
namespace Go.Proofs.YtgepcfcicngceaaGreatDoor
open Go.Eng
@[simp] theorem aoq : acy P T.n = true := kr
@[simp] theorem bph (ty : TypeId) (cs : List Bool) (s : ByteArray) (w : World) (K : KV) : biT P .len #[T.n] ty cs [.string s] w K = K (.int .i64 s.size) w := bmh aoq cs s w K
theorem atv(s:ByteArray):s.toList.isEmpty=decide (s.size=0):=by
 have h:s.size=s.data.toList.length:=Array.length_toList.symm
 rw[ByteArray.toList_eq,h]
 cases s.data.toList <;>simp
def yg(s p:ByteArray):Bool:=decide (p.size<=s.size) && ((s.extract 0 p.size).toList == p.toList)
theorem auk{w:World}(s p:ByteArray){K:KV}(h:K (.bool (yg s p)) w):jy P F.em [.string s,.string p] w K:=by
 apply M.eg.calls
 unfold M.eg
 rw[M.bw.fcall]
 apply M.bw.calls
 unfold M.bw
 unfold yg at h
 by_cases hl:p.size<=s.size
 ·have hl':(p.size:Int)<=s.size:=by omega
  have hsl: ∀K,slT P T.n (.string s) none (some (.int .i64 (p.size:Int))) none w K=K (.string (s.extract 0 p.size)) w:=fun K=>aiv aoq (.inl ⟨rfl,rfl⟩) (.inr ⟨_,rfl⟩) (Nat.zero_le _) hl w K
  simp[hl,hsl,uy] at h⊢
  exact h
 ·have hl': ¬(p.size:Int)<=s.size:=by omega
  simp[hl] at h⊢
  exact h
def yz:ByteArray:=⟨#[239,191,189]⟩
def adw(s:ByteArray)(i:Nat):Bool:=decide ((Utf8.decode s i).1 < 32) || ((decide (127<=(Utf8.decode s i).1) && decide ((Utf8.decode s i).1<=159)) || (decide ((Utf8.decode s i).1=65533) && !yg (s.extract i s.size) yz))
def vp(s:ByteArray)(i:Nat):Bool:=
 if h:i < s.size then !adw s i && vp s (i+(Utf8.decode s i).2) else true
termination_by s.size - i
decreasing_by have:=ajl s i;omega
def rz(s:ByteArray):Int:=if s.size=0\/32 < s.size then 5 else if vp s 0=true then 0 else 5
def axt(w:World)(s:ByteArray):KL:=fun x w1=> ∃(pos:Nat),w1.heap[w.heap.size]? =some (.stringIter s pos)/\Fz w w1/\vp s pos=vp s 0
def akn(s:ByteArray)(it:Nat)(w:World):Nat:=match w.heap[it]? with
 | some (.stringIter _ pos)=>s.size - pos
 | _=>0
theorem axf{w:World}(s:ByteArray){K:KV}(h: ∀w',Fz w w'->K (.int .i64 (rz s)) w'):jy P F.gf [.string s] w K:=by
 apply M.dc.calls
 unfold M.dc
 simp only[ir]
 have hemp:s.toList.isEmpty=decide (s.size=0):=atv s
 unfold rz at h
 by_cases h0:s.size=0
 ·simp[uy,hemp,h0] at h⊢
  exact h w (Fr.refl _ _)
 ·by_cases h1:32 < s.size
  ·have h1':(32:Int) < s.size:=by omega
   simp[uy,hemp,h0,h1,h1'] at h⊢
   exact h w (Fr.refl _ _)
  ·have h1': ¬(32:Int) < s.size:=by omega
   simp[uy,hemp,h0,h1,h1'] at h⊢
   unfold M.dc.j0
   simp only[ir]
   rw[bou (xw aoq)]
   refine⟨axt w s,fun _ w1=>akn s w.heap.size w1,⟨0,by rw[ja,if_pos rfl],(Fr.refl _ w).alloc _,rfl⟩,?_⟩
   rintro x w1 ⟨pos,hit,hf,hp⟩
   refine bpb hit _ (fun he=>?_) fun hlt w2 hit2 hf2=>?_
   ·have hr:vp s 0=true:=by rw[<-hp];unfold vp;rw[dif_neg he]
    have e0: ∀w K,exT P (.tuple #[.bool false]) 0 w K=K (.bool false) w:=fun _ _=>rfl
    simp[e0]
    have:=h w1 hf
    simpa [hr] using this
   ·simp
    unfold M.dc.j3
    simp
    have hr:vp s pos=(!adw s pos && vp s (pos+(Utf8.decode s pos).2)):=by
     conv=>lhs;unfold vp
     rw[dif_pos hlt]
    have F2:Fz w w2:=hf.jw hf2 fun g hg h'=>by omega
    have hbad:adw s pos=true->K (.int .i64 5) w2:=fun hb=>by
     rw[hb,hp] at hr
     have:=h w2 F2
     simpa [hr] using this
    have hgood:adw s pos=false->∀xs,axt w s xs w2/\akn s w.heap.size w2 < akn s w.heap.size w1:=fun hb xs=>by
     rw[hb,hp] at hr
     refine⟨⟨_,hit2,F2,by rw[hr];rfl⟩,?_⟩
     have:=ajl s pos
     simp only[akn,hit,hit2];omega
    unfold adw at hbad hgood
    generalize hc:(Utf8.decode s pos).1=c at *
    clear hc
    have hsl: ∀K,slT P T.n (.string s) (some (.int .i64 (pos:Int))) none none w2 K=K (.string (s.extract pos s.size)) w2:=fun K=>aiv aoq (.inr ⟨_,rfl⟩) (.inl ⟨rfl,rfl⟩) (by omega) (Nat.le_refl _) w2 K
    have j4: ∀(b:Bool)(t14:Value),b=(decide (c < 32) || (decide (127<=c) && decide (c<=159)))->M.dc.j4 [.bool b] (.int .i32 c) (.string s) (.int .i64 pos) (fun x' w'=>axt w s x' w'/\akn s w.heap.size w' < akn s w.heap.size w1) t14 x w2 K:=by
     intro b t14 hb
     unfold M.dc.j4
     cases b with
     | true=>simp at hb⊢;exact hbad (by simp;omega)
     | false=>
      by_cases he:c=65533
      ·have he':(c:Int)=65533:=by omega
       simp[he',hsl]
       rw[M.eg.fcall]
       refine auk _ _ ?_
       have hx:yg (s.extract pos s.size) ⟨#[239,191,189]⟩=yg (s.extract pos s.size) yz:=rfl
       rw[hx]
       cases hq:yg (s.extract pos s.size) yz with
       | true=>simp;exact hgood (by simp[he,hq]) _
       | false=>simp;exact hbad (by simp[he,hq])
      ·have he': ¬(c:Int)=65533:=by omega
       simp[he']
       refine hgood ?_ _
       have:(decide (c < 32) || (decide (127<=c) && decide (c<=159)))=false:=hb.symm
       simp[he] at this⊢
       exact this
    by_cases h32:c < 32
    ·have h32':(c:Int) < 32:=by omega
     simp[h32']
     exact j4 true _ (by simp[h32])
    ·have h32': ¬(c:Int) < 32:=by omega
     by_cases h127:127<=c
     ·have h127':(127:Int)<=c:=by omega
      by_cases h159:c<=159
      ·have h159':(c:Int)<=159:=by omega
       simp[h32',h127',h159']
       exact j4 true _ (by simp[h32,h127,h159])
      ·have h159': ¬(c:Int)<=159:=by omega
       simp[h32',h127',h159']
       exact j4 false _ (by simp[h32,h127,h159])
     ·have h127': ¬(127:Int)<=c:=by omega
      simp[h32',h127']
      exact j4 false _ (by simp[h32,h127])
set_option maxRecDepth 100000
structure Spn where
 jj:Int
 id:Int
 nn:Int
 km:Int
 len:Int
 kz:ByteArray
 name:ByteArray
 pp:Bool
def jz(s:Spn):List Value:=[.int .u64 s.jj,.int .u64 s.id,.int .u64 s.nn,.int .u64 s.km,.int .u64 s.len,.string s.kz,.string s.name,.bool s.pp]
def lw(s:Spn):Value:= .agg #[.int .u64 s.jj,.int .u64 s.id,.int .u64 s.nn,.int .u64 s.km,.int .u64 s.len,.string s.kz,.string s.name,.bool s.pp]
theorem pt(s:Spn):(jz s).length=8:=rfl
theorem qn(s:Spn): ∀u∈jz s,lc u=true:=fun u hu=>by
 simp only[jz,List.mem_cons,List.not_mem_nil,or_false] at hu
 rcases hu with rfl|rfl|rfl|rfl|rfl|rfl|rfl|rfl <;>rfl
@[simp] theorem bsu (t1 t2 ty : TypeId) (cs : List Bool) (k : IntKind) (x y : Int) (w : World) (K : KV) : biT P .max #[t1, t2] ty cs [.int k x, .int k y] w K = K (.int k (max x y)) w := by
 have:(if x < y then y else x)=max x y:=by split <;>omega
 simp[biT,lz,builtin,Builtin.max_,Builtin.max2,Sem.run_bind,Result.andThen,Sem.run_pure,this]
@[simp] theorem btp (t1 t2 ty : TypeId) (cs : List Bool) (k : IntKind) (x y : Int) (w : World) (K : KV) : biT P .min #[t1, t2] ty cs [.int k x, .int k y] w K = K (.int k (min x y)) w := by
 have:(if y < x then y else x)=min x y:=by split <;>omega
 simp[biT,lz,builtin,Builtin.min_,Builtin.min2,Sem.run_bind,Result.andThen,Sem.run_pure,this]
def zk(k:Int):List Value:=[.int .i64 k]
def orK(l:List Int):Int:=(l.find? fun k=>!decide (k=0)).getD 0
def OrI(w:World)(l:List Int):KL:=fun x w1=> ∃(a b:Value)(i:Nat),x=[a,b,.int .i64 (i:Nat)]/\w1=w/\i<=l.length/\∀(j:Nat) k,l[j]? =some k->j < i->k=0
theorem bkj{w:World}{v:Value}{l:List Int}(hs:Sl w 1 zk v l)(hlen:l.length<=1000){K:KV}(h:K (.int .i64 (orK l)) w):jy P F.dx [v] w K:=by
 apply M.db.calls
 unfold M.db
 simp only[ir]
 rw[hs.jv (by simp)]
 refine⟨OrI w l,fun x _=>l.length - ms x 2,⟨_,_,0,rfl,rfl,Nat.zero_le _,fun j k _ h=>by omega⟩,?_⟩
 rintro x w1 ⟨a,b,i,rfl,rfl,hi,hz⟩
 have gv2:gv [a,b,.int .i64 (i:Int)] 2= .int .i64 (i:Int):=rfl
 simp only[gv2]
 by_cases hil:i < l.length
 ·obtain⟨bb,o,cap,rfl,hb,_,hr⟩:=hs.at hil
  have e0:=hr 0 _ rfl
  simp only[Nat.mul_one,Nat.add_zero] at e0
  have hw:IntKind.i64.wrap ((i:Int)+1)=((i+1:Nat):Int):=by rw[jc];rfl
  simp[hil]
  unfold M.db.j2
  simp only[ir,gv2]
  by_cases hk:l[i]=0
  ·simp[hil,e0,hk,hw]
   refine⟨⟨_,_,i+1,rfl,rfl,by omega,fun j k hj hlt=>?_⟩,by simp[ms,gv];omega⟩
   by_cases hji:j=i
   ·subst hji
    rw[List.getElem?_eq_getElem hil] at hj
    cases hj;exact hk
   ·exact hz j k hj (by omega)
  ·simp[hil,e0,hk]
   have:orK l=l[i]:=by
    unfold orK
    have:l.find? (fun k=>!decide (k=0))=some l[i]:=by
     rw[List.find?_eq_some_iff_getElem]
     refine⟨by simpa using hk,i,hil,rfl,fun j hj=>?_⟩
     have:=hz j _ (List.getElem?_eq_getElem (by omega)) hj
     simp[this]
    rw[this];rfl
   rw[this] at h;exact h
 ·simp[hil]
  have:orK l=0:=by
   unfold orK
   have:l.find? (fun k=>!decide (k=0))=none:=by
    rw[List.find?_eq_none]
    intro k hk
    obtain⟨j,hj,rfl⟩:=List.mem_iff_getElem.1 hk
    have:=hz j _ (List.getElem?_eq_getElem hj) (by omega)
    simp[this]
   rw[this];rfl
  rw[this] at h;exact h
def ll(s:Spn):Int:=if s.jj=0\/s.id=0\/1099511627776 < max s.km s.len then 1 else orK [rz s.kz,rz s.name]
theorem aha{w:World}(s:Spn){K:KV}(h: ∀w',Fz w w'->K (.int .i64 (ll s)) w'):jy P F.fv [lw s] w K:=by
 apply M.dw.calls
 unfold M.dw lw
 simp only[ir,vd,bat]
 generalize hwa:w.alloc (.cells #[.int .u64 s.jj,.int .u64 s.id,.int .u64 s.nn,.int .u64 s.km,.int .u64 s.len,.string s.kz,.string s.name,.bool s.pp] T.j)=wa
 have hb:wa.heap[w.heap.size]? =some (.cells #[.int .u64 s.jj,.int .u64 s.id,.int .u64 s.nn,.int .u64 s.km,.int .u64 s.len,.string s.kz,.string s.name,.bool s.pp] T.j (0,0)):=by rw[<-hwa,ja,if_pos rfl]
 have hf:Fz w wa:=by rw[<-hwa];exact (Fr.refl _ w).alloc _
 have c0:=iw hb 0
 have c1:=iw hb 1
 have c3:=iw hb 3
 have c4:=iw hb 4
 have c5:=iw hb 5
 have c6:=iw hb 6
 simp at c0 c1 c3 c4 c5 c6
 unfold ll at h
 by_cases h0:s.jj=0
 ·simp[c0,h0] at h⊢
  exact h wa hf
 ·by_cases h1:s.id=0
  ·simp[c0,c1,h0,h1] at h⊢
   exact h wa hf
  ·by_cases h2:1099511627776 < max s.km s.len
   ·simp[c0,c1,c3,c4,h0,h1,h2] at h⊢
    exact h wa hf
   ·simp[c0,c1,c3,c4,h0,h1,h2] at h⊢
    unfold M.dw.j0
    simp[c5,c6]
    rw[M.dc.fcall]
    refine axf _ fun w2 f2=>?_
    have f2':Fz wa w2:=⟨f2.size,f2.jl,f2.tape,f2.os,f2.output⟩
    have d6:iq w2 w.heap.size 6=some (.string s.name):=by rw[xv (f2'.jl _ (mh hb) fun h=>h)];exact c6
    simp[d6]
    rw[M.dc.fcall]
    refine axf _ fun w3 f3=>?_
    simp
    rw[M.db.fcall]
    have hsl:Sl (w3.alloc (.cells #[.int .i64 (rz s.kz),.int .i64 (rz s.name)] T.aa)) 1 zk (.slice (some ⟨w3.heap.size,0,none⟩) 2 2) [rz s.kz,rz s.name]:=by
     refine⟨_,2,rfl,Nat.le_refl _,by decide,fun i x hi=>⟨_,0,rfl,by simp,fun j u hu=>?_⟩⟩
     rw[ads rfl]
     match i with
     | 0=>simp at hi;subst hi;match j with
      | 0=>simpa [zk] using hu
      | j+1=>simp[zk] at hu
     | 1=>simp at hi;subst hi;match j with
      | 0=>simpa [zk] using hu
      | j+1=>simp[zk] at hu
     | i+2=>simp at hi
    exact bkj hsl (by simp) (h _ (((hf.trans f2').trans f3).alloc _))
theorem bkq{t:TypeId}(h:adb P t=false){xs:Array Value}{i:Nat}{v:Value}(hv:xs[i]? =some v)(w:World):(part t xs i).run P w= .ok v w:=by
 unfold part
 rw[Sem.run_bind,aqs h]
 simp[Result.andThen,hv,Sem.run_pure]
theorem eqF {d:Nat} {xs ys:Array Value} {f:Field} {fs:List Field} {w:World} {u v:Value} {b c:Bool} (hn:f.name≠ "_") (h:adb P f.type=false) (hx:xs[f.offset]? =some u) (hy:ys[f.offset]? =some v) (he:(Op.equalIn d f.type u v).run P w= .ok b w) (hr:(Op.eqFields d xs ys fs).run P w= .ok c w):(Op.eqFields d xs ys (f :: fs)).run P w= .ok (b && c) w:=by
 simp only[Op.eqFields]
 rw[if_pos hn]
 simp only[Sem.run_bind,bkq h hx,bkq h hy,he,Result.andThen]
 cases b
 ·rfl
 ·simpa using hr
def nf(m:Mem):Value:= .agg #[.int .u64 m.id,.int .u64 m.inc,.int .i64 m.st]
abbrev SlM(w:World)(v:Value)(l:List Mem):Prop:=Sl w 3 xf v l
theorem ldM{w:World}{b i:Nat}{m:Mem}(h: ∀k v,(xf m)[k]? =some v->iq w b (i+k)=some v)(K:KV):ldN P 3 b i w K=K (nf m) w:=tk (xf m) 3 rfl h K
def wh:Int->List Mem->Bool
 | _,[]=>true
 | kx,m :: l=>decide (kx < m.id) && wh m.id l
def RsI(W:World)(l:List Mem):KL:=fun x w1=> ∃(u0 u1:Value)(kx:Int)(i:Nat),x=[u0,u1,.int .u64 kx,.int .i64 (i:Nat)]/\i<=l.length/\wh 0 l=wh kx (l.drop i)/\Fz W w1
theorem bbc{w:World}(m:Mem){K:KV}(h: ∀w',Fz w w'->K (.int .u64 m.id) w'):lh P (.func (.func F.ea) #[] #[]) [nf m] w K:=by
 rw[M.fb.rcall]
 apply M.fb.calls
 unfold M.fb nf
 simp
 have c0:iq (w.alloc (.cells #[.int .u64 m.id,.int .u64 m.inc,.int .i64 m.st] T.i)) w.heap.size 0=some (.int .u64 m.id):=by rw[iw (by rw[ja,if_pos rfl])];rfl
 simp[c0]
 exact h _ ((Fr.refl _ w).alloc _)
theorem blo{w:World}{v:Value}{l:List Mem}(hs:SlM w v l)(hlen:l.length<=1000000){K:KV}(h: ∀w',Fz w w'->K (.bool (wh 0 l && (decide (0 < l.length) && decide (l.length<=16)))) w'):
  ik P F.ct [v,.int .i64 16,.func (.func F.ea) #[] #[]] w K:=by
 rw[M.ar.fcall]
 apply M.ar.calls
 unfold M.ar
 simp only[ir]
 rw[hs.jv (by kernel_rfl)]
 refine⟨RsI w l,fun x _=>l.length - ms x 3,⟨_,_,0,0,rfl,Nat.zero_le _,rfl,Fr.refl _ _⟩,?_⟩
 rintro x w1 ⟨u0,u1,kx,i,rfl,hi,hr,f1⟩
 have q2:gv [u0,u1,.int .u64 kx,.int .i64 (i:Nat)] 2= .int .u64 kx:=rfl
 have q3:gv [u0,u1,.int .u64 kx,.int .i64 (i:Nat)] 3= .int .i64 (i:Nat):=rfl
 have hs1:=hs.fr f1 fun _ _ _ h=>h
 simp only[q3]
 by_cases hil:i < l.length
 ·have hil':(i:Int) < l.length:=by omega
  simp[hil']
  unfold M.ar.j2
  obtain⟨b,o,cap,hv,hb,_,hc⟩:=hs1.at hil
  have hld: ∀K,ldN P 3 b (o+i * 3) w1 K=K (nf l[i]) w1:=fun K=>ldM hc K
  have hwi:IntKind.i64.wrap ((i:Int)+1)=((i+1:Nat):Int):=by rw[jc];rfl
  have hdrop:l.drop i=l[i] :: l.drop (i+1):=List.drop_eq_getElem_cons hil
  rw[hdrop] at hr
  generalize l[i]=m at *
  subst hv
  simp[q2,q3,hil,hld]
  have e1:nf m= .agg #[.int .u64 m.id,.int .u64 m.inc,.int .i64 m.st]:=rfl
  rw[e1]
  simp
  have hba:(w1.alloc (.cells #[.int .u64 0,.int .u64 0,.int .i64 0] T.i)).heap[w1.heap.size]? =some (.cells #[.int .u64 0,.int .u64 0,.int .i64 0] T.i (0,0)):=by rw[ja,if_pos rfl]
  refine kg (vs:=[.int .u64 m.id,.int .u64 m.inc,.int .i64 m.st]) hba rfl (by simp) fun w2 b2 f2=>?_
  have f2':Fz w1 w2:=((Fr.refl _ w1).alloc _).jw f2 fun y hy he=>by subst he;omega
  have hld2: ∀{w'},Fz w2 w'->∀K,ldN P 3 w1.heap.size 0 w' K=K (nf m) w':=fun f K=>by
   have b3:=f.heap b2 fun h=>h
   exact ldM (m:=m) (i:=0) (fun k v hk=>by rw[iw b3,Nat.zero_add,List.getElem?_toArray];exact hk) K
  rw[hld2 (Fr.refl _ _)]
  refine bbc m fun w3 f3=>?_
  simp
  by_cases hle:m.id<=kx
  ·have hlt: ¬kx < m.id:=by omega
   simp[hle]
   have hf:wh 0 l=false:=by rw[hr];unfold wh;simp[hlt]
   rw[hf] at h
   exact h w3 ((f1.trans f2').trans f3)
  ·have hlt:kx < m.id:=by omega
   simp[hle]
   rw[hld2 f3]
   refine bbc m fun w4 f4=>?_
   simp[hwi]
   refine⟨⟨_,_,m.id,i+1,rfl,by omega,?_,((f1.trans f2').trans f3).trans f4⟩,by simp[ms,gv];omega⟩
   rw[hr]
   show (decide (kx < m.id) && wh m.id (l.drop (i+1)))=_
   simp[hlt]
 ·have hil': ¬(i:Int) < l.length:=by omega
  have hr1:wh 0 l=true:=by rw[hr,List.drop_of_length_le (by omega)];rfl
  simp[hil']
  unfold M.ar.j0
  rw[hs1.jv (by kernel_rfl)]
  rw[hr1] at h
  by_cases h0:0 < l.length
  ·have h0':(0:Int) < l.length:=by omega
   have hx:decide ((l.length:Int)<=16)=decide (l.length<=16):=by
    by_cases h16:l.length<=16
    ·rw[decide_eq_true h16,decide_eq_true (by omega)]
    ·rw[decide_eq_false h16,decide_eq_false (by omega)]
   simp[h0]
   rw[hs1.jv (by kernel_rfl)]
   simp
   rw[hx]
   have:=h w1 f1
   simpa [h0] using this
  ·simp[h0]
   have:=h w1 f1
   simpa [h0] using this
def bqz(W:World)(p:Mem->Bool)(l:List Mem):KL:=fun x w1=> ∃(u0 u1:Value)(i:Nat),x=[u0,u1,.int .i64 (i:Nat)]/\i<=l.length/\(∀j (h:j < l.length),j < i->p l[j]=false)/\Fz W w1
theorem atq{w:World}{v fv:Value}{l:List Mem}{p:Mem->Bool}(hs:SlM w v l)(hlen:l.length<=1000000)(hp: ∀m w1,Fz w w1->∀{K:KV},(∀w',Fz w1 w'->K (.bool (p m)) w')->lh P fv [nf m] w1 K){K:KV}
  (h1: ∀w' i (hi:i < l.length),p l[i]=true->(∀j (h:j < l.length),j < i->p l[j]=false)->Fz w w'->K (.int .i64 (i:Nat)) w')
  (h0: ∀w',(∀m∈l,p m=false)->Fz w w'->K (.int .i64 (-1)) w'):ik P F.aj [v,fv] w K:=by
 rw[M.z.fcall]
 apply M.z.calls
 unfold M.z
 simp only[ir]
 rw[hs.jv (by kernel_rfl)]
 refine⟨bqz w p l,fun x _=>l.length - ms x 2,⟨_,_,0,rfl,Nat.zero_le _,fun _ _ h=>by omega,Fr.refl _ _⟩,?_⟩
 rintro x w1 ⟨u0,u1,i,rfl,hi,hz,f1⟩
 have q2:gv [u0,u1,.int .i64 (i:Nat)] 2= .int .i64 (i:Nat):=rfl
 have hs1:=hs.fr f1 fun _ _ _ h=>h
 simp only[q2]
 by_cases hil:i < l.length
 ·have hil':(i:Int) < l.length:=by omega
  simp[hil']
  unfold M.z.j2
  obtain⟨b,o,cap,hv,hb,_,hc⟩:=hs1.at hil
  have hld: ∀K,ldN P 3 b (o+i * 3) w1 K=K (nf l[i]) w1:=fun K=>ldM hc K
  have hwi:IntKind.i64.wrap ((i:Int)+1)=((i+1:Nat):Int):=by rw[jc];rfl
  subst hv
  simp[q2,hil,hld]
  refine hp l[i] w1 f1 fun w2 f2=>?_
  cases hpi:p l[i] with
  | true=>simp;exact h1 w2 i hil hpi hz (f1.trans f2)
  | false=>
   simp[hwi]
   refine⟨⟨_,_,i+1,rfl,by omega,fun j hj hji=>?_,f1.trans f2⟩,by simp[ms,gv];omega⟩
   by_cases hje:j=i
   ·subst hje;exact hpi
   ·exact hz j hj (by omega)
 ·have hil': ¬(i:Int) < l.length:=by omega
  simp[hil']
  refine h0 w1 (fun m hm=>?_) f1
  obtain⟨j,hj,rfl⟩:=List.getElem_of_mem hm
  exact hz j hj (by omega)
def xm(m:Mem):Bool:=decide (m.inc=0) || (decide (m.st < 0) || decide (2 < m.st))
theorem blu{w:World}(m:Mem){K:KV}(h: ∀w',Fz w w'->K (.bool (xm m)) w'):lh P (.func (.func F.dz) #[] #[]) [nf m] w K:=by
 rw[M.fa.rcall]
 apply M.fa.calls
 unfold M.fa nf
 simp
 have hb:(w.alloc (.cells #[.int .u64 m.id,.int .u64 m.inc,.int .i64 m.st] T.i)).heap[w.heap.size]? =some (.cells #[.int .u64 m.id,.int .u64 m.inc,.int .i64 m.st] T.i (0,0)):=by rw[ja,if_pos rfl]
 have c1:iq (w.alloc (.cells #[.int .u64 m.id,.int .u64 m.inc,.int .i64 m.st] T.i)) w.heap.size 1=some (.int .u64 m.inc):=by rw[iw hb];rfl
 have c2:iq (w.alloc (.cells #[.int .u64 m.id,.int .u64 m.inc,.int .i64 m.st] T.i)) w.heap.size 2=some (.int .i64 m.st):=by rw[iw hb];rfl
 have fin:=h _ ((Fr.refl _ w).alloc (.cells #[.int .u64 m.id,.int .u64 m.inc,.int .i64 m.st] T.i))
 unfold xm at fin
 generalize w.alloc (.cells #[.int .u64 m.id,.int .u64 m.inc,.int .i64 m.st] T.i)=w1 at *
 by_cases h1:m.inc=0
 ·simp[c1,c2,h1] at fin⊢;exact fin
 by_cases h2:m.st < 0
 ·simp[c1,c2,h1,h2] at fin⊢;exact fin
 simp[c1,c2,h1,h2] at fin⊢;exact fin
theorem auo{w:World}{v:Value}{l:List Mem}(hs:SlM w v l)(hlen:l.length<=1000000){K:KV}(h: ∀w',Fz w w'->K (.bool (l.any xm)) w'):ik P F.ar [v,.func (.func F.dz) #[] #[]] w K:=by
 rw[M.ax.fcall]
 apply M.ax.calls
 unfold M.ax
 refine atq (p:=xm) hs hlen (fun m w1 _ _ hK=>blu m hK) (fun w' i hi hpi _ f=>?_) fun w' hn f=>?_
 ·have:l.any xm=true:=List.any_eq_true.2 ⟨l[i],List.getElem_mem hi,hpi⟩
  rw[this] at h
  have h0:(0:Int)<=(i:Nat):=by omega
  simp[h0]
  exact h w' f
 ·have:l.any xm=false:=by
   rw[List.any_eq_false]
   intro m hm;rw[hn m hm];simp
  rw[this] at h
  simp
  exact h w' f
theorem acr{w:World}{v:Value}{l:List Mem}(hs:SlM w v l)(hlen:l.length<=1000000){K:KV}(h: ∀w' v',SlM w' v' l->(∀x,v'.ownBlock=some x->w.heap.size<=x)->Fz w w'->K v' w'):ik P F.ai [v] w K:=by
 rw[M.bo.fcall]
 apply M.bo.calls
 unfold M.bo
 simp only[ir]
 have hs':=hs
 obtain⟨a,cap,rfl,_⟩:=hs'
 cases a with
 | none=>
  simp
  have hz:l=[]:=by
   obtain⟨a',cap',hv,_,_,h3⟩:=hs
   cases l with
   | nil=>rfl
   | cons x l=>
    obtain⟨b,o,ha,_⟩:=h3 0 x rfl
    injection hv with h1 _ _
    rw[<-h1] at ha;cases ha
  subst hz
  exact h w _ Sl.nil (fun x hx=>by simp[Value.ownBlock] at hx) (Fr.refl _ _)
 | some a=>
  simp
  have f0:Fz w (w.alloc (.cells #[] T.i)):=(Fr.refl _ w).alloc _
  refine yo et.k pd alu (base:=w.heap.size) (Ow.empty (by rw[ja,if_pos rfl]) (Nat.le_refl _)) (hs.fr f0 fun _ _ _ h=>h) (by simp;omega) (by decide) (by simp) _ fun v3 w3 o3 f3 g3=>?_
  rw[List.nil_append] at o3
  exact h w3 v3 (o3.sl pd) (fun x hx=>(o3.lt hx).1) (f0.jw f3 fun b hb hv=>by simp[Value.ownBlock] at hv;omega)
theorem bec(x y:Mem)(w:World):(Op.equalIn 10000 T.i (nf x) (nf y)).run P w= .ok (x.id == y.id && (x.inc == y.inc && (x.st == y.st))) w:=by
 have hS:P.underlying T.i=some (.struct (P.fieldsOf T.i)):=by kernel_rfl
 have hp:P.stoodInHeld T.i=false:=by kernel_rfl
 unfold nf
 rw[show (10000:Nat)=9999+1 from rfl,run_equalIn_agg w 9999 T.i _ _ hS hp]
 simp only[Program.fieldsOf,show P.underlying T.i=_ from Tryz.underlying68]
 have u22:P.underlying T.a=some (.int .u64):=by kernel_rfl
 have u3:P.underlying T.d=some (.int .i64):=by kernel_rfl
 have a22:adb P T.a=false:=by kernel_rfl
 have a3:adb P T.d=false:=by kernel_rfl
 refine eqF (by decide) a22 rfl rfl (run_equalIn_int w 9998 T.a _ _ _ _ u22) ?_
 refine eqF (by decide) a22 rfl rfl (run_equalIn_int w 9998 T.a _ _ _ _ u22) ?_
 have:=eqF (fs:=[]) (d:=9999) (xs:= #[.int .u64 x.id,.int .u64 x.inc,.int .i64 x.st]) (ys:= #[.int .u64 y.id,.int .u64 y.inc,.int .i64 y.st]) (f:={name:= "State",type:=T.d,offset:=2,embedded:=false,tag:= "",pkgPath:= "",byteOffset:=16}) (w:=w) (c:=true) (by decide) a3 rfl rfl (run_equalIn_int w 9998 T.d _ _ _ _ u3) rfl
 simpa using this
theorem bqh(x y:Mem):(x.id == y.id && (x.inc == y.inc && (x.st == y.st)))=decide (x=y):=by
 obtain⟨a,b,c⟩:=x
 obtain⟨a',b',c'⟩:=y
 simp only[Mem.mk.injEq]
 by_cases h1:a=a' <;>by_cases h2:b=b' <;>by_cases h3:c=c' <;>simp[h1,h2,h3]
theorem bpf(rx ry:Operand)(x y:Mem)(w:World)(K:KV):iy P .neq T.i rx ry (nf x) (nf y) w K=K (.bool !(decide (x=y))) w:=by
 have hm:P.eqGuardType P.depth T.i=false:=by kernel_rfl
 have hg:=run_eqGuard_agg (P:=P) w .neq T.i rx ry #[.int .u64 x.id,.int .u64 x.inc,.int .i64 x.st] #[.int .u64 y.id,.int .u64 y.inc,.int .i64 y.st] hm
 have he:=bec x y w
 rw[bqh] at he
 unfold iy jt
 unfold nf at he⊢
 rw[Sem.run_bind,hg]
 simp only[Result.andThen]
 rw[run_neq_struct,he]
 rfl
def EmI(W:World)(l1 l2:List Mem):KL:=fun x w1=> ∃(u0 u1:Value)(i:Nat),x=[u0,u1,.int .i64 (i:Nat)]/\i<=l1.length/\(∀j,j < i->l1[j]? =l2[j]?)/\Fz W w1
theorem arn{w:World}{v1 v2:Value}{l1 l2:List Mem}(s1:SlM w v1 l1)(s2:SlM w v2 l2)(hlen:l1.length<=1000000){K:KV}(h: ∀w',Fz w w'->K (.bool (decide (l1=l2))) w'):ik P F.bg [v1,v2] w K:=by
 rw[M.r.fcall]
 apply M.r.calls
 unfold M.r
 simp only[ir]
 rw[s1.jv (by kernel_rfl),s2.jv (by kernel_rfl)]
 by_cases hne:l1.length=l2.length
 ·simp[hne]
  unfold M.r.j0
  simp only[ir]
  rw[s1.jv (by kernel_rfl)]
  refine⟨EmI w l1 l2,fun x _=>l1.length - ms x 2,⟨_,_,0,rfl,Nat.zero_le _,fun _ h=>by omega,Fr.refl _ _⟩,?_⟩
  rintro x w1 ⟨u0,u1,i,rfl,hi,hz,f1⟩
  have q2:gv [u0,u1,.int .i64 (i:Nat)] 2= .int .i64 (i:Nat):=rfl
  have t1:=s1.fr f1 fun _ _ _ h=>h
  have t2:=s2.fr f1 fun _ _ _ h=>h
  simp only[q2]
  by_cases hil:i < l1.length
  ·have hil':(i:Int) < l1.length:=by omega
   have hil2:i < l2.length:=by omega
   simp[hil']
   unfold M.r.j3
   obtain⟨b1,o1,cap1,hv1,_,_,e1⟩:=(s1.fr (f1.dr 1) fun _ _ _ h=>h).at hil
   obtain⟨b2,o2,cap2,hv2,_,_,e2⟩:=(s2.fr (f1.dr 1) fun _ _ _ h=>h).at hil2
   have hld1: ∀K,ldN P 3 b1 (o1+i * 3) (Eng.dr w1 1) K=K (nf l1[i]) (Eng.dr w1 1):=fun K=>ldM e1 K
   have hld2: ∀K,ldN P 3 b2 (o2+i * 3) (Eng.dr w1 1) K=K (nf l2[i]) (Eng.dr w1 1):=fun K=>ldM e2 K
   have hwi:IntKind.i64.wrap ((i:Int)+1)=((i+1:Nat):Int):=by rw[jc];rfl
   subst hv1 hv2
   simp[q2,hil,hil2,hld1,hld2,bpf]
   by_cases heq:l1[i]=l2[i]
   ·simp[heq,hwi]
    refine⟨⟨_,_,i+1,rfl,by omega,fun j hj=>?_,f1.dr 1⟩,by simp[ms,gv];omega⟩
    by_cases hji:j=i
    ·subst hji
     rw[List.getElem?_eq_getElem hil,List.getElem?_eq_getElem hil2,heq]
    ·exact hz j (by omega)
   ·simp[heq]
    have hf:decide (l1=l2)=false:=decide_eq_false fun h=>heq (by subst h;rfl)
    rw[hf] at h
    exact h _ (f1.dr 1)
  ·have hil': ¬(i:Int) < l1.length:=by omega
   simp[hil']
   have hf:decide (l1=l2)=true:=decide_eq_true (List.ext_getElem? fun j=>by
    by_cases hj:j < i
    ·exact hz j hj
    ·rw[List.getElem?_eq_none (by omega),List.getElem?_eq_none (by omega)])
   rw[hf] at h
   exact h _ f1
 ·have hf:decide (l1=l2)=false:=decide_eq_false fun h=>hne (by rw[h])
  rw[hf] at h
  have hne': ¬(l1.length:Int)=l2.length:=by omega
  simp[hne']
  exact h w (Fr.refl _ _)
theorem azq{w:World}{K:KV}(h:K (.bool true) w):ik P F.bd [.slice none 0 0,.slice none 0 0] w K:=by
 rw[M.k.fcall]
 apply M.k.calls
 unfold M.k
 have hl: ∀K',biT P .len #[T.h] T.d [false] [.slice none 0 0] w K'=K' (.int .i64 0) w:=fun K'=>(Sl.nil (w:=w) (enc:=jz) (sz:=8)).jv (by kernel_rfl) [false]
 simp only[ir]
 rw[hl,hl]
 simp
 unfold M.k.j0
 simp only[ir]
 rw[hl]
 refine⟨fun x w1=>w1=w/\∃u0 u1,x=[u0,u1,.int .i64 0],fun _ _=>0,⟨rfl,_,_,rfl⟩,?_⟩
 rintro x w1 ⟨rfl,u0,u1,rfl⟩
 have q: ∀a b c:Value,gv [a,b,c] 2=c:=fun _ _ _=>rfl
 simp[q]
 exact h
theorem aya{w:World}{K:KV}(h:K (.bool true) w):ik P F.bn [.slice none 0 0,.slice none 0 0] w K:=by
 rw[M.s.fcall]
 apply M.s.calls
 unfold M.s
 have hl: ∀K',biT P .len #[T.g] T.d [false] [.slice none 0 0] w K'=K' (.int .i64 0) w:=fun K'=>(Sl.nil (w:=w) (enc:=aej) (sz:=1)).jv (by kernel_rfl) [false]
 simp only[ir]
 rw[hl,hl]
 simp
 unfold M.s.j0
 simp only[ir]
 rw[hl]
 refine⟨fun x w1=>w1=w/\∃u0 u1,x=[u0,u1,.int .i64 0],fun _ _=>0,⟨rfl,_,_,rfl⟩,?_⟩
 rintro x w1 ⟨rfl,u0,u1,rfl⟩
 have q: ∀a b c:Value,gv [a,b,c] 2=c:=fun _ _ _=>rfl
 simp[q]
 exact h
theorem auq(v:Value)(w:World)(K:KV):taT P (.iface T.s v) T.bh T.z true w K=K (.tuple #[.agg #[.int .u64 0,.bool false,.slice none 0 0],.bool false]) w:=kr
theorem bmo(v:Value)(rx ry:Operand)(w:World)(K:KV):iy P .eql T.bh rx ry (.iface T.s v) .nilIface w K=K (.bool false) w:=kr
theorem bnc(rx ry:Operand)(w:World)(K:KV):iy P .eql T.e rx ry (.agg #[.int .u64 0,.int .u64 0]) (.agg #[.int .u64 0,.int .u64 0]) w K=K (.bool true) w:=kr
theorem alb(b:Nat)(w:World)(K:KV):oy P T.c (.pointer (some ⟨b,0,none⟩)) w K=ldN P 11 b 0 w K:=kr
def qc(v:Value):List Value:=[.int .i64 3,.int .u64 0,.int .u64 0,.int .u64 0,.int .u64 0,.int .u64 0,.int .i64 0,.bool false,.slice none 0 0,v,.slice none 0 0]
theorem ayo{w:World}{b:Nat}{v:Value}{f:Nat×Nat}(h:w.heap[b]? =some (.cells (qc v).toArray T.c f))(K:KV):ldN P 11 b 0 w K=K (.agg (qc v).toArray) w:=
 tk (qc v) 11 rfl (fun k u hk=>by rw[iw h,Nat.zero_add,List.getElem?_toArray];exact hk) K
theorem agh{w:World}{b:Nat}{v:Value}{f:Nat×Nat}(h:w.heap[b]? =some (.cells (qc v).toArray T.c f)): ∀(j:Nat)(u:Value),(qc v)[j]? =some u->iq w b j=some u:=fun j u hj=>by
 rw[iw h,List.getElem?_toArray];exact hj
def qu(l:List Mem):Bool:=(wh 0 l && (decide (0 < l.length) && decide (l.length<=16))) && !(l.any xm)
theorem bgh{w:World}{v:Value}{l:List Mem}(hs:SlM w v l)(hlen:l.length<=1000000){K:KV}(h: ∀w' v',SlM w' v' l->Fz w w'->K (.iface T.s (.agg #[v'])) w'):ik P F.cr [.agg (qc v).toArray] w K:=by
 rw[M.q.fcall]
 apply M.q.calls
 unfold M.q
 have hb:(w.alloc (.cells (qc v).toArray T.c)).heap[w.heap.size]? =some (.cells (qc v).toArray T.c (0,0)):=by rw[ja,if_pos rfl]
 have f1:Fz w (w.alloc (.cells (qc v).toArray T.c)):=(Fr.refl _ w).alloc _
 have c0:=agh hb 0 _ rfl
 have c9:=agh hb 9 _ rfl
 have hs1:=hs.fr f1 fun _ _ _ h=>h
 simp
 generalize w.alloc (.cells (qc v).toArray T.c)=w1 at *
 simp[c0]
 unfold M.q.j1
 obtain⟨a,c,hv,_⟩:=id hs1
 have c9':=c9
 rw[hv] at c9'
 simp[c0,c9']
 rw[<-hv]
 refine acr hs1 hlen fun w2 v2 s2 _ f2=>?_
 obtain⟨a2,c2,hv2,_⟩:=id s2
 have fin:=h w2 v2 s2 (f1.trans f2)
 rw[hv2] at fin⊢
 simp
 exact fin
theorem aqg{w:World}{v:Value}{l:List Mem}(hs:SlM w v l)(hlen:l.length<=1000000){K:KV}(h: ∀w',Fz w w'->K (.bool (qu l)) w'):ik P F.bm [.iface T.s (.agg #[v])] w K:=by
 rw[M.ad.fcall]
 apply M.ad.calls
 unfold M.ad
 simp
 have hba:(w.alloc (.cells #[.int .u64 0,.int .u64 0] T.e)).heap[w.heap.size]? =some (.cells #[.int .u64 0,.int .u64 0] T.e (0,0)):=by rw[ja,if_pos rfl]
 refine kg (vs:=[.int .u64 0,.int .u64 0]) hba rfl (by simp) fun w2 b2 f2=>?_
 have f2':Fz w w2:=((Fr.refl _ w).alloc _).jw f2 fun y hy he=>by subst he;omega
 have hs2:=hs.fr f2' fun _ _ _ h=>h
 rw[auq]
 obtain⟨a,c,hv,_⟩:=id hs2
 have hcell: ∀{w'},Fz w2 w'->SlM w' v l:=fun f=>hs2.fr f fun _ _ _ h=>h
 rw[hv]
 simp
 have hbm:(w2.alloc (.cells #[.slice none 0 0] T.s)).heap[w2.heap.size]? =some (.cells #[.slice none 0 0] T.s (0,0)):=by rw[ja,if_pos rfl]
 refine kg (vs:=[.slice a l.length c]) hbm rfl (by simp) fun w3 b3 f3=>?_
 have f3':Fz w2 w3:=((Fr.refl _ w2).alloc _).jw f3 fun y hy he=>by subst he;omega
 have c0:iq w3 w2.heap.size 0=some (.slice a l.length c):=by rw[iw b3];rfl
 simp[c0]
 rw[<-hv]
 refine blo (hcell f3') hlen fun w4 f4=>?_
 have c4:iq w4 w2.heap.size 0=some (.slice a l.length c):=by rw[iw (f4.heap b3 fun h=>h)];rfl
 unfold qu at h
 generalize (wh 0 l && (decide (0 < l.length) && decide (l.length<=16)))=r at *
 cases r with
 | false=>
  simp
  exact h w4 ((f2'.trans f3').trans f4)
 | true=>
  simp[c4]
  rw[<-hv]
  refine auo (hcell (f3'.trans f4)) hlen fun w5 f5=>?_
  simp
  exact h w5 (((f2'.trans f3').trans f4).trans f5)
theorem amu{w:World}{v:Value}{l:List Mem}(hs:SlM w v l)(hlen:l.length<=1000000){K:KV}(h: ∀w' v',SlM w' v' l->Fz w w'->K (.agg (qc v').toArray) w'):ik P F.bh [.iface T.s (.agg #[v])] w K:=by
 rw[M.af.fcall]
 apply M.af.calls
 unfold M.af
 simp
 rw[auq]
 generalize hw1:w.alloc (.cells #[.int .i64 0,.int .u64 0,.int .u64 0,.int .u64 0,.int .u64 0,.int .u64 0,.int .i64 0,.bool false,.slice none 0 0,.slice none 0 0,.slice none 0 0] T.c)=w1
 have hb1:w1.heap[w.heap.size]? =some (.cells #[.int .i64 0,.int .u64 0,.int .u64 0,.int .u64 0,.int .u64 0,.int .u64 0,.int .i64 0,.bool false,.slice none 0 0,.slice none 0 0,.slice none 0 0] T.c (0,0)):=by rw[<-hw1,ja,if_pos rfl]
 have f1:Fz w w1:=by rw[<-hw1];exact (Fr.refl _ w).alloc _
 have hs1:=hs.fr f1 fun _ _ _ h=>h
 obtain⟨a,c,hv,_⟩:=id hs1
 have hcell: ∀{w'},Fz w1 w'->SlM w' v l:=fun f=>hs1.fr f fun _ _ _ h=>h
 rw[hv]
 simp
 have hbm:(w1.alloc (.cells #[.slice none 0 0] T.s)).heap[w1.heap.size]? =some (.cells #[.slice none 0 0] T.s (0,0)):=by rw[ja,if_pos rfl]
 refine kg (vs:=[.slice a l.length c]) hbm rfl (by simp) fun w3 b3 f3=>?_
 have f3':Fz w1 w3:=((Fr.refl _ w1).alloc _).jw f3 fun y hy he=>by subst he;omega
 have c0:iq w3 w1.heap.size 0=some (.slice a l.length c):=by rw[iw b3];rfl
 simp[c0]
 rw[<-hv]
 refine acr (hcell f3') hlen fun w4 v4 s4 n4 f4=>?_
 obtain⟨a4,c4,hv4,_⟩:=id s4
 have hb4:=(f3'.trans f4).heap hb1 fun h=>h
 rw[hv4]
 simp
 refine kg (vs:=qc (.slice a4 l.length c4)) hb4 rfl (by simp[qc]) fun w5 b5 f5=>?_
 rw[ayo b5]
 have e:Value.agg (qc (.slice a4 l.length c4)).toArray= .agg #[.int .i64 3,.int .u64 0,.int .u64 0,.int .u64 0,.int .u64 0,.int .u64 0,.int .i64 0,.bool false,.slice none 0 0,.slice a4 l.length c4,.slice none 0 0]:=rfl
 rw[e]
 simp
 refine kg (vs:=qc (.slice a4 l.length c4)) b5 rfl (by simp[qc]) fun w6 b6 f6=>?_
 rw[alb,ayo b6]
 simp
 have hlt1:w.heap.size < w1.heap.size:=(Array.getElem?_eq_some_iff.1 hb1).1
 have hs31:=f3'.size
 have hnn: ∀b,(Value.slice a4 l.length c4).ownBlock=some b->b≠w.heap.size:=fun b hb=>by
  have:=n4 b (by rw[hv4];exact hb)
  omega
 rw[hv4] at s4
 have s6:SlM w6 (.slice a4 l.length c4) l:=(s4.fr f5 fun b hb _=>hnn b hb).fr f6 fun b hb _=>hnn b hb
 have f46:Fz w w6:=(((f1.trans f3').trans f4).jw f5 fun y hy he=>by subst he;omega).jw f6 fun y hy he=>by subst he;omega
 exact h w6 _ s6 f46
theorem bet{w:World}{v v':Value}{l:List Mem}(s1:SlM w v l)(s2:SlM w v' l)(hlen:l.length<=1000000){K:KV}(h: ∀w',Fz w w'->K (.bool true) w'):ik P F.fc [.agg (qc v).toArray,.agg (qc v').toArray] w K:=by
 rw[M.dy.fcall]
 apply M.dy.calls
 unfold M.dy
 have hb1:(w.alloc (.cells (qc v).toArray T.c)).heap[w.heap.size]? =some (.cells (qc v).toArray T.c (0,0)):=by rw[ja,if_pos rfl]
 have f1:Fz w (w.alloc (.cells (qc v).toArray T.c)):=(Fr.refl _ w).alloc _
 simp
 generalize hw1:w.alloc (.cells (qc v).toArray T.c)=w1 at *
 have hsz:w1.heap.size=w.heap.size+1:=by rw[<-hw1,jg]
 have hb2:(w1.alloc (.cells (qc v').toArray T.c)).heap[w1.heap.size]? =some (.cells (qc v').toArray T.c (0,0)):=by rw[ja,if_pos rfl]
 have f2:Fz w1 (w1.alloc (.cells (qc v').toArray T.c)):=(Fr.refl _ w1).alloc _
 have hb1':=f2.heap hb1 fun h=>h
 rw[hsz] at hb2
 generalize w1.alloc (.cells (qc v').toArray T.c)=w2 at *
 have t1:SlM w2 v l:=(s1.fr f1 fun _ _ _ h=>h).fr f2 fun _ _ _ h=>h
 have t2:SlM w2 v' l:=(s2.fr f1 fun _ _ _ h=>h).fr f2 fun _ _ _ h=>h
 obtain⟨a,c,hv,_⟩:=id t1
 obtain⟨a',c',hv',_⟩:=id t2
 have p:=agh hb1'
 have q:=agh hb2
 have p0:=p 0 _ rfl
 have p1:=p 1 _ rfl
 have p2:=p 2 _ rfl
 have p3:=p 3 _ rfl
 have p4:=p 4 _ rfl
 have p5:=p 5 _ rfl
 have p6:=p 6 _ rfl
 have p7:=p 7 _ rfl
 have p8:=p 8 _ rfl
 have p9:=p 9 _ rfl
 have p10:=p 10 _ rfl
 have q0:=q 0 _ rfl
 have q1:=q 1 _ rfl
 have q2:=q 2 _ rfl
 have q3:=q 3 _ rfl
 have q4:=q 4 _ rfl
 have q5:=q 5 _ rfl
 have q6:=q 6 _ rfl
 have q7:=q 7 _ rfl
 have q8:=q 8 _ rfl
 have q9:=q 9 _ rfl
 have q10:=q 10 _ rfl
 have l2: ∀K,ldN P 2 w.heap.size 2 w2 K=K (.agg #[.int .u64 0,.int .u64 0]) w2:=fun K=>abf p2 p3 K
 have l4: ∀K,ldN P 2 w.heap.size 4 w2 K=K (.agg #[.int .u64 0,.int .u64 0]) w2:=fun K=>abf p4 p5 K
 have m2: ∀K,ldN P 2 (w.heap.size+1) 2 w2 K=K (.agg #[.int .u64 0,.int .u64 0]) w2:=fun K=>abf q2 q3 K
 have m4: ∀K,ldN P 2 (w.heap.size+1) 4 w2 K=K (.agg #[.int .u64 0,.int .u64 0]) w2:=fun K=>abf q4 q5 K
 have ebb: ∀{rx ry:Operand}{w:World}{K:KV},iy P .eql T.bs rx ry (.bool false) (.bool false) w K=K (.bool true) w:=fun{rx ry w K}=>by rw[aia (by kernel_rfl)];rfl
 rw[hv] at p9
 rw[hv'] at q9
 simp[p0,q0,p1,q1,l2,l4,m2,m4,bnc,p6,q6,p7,q7,ebb,p8,q8]
 refine azq ?_
 simp[p9,q9]
 rw[<-hv,<-hv']
 refine arn t1 t2 hlen fun w3 f3=>?_
 have r10:=agh (f3.heap hb1' fun h=>h) 10 _ rfl
 have u10:=agh (f3.heap hb2 fun h=>h) 10 _ rfl
 simp[r10,u10]
 refine aya ?_
 exact h w3 ((f1.trans f2).trans f3)
theorem avp{w:World}{v:Value}{l:List Mem}(hs:SlM w v l)(hlen:l.length<=1000000){K:KV}(h: ∀w',Fz w w'->K (.int .i64 (if qu l=true then 0 else 6)) w'):ik P F.dq [.agg (qc v).toArray] w K:=by
 rw[M.dx.fcall]
 apply M.dx.calls
 unfold M.dx
 have hb:(w.alloc (.cells (qc v).toArray T.c)).heap[w.heap.size]? =some (.cells (qc v).toArray T.c (0,0)):=by rw[ja,if_pos rfl]
 have f1:Fz w (w.alloc (.cells (qc v).toArray T.c)):=(Fr.refl _ w).alloc _
 simp
 generalize w.alloc (.cells (qc v).toArray T.c)=w1 at *
 have s1:=hs.fr f1 fun _ _ _ h=>h
 have hld: ∀{w'},Fz w1 w'->∀K,ldN P 11 w.heap.size 0 w' K=K (.agg (qc v).toArray) w':=fun f K=>ayo (f.heap hb fun h=>h) K
 rw[hld (Fr.refl _ _)]
 refine bgh s1 hlen fun w2 v2 s2 f2=>?_
 simp[bmo]
 have fd:Fz w2 (Eng.dr w2 1):=(Fr.refl _ w2).dr 1
 refine aqg (s2.fr fd fun _ _ _ h=>h) hlen fun w3 f3=>?_
 have f13:Fz w1 w3:=(f2.trans fd).trans f3
 cases hm:qu l with
 | false=>
  rw[hm] at h
  simp
  exact h w3 (f1.trans f13)
 | true=>
  rw[hm] at h
  simp
  rw[hld f13]
  simp
  refine amu (s2.fr (fd.trans f3) fun _ _ _ h=>h) hlen fun w4 v4 s4 f4=>?_
  rw[hld (f13.trans f4)]
  simp
  refine bet (s1.fr (f13.trans f4) fun _ _ _ h=>h) s4 hlen fun w5 f5=>?_
  simp
  exact h w5 (((f1.trans f13).trans f4).trans f5)
def kj(l:List Mem):Int:=if l=[] then 0 else if qu l=true then 0 else 6
theorem afk{w:World}{v:Value}{l:List Mem}(hs:SlM w v l)(hlen:l.length<=1000000){K:KV}(h: ∀w',Fz w w'->K (.int .i64 (kj l)) w'):ik P F.ew [v] w K:=by
 rw[M.fy.fcall]
 apply M.fy.calls
 unfold M.fy
 simp only[ir]
 rw[hs.jv (by kernel_rfl)]
 unfold kj at h
 by_cases h0:l=[]
 ·subst h0
  simp at h⊢
  exact h w (Fr.refl _ _)
 ·rw[if_neg h0] at h
  have hl: ¬(l.length:Int)=0:=by
   intro h'
   exact h0 (List.length_eq_zero_iff.1 (by omega))
  simp[hl]
  obtain⟨a,c,hv,_⟩:=id hs
  rw[hv]
  have e:Value.agg #[.int .i64 3,.int .u64 0,.int .u64 0,.int .u64 0,.int .u64 0,.int .u64 0,.int .i64 0,.bool false,.slice none 0 0,.slice a l.length c,.slice none 0 0]= .agg (qc (.slice a l.length c)).toArray:=rfl
  simp[h0]
  rw[e,<-hv]
  exact avp hs hlen h
class SD where
 k:IntKind
 el:TypeId
 sl:TypeId
 bah:FuncId
 bgw:FuncId
 bgk:FuncId
 ayd:FuncId
 ayk:FuncId
 bam:FuncId
 bjj:FuncId
 azr:FuncId
 bgq:FuncId
 bhd:FuncId
 bhv:FuncId
 azp:FuncId
 bgl:FuncId
 bgf:FuncId
 bhz:FuncId
 ayz:FuncId
abbrev T.az[SD]:TypeId:=SD.el
abbrev T.ba[SD]:TypeId:=SD.sl
abbrev F.ed[SD]:FuncId:=SD.bah
abbrev F.hz[SD]:FuncId:=SD.bgw
abbrev F.ib[SD]:FuncId:=SD.bgk
abbrev F.hm[SD]:FuncId:=SD.ayd
abbrev F.hw[SD]:FuncId:=SD.ayk
abbrev F.hx[SD]:FuncId:=SD.bam
abbrev F.ic[SD]:FuncId:=SD.bjj
abbrev F.hy[SD]:FuncId:=SD.azr
abbrev F.id[SD]:FuncId:=SD.bgq
abbrev F.ht[SD]:FuncId:=SD.bhd
abbrev F.hu[SD]:FuncId:=SD.bhv
abbrev F.hh[SD]:FuncId:=SD.azp
abbrev F.ie[SD]:FuncId:=SD.bgl
abbrev F.ig[SD]:FuncId:=SD.bgf
abbrev F.hv[SD]:FuncId:=SD.bhz
abbrev F.ih[SD]:FuncId:=SD.ayz
def M.fr[SD](c d:Value):QQ:=fun w K=>ik P F.hz [c] w fun a w=>ij (isB a true) (fun K'=>K' d w) w fun e w=>ij (isB a true) (ik P F.hz [e] w) w fun f w=>ij (isB a true) (unT P .not f w) w fun g w=>jb a g bF w fun b w=>ij (isB b false) (fun K'=>K' c w) w fun h w=>ij (isB b false) (fun K'=>K' d w) w fun i w=>ij (isB b false) (iy P .lss T.az (.tmp 13) (.tmp 14) h i w) w fun j w=>jb b bY j w fun l w=>K l w
def M.gi[SD](a:Value):QQ:=fun w K=>iy P .neq T.az (.tmp 3) (.tmp 4) a a w fun b w=>K b w
def M.ej.j4[SD](a:List Value)(b:Value)(d:KL):QQ:=fun w K=>im (fun e=>je w fun w=>w=w/\w=w/\w=w/\w=w/\ii (bK .sub T.d 36 (gv a 0) i1 w) w fun c=>w=w/\w=w/\ii (bK .sub T.d 39 (gv a 0) i1 w) w fun f=>ii (iaT P T.ba b f w) w fun g=>ii (ldT P T.az g w) w fun h=>w=w/\w=w/\ii (iaT P T.ba b (gv a 0) w) w fun i=>ii (ldT P T.az i w) w fun j=>ii (iaT P T.ba b (gv a 0) w) w fun l=>stT P T.az l h w fun _ w=>ip (bK .sub T.d 36 (gv a 0) i1 w) w c/\ip (fun K'=>K' (gv a 0) w) w (gv a 0)/\ip (fun K'=>K' b w) w b/\ii (iaT P T.ba b c w) w fun m=>stT P T.az m j w fun _ w=>e [] w) fun o w=>bK .sub T.d 31 (gv a 0) i1 w fun n w=>d [n] w
def M.ej.j3[SD](b:List Value)(d c:Value)(e f:KL):QQ:=fun w K=>im (fun g=>je w fun w=>w=w/\w=w/\ii (bT .gtr T.d 16 17 (gv b 0) d w) w fun a=>w=w/\ii (fun K'=>ij (isB a true) (fun K'=>K' c w) w K') w fun h=>ii (fun K'=>ij (isB a true) (fun K'=>K' (gv b 0) w) w K') w fun i=>ii (ij (isB a true) (iaT P T.ba h i w) w) w fun j=>ii (ij (isB a true) (ldT P T.az j w) w) w fun l=>ii (fun K'=>ij (isB a true) (fun K'=>K' c w) w K') w fun m=>ii (fun K'=>ij (isB a true) (fun K'=>K' (gv b 0) w) w K') w fun n=>ii (ij (isB a true) (bK .sub T.d 25 n i1 w) w) w fun o=>ii (ij (isB a true) (iaT P T.ba m o w) w) w fun p=>ii (ij (isB a true) (ldT P T.az p w) w) w fun q=>ij (isB a true) (ik P F.ed [l,q] w) w fun r w=>ii (jb a r bF w) w fun s=>il s (g [] w) (e [(gv b 0)] w)) fun t w=>M.ej.j4 b c f w K
def M.ej.j0[SD](a:List Value)(b c d:Value)(e:KL):QQ:=fun w K=>im (fun f=>bT .lss T.d 10 11 (gv a 1) b w fun g w=>il g (f [] w) (K (.tuple #[]) w)) fun n w=>im (fun h=>jo [(gv a 1)] w fun i j w=>M.ej.j3 j c d h i w K) fun l w=>bK .add T.d 13 (gv a 1) i1 w fun m w=>e [(gv l 0),m] w
def M.ej[SD](b a c:Value):QQ:=fun w K=>bK .add T.d 8 a i1 w fun d w=>jo [undef,d] w fun e f w=>M.ej.j0 f c a b e w K
def M.dp.j3[SD](a:Value)(d b:List Value)(c:Value)(f:KL):QQ:=fun w K=>je w fun w=>w=w/\w=w/\w=w/\ii (bT .add T.d 54 55 a (gv d 1) w) w fun g=>w=w/\w=w/\w=w/\ii (bT .add T.d 58 59 a (gv b 0) w) w fun e=>w=w/\w=w/\w=w/\ii (bT .add T.d 62 63 a (gv b 0) w) w fun h=>ii (iaT P T.ba c h w) w fun i=>ii (ldT P T.az i w) w fun j=>w=w/\w=w/\w=w/\ii (bT .add T.d 68 69 a (gv d 1) w) w fun l=>ii (iaT P T.ba c l w) w fun m=>ii (ldT P T.az m w) w fun n=>ii (iaT P T.ba c g w) w fun o=>stT P T.az o j w fun _ w=>ip (bT .add T.d 58 59 a (gv b 0) w) w e/\ip (fun K'=>K' (gv b 0) w) w (gv b 0)/\ip (fun K'=>K' a w) w a/\ip (fun K'=>K' c w) w c/\ii (iaT P T.ba c e w) w fun p=>stT P T.az p n w fun _ w=>f [(gv b 0),(gv b 0)] w
def M.dp.j2[SD](a:Value)(c:List Value)(b:Value)(d:List Value)(e:KL):QQ:=fun w K=>im (fun f=>je w fun w=>w=w/\w=w/\w=w/\ii (bT .add T.d 40 41 a (gv c 1) w) w fun g=>ii (iaT P T.ba b g w) w fun h=>ii (ldT P T.az h w) w fun i=>w=w/\w=w/\w=w/\ii (bT .add T.d 46 47 a (gv d 0) w) w fun j=>ii (iaT P T.ba b j w) w fun l=>ii (ldT P T.az l w) w fun m=>ik P F.ed [i,m] w fun n w=>ii (unT P .not n w) w fun o=>il o (K (.tuple #[]) w) (f [] w)) fun p w=>M.dp.j3 a c d b e w K
def M.dp.j1[SD](b f c d:Value)(g:List Value)(h:KL):QQ:=fun w K=>im (fun e=>je w fun w=>w=w/\ii (bK .add T.d 17 b i1 w) w fun i=>w=w/\ii (bT .lss T.d 18 19 i f w) w fun a=>w=w/\ii (fun K'=>ij (isB a true) (fun K'=>K' c w) w K') w fun j=>ii (fun K'=>ij (isB a true) (fun K'=>K' d w) w K') w fun l=>ii (fun K'=>ij (isB a true) (fun K'=>K' b w) w K') w fun m=>ii (ij (isB a true) (bT .add T.d 23 24 l m w) w) w fun n=>ii (ij (isB a true) (iaT P T.ba j n w) w) w fun o=>ii (ij (isB a true) (ldT P T.az o w) w) w fun p=>ii (fun K'=>ij (isB a true) (fun K'=>K' c w) w K') w fun q=>ii (fun K'=>ij (isB a true) (fun K'=>K' d w) w K') w fun r=>ii (fun K'=>ij (isB a true) (fun K'=>K' b w) w K') w fun s=>ii (ij (isB a true) (bT .add T.d 29 30 r s w) w) w fun t=>ii (ij (isB a true) (bK .add T.d 31 t i1 w) w) w fun u=>ii (ij (isB a true) (iaT P T.ba q u w) w) w fun v=>ii (ij (isB a true) (ldT P T.az v w) w) w fun x=>ij (isB a true) (ik P F.ed [p,x] w) w fun y w=>ii (jb a y bF w) w fun z=>il z (bK .add T.d 37 b i1 w fun A w=>e [A] w) (e [b] w)) fun B w=>M.dp.j2 d g c B h w K
def M.dp.j0[SD](a:List Value)(b d e:Value)(f:KL):QQ:=fun w K=>iy P .mul T.d (.const i2) (.tmp 11) i2 (gv a 1) w fun g w=>bK .add T.d 12 g i1 w fun c w=>im (fun h=>bT .geq T.d 14 15 c b w fun i w=>il i (K (.tuple #[]) w) (h [] w)) fun j w=>M.dp.j1 c b d e a f w K
def M.dp[SD](a b c d:Value):QQ:=fun w K=>jo [undef,b] w fun e f w=>M.dp.j0 f c a d e w K
def M.ed.j1[SD](a:List Value)(b:KL)(c d e:Value)(f:KL):QQ:=fun w K=>im (fun g=>bK .geq T.d 18 (gv a 0) i0 w fun h w=>il h (g [] w) (b [(gv a 0)] w)) fun l w=>im (fun i=>ik P F.hm [c,(gv a 0),d,e] w fun m w=>i [] w) fun n w=>bK .sub T.d 20 (gv a 0) i1 w fun j w=>f [j] w
def M.ed.j5[SD](a:Value)(b:List Value)(c:Value)(e:KL):QQ:=fun w K=>im (fun f=>je w fun w=>w=w/\w=w/\w=w/\w=w/\w=w/\ii (bT .add T.d 36 37 a (gv b 0) w) w fun d=>w=w/\w=w/\w=w/\ii (bT .add T.d 40 41 a (gv b 0) w) w fun g=>ii (iaT P T.ba c g w) w fun h=>ii (ldT P T.az h w) w fun i=>w=w/\w=w/\ii (iaT P T.ba c a w) w fun j=>ii (ldT P T.az j w) w fun l=>ii (iaT P T.ba c a w) w fun m=>stT P T.az m i w fun _ w=>ip (bT .add T.d 36 37 a (gv b 0) w) w d/\ip (fun K'=>K' (gv b 0) w) w (gv b 0)/\ip (fun K'=>K' a w) w a/\ip (fun K'=>K' c w) w c/\ii (iaT P T.ba c d w) w fun n=>stT P T.az n l w fun _ w=>ik P F.hm [c,i0,(gv b 0),a] w fun p w=>f [] w) fun q w=>bK .sub T.d 31 (gv b 0) i1 w fun o w=>e [o] w
def M.ed.j0[SD](b c d:Value):QQ:=fun w K=>bK .sub T.d 27 b i1 w fun e w=>jo [e] w fun f a w=>im (fun g=>bK .geq T.d 29 (gv a 0) i0 w fun h w=>il h (g [] w) (K (.tuple #[]) w)) fun i w=>M.ed.j5 c a d f w K
def M.ed[SD](c a d:Value):QQ:=fun w K=>bT .sub T.d 12 13 d a w fun b w=>im (fun e=>bK .sub T.d 15 b i1 w fun f w=>iy P .quo T.d (.tmp 16) (.const i2) f i2 w fun g w=>jo [g] w fun h i w=>M.ed.j1 i e c b a h w K) fun j w=>M.ed.j0 b a c w K
def M.bq.j1[SD](b:List Value)(d c e:Value)(f g:KL):QQ:=fun w K=>im (fun h=>je w fun w=>w=w/\w=w/\ii (bT .leq T.d 30 31 (gv b 0) d w) w fun a=>w=w/\ii (fun K'=>ij (isB a true) (fun K'=>K' c w) w K') w fun i=>ii (fun K'=>ij (isB a true) (fun K'=>K' (gv b 0) w) w K') w fun j=>ii (ij (isB a true) (iaT P T.ba i j w) w) w fun l=>ii (ij (isB a true) (ldT P T.az l w) w) w fun m=>ii (fun K'=>ij (isB a true) (fun K'=>K' c w) w K') w fun n=>ii (fun K'=>ij (isB a true) (fun K'=>K' e w) w K') w fun o=>ii (ij (isB a true) (iaT P T.ba n o w) w) w fun p=>ii (ij (isB a true) (ldT P T.az p w) w) w fun q=>ij (isB a true) (ik P F.ed [m,q] w) w fun r w=>ii (jb a r bF w) w fun s=>il s (h [] w) (f [(gv b 0)] w)) fun u w=>bK .add T.d 44 (gv b 0) i1 w fun t w=>g [t] w
def M.bq.j4[SD](d b:List Value)(c e:Value)(f g:KL):QQ:=fun w K=>im (fun h=>je w fun w=>w=w/\w=w/\ii (bT .leq T.d 46 47 (gv d 0) (gv b 0) w) w fun a=>w=w/\ii (fun K'=>ij (isB a true) (fun K'=>K' c w) w K') w fun i=>ii (fun K'=>ij (isB a true) (fun K'=>K' (gv b 0) w) w K') w fun j=>ii (ij (isB a true) (iaT P T.ba i j w) w) w fun l=>ii (ij (isB a true) (ldT P T.az l w) w) w fun m=>ii (fun K'=>ij (isB a true) (fun K'=>K' c w) w K') w fun n=>ii (fun K'=>ij (isB a true) (fun K'=>K' e w) w K') w fun o=>ii (ij (isB a true) (iaT P T.ba n o w) w) w fun p=>ii (ij (isB a true) (ldT P T.az p w) w) w fun q=>ij (isB a true) (ik P F.ed [m,q] w) w fun r w=>ii (ij (isB a true) (unT P .not r w) w) w fun s=>ii (jb a s bF w) w fun t=>il t (h [] w) (f [(gv b 0)] w)) fun v w=>bK .sub T.d 61 (gv b 0) i1 w fun u w=>g [u] w
def M.bq.j10[SD](b d:List Value)(c e:Value)(f g:KL):QQ:=fun w K=>im (fun h=>je w fun w=>w=w/\w=w/\ii (bT .leq T.d 99 100 (gv b 0) (gv d 1) w) w fun a=>w=w/\ii (fun K'=>ij (isB a true) (fun K'=>K' c w) w K') w fun i=>ii (fun K'=>ij (isB a true) (fun K'=>K' (gv b 0) w) w K') w fun j=>ii (ij (isB a true) (iaT P T.ba i j w) w) w fun l=>ii (ij (isB a true) (ldT P T.az l w) w) w fun m=>ii (fun K'=>ij (isB a true) (fun K'=>K' c w) w K') w fun n=>ii (fun K'=>ij (isB a true) (fun K'=>K' e w) w K') w fun o=>ii (ij (isB a true) (iaT P T.ba n o w) w) w fun p=>ii (ij (isB a true) (ldT P T.az p w) w) w fun q=>ij (isB a true) (ik P F.ed [m,q] w) w fun r w=>ii (jb a r bF w) w fun s=>il s (h [] w) (f [(gv b 0)] w)) fun u w=>bK .add T.d 113 (gv b 0) i1 w fun t w=>g [t] w
def M.bq.j13[SD](d b:List Value)(c e:Value)(f g:KL):QQ:=fun w K=>im (fun h=>je w fun w=>w=w/\w=w/\ii (bT .leq T.d 115 116 (gv d 0) (gv b 0) w) w fun a=>w=w/\ii (fun K'=>ij (isB a true) (fun K'=>K' c w) w K') w fun i=>ii (fun K'=>ij (isB a true) (fun K'=>K' (gv b 0) w) w K') w fun j=>ii (ij (isB a true) (iaT P T.ba i j w) w) w fun l=>ii (ij (isB a true) (ldT P T.az l w) w) w fun m=>ii (fun K'=>ij (isB a true) (fun K'=>K' c w) w K') w fun n=>ii (fun K'=>ij (isB a true) (fun K'=>K' e w) w K') w fun o=>ii (ij (isB a true) (iaT P T.ba n o w) w) w fun p=>ii (ij (isB a true) (ldT P T.az p w) w) w fun q=>ij (isB a true) (ik P F.ed [m,q] w) w fun r w=>ii (ij (isB a true) (unT P .not r w) w) w fun s=>ii (jb a s bF w) w fun t=>il t (h [] w) (f [(gv b 0)] w)) fun v w=>bK .sub T.d 130 (gv b 0) i1 w fun u w=>g [u] w
def M.bq.j15[SD](a:Value)(b c:List Value)(d:KL):QQ:=fun w K=>je w fun w=>w=w/\w=w/\w=w/\w=w/\w=w/\w=w/\ii (iaT P T.ba a (gv b 0) w) w fun e=>ii (ldT P T.az e w) w fun f=>w=w/\w=w/\ii (iaT P T.ba a (gv c 0) w) w fun g=>ii (ldT P T.az g w) w fun h=>ii (iaT P T.ba a (gv c 0) w) w fun i=>stT P T.az i f w fun _ w=>ip (fun K'=>K' (gv b 0) w) w (gv b 0)/\ip (fun K'=>K' a w) w a/\ii (iaT P T.ba a (gv b 0) w) w fun j=>stT P T.az j h w fun _ w=>bK .add T.d 149 (gv c 0) i1 w fun l w=>bK .sub T.d 151 (gv b 0) i1 w fun m w=>d [l,m] w
def M.bq.j9[SD](d a:List Value)(c e:Value)(f g:KL):QQ:=fun w K=>im (fun h=>jo [(gv d 1)] w fun i j w=>M.bq.j13 a j c e h i w K) fun b w=>im (fun l=>bT .gtr T.d 132 133 (gv a 0) (gv b 0) w fun m w=>il m (f [(gv a 0),(gv b 0)] w) (l [] w)) fun n w=>M.bq.j15 c b a g w K
def M.bq.j7[SD](a b:Value)(c:List Value):QQ:=fun w K=>je w fun w=>w=w/\w=w/\w=w/\w=w/\w=w/\w=w/\ii (iaT P T.ba a b w) w fun d=>ii (ldT P T.az d w) w fun e=>w=w/\w=w/\ii (iaT P T.ba a (gv c 1) w) w fun f=>ii (ldT P T.az f w) w fun g=>ii (iaT P T.ba a (gv c 1) w) w fun h=>stT P T.az h e w fun _ w=>ip (fun K'=>K' b w) w b/\ip (fun K'=>K' a w) w a/\ii (iaT P T.ba a b w) w fun i=>stT P T.az i g w fun _ w=>K (.tuple #[(gv c 1),bF]) w
def M.bq.j6[SD](a:Value)(b c:List Value)(d:Value):QQ:=fun w K=>je w fun w=>w=w/\w=w/\w=w/\w=w/\w=w/\w=w/\ii (iaT P T.ba a (gv b 0) w) w fun f=>ii (ldT P T.az f w) w fun g=>w=w/\w=w/\ii (iaT P T.ba a (gv c 0) w) w fun h=>ii (ldT P T.az h w) w fun i=>ii (iaT P T.ba a (gv c 0) w) w fun j=>stT P T.az j g w fun _ w=>ip (fun K'=>K' (gv b 0) w) w (gv b 0)/\ip (fun K'=>K' a w) w a/\ii (iaT P T.ba a (gv b 0) w) w fun l=>stT P T.az l i w fun _ w=>bK .add T.d 95 (gv c 0) i1 w fun m w=>bK .sub T.d 97 (gv b 0) i1 w fun n w=>im (fun o=>jo [m,n] w fun p e w=>im (fun q=>jo [(gv e 0)] w fun r s w=>M.bq.j10 s e a d q r w K) fun t w=>M.bq.j9 e t a d o p w K) fun u w=>M.bq.j7 a d u w K
def M.bq.j3[SD](d b:List Value)(a c:Value):QQ:=fun w K=>im (fun e=>bT .gtr T.d 63 64 (gv d 0) (gv b 0) w fun f w=>il f (je w fun w=>w=w/\w=w/\w=w/\w=w/\w=w/\w=w/\ii (iaT P T.ba a c w) w fun g=>ii (ldT P T.az g w) w fun h=>w=w/\w=w/\ii (iaT P T.ba a (gv b 0) w) w fun i=>ii (ldT P T.az i w) w fun j=>ii (iaT P T.ba a (gv b 0) w) w fun l=>stT P T.az l h w fun _ w=>ip (fun K'=>K' c w) w c/\ip (fun K'=>K' a w) w a/\ii (iaT P T.ba a c w) w fun m=>stT P T.az m j w fun _ w=>K (.tuple #[(gv b 0),bY]) w) (e [i0,bF] w)) fun n w=>M.bq.j6 a b d c w K
def M.bq[SD](a b f c:Value):QQ:=fun w K=>je w fun w=>w=w/\w=w/\w=w/\w=w/\w=w/\w=w/\ii (iaT P T.ba a c w) w fun g=>ii (ldT P T.az g w) w fun h=>w=w/\w=w/\ii (iaT P T.ba a b w) w fun i=>ii (ldT P T.az i w) w fun j=>ii (iaT P T.ba a b w) w fun l=>stT P T.az l h w fun _ w=>ip (fun K'=>K' c w) w c/\ip (fun K'=>K' a w) w a/\ii (iaT P T.ba a c w) w fun m=>stT P T.az m j w fun _ w=>bK .add T.d 26 b i1 w fun n w=>bK .sub T.d 28 f i1 w fun d w=>im (fun o=>jo [n] w fun p q w=>M.bq.j1 q d a b o p w K) fun e w=>im (fun r=>jo [d] w fun s t w=>M.bq.j4 e t a b r s w K) fun u w=>M.bq.j3 e u a b w K
def M.ek.j3[SD](b d:List Value)(c e:Value)(f g:KL):QQ:=fun w K=>im (fun h=>je w fun w=>w=w/\w=w/\ii (bT .leq T.d 29 30 (gv b 0) (gv d 1) w) w fun a=>w=w/\ii (fun K'=>ij (isB a true) (fun K'=>K' c w) w K') w fun i=>ii (fun K'=>ij (isB a true) (fun K'=>K' e w) w K') w fun j=>ii (ij (isB a true) (iaT P T.ba i j w) w) w fun l=>ii (ij (isB a true) (ldT P T.az l w) w) w fun m=>ii (fun K'=>ij (isB a true) (fun K'=>K' c w) w K') w fun n=>ii (fun K'=>ij (isB a true) (fun K'=>K' (gv b 0) w) w K') w fun o=>ii (ij (isB a true) (iaT P T.ba n o w) w) w fun p=>ii (ij (isB a true) (ldT P T.az p w) w) w fun q=>ij (isB a true) (ik P F.ed [m,q] w) w fun r w=>ii (ij (isB a true) (unT P .not r w) w) w fun s=>ii (jb a s bF w) w fun t=>il t (h [] w) (f [(gv b 0)] w)) fun v w=>bK .add T.d 44 (gv b 0) i1 w fun u w=>g [u] w
def M.ek.j6[SD](d b:List Value)(c e:Value)(f g:KL):QQ:=fun w K=>im (fun h=>je w fun w=>w=w/\w=w/\ii (bT .leq T.d 46 47 (gv d 0) (gv b 0) w) w fun a=>w=w/\ii (fun K'=>ij (isB a true) (fun K'=>K' c w) w K') w fun i=>ii (fun K'=>ij (isB a true) (fun K'=>K' e w) w K') w fun j=>ii (ij (isB a true) (iaT P T.ba i j w) w) w fun l=>ii (ij (isB a true) (ldT P T.az l w) w) w fun m=>ii (fun K'=>ij (isB a true) (fun K'=>K' c w) w K') w fun n=>ii (fun K'=>ij (isB a true) (fun K'=>K' (gv b 0) w) w K') w fun o=>ii (ij (isB a true) (iaT P T.ba n o w) w) w fun p=>ii (ij (isB a true) (ldT P T.az p w) w) w fun q=>ij (isB a true) (ik P F.ed [m,q] w) w fun r w=>ii (jb a r bF w) w fun s=>il s (h [] w) (f [(gv b 0)] w)) fun u w=>bK .sub T.d 60 (gv b 0) i1 w fun t w=>g [t] w
def M.ek.j8[SD](a:Value)(b c:List Value)(d:KL):QQ:=fun w K=>je w fun w=>w=w/\w=w/\w=w/\w=w/\w=w/\w=w/\ii (iaT P T.ba a (gv b 0) w) w fun e=>ii (ldT P T.az e w) w fun f=>w=w/\w=w/\ii (iaT P T.ba a (gv c 0) w) w fun g=>ii (ldT P T.az g w) w fun h=>ii (iaT P T.ba a (gv c 0) w) w fun i=>stT P T.az i f w fun _ w=>ip (fun K'=>K' (gv b 0) w) w (gv b 0)/\ip (fun K'=>K' a w) w a/\ii (iaT P T.ba a (gv b 0) w) w fun j=>stT P T.az j h w fun _ w=>bK .add T.d 79 (gv c 0) i1 w fun l w=>bK .sub T.d 81 (gv b 0) i1 w fun m w=>d [l,m] w
def M.ek.j2[SD](d a:List Value)(c e:Value)(f g:KL):QQ:=fun w K=>im (fun h=>jo [(gv d 1)] w fun i j w=>M.ek.j6 a j c e h i w K) fun b w=>im (fun l=>bT .gtr T.d 62 63 (gv a 0) (gv b 0) w fun m w=>il m (f [(gv a 0),(gv b 0)] w) (l [] w)) fun n w=>M.ek.j8 c b a g w K
def M.ek[SD](a b e c:Value):QQ:=fun w K=>je w fun w=>w=w/\w=w/\w=w/\w=w/\w=w/\w=w/\ii (iaT P T.ba a c w) w fun f=>ii (ldT P T.az f w) w fun g=>w=w/\w=w/\ii (iaT P T.ba a b w) w fun h=>ii (ldT P T.az h w) w fun i=>ii (iaT P T.ba a b w) w fun j=>stT P T.az j g w fun _ w=>ip (fun K'=>K' c w) w c/\ip (fun K'=>K' a w) w a/\ii (iaT P T.ba a c w) w fun l=>stT P T.az l i w fun _ w=>bK .add T.d 25 b i1 w fun m w=>bK .sub T.d 27 e i1 w fun n w=>im (fun o=>jo [m,n] w fun p d w=>im (fun q=>jo [(gv d 0)] w fun r s w=>M.ek.j3 s d a b q r w K) fun t w=>M.ek.j2 d t a b o p w K) fun u w=>K (gv u 0) w
def M.bc.j5[SD](b:List Value)(d c:Value)(e f:KL):QQ:=fun w K=>im (fun g=>je w fun w=>w=w/\w=w/\ii (bT .lss T.d 17 18 (gv b 0) d w) w fun a=>w=w/\ii (fun K'=>ij (isB a true) (fun K'=>K' c w) w K') w fun h=>ii (fun K'=>ij (isB a true) (fun K'=>K' (gv b 0) w) w K') w fun i=>ii (ij (isB a true) (iaT P T.ba h i w) w) w fun j=>ii (ij (isB a true) (ldT P T.az j w) w) w fun l=>ii (fun K'=>ij (isB a true) (fun K'=>K' c w) w K') w fun m=>ii (fun K'=>ij (isB a true) (fun K'=>K' (gv b 0) w) w K') w fun n=>ii (ij (isB a true) (bK .sub T.d 26 n i1 w) w) w fun o=>ii (ij (isB a true) (iaT P T.ba m o w) w) w fun p=>ii (ij (isB a true) (ldT P T.az p w) w) w fun q=>ij (isB a true) (ik P F.ed [l,q] w) w fun r w=>ii (ij (isB a true) (unT P .not r w) w) w fun s=>ii (jb a s bF w) w fun t=>il t (g [] w) (e [(gv b 0)] w)) fun v w=>bK .add T.d 33 (gv b 0) i1 w fun u w=>f [u] w
def M.bc.j13[SD](a:List Value)(b:Value)(d:KL):QQ:=fun w K=>je w fun w=>w=w/\w=w/\w=w/\w=w/\ii (bK .sub T.d 82 (gv a 0) i1 w) w fun c=>w=w/\w=w/\ii (bK .sub T.d 85 (gv a 0) i1 w) w fun e=>ii (iaT P T.ba b e w) w fun f=>ii (ldT P T.az f w) w fun g=>w=w/\w=w/\ii (iaT P T.ba b (gv a 0) w) w fun h=>ii (ldT P T.az h w) w fun i=>ii (iaT P T.ba b (gv a 0) w) w fun j=>stT P T.az j g w fun _ w=>ip (bK .sub T.d 82 (gv a 0) i1 w) w c/\ip (fun K'=>K' (gv a 0) w) w (gv a 0)/\ip (fun K'=>K' b w) w b/\ii (iaT P T.ba b c w) w fun l=>stT P T.az l i w fun _ w=>d [] w
def M.bc.j11[SD](b:Value)(a:List Value)(c d:KL):QQ:=fun w K=>im (fun e=>im (fun f=>je w fun w=>w=w/\w=w/\ii (iaT P T.ba b (gv a 0) w) w fun g=>ii (ldT P T.az g w) w fun h=>w=w/\w=w/\ii (bK .sub T.d 73 (gv a 0) i1 w) w fun i=>ii (iaT P T.ba b i w) w fun j=>ii (ldT P T.az j w) w fun l=>ik P F.ed [h,l] w fun m w=>ii (unT P .not m w) w fun n=>il n (c [(gv a 0)] w) (f [] w)) fun p w=>M.bc.j13 a b e w K) fun q w=>bK .sub T.d 66 (gv a 0) i1 w fun o w=>d [o] w
def M.bc.j17[SD](a:List Value)(b:Value)(d:KL):QQ:=fun w K=>je w fun w=>w=w/\w=w/\w=w/\w=w/\ii (bK .sub T.d 120 (gv a 0) i1 w) w fun c=>w=w/\w=w/\ii (bK .sub T.d 123 (gv a 0) i1 w) w fun e=>ii (iaT P T.ba b e w) w fun f=>ii (ldT P T.az f w) w fun g=>w=w/\w=w/\ii (iaT P T.ba b (gv a 0) w) w fun h=>ii (ldT P T.az h w) w fun i=>ii (iaT P T.ba b (gv a 0) w) w fun j=>stT P T.az j g w fun _ w=>ip (bK .sub T.d 120 (gv a 0) i1 w) w c/\ip (fun K'=>K' (gv a 0) w) w (gv a 0)/\ip (fun K'=>K' b w) w b/\ii (iaT P T.ba b c w) w fun l=>stT P T.az l i w fun _ w=>d [] w
def M.bc.j15[SD](b:Value)(a:List Value)(c:KL)(d e f:List Value)(g:KL):QQ:=fun w K=>im (fun h=>im (fun i=>je w fun w=>w=w/\w=w/\ii (iaT P T.ba b (gv a 0) w) w fun j=>ii (ldT P T.az j w) w fun l=>w=w/\w=w/\ii (bK .sub T.d 111 (gv a 0) i1 w) w fun m=>ii (iaT P T.ba b m w) w fun n=>ii (ldT P T.az n w) w fun o=>ik P F.ed [l,o] w fun p w=>ii (unT P .not p w) w fun q=>il q (c [(gv d 0),(gv e 0),(gv f 0),(gv a 0)] w) (i [] w)) fun s w=>M.bc.j17 a b h w K) fun t w=>bK .add T.d 104 (gv a 0) i1 w fun r w=>g [r] w
def M.bc.j14[SD](a:List Value)(f:Value)(b:KL)(c d e:List Value)(g:Value)(h:KL):QQ:=fun w K=>im (fun i=>bT .lss T.d 101 102 (gv a 0) f w fun j w=>il j (i [] w) (b [(gv c 0),(gv d 0),(gv e 0),(gv a 0)] w)) fun l w=>M.bc.j15 g a b c d e h w K
def M.bc.j9[SD](b:Value)(a:List Value)(c:KL)(d e:List Value)(f:Value)(g:List Value):QQ:=fun w K=>bT .sub T.d 95 96 b (gv a 0) w fun h w=>bK .geq T.d 97 h i2 w fun i w=>il i (bK .add T.d 99 (gv a 0) i1 w fun j w=>jo [j] w fun l m w=>M.bc.j14 m b c a d e f l w K) (c [(gv a 0),(gv d 0),(gv e 0),(gv g 3)] w)
def M.bc.j8[SD](a:List Value)(b g:Value)(e:List Value)(h:Value)(i:KL)(j:List Value):QQ:=fun w K=>je w fun w=>w=w/\w=w/\w=w/\w=w/\ii (bK .sub T.d 45 (gv a 0) i1 w) w fun f=>w=w/\w=w/\ii (bK .sub T.d 48 (gv a 0) i1 w) w fun l=>ii (iaT P T.ba b l w) w fun m=>ii (ldT P T.az m w) w fun n=>w=w/\w=w/\ii (iaT P T.ba b (gv a 0) w) w fun o=>ii (ldT P T.az o w) w fun p=>ii (iaT P T.ba b (gv a 0) w) w fun q=>stT P T.az q n w fun _ w=>ip (bK .sub T.d 45 (gv a 0) i1 w) w f/\ip (fun K'=>K' (gv a 0) w) w (gv a 0)/\ip (fun K'=>K' b w) w b/\ii (iaT P T.ba b f w) w fun r=>stT P T.az r p w fun _ w=>im (fun c=>bT .sub T.d 58 59 (gv a 0) g w fun s w=>bK .geq T.d 60 s i2 w fun t w=>il t (bK .sub T.d 62 (gv a 0) i1 w fun u w=>jo [u] w fun v d w=>im (fun x=>bK .geq T.d 64 (gv d 0) i1 w fun y w=>il y (x [] w) (c [(gv d 0)] w)) fun A w=>M.bc.j11 b d c v w K) (c [(gv e 2)] w)) fun z w=>M.bc.j9 h a i j z b e w K
def M.bc.j7[SD](a b:Value)(c d:List Value)(e:Value)(f:List Value)(g:KL):QQ:=fun w K=>im (fun h=>bT .sub T.d 38 39 a b w fun i w=>bK .lss T.d 40 i (.int .i64 50) w fun j w=>il j (K bF w) (h [(gv c 0)] w)) fun l w=>M.bc.j8 d e b f a g l w K
def M.bc.j2[SD](a:List Value)(c d f:Value)(g:KL):QQ:=fun w K=>im (fun h=>im (fun i=>jo [(gv a 0)] w fun j l w=>M.bc.j5 l c d i j w K) fun e w=>im (fun m=>bT .eql T.d 35 36 (gv e 0) c w fun n w=>il n (K bY w) (m [(gv a 1)] w)) fun o w=>M.bc.j7 c f o e d a h w K) fun b w=>bK .add T.d 15 (gv a 4) i1 w fun p w=>g [(gv b 0),(gv b 1),(gv b 2),(gv b 3),p] w
def M.bc.j1[SD](a:List Value)(b:KL)(c d e:Value)(f:KL):QQ:=fun w K=>im (fun g=>bK .lss T.d 13 (gv a 4) (.int .i64 5) w fun h w=>il h (g [] w) (b [(gv a 4),(gv a 0),(gv a 1),(gv a 2),(gv a 3)] w)) fun i w=>M.bc.j2 a c d e f w K
def M.bc[SD](b a c:Value):QQ:=fun w K=>bK .add T.d 11 a i1 w fun d w=>im (fun e=>jo [d,bF,undef,undef,i0] w fun f g w=>M.bc.j1 g e c b a f w K) fun h w=>K bF w
def M.fg.j3[SD](c:Value)(a:List Value)(b:Value)(d:List Value)(f:KL):QQ:=fun w K=>je w fun w=>w=w/\w=w/\w=w/\w=w/\w=w/\ii (bT .add T.d 50 51 c (gv a 0) w) w fun e=>w=w/\w=w/\w=w/\ii (bT .add T.d 54 55 c (gv a 0) w) w fun g=>ii (iaT P T.ba b g w) w fun h=>ii (ldT P T.az h w) w fun i=>w=w/\w=w/\ii (iaT P T.ba b (gv d 1) w) w fun j=>ii (ldT P T.az j w) w fun l=>ii (iaT P T.ba b (gv d 1) w) w fun m=>stT P T.az m i w fun _ w=>ip (bT .add T.d 50 51 c (gv a 0) w) w e/\ip (fun K'=>K' (gv a 0) w) w (gv a 0)/\ip (fun K'=>K' c w) w c/\ip (fun K'=>K' b w) w b/\ii (iaT P T.ba b e w) w fun n=>stT P T.az n l w fun _ w=>f [(gv a 0)] w
def M.fg.j1[SD](e f b g h:Value)(c:List Value)(i:KL):QQ:=fun w K=>im (fun j=>ik P F.db [e] w fun l w=>bK .sub T.bu 37 f (.int .u64 1) w fun m w=>iy P .and T.bu (.tmp 36) (.tmp 38) l m w fun n w=>cvT P T.bu T.d n w fun a w=>im (fun d=>bT .geq T.d 41 42 a b w fun o w=>il o (bT .sub T.d 44 45 a b w fun p w=>d [p] w) (d [a] w)) fun q w=>M.fg.j3 g q h c j w K) fun r w=>bK .add T.d 34 (gv c 1) i1 w fun s w=>i [(gv r 0),s] w
def M.fg.j0[SD](a b:Value)(c:List Value)(d e f:Value)(g:KL):QQ:=fun w K=>im (fun h=>iy P .quo T.d (.tmp 28) (.const (.int .i64 4)) a (.int .i64 4) w fun i w=>iy P .mul T.d (.tmp 29) (.const i2) i i2 w fun j w=>bT .add T.d 27 30 b j w fun l w=>bK .add T.d 31 l i1 w fun m w=>bT .leq T.d 26 32 (gv c 1) m w fun n w=>il n (h [] w) (K (.tuple #[]) w)) fun o w=>M.fg.j1 d e a b f c g w K
def M.fg[SD](d b e:Value):QQ:=fun w K=>bT .sub T.d 11 12 e b w fun a w=>bK .geq T.d 14 a (.int .i64 8) w fun f w=>il f (cvT P T.d T.ai a w fun g w=>alT P T.ai w fun c w=>stT P T.ai c g w fun _ w=>ik P F.da [a] w fun h w=>iy P .quo T.d (.tmp 21) (.const (.int .i64 4)) a (.int .i64 4) w fun i w=>iy P .mul T.d (.tmp 22) (.const i2) i i2 w fun j w=>bT .add T.d 20 23 b j w fun l w=>bK .sub T.d 24 l i1 w fun m w=>jo [undef,m] w fun n o w=>M.fg.j0 a b o c h d n w K) (K (.tuple #[]) w)
def M.gj[SD](c a b d:Value):QQ:=fun w K=>im (fun e=>je w fun w=>w=w/\w=w/\ii (iaT P T.ba c b w) w fun f=>ii (ldT P T.az f w) w fun g=>w=w/\w=w/\ii (iaT P T.ba c a w) w fun h=>ii (ldT P T.az h w) w fun i=>ik P F.ed [g,i] w fun j w=>il j (iu d w fun l w=>ldT P T.d l w fun m w=>bK .add T.d 21 m i1 w fun n w=>iu d w fun o w=>stT P T.d o n w fun _ w=>K (.tuple #[b,a]) w) (e [i0,i0] w)) fun p w=>K (.tuple #[a,b]) w
def M.gk[SD](a f g h b:Value):QQ:=fun w K=>ik P F.ht [a,f,g,b] w fun c w=>exT P c 0 w fun i w=>exT P c 1 w fun j w=>ik P F.ht [a,j,h,b] w fun d w=>exT P d 0 w fun l w=>exT P d 1 w fun n w=>ik P F.ht [a,i,l,b] w fun e w=>exT P e 0 w fun o w=>exT P e 1 w fun m w=>K m w
def M.fs[SD](b a c:Value):QQ:=fun w K=>bK .sub T.d 8 a i1 w fun d w=>bK .add T.d 11 a i1 w fun e w=>ik P F.hu [b,d,a,e,c] w fun f w=>K f w
def M.fo.j0[SD](c:Value)(a:List Value):QQ:=fun w K=>ldT P T.d c w fun b w=>bK .eql T.d 49 b i0 w fun d w=>il d (K (.tuple #[(gv a 1),i1]) w) (bK .eql T.d 49 b (.int .i64 12) w fun e w=>il e (K (.tuple #[(gv a 1),i2]) w) (K (.tuple #[(gv a 1),i0]) w))
def M.fo[SD](d e l:Value):QQ:=fun w K=>bT .sub T.d 13 14 l e w fun a w=>alT P T.d w fun b w=>iy P .quo T.d (.tmp 17) (.const (.int .i64 4)) a (.int .i64 4) w fun m w=>iy P .mul T.d (.tmp 18) (.const i1) m i1 w fun n w=>bT .add T.d 16 19 e n w fun f w=>iy P .quo T.d (.tmp 22) (.const (.int .i64 4)) a (.int .i64 4) w fun o w=>iy P .mul T.d (.tmp 23) (.const i2) o i2 w fun p w=>bT .add T.d 21 24 e p w fun g w=>iy P .quo T.d (.tmp 27) (.const (.int .i64 4)) a (.int .i64 4) w fun q w=>iy P .mul T.d (.tmp 28) (.const (.int .i64 3)) q (.int .i64 3) w fun r w=>bT .add T.d 26 29 e r w fun h w=>im (fun i=>bK .geq T.d 31 a (.int .i64 8) w fun s w=>il s (im (fun j=>bK .geq T.d 33 a (.int .i64 50) w fun t w=>il t (ik P F.hh [d,f,b] w fun u w=>ik P F.hh [d,g,b] w fun v w=>ik P F.hh [d,h,b] w fun x w=>j [u,v,x] w) (j [f,g,h] w)) fun c w=>ik P F.hu [d,(gv c 0),(gv c 1),(gv c 2),b] w fun y w=>i [(gv c 0),y,(gv c 2)] w) (i [f,g,h] w)) fun z w=>M.fo.j0 b z w K
def M.fu.j1[SD](b:Value)(a:List Value)(c:KL):QQ:=fun w K=>je w fun w=>w=w/\w=w/\w=w/\w=w/\w=w/\w=w/\ii (iaT P T.ba b (gv a 1) w) w fun d=>ii (ldT P T.az d w) w fun e=>w=w/\w=w/\ii (iaT P T.ba b (gv a 0) w) w fun f=>ii (ldT P T.az f w) w fun g=>ii (iaT P T.ba b (gv a 0) w) w fun h=>stT P T.az h e w fun _ w=>ip (fun K'=>K' (gv a 1) w) w (gv a 1)/\ip (fun K'=>K' b w) w b/\ii (iaT P T.ba b (gv a 1) w) w fun i=>stT P T.az i g w fun _ w=>bK .add T.d 28 (gv a 0) i1 w fun j w=>bK .sub T.d 30 (gv a 1) i1 w fun l w=>c [j,l] w
def M.fu[SD](b c d:Value):QQ:=fun w K=>bK .sub T.d 9 d i1 w fun e w=>jo [c,e] w fun f a w=>im (fun g=>bT .lss T.d 11 12 (gv a 0) (gv a 1) w fun h w=>il h (g [] w) (K (.tuple #[]) w)) fun i w=>M.fu.j1 b a f w K
def M.cc.j6[SD](j:Value)(b d c:List Value)(l:Value)(e:List Value)(m:KL):QQ:=fun w K=>ik P F.hx [j,(gv b 1),(gv d 13),(gv c 0)] w fun n w=>exT P n 0 w fun a w=>exT P n 1 w fun f w=>bT .sub T.d 103 104 a (gv b 1) w fun g w=>bT .sub T.d 106 107 (gv d 13) a w fun h w=>iy P .quo T.d (.tmp 109) (.const (.int .i64 8)) l (.int .i64 8) w fun i w=>bT .lss T.d 111 112 g h w fun o w=>il o (bT .geq T.d 114 115 g i w fun p w=>ik P F.hv [j,(gv b 1),a,(gv e 0)] w fun t w=>bK .add T.d 122 a i1 w fun q w=>m [l,(gv e 0),(gv c 0),(gv c 1),(gv b 0),q,a,f,f,g,h,i,p,(gv d 13)] w) (bT .geq T.d 124 125 h i w fun r w=>bK .add T.d 128 a i1 w fun s w=>ik P F.hv [j,s,(gv d 13),(gv e 0)] w fun u w=>m [l,(gv e 0),(gv c 0),(gv c 1),(gv b 0),(gv b 1),a,f,f,g,h,i,r,a] w)
def M.cc.j5[SD](a:List Value)(d:Value)(c:List Value)(e:KL)(f:Value)(g:List Value):QQ:=fun w K=>im (fun i=>je w fun w=>w=w/\ii (bK .gtr T.d 73 (gv a 5) i0 w) w fun b=>w=w/\ii (fun K'=>ij (isB b true) (fun K'=>K' d w) w K') w fun j=>ii (fun K'=>ij (isB b true) (fun K'=>K' (gv a 5) w) w K') w fun l=>ii (ij (isB b true) (bK .sub T.d 77 l i1 w) w) w fun m=>ii (ij (isB b true) (iaT P T.ba j m w) w) w fun n=>ii (ij (isB b true) (ldT P T.az n w) w) w fun o=>ii (fun K'=>ij (isB b true) (fun K'=>K' d w) w K') w fun p=>ii (fun K'=>ij (isB b true) (fun K'=>K' (gv c 0) w) w K') w fun q=>ii (ij (isB b true) (iaT P T.ba p q w) w) w fun r=>ii (ij (isB b true) (ldT P T.az r w) w) w fun s=>ij (isB b true) (ik P F.ed [o,s] w) w fun t w=>ii (ij (isB b true) (unT P .not t w) w) w fun u=>ii (jb b u bF w) w fun v=>il v (ik P F.ic [d,(gv a 5),(gv a 13),(gv c 0)] w fun h w=>e [f,(gv g 0),(gv c 0),(gv c 1),h,h,(gv a 6),(gv a 7),(gv a 8),(gv a 9),(gv a 10),(gv a 11),(gv a 12),(gv a 13)] w) (i [(gv a 4),(gv a 5)] w)) fun x w=>M.cc.j6 d x a c f g e w K
def M.cc.j4[SD](a c:List Value)(d:Value)(f:KL)(g:Value)(h:List Value):QQ:=fun w K=>im (fun e=>ij (isB (gv a 12) true) (fun K'=>K' (gv a 8) w) w fun i w=>jb (gv a 12) i bF w fun b w=>ij (isB b true) (fun K'=>K' (gv c 1) w) w fun j w=>ij (isB b true) (iy P .eql T.bw (.tmp 66) (.const i1) j i1 w) w fun l w=>jb b l bF w fun m w=>il m (ik P F.hy [d,(gv a 5),(gv a 13)] w fun n w=>il n (K (.tuple #[]) w) (e [] w)) (e [] w)) fun o w=>M.cc.j5 a d c f g h w K
def M.cc.j3[SD](b:Value)(a:List Value)(g:KL)(h:Value)(i:List Value):QQ:=fun w K=>ik P F.ie [b,(gv a 5),(gv a 13)] w fun c w=>exT P c 0 w fun d w=>exT P c 1 w fun e w=>im (fun f=>iy P .eql T.bw (.tmp 49) (.const i2) e i2 w fun j w=>il j (ik P F.ig [b,(gv a 5),(gv a 13)] w fun p w=>bK .sub T.d 55 (gv a 13) i1 w fun l w=>bT .sub T.d 57 58 d (gv a 5) w fun m w=>bT .sub T.d 56 59 l m w fun n w=>f [n,i1] w) (f [d,e] w)) fun o w=>M.cc.j4 a o b g h i w K
def M.cc.j2[SD](a:List Value)(b:Value)(d:KL)(e:Value):QQ:=fun w K=>im (fun c=>unT P .not (gv a 12) w fun f w=>il f (ik P F.id [b,(gv a 5),(gv a 13)] w fun i w=>bK .sub T.d 40 (gv a 1) i1 w fun g w=>c [g] w) (c [(gv a 1)] w)) fun h w=>M.cc.j3 b a d e h w K
def M.cc.j1[SD](a:List Value)(b:Value)(c:KL)(d:Value):QQ:=fun w K=>im (fun e=>bK .eql T.d 28 (gv a 1) i0 w fun f w=>il f (ik P F.hw [b,(gv a 5),(gv a 13)] w fun g w=>K (.tuple #[]) w) (e [] w)) fun h w=>M.cc.j2 a b c d w K
def M.cc.j0[SD](a:List Value)(b:Value)(d:KL):QQ:=fun w K=>bT .sub T.d 19 20 (gv a 13) (gv a 5) w fun c w=>im (fun e=>bK .leq T.d 22 c (.int .i64 12) w fun f w=>il f (ik P F.ib [b,(gv a 5),(gv a 13)] w fun g w=>K (.tuple #[]) w) (e [] w)) fun h w=>M.cc.j1 a b d c w K
def M.cc[SD](a b c d:Value):QQ:=fun w K=>jo [undef,d,undef,undef,undef,b,undef,undef,bY,undef,undef,undef,bY,c] w fun e f w=>M.cc.j0 f a e w K
def M.ft[SD](a:Value):QQ:=fun w K=>biT P .len #[T.ba] T.d [false] [a] w fun b w=>cvT P T.d T.bu b w fun c w=>ik P F.dr [c] w fun d w=>ik P F.hv [a,i0,b,d] w fun e w=>K (.tuple #[]) w
def M.fr.L:List Nat:=[0,1,4]
def M.fr.pl:Nat->pz:=fun id=>⟨.nil,[],false,[]⟩
def M.gi.L:List Nat:=[0,2]
def M.gi.pl:Nat->pz:=fun id=>⟨.nil,[],false,[]⟩
def M.ej.L:List Nat:=[0,1,2,6,7]
def M.ej.pl:Nat->pz:=fun id=>cond (Nat.beq id 4) ⟨(gS 0 13 (.eff 13 (.go 14 .nil) .iz)),[13],false,[0,0,3,7,15,15,63,127,15,15,527,1807,3855,8191,16383]⟩ (cond (Nat.beq id 6) ⟨(gS 0 15 (.eff 15 (.go 16 (.eff 17 .nil .iz)) .iz)),[15,17],false,[0,0,0,0,8,0,0,64,224,480,0,0,3072,7168,16355,32739,65535,131071]⟩ (⟨.nil,[],false,[]⟩))
def M.dp.L:List Nat:=[0,1,2,3,8,9]
def M.dp.pl:Nat->pz:=fun id=>cond (Nat.beq id 3) ⟨(gS 0 18 (.eff 18 (.go 19 .nil) .iz)),[18],false,[0,1,0,7,15,31,31,31,223,511,1023,31,31,31,12319,28703,63519,129055,262143,524287]⟩ (cond (Nat.beq id 5) ⟨(gS 0 12 (.eff 12 (.go 13 .nil) .iz)),[12],false,[0,0,0,6,15,31,0,0,0,384,960,1984,4095,8191]⟩ (cond (Nat.beq id 6) ⟨(gS 0 21 (.eff 21 (.go 22 (.eff 23 .nil .iz)) .iz)),[21,23],false,[0,0,0,6,0,0,0,96,0,0,0,1536,3840,7936,0,0,0,98304,245760,507904,1048335,2096911,4194303,8388607]⟩ (⟨.nil,[],false,[]⟩)))
def M.ed.L:List Nat:=[0,1,2,6,7,8,9,10]
def M.ed.pl:Nat->pz:=fun id=>cond (Nat.beq id 10) ⟨(gS 0 17 (.eff 17 (.go 18 (.eff 19 .nil .iz)) .iz)),[17,19],false,[0,0,0,0,0,24,0,0,0,384,960,1984,0,0,12288,28672,65475,131011,262143,524287]⟩ (⟨.nil,[],false,[]⟩)
def M.bq.L:List Nat:=[0,1,2,3,8,9,10,11]
def M.bq.pl:Nat->pz:=fun id=>cond (Nat.beq id 1) ⟨(gS 0 13 (.eff 13 (.go 14 (.eff 15 .nil .iz)) .iz)),[13,15],false,[0,0,0,0,0,0,48,112,0,0,768,1792,4083,8179,16383,32767]⟩ (cond (Nat.beq id 3) ⟨(gS 0 12 (.eff 12 (.go 13 .nil) .iz)),[12],false,[0,0,3,7,15,15,63,127,15,15,783,1807,4095,8191]⟩ (cond (Nat.beq id 5) ⟨(gS 0 12 (.eff 12 (.go 13 (.go 14 .nil)) .iz)),[12],false,[0,0,3,7,15,15,63,127,15,15,783,1807,4095,8191,16383]⟩ (cond (Nat.beq id 8) ⟨(gS 0 13 (.eff 13 (.go 14 (.eff 15 .nil .iz)) .iz)),[13,15],false,[0,0,0,0,0,0,48,112,0,0,768,1792,4083,8179,16383,32767]⟩ (cond (Nat.beq id 10) ⟨(gS 0 13 (.eff 13 (.go 14 (.eff 15 .nil .iz)) .iz)),[13,15],false,[0,0,0,0,0,0,48,112,0,0,768,1792,4083,8179,16383,32767]⟩ (cond (Nat.beq id 13) ⟨(gS 0 12 (.eff 12 (.go 13 .nil) .iz)),[12],false,[0,0,3,7,15,15,63,127,15,15,783,1807,4095,8191]⟩ (cond (Nat.beq id 15) ⟨(gS 0 12 (.eff 12 (.go 13 (.go 14 .nil)) .iz)),[12],false,[0,0,3,7,15,15,63,127,15,15,783,1807,4095,8191,16383]⟩ (cond (Nat.beq id 18) ⟨(gS 0 13 (.eff 13 (.go 14 (.eff 15 .nil .iz)) .iz)),[13,15],false,[0,0,0,0,0,0,48,112,0,0,768,1792,4083,8179,16383,32767]⟩ (cond (Nat.beq id 21) ⟨(gS 0 13 (.eff 13 (.go 14 (.eff 15 .nil .iz)) .iz)),[13,15],false,[0,0,0,0,0,0,48,112,0,0,768,1792,4083,8179,16383,32767]⟩ (⟨.nil,[],false,[]⟩)))))))))
def M.ek.L:List Nat:=[0,1,2,3,8,9,10]
def M.ek.pl:Nat->pz:=fun id=>cond (Nat.beq id 1) ⟨(gS 0 13 (.eff 13 (.go 14 (.eff 15 .nil .iz)) .iz)),[13,15],false,[0,0,0,0,0,0,48,112,0,0,768,1792,4083,8179,16383,32767]⟩ (cond (Nat.beq id 3) ⟨(gS 0 12 (.eff 12 (.go 13 (.go 14 .nil)) .iz)),[12],false,[0,0,3,7,15,15,63,127,15,15,783,1807,4095,8191,16383]⟩ (cond (Nat.beq id 5) ⟨(gS 0 12 (.eff 12 (.go 13 .nil) .iz)),[12],false,[0,0,3,7,15,15,63,127,15,15,783,1807,4095,8191]⟩ (cond (Nat.beq id 8) ⟨(gS 0 13 (.eff 13 (.go 14 (.eff 15 .nil .iz)) .iz)),[13,15],false,[0,0,0,0,0,0,48,112,0,0,768,1792,4083,8179,16383,32767]⟩ (⟨.nil,[],false,[]⟩))))
def M.bc.L:List Nat:=[0,1,2,6,7,8,9,10]
def M.bc.pl:Nat->pz:=fun id=>cond (Nat.beq id 5) ⟨(gS 0 13 (.eff 13 (.go 14 (.go 15 .nil)) .iz)),[13],false,[0,0,3,7,15,15,63,127,15,15,527,1807,3855,8191,16383,32767]⟩ (cond (Nat.beq id 11) ⟨(gS 0 15 (.eff 15 (.go 16 (.eff 17 .nil .iz)) .iz)),[15,17],false,[0,0,0,0,8,0,0,64,224,480,0,0,3072,7168,16355,32739,65535,131071]⟩ (cond (Nat.beq id 16) ⟨(gS 0 9 (.eff 9 (.go 10 .nil) .iz)),[9],false,[0,0,3,7,0,0,32,112,240,511,1023]⟩ (cond (Nat.beq id 17) ⟨(gS 0 15 (.eff 15 (.go 16 (.eff 17 .nil .iz)) .iz)),[15,17],false,[0,0,0,0,8,0,0,64,224,480,0,0,3072,7168,16355,32739,65535,131071]⟩ (cond (Nat.beq id 22) ⟨(gS 0 9 (.eff 9 (.go 10 .nil) .iz)),[9],false,[0,0,3,7,0,0,32,112,240,511,1023]⟩ (cond (Nat.beq id 23) ⟨(gS 0 15 (.eff 15 (.go 16 (.eff 17 .nil .iz)) .iz)),[15,17],false,[0,0,0,0,8,0,0,64,224,480,0,0,3072,7168,16355,32739,65535,131071]⟩ (⟨.nil,[],false,[]⟩))))))
def M.fg.L:List Nat:=[0,1,2,6,8,9,10,7]
def M.fg.pl:Nat->pz:=fun id=>cond (Nat.beq id 10) ⟨(gS 0 17 (.eff 17 (.go 18 (.eff 19 .nil .iz)) .iz)),[17,19],false,[0,0,0,0,0,24,0,0,0,384,960,1984,0,0,12288,28672,65475,131011,262143,524287]⟩ (⟨.nil,[],false,[]⟩)
def M.gj.L:List Nat:=[0,1,2,3,8,9]
def M.gj.pl:Nat->pz:=fun id=>cond (Nat.beq id 1) ⟨(gS 0 8 (.eff 8 .nil .iz)),[8],false,[0,0,3,7,0,0,48,112,255]⟩ (⟨.nil,[],false,[]⟩)
def M.gk.L:List Nat:=[0,1,2,3,4,10]
def M.gk.pl:Nat->pz:=fun id=>⟨.nil,[],false,[]⟩
def M.fs.L:List Nat:=[0,1,2,6]
def M.fs.pl:Nat->pz:=fun id=>⟨.nil,[],false,[]⟩
def M.fo.L:List Nat:=[0,1,2,6,7,8,10,11,12,51,54,9]
def M.fo.pl:Nat->pz:=fun id=>⟨.nil,[],false,[]⟩
def M.fu.L:List Nat:=[0,1,2,6,7]
def M.fu.pl:Nat->pz:=fun id=>cond (Nat.beq id 3) ⟨(gS 0 13 (.eff 13 (.go 14 (.eff 15 .nil .iz)) .iz)),[13,15],false,[0,0,0,0,0,0,48,112,0,0,768,1792,4083,8179,16383,32767]⟩ (⟨.nil,[],false,[]⟩)
def M.cc.L:List Nat:=[0,1,2,3,8,9,10,11,12,13,14,15,16,17,18]
def M.cc.pl:Nat->pz:=fun id=>cond (Nat.beq id 17) ⟨(gS 0 12 (.eff 12 (.go 13 (.go 14 .nil)) .iz)),[12],false,[0,1,3,7,7,23,63,127,7,7,775,1799,4095,8191,16383]⟩ (⟨.nil,[],false,[]⟩)
def M.ft.L:List Nat:=[0,2]
def M.ft.pl:Nat->pz:=fun id=>⟨.nil,[],false,[]⟩
class SE extends SD where
 bpw:nq P sl=true
 sz:szE P sl=1
 ld: ∀(b i:Nat)(w:World)(K:KV),ldT P el (.pointer (some ⟨b,i,none⟩)) w K=ld1 P b i w K
 st: ∀(b i:Nat)(x:Int)(w:World)(K:KV),stT P el (.pointer (some ⟨b,i,none⟩)) (.int k x) w K=st1 P b i (.int k x) w K
 bcr:C2 bah M.fr
 bep:fC bah
 bjw:C1 bgw M.gi
 bjv:fC bgw
 bkk:C3 bgk M.ej
 bko:fC bgk
 bdz:C4 ayd M.dp
 bdq:fC ayd
 beb:C3 ayk M.ed
 bfb:fC ayk
 bcy:C4 bam M.bq
 bba:fC bam
 bjs:C4 bjj M.ek
 bke:fC bjj
 bda:C3 azr M.bc
 bfi:fC azr
 bjq:C3 bgq M.fg
 bkm:fC bgq
 bjl:C4 bhd M.gj
 bjy:fC bhd
 bjn:C5 bhv M.gk
 bkd:fC bhv
 bcx:C3 azp M.fs
 bck:fC azp
 bkb:C3 bgl M.fo
 bjx:fC bgl
 bkl:C3 bgf M.fu
 bkh:fC bgf
 bki:C4 bhz M.cc
 bkn:fC bhz
 bdm:C1 ayz M.ft
 bps:fC ayz
section
variable [SE]
@[simp] theorem SE.cgk : nq P T.ba = true := SE.bpw
@[simp] theorem SE.sz' : szE P T.ba = 1 := SE.sz
@[simp] theorem SE.ld' (b i : Nat) (w : World) (K : KV) : ldT P T.az (.pointer (some ⟨b, i, none⟩)) w K = ld1 P b i w K := SE.ld b i w K
@[simp] theorem SE.st' (b i : Nat) (x : Int) (w : World) (K : KV) : stT P T.az (.pointer (some ⟨b, i, none⟩)) (.int SD.k x) w K = st1 P b i (.int SD.k x) w K := SE.st b i x w K
theorem M.fr.calls:C2 F.ed M.fr:=SE.bcr
theorem M.fr.fcall:fC F.ed:=SE.bep
theorem M.gi.calls:C1 F.hz M.gi:=SE.bjw
theorem M.gi.fcall:fC F.hz:=SE.bjv
theorem M.ej.calls:C3 F.ib M.ej:=SE.bkk
theorem M.ej.fcall:fC F.ib:=SE.bko
theorem M.dp.calls:C4 F.hm M.dp:=SE.bdz
theorem M.dp.fcall:fC F.hm:=SE.bdq
theorem M.ed.calls:C3 F.hw M.ed:=SE.beb
theorem M.ed.fcall:fC F.hw:=SE.bfb
theorem M.bq.calls:C4 F.hx M.bq:=SE.bcy
theorem M.bq.fcall:fC F.hx:=SE.bba
theorem M.ek.calls:C4 F.ic M.ek:=SE.bjs
theorem M.ek.fcall:fC F.ic:=SE.bke
theorem M.bc.calls:C3 F.hy M.bc:=SE.bda
theorem M.bc.fcall:fC F.hy:=SE.bfi
theorem M.fg.calls:C3 F.id M.fg:=SE.bjq
theorem M.fg.fcall:fC F.id:=SE.bkm
theorem M.gj.calls:C4 F.ht M.gj:=SE.bjl
theorem M.gj.fcall:fC F.ht:=SE.bjy
theorem M.gk.calls:C5 F.hu M.gk:=SE.bjn
theorem M.gk.fcall:fC F.hu:=SE.bkd
theorem M.fs.calls:C3 F.hh M.fs:=SE.bcx
theorem M.fs.fcall:fC F.hh:=SE.bck
theorem M.fo.calls:C3 F.ie M.fo:=SE.bkb
theorem M.fo.fcall:fC F.ie:=SE.bjx
theorem M.fu.calls:C3 F.ig M.fu:=SE.bkl
theorem M.fu.fcall:fC F.ig:=SE.bkh
theorem M.cc.calls:C4 F.hv M.cc:=SE.bki
theorem M.cc.fcall:fC F.hv:=SE.bkn
theorem M.ft.calls:C1 F.ih M.ft:=SE.bdm
end
abbrev sdU:SD:=⟨.u64,T.a,T.g,F.cd,F.ah,F.k,F.u,F.t,F.r,F.i,F.d,F.l,F.af,F.ae,F.j,F.q,F.o,F.aa,F.h⟩
theorem M.fr.callsU:C2 F.cd (@M.fr sdU):=mk2 M.fr.L M.fr.pl FN.cd.at
theorem M.gi.callsU:C1 F.ah (@M.gi sdU):=mk1 M.gi.L M.gi.pl FN.ah.at
theorem M.ej.callsU:C3 F.k (@M.ej sdU):=mk3 M.ej.L M.ej.pl FN.k.at
theorem M.dp.callsU:C4 F.u (@M.dp sdU):=mk4 M.dp.L M.dp.pl FN.u.at
theorem M.ed.callsU:C3 F.t (@M.ed sdU):=mk3 M.ed.L M.ed.pl FN.t.at
theorem M.bq.callsU:C4 F.r (@M.bq sdU):=mk4 M.bq.L M.bq.pl FN.r.at
theorem M.ek.callsU:C4 F.i (@M.ek sdU):=mk4 M.ek.L M.ek.pl FN.i.at
theorem M.bc.callsU:C3 F.d (@M.bc sdU):=mk3 M.bc.L M.bc.pl FN.d.at
theorem M.fg.callsU:C3 F.l (@M.fg sdU):=mk3 M.fg.L M.fg.pl FN.l.at
theorem M.gj.callsU:C4 F.af (@M.gj sdU):=mk4 M.gj.L M.gj.pl FN.af.at
theorem M.gk.callsU:C5 F.ae (@M.gk sdU):=mk5 M.gk.L M.gk.pl FN.ae.at
theorem M.fs.callsU:C3 F.j (@M.fs sdU):=mk3 M.fs.L M.fs.pl FN.j.at
theorem M.fo.callsU:C3 F.q (@M.fo sdU):=mk3 M.fo.L M.fo.pl FN.q.at
theorem M.fu.callsU:C3 F.o (@M.fu sdU):=mk3 M.fu.L M.fu.pl FN.o.at
theorem M.cc.callsU:C4 F.aa (@M.cc sdU):=mk4 M.cc.L M.cc.pl FN.aa.at
theorem M.ft.callsU:C1 F.h (@M.ft sdU):=mk1 M.ft.L M.ft.pl FN.h.at
abbrev seU:SE where
 toSD:=sdU
 bpw:=by kernel_rfl
 sz:=by kernel_rfl
 ld:=fun b i w K=>kr
 st:=fun b i x w K=>kr
 bcr:=M.fr.callsU
 bep:=fcN FN.cd.at
 bjw:=M.gi.callsU
 bjv:=fcN FN.ah.at
 bkk:=M.ej.callsU
 bko:=fcN FN.k.at
 bdz:=M.dp.callsU
 bdq:=fcN FN.u.at
 beb:=M.ed.callsU
 bfb:=fcN FN.t.at
 bcy:=M.bq.callsU
 bba:=fcN FN.r.at
 bjs:=M.ek.callsU
 bke:=fcN FN.i.at
 bda:=M.bc.callsU
 bfi:=fcN FN.d.at
 bjq:=M.fg.callsU
 bkm:=fcN FN.l.at
 bjl:=M.gj.callsU
 bjy:=fcN FN.af.at
 bjn:=M.gk.callsU
 bkd:=fcN FN.ae.at
 bcx:=M.fs.callsU
 bck:=fcN FN.j.at
 bkb:=M.fo.callsU
 bjx:=fcN FN.q.at
 bkl:=M.fu.callsU
 bkh:=fcN FN.o.at
 bki:=M.cc.callsU
 bkn:=fcN FN.aa.at
 bdm:=M.ft.callsU
 bps:=fcN FN.h.at
end Go.Proofs.YtgepcfcicngceaaGreatDoor
set_option maxRecDepth 100000
namespace Go.Proofs.YtgepcfcicngceaaGreatDoor.SG
open Go.Eng Go.Sort
variable [SE]
def Rw(w:World)(g:Nat)(e:TypeId)(cap:Nat)(d:Array Int):Prop:= ∃cur:Array Value,w.heap[g]? =some (.cells cur e (0,0))/\cur.size=cap/\d.size<=cap/\∀j,j < d.size->cur[j]? =some (.int SD.k d[j]!)
section
variable {w w' : World} {g cap : Nat} {e : TypeId} {d : Array Int} {S : Nat → Prop}
theorem Rw.at(h:Rw w g e cap d){j:Nat}(hj:j < d.size):iq w g j=some (.int SD.k d[j]!):=by
 obtain⟨cur,h1,_,_,h4⟩:=h
 rw[iw h1];exact h4 j hj
theorem Rw.frz(h:Rw w g e cap d)(j:Nat):qy w g j=false:=by
 obtain⟨cur,h1,_⟩:=h
 exact mi h1 j
theorem Rw.lt(h:Rw w g e cap d):g < w.heap.size:=by
 obtain⟨cur,h1,_⟩:=h
 exact mh h1
theorem Rw.heap(h:Rw w g e cap d)(he:w'.heap[g]? =w.heap[g]?):Rw w' g e cap d:=by
 obtain⟨cur,h1,h2⟩:=h
 exact⟨cur,he.trans h1,h2⟩
theorem Rw.fr(h:Rw w g e cap d)(hf:Fr S w w')(hn: ¬S g):Rw w' g e cap d:=h.heap (hf.jl g h.lt hn)
omit [SE] in
theorem bpt(d:Array Int){i:Nat}(hi:i < d.size)(x:Int)(j:Nat):(d.setIfInBounds i x)[j]! =if i=j then x else d[j]! :=by
 by_cases h:i=j
 ·subst h;simp[hi]
 ·simp[h,getElem!_def,Array.getElem?_setIfInBounds]
theorem Rw.set(h:Rw w g e cap d){i:Nat}(hi:i < d.size)(x:Int):Rw (w.setCell ⟨g,i,none⟩ (.int SD.k x)) g e cap (d.setIfInBounds i x):=by
 obtain⟨cur,h1,h2,h3,h4⟩:=h
 refine⟨cur.setIfInBounds i (.int SD.k x),nl h1,by simpa using h2,by simpa using h3,fun j hj=>?_⟩
 have hj':j < d.size:=by simpa using hj
 rw[bpt d hi,Array.getElem?_setIfInBounds]
 by_cases hij:i=j
 ·subst hij;simp[h2];omega
 ·rw[if_neg hij,if_neg hij];exact h4 j hj'
theorem Rw.swp(h:Rw w g e cap d){i j:Nat}(hi:i < d.size)(hj:j < d.size):Rw ((w.setCell ⟨g,i,none⟩ (.int SD.k d[j]!)).setCell ⟨g,j,none⟩ (.int SD.k d[i]!)) g e cap (Sort.swp d i j):=by
 have:=(h.set hi d[j]!).set (i:=j) (by simpa using hj) d[i]!
 exact this
theorem Rw.dr(h:Rw w g e cap d)(n:Nat):Rw (Eng.dr w n) g e cap d:=h.heap rfl
structure Rf(w w':World)(g:Nat)(e:TypeId)(cap:Nat)(d:Array Int):Prop where
 row:Rw w' g e cap d
 fr:Fr (fun b=>b=g) w w'
theorem Rw.ou(h:Rw w g e cap d):Rf w w g e cap d:=⟨h,Fr.refl _ _⟩
theorem Rf.dr(h:Rf w w' g e cap d)(n:Nat):Rf w (Eng.dr w' n) g e cap d:=⟨h.row.dr n,h.fr.dr n⟩
theorem Rf.swp(h:Rf w w' g e cap d){i j:Nat}(hi:i < d.size)(hj:j < d.size):Rf w ((w'.setCell ⟨g,i,none⟩ (.int SD.k d[j]!)).setCell ⟨g,j,none⟩ (.int SD.k d[i]!)) g e cap (Sort.swp d i j):=
 ⟨h.row.swp hi hj,(h.fr.setCell (.inl rfl) _ _).setCell (.inl rfl) _ _⟩
theorem Rf.trans{w'':World}{d':Array Int}(h:Rf w w' g e cap d)(h':Rf w' w'' g e cap d'):Rf w w'' g e cap d':=⟨h'.row,h.fr.trans h'.fr⟩
end
theorem sf{w:World}(x y:Int){K:KV}(h:K (.bool (ltInt x y)) w):ik P F.ed [.int SD.k x,.int SD.k y] w K:=by
 have nan: ∀(z:Int){K:KV},K (.bool false) w->ik P F.hz [.int SD.k z] w K:=fun z K hK=>by
  rw[M.gi.fcall]
  apply M.gi.calls
  unfold M.gi
  simp
  exact hK
 rw[M.fr.fcall]
 apply M.fr.calls
 unfold M.fr
 refine nan x ?_
 simp
 exact h
omit [SE] in
theorem bqr{x:Nat}(h:x < 1000000):IntKind.i64.wrap (x:Int)=x:=jc
omit [SE] in
theorem rl{x:Nat}(h:x < 1000000):IntKind.i64.wrap ((x:Int)+1)=((x+1:Nat):Int):=by rw[jc];rfl
omit [SE] in
theorem zw{x y:Nat}(h:y<=x)(hx:x < 1000000):IntKind.i64.wrap ((x:Int) - y)=((x - y:Nat):Int):=by rw[jc];omega
def InI(w:World)(g:Nat)(e:TypeId)(cap n a:Nat)(R:Array Int):KL:=fun x w1=> ∃(j:Nat)(d:Array Int),x=[.int .i64 (j:Int)]/\Rf w w1 g e cap d/\d.size=n/\j < n/\insInner ltInt a j d=R
def InO(w:World)(g:Nat)(e:TypeId)(cap n a b:Nat)(R:Array Int):KL:=fun x w1=> ∃(u:Value)(i:Nat)(d:Array Int),x=[u,.int .i64 (i:Int)]/\Rf w w1 g e cap d/\d.size=n/\insOuter ltInt a b i d=R
theorem akd{w:World}{g cap n:Nat}{e:TypeId}{d:Array Int}(H:Rw w g e cap d)(hn:d.size=n)(h6:n < 100000){a b:Nat}(hb:b<=n)(ha:a<=n){K:KV}
  (h: ∀w',Rf w w' g e cap (insertionSort ltInt d a b)->K (.tuple #[]) w'):jy P F.ib [.slice (some ⟨g,0,none⟩) n cap,.int .i64 a,.int .i64 b] w K:=by
 apply M.ej.calls
 unfold M.ej
 simp only[mm,rl (show a < 1000000 by omega)]
 refine⟨InO w g e cap n a b (insertionSort ltInt d a b),fun x _=>b - ms x 1,⟨_,a+1,d,rfl,H.ou,hn,rfl⟩,?_⟩
 rintro x w1 ⟨u,i,d1,rfl,H1,hn1,hR⟩
 have g1: ∀u v:Value,gv [u,v] 1=v:=fun _ _=>rfl
 have g0: ∀u:Value,gv [u] 0=u:=fun _=>rfl
 unfold M.ej.j0
 simp only[ir,g1]
 unfold insOuter at hR
 by_cases hi:i < b
 ·simp[hi] at hR⊢
  generalize hT:insInner ltInt a i d1=T at *
  refine⟨InI w g e cap n a T,fun x _=>ms x 0,⟨i,d1,rfl,H1,hn1,by omega,hT⟩,?_⟩
  rintro x w2 ⟨j,d2,rfl,H2,hn2,hj,hR2⟩
  have done:d2=T->∀v w2,Rf w w2 g e cap d2->InO w g e cap n a b (insertionSort ltInt d a b) [v,.int .i64 (IntKind.i64.wrap ((i:Int)+1))] w2/\b - ms [v,.int .i64 (IntKind.i64.wrap ((i:Int)+1))] 1 < b - ms [u,.int .i64 (i:Int)] 1:=by
   intro hd v w2 H2
   rw[rl (by omega)]
   refine⟨⟨v,i+1,d2,rfl,H2,hn2,by rw[hd];exact hR⟩,?_⟩
   simp[ms,gv];omega
  unfold M.ej.j3
  simp only[ir,g0]
  cases j with
  | zero=>
   simp[insInner] at hR2
   have:=done hR2 (.int .i64 0) _ (H2.dr 1)
   have hz: ¬(a:Int) < 0:=by omega
   simp[hz]
   simpa using this
  | succ j=>
   unfold insInner at hR2
   have hw:=bqr (show j < 1000000 by omega)
   by_cases hja:a < j+1
   ·have hja':(a:Int) < (j:Int)+1:=by omega
    have c1:=H2.row.at (show j+1 < d2.size by omega)
    have c0:=H2.row.at (show j < d2.size by omega)
    have hjn:(j:Int) < n:=by omega
    have hjn':(j:Int)+1 < n:=by omega
    have z1:(0:Int)<=(j:Int)+1:=by omega
    simp[hja,hja',hw,c0,c1,hjn,hjn',z1] at hR2⊢
    refine sf _ _ ?_
    cases hl:ltInt d2[j+1]! d2[j]! with
    | true=>
     simp[hl] at hR2⊢
     unfold M.ej.j4
     have f1:=H2.row.frz (j+1)
     have f0:=H2.row.frz j
     simp[hw,c0,c1,hjn,hjn',z1,f0,f1,kp,me]
     refine⟨⟨j,_,rfl,((H2.dr 1).dr 1).swp (by omega) (by omega),by rw[size_swp];exact hn2,by omega,hR2⟩,?_⟩
     simp[ms,gv]
    | false=>
     simp[hl] at hR2⊢
     have:=done hR2 (.int .i64 ((j:Int)+1)) _ (H2.dr 1)
     simpa using this
   ·have hja': ¬(a:Int) < (j:Int)+1:=by omega
    simp[hja,hja'] at hR2⊢
    have:=done hR2 (.int .i64 ((j:Int)+1)) _ (H2.dr 1)
    simpa using this
 ·simp[hi] at hR⊢
  subst hR
  exact h w1 H1
end Go.Proofs.YtgepcfcicngceaaGreatDoor.SG
set_option maxRecDepth 100000
namespace Go.Proofs.YtgepcfcicngceaaGreatDoor.SG
open Go.Eng Go.Sort
variable [SE]
omit [SE] in
theorem aac(hi first:Nat): ∀(n root:Nat)(d:Array Int),hi - root<=n->(siftDown ltInt hi first root d).size=d.size
 | 0,root,d,h=>by
  unfold siftDown
  rw[dif_pos (by omega)]
 | n+1,root,d,h=>by
  unfold siftDown
  split
  ·rfl
  split
  ·split
   ·rfl
   split
   ·rw[aac hi first n _ _ (by omega),size_swp]
   ·rfl
  ·split
   ·rfl
   ·rw[aac hi first n _ _ (by omega),size_swp]
def SfI(w:World)(g:Nat)(e:TypeId)(cap n hi first:Nat)(R:Array Int):KL:=fun x w1=> ∃(u:Value)(root:Nat)(d:Array Int),x=[u,.int .i64 (root:Int)]/\Rf w w1 g e cap d/\d.size=n/\root<=hi/\siftDown ltInt hi first root d=R
theorem axj{w:World}{g cap n:Nat}{e:TypeId}{d:Array Int}(H:Rw w g e cap d)(hn:d.size=n)(h6:n < 100000){lo hi first:Nat}(hb:first+hi<=n)(hlo:lo<=hi){K:KV}
  (h: ∀w',Rf w w' g e cap (siftDown ltInt hi first lo d)->K (.tuple #[]) w'):jy P F.hm [.slice (some ⟨g,0,none⟩) n cap,.int .i64 lo,.int .i64 hi,.int .i64 first] w K:=by
 apply M.dp.calls
 unfold M.dp
 generalize hR0:siftDown ltInt hi first lo d=R0 at *
 refine⟨SfI w g e cap n hi first R0,fun x _=>hi - ms x 1,⟨_,lo,d,rfl,H.ou,hn,hlo,hR0⟩,?_⟩
 clear hR0
 rintro x w1 ⟨u,root,d1,rfl,H1,hn1,hro,hR⟩
 have g1: ∀u v:Value,gv [u,v] 1=v:=fun _ _=>rfl
 have g0: ∀u:Value,gv [u] 0=u:=fun _=>rfl
 have w2:IntKind.i64.wrap (2 * (root:Int))=((2 * root:Nat):Int):=by rw[jc];omega
 have w3:IntKind.i64.wrap (((2 * root:Nat):Int)+1)=((2 * root+1:Nat):Int):=rl (by omega)
 have w4:IntKind.i64.wrap (((2 * root+1:Nat):Int)+1)=((2 * root+2:Nat):Int):=rl (by omega)
 unfold M.dp.j0
 simp only[ir,g1,xy,mm,su,w2,w3]
 unfold siftDown at hR
 by_cases h0:2 * root+1≥hi
 ·have h0':(hi:Int)<=((2 * root+1:Nat):Int):=by omega
  rw[dif_pos h0] at hR
  subst hR
  simp only[h0',decide_true,Eng.cond_true]
  exact h w1 H1
 rw[dif_neg h0] at hR
 have h0': ¬(hi:Int)<=((2 * root+1:Nat):Int):=by omega
 simp only[h0',decide_false,Eng.cond_false]
 unfold M.dp.j1
 have wf: ∀k:Nat,k < hi->IntKind.i64.wrap ((first:Int)+(k:Int))=((first+k:Nat):Int):=fun k hk=>by rw[jc];omega
 -- behind the choice of the child
 have tail: ∀(c:Nat)(w2:World),Rf w w2 g e cap d1->c < hi->root < c->(if !ltInt d1[first+root]! d1[first+c]! then d1 else siftDown ltInt hi first c (Sort.swp d1 (first+root) (first+c)))=R0->
   M.dp.j2 (.int .i64 first) [u,.int .i64 root] (.slice (some ⟨g,0,none⟩) n cap) [.int .i64 c] (fun x' w'=>SfI w g e cap n hi first R0 x' w'/\hi - ms x' 1 < hi - ms [u,.int .i64 (root:Int)] 1) w2 K:=by
  intro c w2 H2 hc hrc hR
  unfold M.dp.j2
  have a1:=H2.row.at (show first+root < d1.size by omega)
  have a2:=H2.row.at (show first+c < d1.size by omega)
  have b1:((first+root:Nat):Int) < n:=by omega
  have b2:((first+c:Nat):Int) < n:=by omega
  have wr:=wf root (by omega)
  have wc:=wf c hc
  simp only[ir,qr,yf,g1,g0,mm,wr,wc,true_and,and_true]
  simp[b1,b2,a1,a2,-Int.natCast_add]
  refine sf _ _ ?_
  cases hl:ltInt d1[first+root]! d1[first+c]! with
  | false=>
   simp[hl] at hR⊢
   subst hR
   exact h _ (H2.dr 1)
  | true=>
   simp[hl] at hR⊢
   unfold M.dp.j3
   have f1:=H2.row.frz (first+root)
   have f2:=H2.row.frz (first+c)
   simp only[ir,qr,yf,aml,g1,g0,mm,wr,wc,true_and,and_true]
   simp[b1,b2,a1,a2,f1,f2,kp,me,-Int.natCast_add]
   refine⟨⟨_,c,_,rfl,((H2.dr 1).dr 1).swp (by omega) (by omega),by rw[size_swp];exact hn1,by omega,hR⟩,?_⟩
   simp[ms,gv];omega
 have v1:IntKind.i64.wrap ((first:Int)+((2 * root+1:Nat):Int))=((first+(2 * root+1):Nat):Int):=wf _ (by omega)
 simp only[ir,qr,yf,mm,na,w4,true_and,and_true,abx]
 by_cases h1:2 * root+1+1 < hi
 ·have h1':((2 * root+2:Nat):Int) < hi:=by omega
  have v2:IntKind.i64.wrap (((first+(2 * root+1):Nat):Int)+1)=((first+(2 * root+2):Nat):Int):=by rw[jc];omega
  have a1:=H1.row.at (show first+(2 * root+1) < d1.size by omega)
  have a2:=H1.row.at (show first+(2 * root+2) < d1.size by omega)
  have b1:((first+(2 * root+1):Nat):Int) < n:=by omega
  have b2:((first+(2 * root+2):Nat):Int) < n:=by omega
  have e2:first+(2 * root+1)+1=first+(2 * root+2):=by omega
  simp only[h1',decide_true,beq_self_eq_true,adr,mm,v1,v2]
  simp[b1,b2,a1,a2,-Int.natCast_add]
  refine sf _ _ ?_
  rw[e2] at hR
  cases hl:ltInt d1[first+(2 * root+1)]! d1[first+(2 * root+2)]! with
  | true=>
   simp only[h1,hl,decide_true,Bool.and_self,if_true] at hR
   have hx:2 * root+2 < hi:=by omega
   simp only[hx,dif_pos] at hR
   simp[-Int.natCast_add]
   exact tail (2 * root+2) _ (H1.dr 1) (by omega) (by omega) hR
  | false=>
   simp only[hl,Bool.and_false,Bool.false_eq_true,if_false] at hR
   simp[-Int.natCast_add]
   exact tail (2 * root+1) _ (H1.dr 1) (by omega) (by omega) hR
 ·have h1': ¬((2 * root+2:Nat):Int) < hi:=by omega
  simp only[h1,decide_false,Bool.false_and,Bool.false_eq_true,if_false] at hR
  simp only[h1',decide_false]
  simp[-Int.natCast_add]
  exact tail (2 * root+1) _ (H1.dr 1) (by omega) (by omega) hR
def HbI(w:World)(g:Nat)(e:TypeId)(cap n hi first:Nat)(R:Array Int):KL:=fun x w1=> ∃(k:Nat)(d:Array Int),x=[.int .i64 ((k:Int) - 1)]/\Rf w w1 g e cap d/\d.size=n/\k<=hi+1/\(k<=hi\/hi=0)/\heapBuild ltInt hi first k d=R
def HpI(w:World)(g:Nat)(e:TypeId)(cap n hi first:Nat)(R:Array Int):KL:=fun x w1=> ∃(k:Nat)(d:Array Int),x=[.int .i64 ((k:Int) - 1)]/\Rf w w1 g e cap d/\d.size=n/\k<=hi/\heapPop ltInt first k d=R
def mp(x:List Value)(i:Nat):Nat:=match gv x i with
 | .int _ k=>(k+1).toNat
 | _=>0
theorem avi{w:World}{g cap n:Nat}{e:TypeId}{d:Array Int}(H:Rw w g e cap d)(hn:d.size=n)(h6:n < 100000){a b:Nat}(hb:b<=n)(hab:a < b){K:KV}
  (h: ∀w',Rf w w' g e cap (heapSort ltInt d a b)->K (.tuple #[]) w'):jy P F.hw [.slice (some ⟨g,0,none⟩) n cap,.int .i64 a,.int .i64 b] w K:=by
 apply M.ed.calls
 unfold M.ed
 have hw0:IntKind.i64.wrap ((b:Int) - a)=((b - a:Nat):Int):=zw (by omega) (by omega)
 generalize hhi:b - a=hi at *
 have hw1:IntKind.i64.wrap ((hi:Int) - 1)=((hi - 1:Nat):Int):=by rw[jc];omega
 have hw2:IntKind.i64.wrap (((hi - 1:Nat):Int).tdiv 2)=(((hi - 1) / 2:Nat):Int):=by
  rw[Int.tdiv_eq_ediv_of_nonneg (by omega),jc];omega
 have hw3:(((hi - 1) / 2:Nat):Int)=(((hi - 1) / 2+1:Nat):Int) - 1:=by omega
 simp only[ol,hw0,ir,hw1,ati,hw2]
 have g0: ∀u:Value,gv [u] 0=u:=fun _=>rfl
 generalize hZ:heapBuild ltInt hi a ((hi - 1) / 2+1) d=Z
 refine⟨HbI w g e cap n hi a Z,fun x _=>mp x 0,⟨(hi - 1) / 2+1,d,by rw[hw3],H.ou,hn,by omega,by omega,hZ⟩,?_⟩
 rintro x w1 ⟨k,d1,rfl,H1,hn1,hk,hk2,hR⟩
 unfold M.ed.j1
 simp only[ir,g0,su]
 cases k with
 | succ k=>
  have hk0:(0:Int)<=((k+1:Nat):Int) - 1:=by omega
  have hk1:((k+1:Nat):Int) - 1=(k:Int):=by omega
  simp only[hk0,decide_true,Eng.cond_true,hk1]
  rw[M.dp.fcall]
  refine axj H1.row hn1 h6 (by omega) (by omega) fun w2 H2=>?_
  have hw4:IntKind.i64.wrap ((k:Int) - 1)=(k:Int) - 1:=jc
  simp only[ol,hw4]
  refine⟨⟨k,_,rfl,H1.trans H2,by rw[aac _ _ _ _ _ (Nat.le_refl _)];exact hn1,by omega,by omega,hR⟩,?_⟩
  simp[mp,gv]
 | zero=>
  have hk0: ¬(0:Int)<=((0:Nat):Int) - 1:=by omega
  simp only[hk0,decide_false,Eng.cond_false]
  unfold heapBuild at hR
  unfold M.ed.j0
  have hw5:((hi - 1:Nat):Int)=(hi:Int) - 1:=by omega
  simp only[ol,hw1,hw5]
  have hR2:heapPop ltInt a hi d1=heapSort ltInt d a b:=by
   unfold heapSort
   rw[hhi,hZ,<-hR]
  refine⟨HpI w g e cap n hi a (heapSort ltInt d a b),fun x _=>mp x 0,⟨hi,d1,rfl,H1,hn1,Nat.le_refl _,hR2⟩,?_⟩
  rintro x w2 ⟨k,d2,rfl,H2,hn2,hk,hR3⟩
  simp only[ir,g0,su]
  cases k with
  | zero=>
   have hk0: ¬(0:Int)<=((0:Nat):Int) - 1:=by omega
   simp only[hk0,decide_false,Eng.cond_false]
   unfold heapPop at hR3
   subst hR3
   exact h w2 H2
  | succ k=>
   have hk0:(0:Int)<=((k+1:Nat):Int) - 1:=by omega
   have hk1:((k+1:Nat):Int) - 1=(k:Int):=by omega
   simp only[hk0,decide_true,Eng.cond_true,hk1]
   unfold heapPop at hR3
   unfold M.ed.j5
   have wr:IntKind.i64.wrap ((a:Int)+(k:Int))=((a+k:Nat):Int):=by rw[jc];omega
   have a1:=H2.row.at (show a < d2.size by omega)
   have a2:=H2.row.at (show a+k < d2.size by omega)
   have b1:(a:Int) < n:=by omega
   have b2:((a+k:Nat):Int) < n:=by omega
   have f1:=H2.row.frz a
   have f2:=H2.row.frz (a+k)
   have hw4:IntKind.i64.wrap ((k:Int) - 1)=(k:Int) - 1:=jc
   simp only[ir,qr,yf,aml,g0,mm,ol,wr,hw4,true_and,and_true]
   simp[b1,b2,a1,a2,f1,f2,kp,me,-Int.natCast_add]
   have H3:=(H2.dr 1).swp (i:=a) (j:=a+k) (by omega) (by omega)
   rw[M.dp.fcall]
   refine axj (lo:=0) H3.row (by rw[size_swp];exact hn2) h6 (by omega) (by omega) fun w4 H4=>?_
   refine⟨⟨k,_,rfl,H3.trans H4,by rw[aac _ _ _ _ _ (Nat.le_refl _),size_swp];exact hn2,by omega,hR3⟩,?_⟩
   simp[mp,gv]
end Go.Proofs.YtgepcfcicngceaaGreatDoor.SG
set_option maxRecDepth 100000
namespace Go.Proofs.YtgepcfcicngceaaGreatDoor.SG
open Go.Eng Go.Sort
variable [SE]
section
variable {w : World} {g cap n : Nat} {e : TypeId} {d : Array Int}
def UpI(w:World)(g:Nat)(e:TypeId)(cap:Nat)(d:Array Int)(p:Int->Bool)(j r:Nat):KL:=fun x w1=> ∃i:Nat,x=[.int .i64 (i:Int)]/\Rf w w1 g e cap d/\i<=j+2/\scanUp p d j i=r
def DnI(w:World)(g:Nat)(e:TypeId)(cap:Nat)(d:Array Int)(p:Int->Bool)(i n r:Nat):KL:=fun x w1=> ∃j:Nat,x=[.int .i64 (j:Int)]/\Rf w w1 g e cap d/\j < n/\scanDown p d i j=r
theorem apg{p:Int->Bool}{i j:Nat}(H:Rw w g e cap d)(hi:i<=j+2){K0:KL}{body:KL->KL->KL}
  (hB: ∀(k:Nat) w1 (Kn:KL),k<=j+2->Rf w w1 g e cap d->((k<=j/\p d[k]! =true)->∀w2,Rf w w2 g e cap d->Kn [.int .i64 ((k+1:Nat):Int)] w2)->(¬(k<=j/\p d[k]! =true)->∀w2,Rf w w2 g e cap d->K0 [.int .i64 (k:Int)] w2)->body K0 Kn [.int .i64 (k:Int)] w1)
  (h: ∀w',Rf w w' g e cap d->K0 [.int .i64 (scanUp p d j i:Nat)] w'):im (fun K0=>jo [.int .i64 (i:Int)] w (body K0)) K0:=by
 rw[ir]
 generalize hr:scanUp p d j i=r at *
 refine⟨UpI w g e cap d p j r,fun x _=>j+2 - ms x 0,⟨i,rfl,H.ou,hi,hr⟩,?_⟩
 clear hr
 rintro x w1 ⟨k,rfl,H1,hk,hR⟩
 unfold scanUp at hR
 refine hB k w1 _ hk H1 (fun hc w2 H2=>?_) fun hc w2 H2=>?_
 ·rw[if_pos (by simpa using hc)] at hR
  refine⟨⟨k+1,rfl,H2,by omega,hR⟩,?_⟩
  simp[ms,gv];omega
 ·rw[if_neg (by simpa using hc)] at hR
  rw[<-hR] at h
  exact h w2 H2
theorem aje{p:Int->Bool}{i j:Nat}(H:Rw w g e cap d)(hj:j < n)(hi:1<=i){K0:KL}{body:KL->KL->KL}
  (hB: ∀(k:Nat) w1 (Kn:KL),k < n->Rf w w1 g e cap d->((i<=k/\p d[k]! =true)->∀w2,Rf w w2 g e cap d->Kn [.int .i64 ((k - 1:Nat):Int)] w2)->(¬(i<=k/\p d[k]! =true)->∀w2,Rf w w2 g e cap d->K0 [.int .i64 (k:Int)] w2)->body K0 Kn [.int .i64 (k:Int)] w1)
  (h: ∀w',Rf w w' g e cap d->K0 [.int .i64 (scanDown p d i j:Nat)] w'):im (fun K0=>jo [.int .i64 (j:Int)] w (body K0)) K0:=by
 rw[ir]
 generalize hr:scanDown p d i j=r at *
 refine⟨DnI w g e cap d p i n r,fun x _=>ms x 0,⟨j,rfl,H.ou,hj,hr⟩,?_⟩
 clear hr
 rintro x w1 ⟨k,rfl,H1,hk,hR⟩
 refine hB k w1 _ hk H1 (fun hc w2 H2=>?_) fun hc w2 H2=>?_
 ·cases k with
  | zero=>omega
  | succ k=>
   unfold scanDown at hR
   rw[if_pos (by simpa using hc)] at hR
   refine⟨⟨k,rfl,H2,by omega,hR⟩,?_⟩
   simp[ms,gv]
 ·have:scanDown p d i k=k:=by
   cases k with
   | zero=>rfl
   | succ k=>unfold scanDown;rw[if_neg (by simpa using hc)]
  rw[this] at hR
  rw[<-hR] at h
  exact h w2 H2
omit [SE] in
theorem akg(p:Int->Bool)(d:Array Int)(j i:Nat):scanUp p d j i<=max i (j+1):=by
 by_cases h:i<=j+1
 ·have:=(scanUp_spec p d j _ i rfl).2.1 h
  omega
 ·unfold scanUp
  rw[if_neg (by simp;omega)]
  omega
omit [SE] in
theorem g0(u:Value):gv [u] 0=u:=rfl
omit [SE] in
theorem g20(u v:Value):gv [u,v] 0=u:=rfl
omit [SE] in
theorem g21(u v:Value):gv [u,v] 1=v:=rfl
theorem bmg{w0 w1:World}{a k j:Nat}{K0 Kn:KL}{K:KV}(H1:Rf w0 w1 g e cap d)(hn:d.size=n)(h6:n < 100000)(ha:a < n)(hj:j < n)(hk:k<=j+2)
  (k1:(k<=j/\ltInt d[k]! d[a]! =true)->∀w2,Rf w0 w2 g e cap d->Kn [.int .i64 ((k+1:Nat):Int)] w2) (k2: ¬(k<=j/\ltInt d[k]! d[a]! =true)->∀w2,Rf w0 w2 g e cap d->K0 [.int .i64 (k:Int)] w2):
  M.bq.j1 [.int .i64 (k:Int)] (.int .i64 (j:Int)) (.slice (some ⟨g,0,none⟩) n cap) (.int .i64 (a:Int)) K0 Kn w1 K:=by
 unfold M.bq.j1
 by_cases hkj:k<=j
 ·have a1:=H1.row.at (show k < d.size by omega)
  have a2:=H1.row.at (show a < d.size by omega)
  have b1:(k:Int) < n:=by omega
  have b2:(a:Int) < n:=by omega
  have b3:(k:Int)<=j:=by omega
  simp[g0,g21,b1,b2,b3,a1,a2]
  refine sf _ _ ?_
  cases hl:ltInt d[k]! d[a]! with
  | true=>
   simp[rl (show k < 1000000 by omega)]
   have:=k1 ⟨hkj,hl⟩ _ (H1.dr 1)
   simpa using this
  | false=>
   simp[rl (show k < 1000000 by omega)]
   have:=k2 (fun h=>by simp[hl] at h) _ (H1.dr 1)
   simpa using this
 ·have b3: ¬(k:Int)<=j:=by omega
  simp[g0,g21,b3]
  have:=k2 (fun h=>hkj h.1) _ (H1.dr 1)
  simpa using this
theorem bnd{w0 w1:World}{a k i:Nat}{K0 Kn:KL}{K:KV}(H1:Rf w0 w1 g e cap d)(hn:d.size=n)(h6:n < 100000)(hai:a < n/\1<=i)(hk:k < n)
  (k1:(i<=k/\(!ltInt d[k]! d[a]!)=true)->∀w2,Rf w0 w2 g e cap d->Kn [.int .i64 ((k - 1:Nat):Int)] w2) (k2: ¬(i<=k/\(!ltInt d[k]! d[a]!)=true)->∀w2,Rf w0 w2 g e cap d->K0 [.int .i64 (k:Int)] w2):
  M.bq.j4 [.int .i64 (i:Int)] [.int .i64 (k:Int)] (.slice (some ⟨g,0,none⟩) n cap) (.int .i64 (a:Int)) K0 Kn w1 K:=by
 unfold M.bq.j4
 by_cases hik:i<=k
 ·have a1:=H1.row.at (show k < d.size by omega)
  have a2:=H1.row.at (show a < d.size by omega)
  have b1:(k:Int) < n:=by omega
  have b2:(a:Int) < n:=by omega
  have b3:(i:Int)<=k:=by omega
  have hw:IntKind.i64.wrap ((k:Int) - 1)=((k - 1:Nat):Int):=by rw[jc];omega
  simp[g0,b1,b2,b3,a1,a2]
  refine sf _ _ ?_
  cases hl:ltInt d[k]! d[a]! with
  | true=>
   simp[hw]
   have:=k2 (fun h=>by simp[hl] at h) _ (H1.dr 1)
   simpa using this
  | false=>
   simp[hw]
   have:=k1 ⟨hik,by simp[hl]⟩ _ (H1.dr 1)
   simpa using this
 ·have b3: ¬(i:Int)<=k:=by omega
  simp[g0,b3]
  have:=k2 (fun h=>hik h.1) _ (H1.dr 1)
  simpa using this
theorem bgy{w0 w1:World}{vi:Value}{a k j:Nat}{K0 Kn:KL}{K:KV}(H1:Rf w0 w1 g e cap d)(hn:d.size=n)(h6:n < 100000)(ha:a < n)(hj:j < n)(hk:k<=j+2)
  (k1:(k<=j/\ltInt d[k]! d[a]! =true)->∀w2,Rf w0 w2 g e cap d->Kn [.int .i64 ((k+1:Nat):Int)] w2) (k2: ¬(k<=j/\ltInt d[k]! d[a]! =true)->∀w2,Rf w0 w2 g e cap d->K0 [.int .i64 (k:Int)] w2):
  M.bq.j10 [.int .i64 (k:Int)] [vi,.int .i64 (j:Int)] (.slice (some ⟨g,0,none⟩) n cap) (.int .i64 (a:Int)) K0 Kn w1 K:=by
 unfold M.bq.j10
 by_cases hkj:k<=j
 ·have a1:=H1.row.at (show k < d.size by omega)
  have a2:=H1.row.at (show a < d.size by omega)
  have b1:(k:Int) < n:=by omega
  have b2:(a:Int) < n:=by omega
  have b3:(k:Int)<=j:=by omega
  simp[g0,g21,b1,b2,b3,a1,a2]
  refine sf _ _ ?_
  cases hl:ltInt d[k]! d[a]! with
  | true=>
   simp[rl (show k < 1000000 by omega)]
   have:=k1 ⟨hkj,hl⟩ _ (H1.dr 1)
   simpa using this
  | false=>
   simp[rl (show k < 1000000 by omega)]
   have:=k2 (fun h=>by simp[hl] at h) _ (H1.dr 1)
   simpa using this
 ·have b3: ¬(k:Int)<=j:=by omega
  simp[g0,g21,b3]
  have:=k2 (fun h=>hkj h.1) _ (H1.dr 1)
  simpa using this
theorem bhu{w0 w1:World}{a k i:Nat}{K0 Kn:KL}{K:KV}(H1:Rf w0 w1 g e cap d)(hn:d.size=n)(h6:n < 100000)(hai:a < n/\1<=i)(hk:k < n)
  (k1:(i<=k/\(!ltInt d[k]! d[a]!)=true)->∀w2,Rf w0 w2 g e cap d->Kn [.int .i64 ((k - 1:Nat):Int)] w2) (k2: ¬(i<=k/\(!ltInt d[k]! d[a]!)=true)->∀w2,Rf w0 w2 g e cap d->K0 [.int .i64 (k:Int)] w2):
  M.bq.j13 [.int .i64 (i:Int)] [.int .i64 (k:Int)] (.slice (some ⟨g,0,none⟩) n cap) (.int .i64 (a:Int)) K0 Kn w1 K:=by
 unfold M.bq.j13
 by_cases hik:i<=k
 ·have a1:=H1.row.at (show k < d.size by omega)
  have a2:=H1.row.at (show a < d.size by omega)
  have b1:(k:Int) < n:=by omega
  have b2:(a:Int) < n:=by omega
  have b3:(i:Int)<=k:=by omega
  have hw:IntKind.i64.wrap ((k:Int) - 1)=((k - 1:Nat):Int):=by rw[jc];omega
  simp[g0,b1,b2,b3,a1,a2]
  refine sf _ _ ?_
  cases hl:ltInt d[k]! d[a]! with
  | true=>
   simp[hw]
   have:=k2 (fun h=>by simp[hl] at h) _ (H1.dr 1)
   simpa using this
  | false=>
   simp[hw]
   have:=k1 ⟨hik,by simp[hl]⟩ _ (H1.dr 1)
   simpa using this
 ·have b3: ¬(i:Int)<=k:=by omega
  simp[g0,b3]
  have:=k2 (fun h=>hik h.1) _ (H1.dr 1)
  simpa using this
theorem bmr{w0 w1:World}{vi:Value}{a k j:Nat}{K0 Kn:KL}{K:KV}(H1:Rf w0 w1 g e cap d)(hn:d.size=n)(h6:n < 100000)(ha:a < n)(hj:j < n)(hk:k<=j+2)
  (k1:(k<=j/\(!ltInt d[a]! d[k]!)=true)->∀w2,Rf w0 w2 g e cap d->Kn [.int .i64 ((k+1:Nat):Int)] w2) (k2: ¬(k<=j/\(!ltInt d[a]! d[k]!)=true)->∀w2,Rf w0 w2 g e cap d->K0 [.int .i64 (k:Int)] w2):
  M.ek.j3 [.int .i64 (k:Int)] [vi,.int .i64 (j:Int)] (.slice (some ⟨g,0,none⟩) n cap) (.int .i64 (a:Int)) K0 Kn w1 K:=by
 unfold M.ek.j3
 by_cases hkj:k<=j
 ·have a1:=H1.row.at (show k < d.size by omega)
  have a2:=H1.row.at (show a < d.size by omega)
  have b1:(k:Int) < n:=by omega
  have b2:(a:Int) < n:=by omega
  have b3:(k:Int)<=j:=by omega
  simp[g0,g21,b1,b2,b3,a1,a2]
  refine sf _ _ ?_
  cases hl:ltInt d[a]! d[k]! with
  | true=>
   simp[rl (show k < 1000000 by omega)]
   have:=k2 (fun h=>by simp[hl] at h) _ (H1.dr 1)
   simpa using this
  | false=>
   simp[rl (show k < 1000000 by omega)]
   have:=k1 ⟨hkj,by simp[hl]⟩ _ (H1.dr 1)
   simpa using this
 ·have b3: ¬(k:Int)<=j:=by omega
  simp[g0,g21,b3]
  have:=k2 (fun h=>hkj h.1) _ (H1.dr 1)
  simpa using this
theorem bmt{w0 w1:World}{a k i:Nat}{K0 Kn:KL}{K:KV}(H1:Rf w0 w1 g e cap d)(hn:d.size=n)(h6:n < 100000)(hai:a < n/\1<=i)(hk:k < n)
  (k1:(i<=k/\ltInt d[a]! d[k]! =true)->∀w2,Rf w0 w2 g e cap d->Kn [.int .i64 ((k - 1:Nat):Int)] w2) (k2: ¬(i<=k/\ltInt d[a]! d[k]! =true)->∀w2,Rf w0 w2 g e cap d->K0 [.int .i64 (k:Int)] w2):
  M.ek.j6 [.int .i64 (i:Int)] [.int .i64 (k:Int)] (.slice (some ⟨g,0,none⟩) n cap) (.int .i64 (a:Int)) K0 Kn w1 K:=by
 unfold M.ek.j6
 by_cases hik:i<=k
 ·have a1:=H1.row.at (show k < d.size by omega)
  have a2:=H1.row.at (show a < d.size by omega)
  have b1:(k:Int) < n:=by omega
  have b2:(a:Int) < n:=by omega
  have b3:(i:Int)<=k:=by omega
  have hw:IntKind.i64.wrap ((k:Int) - 1)=((k - 1:Nat):Int):=by rw[jc];omega
  simp[g0,b1,b2,b3,a1,a2]
  refine sf _ _ ?_
  cases hl:ltInt d[a]! d[k]! with
  | true=>
   simp[hw]
   have:=k1 ⟨hik,hl⟩ _ (H1.dr 1)
   simpa using this
  | false=>
   simp[hw]
   have:=k2 (fun h=>by simp[hl] at h) _ (H1.dr 1)
   simpa using this
 ·have b3: ¬(i:Int)<=k:=by omega
  simp[g0,b3]
  have:=k2 (fun h=>hik h.1) _ (H1.dr 1)
  simpa using this
end
def PlI(w:World)(g:Nat)(e:TypeId)(cap n a b:Nat)(R:Nat×Array Int):KL:=fun x w1=> ∃(i j:Nat)(d:Array Int),x=[.int .i64 (i:Int),.int .i64 (j:Int)]/\Rf w w1 g e cap d/\d.size=n/\a < i/\i<=j+2/\j < b/\partLoop ltInt a i j d=R
theorem atc{w:World}{g cap n:Nat}{e:TypeId}{d:Array Int}(H:Rw w g e cap d)(hn:d.size=n)(h6:n < 100000){a b pv:Nat}(hb:b<=n)(ha:a<=pv)(hp:pv < b){K:KV}
  (h: ∀w',Rf w w' g e cap (partition ltInt d a b pv).2.2->K (.tuple #[.int .i64 ((partition ltInt d a b pv).1:Nat),.bool (partition ltInt d a b pv).2.1]) w'):
  jy P F.hx [.slice (some ⟨g,0,none⟩) n cap,.int .i64 a,.int .i64 b,.int .i64 pv] w K:=by
 apply M.bq.calls
 unfold M.bq
 have a1:=H.at (show a < d.size by omega)
 have a2:=H.at (show pv < d.size by omega)
 have b1:(a:Int) < n:=by omega
 have b2:(pv:Int) < n:=by omega
 have f1:=H.frz a
 have f2:=H.frz pv
 have hw1:IntKind.i64.wrap ((a:Int)+1)=((a+1:Nat):Int):=rl (by omega)
 have hw2:IntKind.i64.wrap ((b:Int) - 1)=((b - 1:Nat):Int):=by rw[jc];omega
 simp[b1,b2,a1,a2,f1,f2,kp,me,hw1,hw2,-Int.natCast_add,-ir]
 have H1:=(H.ou.dr 1).swp (i:=a) (j:=pv) (by omega) (by omega)
 generalize ((dr w 1).setCell ⟨g,a,none⟩ (.int SD.k d[pv]!)).setCell ⟨g,pv,none⟩ (.int SD.k d[a]!)=w1 at *
 clear a1 a2 f1 f2
 unfold partition at h
 have hn1:(Sort.swp d a pv).size=n:=by rw[size_swp];exact hn
 generalize Sort.swp d a pv=d1 at *
 try simp only at h
 refine apg (p:=fun x=>ltInt x d1[a]!) (i:=a+1) (j:=b - 1) H1.row (by omega) (fun k w2 Kn hk H2 k1 k2=>by refine bmg H2 hn1 h6 (by omega) (by omega) hk ?_ ?_ <;>first|exact k1|exact k2) fun w2 H2=>?_
 have hge:=scanUp_ge (fun x=>ltInt x d1[a]!) d1 (b - 1) (a+1)
 have hle:=akg (fun x=>ltInt x d1[a]!) d1 (b - 1) (a+1)
 generalize scanUp (fun x=>ltInt x d1[a]!) d1 (b - 1) (a+1)=i at *
 refine aje (n:=n) (p:=fun x=>!ltInt x d1[a]!) H2.row (by omega) (i:=i) (j:=b - 1) (by omega) (fun k w3 Kn hk H3 k1 k2=>by refine bnd H3 hn1 h6 (by omega) hk ?_ ?_ <;>first|exact k1|exact k2) fun w3 H3=>?_
 have hdl:=scanDown_le (fun x=>!ltInt x d1[a]!) d1 i (b - 1)
 generalize scanDown (fun x=>!ltInt x d1[a]!) d1 i (b - 1)=j at *
 have H3':=H1.trans (H2.trans H3)
 unfold M.bq.j3
 have c1:=H3.row.at (show a < d1.size by omega)
 have c2:=H3.row.at (show j < d1.size by omega)
 have e1:(j:Int) < n:=by omega
 have f1:=H3.row.frz a
 have f2:=H3.row.frz j
 simp only[ir,g0]
 by_cases hij:i > j
 ·have hij':(j:Int) < i:=by omega
  rw[if_pos hij] at h
  simp[hij',b1,e1,c1,c2,f1,f2,kp,me,-Int.natCast_add]
  exact h _ ((H3'.dr 1).swp (by omega) (by omega))
 ·have hij': ¬(j:Int) < i:=by omega
  rw[if_neg hij] at h
  simp only[wu,hij',decide_false,Eng.cond_false]
  unfold M.bq.j6
  have c3:=H3.row.at (show i < d1.size by omega)
  have e2:(i:Int) < n:=by omega
  have f3:=H3.row.frz i
  have hw3:IntKind.i64.wrap ((i:Int)+1)=((i+1:Nat):Int):=rl (by omega)
  have hw4:IntKind.i64.wrap ((j:Int) - 1)=((j - 1:Nat):Int):=by rw[jc];omega
  simp[g0,e1,e2,c2,c3,f2,f3,kp,me,hw3,hw4,-Int.natCast_add,-ir]
  rw[ir]
  have H4:=(H3'.dr 1).swp (i:=i) (j:=j) (by omega) (by omega)
  generalize ((dr w3 1).setCell ⟨g,i,none⟩ (.int SD.k d1[j]!)).setCell ⟨g,j,none⟩ (.int SD.k d1[i]!)=w4 at *
  have hn2:(Sort.swp d1 i j).size=n:=by rw[size_swp];exact hn1
  generalize Sort.swp d1 i j=d2 at *
  generalize hr:partLoop ltInt a (i+1) (j - 1) d2=r at *
  refine⟨PlI w g e cap n a b r,fun x _=>ms x 1+2 - ms x 0,⟨i+1,j - 1,d2,rfl,H4,hn2,by omega,by omega,by omega,hr⟩,?_⟩
  rintro x w5 ⟨i5,j5,d5,rfl,H5,hn5,ha5,hij5,hj5,hR⟩
  rw[partLoop_eq] at hR
  refine apg (p:=fun x=>ltInt x d5[a]!) (i:=i5) (j:=j5) H5.row hij5 (fun k w6 Kn hk H6 k1 k2=>by refine bgy H6 hn5 h6 (by omega) (by omega) hk ?_ ?_ <;>first|exact k1|exact k2) fun w6 H6=>?_
  have hge:=scanUp_ge (fun x=>ltInt x d5[a]!) d5 j5 i5
  have hle:=akg (fun x=>ltInt x d5[a]!) d5 j5 i5
  generalize scanUp (fun x=>ltInt x d5[a]!) d5 j5 i5=i6 at *
  unfold M.bq.j9
  simp only[g21]
  refine aje (n:=n) (p:=fun x=>!ltInt x d5[a]!) H6.row (by omega) (i:=i6) (j:=j5) (by omega) (fun k w7 Kn hk H7 k1 k2=>by refine bhu H7 hn5 h6 (by omega) hk ?_ ?_ <;>first|exact k1|exact k2) fun w7 H7=>?_
  have hdl:=scanDown_le (fun x=>!ltInt x d5[a]!) d5 i6 j5
  generalize scanDown (fun x=>!ltInt x d5[a]!) d5 i6 j5=j6 at *
  have H7':=H5.trans (H6.trans H7)
  try simp only at hR
  simp only[g0,ir]
  by_cases hgt:i6 > j6
  ·have hgt':(j6:Int) < i6:=by omega
   rw[if_pos hgt] at hR
   simp only[wu,hgt',decide_true,Eng.cond_true]
   unfold M.bq.j7
   have c1:=H7.row.at (show a < d5.size by omega)
   have c2:=H7.row.at (show j6 < d5.size by omega)
   have e1:(j6:Int) < n:=by omega
   have f1:=H7.row.frz a
   have f2:=H7.row.frz j6
   simp[g21,b1,e1,c1,c2,f1,f2,kp,me,-Int.natCast_add]
   subst hR
   exact h _ ((H7'.dr 1).swp (by omega) (by omega))
  ·have hgt': ¬(j6:Int) < i6:=by omega
   rw[if_neg hgt] at hR
   simp only[wu,hgt',decide_false,Eng.cond_false]
   unfold M.bq.j15
   have c1:=H7.row.at (show i6 < d5.size by omega)
   have c2:=H7.row.at (show j6 < d5.size by omega)
   have e1:(j6:Int) < n:=by omega
   have e2:(i6:Int) < n:=by omega
   have f1:=H7.row.frz i6
   have f2:=H7.row.frz j6
   have hw3:IntKind.i64.wrap ((i6:Int)+1)=((i6+1:Nat):Int):=rl (by omega)
   have hw4:IntKind.i64.wrap ((j6:Int) - 1)=((j6 - 1:Nat):Int):=by rw[jc];omega
   simp[g0,e1,e2,c1,c2,f1,f2,kp,me,hw3,hw4,-Int.natCast_add]
   refine⟨⟨i6+1,j6 - 1,_,rfl,(H7'.dr 1).swp (by omega) (by omega),by rw[size_swp];exact hn5,by omega,by omega,by omega,hR⟩,?_⟩
   simp[ms,gv];omega
def PeI(w:World)(g:Nat)(e:TypeId)(cap n a b:Nat)(R:Nat×Array Int):KL:=fun x w1=> ∃(i j:Nat)(d:Array Int),x=[.int .i64 (i:Int),.int .i64 (j:Int)]/\Rf w w1 g e cap d/\d.size=n/\a < i/\i<=j+2/\j < b/\partEqLoop ltInt a i j d=R
theorem ale{w:World}{g cap n:Nat}{e:TypeId}{d:Array Int}(H:Rw w g e cap d)(hn:d.size=n)(h6:n < 100000){a b pv:Nat}(hb:b<=n)(ha:a<=pv)(hp:pv < b){K:KV}
  (h: ∀w',Rf w w' g e cap (partitionEqual ltInt d a b pv).2->K (.int .i64 ((partitionEqual ltInt d a b pv).1:Nat)) w'):
  jy P F.ic [.slice (some ⟨g,0,none⟩) n cap,.int .i64 a,.int .i64 b,.int .i64 pv] w K:=by
 apply M.ek.calls
 unfold M.ek
 have a1:=H.at (show a < d.size by omega)
 have a2:=H.at (show pv < d.size by omega)
 have b1:(a:Int) < n:=by omega
 have b2:(pv:Int) < n:=by omega
 have f1:=H.frz a
 have f2:=H.frz pv
 have hw1:IntKind.i64.wrap ((a:Int)+1)=((a+1:Nat):Int):=rl (by omega)
 have hw2:IntKind.i64.wrap ((b:Int) - 1)=((b - 1:Nat):Int):=by rw[jc];omega
 simp[b1,b2,a1,a2,f1,f2,kp,me,hw1,hw2,-Int.natCast_add,-ir]
 have H1:=(H.ou.dr 1).swp (i:=a) (j:=pv) (by omega) (by omega)
 generalize ((dr w 1).setCell ⟨g,a,none⟩ (.int SD.k d[pv]!)).setCell ⟨g,pv,none⟩ (.int SD.k d[a]!)=w1 at *
 clear a1 a2 f1 f2
 unfold partitionEqual at h
 have hn1:(Sort.swp d a pv).size=n:=by rw[size_swp];exact hn
 generalize Sort.swp d a pv=d1 at *
 generalize hr:partEqLoop ltInt a (a+1) (b - 1) d1=r at *
 rw[ir]
 refine⟨PeI w g e cap n a b r,fun x _=>ms x 1+2 - ms x 0,⟨a+1,b - 1,d1,rfl,H1,hn1,by omega,by omega,by omega,hr⟩,?_⟩
 rintro x w5 ⟨i5,j5,d5,rfl,H5,hn5,ha5,hij5,hj5,hR⟩
 rw[partEqLoop_eq] at hR
 simp only[g20]
 refine apg (p:=fun x=>!ltInt d5[a]! x) (i:=i5) (j:=j5) H5.row hij5 (fun k w6 Kn hk H6 k1 k2=>by refine bmr H6 hn5 h6 (by omega) (by omega) hk ?_ ?_ <;>first|exact k1|exact k2) fun w6 H6=>?_
 have hge:=scanUp_ge (fun x=>!ltInt d5[a]! x) d5 j5 i5
 have hle:=akg (fun x=>!ltInt d5[a]! x) d5 j5 i5
 generalize scanUp (fun x=>!ltInt d5[a]! x) d5 j5 i5=i6 at *
 unfold M.ek.j2
 simp only[g21]
 refine aje (n:=n) (p:=fun x=>ltInt d5[a]! x) H6.row (by omega) (i:=i6) (j:=j5) (by omega) (fun k w7 Kn hk H7 k1 k2=>by refine bmt H7 hn5 h6 (by omega) hk ?_ ?_ <;>first|exact k1|exact k2) fun w7 H7=>?_
 have hdl:=scanDown_le (fun x=>ltInt d5[a]! x) d5 i6 j5
 generalize scanDown (fun x=>ltInt d5[a]! x) d5 i6 j5=j6 at *
 have H7':=H5.trans (H6.trans H7)
 try simp only at hR
 simp only[g0,ir]
 by_cases hgt:i6 > j6
 ·have hgt':(j6:Int) < i6:=by omega
  rw[if_pos hgt] at hR
  simp only[wu,hgt',decide_true,Eng.cond_true,g20]
  subst hR
  exact h _ H7'
 ·have hgt': ¬(j6:Int) < i6:=by omega
  rw[if_neg hgt] at hR
  simp only[wu,hgt',decide_false,Eng.cond_false]
  unfold M.ek.j8
  have c1:=H7.row.at (show i6 < d5.size by omega)
  have c2:=H7.row.at (show j6 < d5.size by omega)
  have e1:(j6:Int) < n:=by omega
  have e2:(i6:Int) < n:=by omega
  have f1:=H7.row.frz i6
  have f2:=H7.row.frz j6
  have hw3:IntKind.i64.wrap ((i6:Int)+1)=((i6+1:Nat):Int):=rl (by omega)
  have hw4:IntKind.i64.wrap ((j6:Int) - 1)=((j6 - 1:Nat):Int):=by rw[jc];omega
  simp[g0,e1,e2,c1,c2,f1,f2,kp,me,hw3,hw4,-Int.natCast_add]
  refine⟨⟨i6+1,j6 - 1,_,rfl,(H7'.dr 1).swp (by omega) (by omega),by rw[size_swp];exact hn5,by omega,by omega,by omega,hR⟩,?_⟩
  simp[ms,gv];omega
end Go.Proofs.YtgepcfcicngceaaGreatDoor.SG
set_option maxRecDepth 100000
namespace Go.Proofs.YtgepcfcicngceaaGreatDoor.SG
open Go.Eng Go.Sort
variable [SE]
def RvI(w:World)(g:Nat)(e:TypeId)(cap n:Nat)(R:Array Int):KL:=fun x w1=> ∃(i j:Nat)(d:Array Int),x=[.int .i64 (i:Int),.int .i64 (j:Int)]/\Rf w w1 g e cap d/\d.size=n/\i<=n/\j < n/\reverseLoop i j d=R
theorem baa{w:World}{g cap n:Nat}{e:TypeId}{d:Array Int}(H:Rw w g e cap d)(hn:d.size=n)(h6:n < 100000){a b:Nat}(hb:b<=n)(hab:a < b){K:KV}
  (h: ∀w',Rf w w' g e cap (reverseRange d a b)->K (.tuple #[]) w'):jy P F.ig [.slice (some ⟨g,0,none⟩) n cap,.int .i64 a,.int .i64 b] w K:=by
 apply M.fu.calls
 unfold M.fu
 have hw2:IntKind.i64.wrap ((b:Int) - 1)=((b - 1:Nat):Int):=by rw[jc];omega
 simp only[ol,hw2]
 unfold reverseRange at h
 generalize hR:reverseLoop a (b - 1) d=R at *
 refine⟨RvI w g e cap n R,fun x _=>ms x 1 - ms x 0,⟨a,b - 1,d,rfl,H.ou,hn,by omega,by omega,hR⟩,?_⟩
 clear hR
 rintro x w1 ⟨i,j,d1,rfl,H1,hn1,hi,hj,hR⟩
 simp only[ir,g20,g21]
 unfold reverseLoop at hR
 by_cases hij:i < j
 ·have hij':(i:Int) < j:=by omega
  rw[if_pos hij] at hR
  simp only[na,hij',decide_true,Eng.cond_true]
  unfold M.fu.j1
  have c1:=H1.row.at (show i < d1.size by omega)
  have c2:=H1.row.at (show j < d1.size by omega)
  have e1:(i:Int) < n:=by omega
  have e2:(j:Int) < n:=by omega
  have f1:=H1.row.frz i
  have f2:=H1.row.frz j
  have hw3:IntKind.i64.wrap ((i:Int)+1)=((i+1:Nat):Int):=rl (by omega)
  have hw4:IntKind.i64.wrap ((j:Int) - 1)=((j - 1:Nat):Int):=by rw[jc];omega
  simp[g20,g21,e1,e2,c1,c2,f1,f2,kp,me,hw3,hw4,-Int.natCast_add]
  refine⟨⟨i+1,j - 1,_,rfl,(H1.dr 1).swp (by omega) (by omega),by rw[size_swp];exact hn1,by omega,by omega,hR⟩,?_⟩
  simp[ms,gv];omega
 ·have hij': ¬(i:Int) < j:=by omega
  rw[if_neg hij] at hR
  subst hR
  simp only[na,hij',decide_false,Eng.cond_false]
  exact h w1 H1
omit [SE] in
theorem arp(d:Array Int)(b:Nat): ∀m i,b - i<=m->i<=b->i<=scanSorted ltInt d b i/\scanSorted ltInt d b i<=b:=by
 intro m
 induction m with
 | zero=>
  intro i hm hi
  unfold scanSorted
  rw[if_neg (by simp;omega)]
  omega
 | succ m ih=>
  intro i hm hi
  unfold scanSorted
  split
  ·rename_i h
   simp at h
   have:=ih (i+1) (by omega) (by omega)
   omega
  ·omega
omit [SE] in
theorem ago: ∀(j:Nat)(d:Array Int),(shiftDown ltInt j d).size=d.size
 | 0,_=>rfl
 | j+1,d=>by
  unfold shiftDown
  split
  ·rfl
  ·rw[ago j,size_swp]
omit [SE] in
theorem ass(b:Nat): ∀(m j:Nat)(d:Array Int),b - j<=m->(shiftUp ltInt b j d).size=d.size:=by
 intro m
 induction m with
 | zero=>
  intro j d hm
  unfold shiftUp
  rw[if_neg (by omega)]
 | succ m ih=>
  intro j d hm
  unfold shiftUp
  split
  ·split
   ·rfl
   ·rw[ih _ _ (by omega),size_swp]
  ·rfl
section
variable {w : World} {g cap n : Nat} {e : TypeId} {d : Array Int}
def SsI(w:World)(g:Nat)(e:TypeId)(cap:Nat)(d:Array Int)(a b r:Nat):KL:=fun x w1=> ∃i:Nat,x=[.int .i64 (i:Int)]/\Rf w w1 g e cap d/\a < i/\i<=b/\scanSorted ltInt d b i=r
theorem bhn(H:Rw w g e cap d)(hn:d.size=n)(h6:n < 100000){a b i:Nat}(hb:b<=n)(ha:a < i)(hi:i<=b){K4:KL}{K:KV}
  (h: ∀w',Rf w w' g e cap d->K4 [.int .i64 (scanSorted ltInt d b i:Nat)] w'):
  im (fun K4=>jo [.int .i64 (i:Int)] w fun K5 x5 w=>M.bc.j5 x5 (.int .i64 (b:Int)) (.slice (some ⟨g,0,none⟩) n cap) K4 K5 w K) K4:=by
 rw[ir]
 generalize hr:scanSorted ltInt d b i=r at *
 refine⟨SsI w g e cap d a b r,fun x _=>b - ms x 0,⟨i,rfl,H.ou,ha,hi,hr⟩,?_⟩
 clear hr
 rintro x w1 ⟨k,rfl,H1,hak,hkb,hR⟩
 unfold M.bc.j5
 unfold scanSorted at hR
 by_cases hk:k < b
 ·have a1:=H1.row.at (show k < d.size by omega)
  have a2:=H1.row.at (show k - 1 < d.size by omega)
  have b1:(k:Int) < n:=by omega
  have b2:((k - 1:Nat):Int) < n:=by omega
  have b3:(k:Int) < b:=by omega
  have hw:IntKind.i64.wrap ((k:Int) - 1)=((k - 1:Nat):Int):=by rw[jc];omega
  simp[g0,b1,b2,b3,a1,a2,hw]
  refine sf _ _ ?_
  cases hl:ltInt d[k]! d[k - 1]! with
  | true=>
   rw[if_neg (by simp[hl])] at hR
   simp
   rw[<-hR] at h
   exact h _ (H1.dr 1)
  | false=>
   rw[if_pos (by simp[hl,hk])] at hR
   simp[rl (show k < 1000000 by omega)]
   refine⟨⟨k+1,by simp,H1.dr 1,by omega,by omega,hR⟩,?_⟩
   simp[ms,gv];omega
 ·have b3: ¬(k:Int) < b:=by omega
  rw[if_neg (by simp[hk])] at hR
  simp[g0,b3]
  rw[<-hR] at h
  exact h _ (H1.dr 1)
def SdI(w:World)(g:Nat)(e:TypeId)(cap n:Nat)(R:Array Int):KL:=fun x w1=> ∃(j:Nat)(d:Array Int),x=[.int .i64 (j:Int)]/\Rf w w1 g e cap d/\d.size=n/\j < n/\shiftDown ltInt j d=R
theorem bfy(H:Rw w g e cap d)(hn:d.size=n)(h6:n < 100000){j:Nat}(hj:j < n){K9:KL}{K:KV}
  (h: ∀w' v,Rf w w' g e cap (shiftDown ltInt j d)->K9 [v] w'):
  jo [.int .i64 (j:Int)] w fun K10 x10 w=>im (fun K11=>iy P .geq T.d (.tmp 64) (.const (.int .i64 1)) (gv x10 0) (.int .i64 1) w fun t65 w=>il t65 (K11 [] w) (K9 [(gv x10 0)] w)) fun x11 w=>M.bc.j11 (.slice (some ⟨g,0,none⟩) n cap) x10 K9 K10 w K:=by
 generalize hr:shiftDown ltInt j d=R at *
 refine⟨SdI w g e cap n R,fun x _=>ms x 0,⟨j,d,rfl,H.ou,hn,hj,hr⟩,?_⟩
 clear hr
 rintro x w1 ⟨k,d1,rfl,H1,hn1,hk,hR⟩
 simp only[ir,g0,su]
 cases k with
 | zero=>
  have hk0: ¬(1:Int)<=((0:Nat):Int):=by omega
  simp only[hk0,decide_false,Eng.cond_false]
  unfold shiftDown at hR
  subst hR
  exact h _ _ H1
 | succ k=>
  have hk0:(1:Int)<=((k+1:Nat):Int):=by omega
  simp only[hk0,decide_true,Eng.cond_true]
  unfold M.bc.j11
  unfold shiftDown at hR
  have a1:=H1.row.at (show k+1 < d1.size by omega)
  have a2:=H1.row.at (show k < d1.size by omega)
  have b1:((k+1:Nat):Int) < n:=by omega
  have b2:(k:Int) < n:=by omega
  have f1:=H1.row.frz (k+1)
  have f2:=H1.row.frz k
  have hw:IntKind.i64.wrap (((k+1:Nat):Int) - 1)=(k:Int):=by rw[jc];omega
  simp[g0,b1,b2,a1,a2,hw,-Int.natCast_add]
  refine sf _ _ ?_
  cases hl:ltInt d1[k+1]! d1[k]! with
  | false=>
   rw[if_pos (by simp[hl])] at hR
   subst hR
   simp
   exact h _ _ (H1.dr 1)
  | true=>
   rw[if_neg (by simp[hl])] at hR
   simp[-Int.natCast_add]
   unfold M.bc.j13
   simp[g0,b1,b2,a1,a2,f1,f2,hw,kp,me,-Int.natCast_add]
   refine⟨⟨k,_,rfl,((H1.dr 1).dr 1).swp (by omega) (by omega),by rw[size_swp];exact hn1,by omega,hR⟩,?_⟩
   simp[ms,gv]
def SuI(w:World)(g:Nat)(e:TypeId)(cap n b:Nat)(R:Array Int):KL:=fun x w1=> ∃(j:Nat)(d:Array Int),x=[.int .i64 (j:Int)]/\Rf w w1 g e cap d/\d.size=n/\1<=j/\j<=b/\shiftUp ltInt b j d=R
theorem bpm(H:Rw w g e cap d)(hn:d.size=n)(h6:n < 100000){j b:Nat}(hb:b<=n)(hj:1<=j)(hjb:j<=b){K3:KL}{x4 x8 x9:List Value}{K:KV}
  (h: ∀w' v,Rf w w' g e cap (shiftUp ltInt b j d)->K3 [gv x4 0,gv x8 0,gv x9 0,v] w'):
  jo [.int .i64 (j:Int)] w fun K14 x14 w=>M.bc.j14 x14 (.int .i64 (b:Int)) K3 x4 x8 x9 (.slice (some ⟨g,0,none⟩) n cap) K14 w K:=by
 generalize hr:shiftUp ltInt b j d=R at *
 refine⟨SuI w g e cap n b R,fun x _=>b - ms x 0,⟨j,d,rfl,H.ou,hn,hj,hjb,hr⟩,?_⟩
 clear hr
 rintro x w1 ⟨k,d1,rfl,H1,hn1,hk1,hk,hR⟩
 unfold M.bc.j14
 simp only[ir,g0,na]
 unfold shiftUp at hR
 by_cases hkb:k < b
 ·have hkb':(k:Int) < b:=by omega
  rw[if_pos hkb] at hR
  simp only[hkb',decide_true,Eng.cond_true]
  unfold M.bc.j15
  have a1:=H1.row.at (show k < d1.size by omega)
  have a2:=H1.row.at (show k - 1 < d1.size by omega)
  have b1:(k:Int) < n:=by omega
  have b2:((k - 1:Nat):Int) < n:=by omega
  have f1:=H1.row.frz k
  have f2:=H1.row.frz (k - 1)
  have hw:IntKind.i64.wrap ((k:Int) - 1)=((k - 1:Nat):Int):=by rw[jc];omega
  simp[g0,b1,b2,a1,a2,hw]
  refine sf _ _ ?_
  cases hl:ltInt d1[k]! d1[k - 1]! with
  | false=>
   rw[if_pos (by simp[hl])] at hR
   subst hR
   simp
   exact h _ _ (H1.dr 1)
  | true=>
   rw[if_neg (by simp[hl])] at hR
   simp
   unfold M.bc.j17
   simp[g0,b1,b2,a1,a2,f1,f2,hw,kp,me,rl (show k < 1000000 by omega)]
   refine⟨⟨k+1,_,by simp,((H1.dr 1).dr 1).swp (by omega) (by omega),by rw[size_swp];exact hn1,by omega,by omega,hR⟩,?_⟩
   simp[ms,gv];omega
 ·have hkb': ¬(k:Int) < b:=by omega
  rw[if_neg hkb] at hR
  simp only[hkb',decide_false,Eng.cond_false]
  subst hR
  exact h _ _ H1
end
def PiI(w:World)(g:Nat)(e:TypeId)(cap n a b:Nat)(R:Array Int×Bool):KL:=fun x w1=> ∃(u1 u2 u3:Value)(i s:Nat)(d:Array Int),x=[.int .i64 (i:Int),u1,u2,u3,.int .i64 ((5 - s:Nat):Int)]/\Rf w w1 g e cap d/\d.size=n/\s<=5/\a < i/\i<=b/\partialIns ltInt a b s i d=R
theorem arv{w:World}{g cap n:Nat}{e:TypeId}{d:Array Int}(H:Rw w g e cap d)(hn:d.size=n)(h6:n < 100000){a b:Nat}(hb:b<=n)(hab:a < b){K:KV}
  (h: ∀w',Rf w w' g e cap (partialInsertionSort ltInt d a b).1->K (.bool (partialInsertionSort ltInt d a b).2) w'):jy P F.hy [.slice (some ⟨g,0,none⟩) n cap,.int .i64 a,.int .i64 b] w K:=by
 apply M.bc.calls
 unfold M.bc
 simp only[mm,rl (show a < 1000000 by omega),ir]
 unfold partialInsertionSort at h
 generalize hR:partialIns ltInt a b 5 (a+1) d=R at *
 refine⟨PiI w g e cap n a b R,fun x _=>5 - ms x 4,⟨_,_,_,a+1,5,d,rfl,H.ou,hn,by omega,by omega,by omega,hR⟩,?_⟩
 clear hR
 rintro x w1 ⟨u1,u2,u3,i,s,d1,rfl,H1,hn1,hs,hai,hib,hR⟩
 have q0: ∀a b c d e:Value,gv [a,b,c,d,e] 0=a:=fun _ _ _ _ _=>rfl
 have q1: ∀a b c d e:Value,gv [a,b,c,d,e] 1=b:=fun _ _ _ _ _=>rfl
 have q2: ∀a b c d e:Value,gv [a,b,c,d,e] 2=c:=fun _ _ _ _ _=>rfl
 have q3: ∀a b c d e:Value,gv [a,b,c,d,e] 3=d:=fun _ _ _ _ _=>rfl
 have q4: ∀a b c d e:Value,gv [a,b,c,d,e] 4=e:=fun _ _ _ _ _=>rfl
 unfold M.bc.j1
 simp only[ir,q0,q1,q2,q3,q4,na]
 cases s with
 | zero=>
  simp
  unfold partialIns at hR
  subst hR
  exact h _ H1
 | succ s=>
  rw[show 5 - (s+1)=4 - s from by omega]
  have hs5:((4 - s:Nat):Int) < 5:=by omega
  simp only[hs5,decide_true,Eng.cond_true]
  unfold M.bc.j2
  unfold partialIns at hR
  simp only at hR
  rw[ir]
  simp only[q0,q1,q2,q3,q4]
  refine bhn (a:=a) H1.row hn1 h6 hb hai hib fun w2 H2=>?_
  have hsc:=arp d1 b _ i (Nat.le_refl _) hib
  generalize scanSorted ltInt d1 b i=i2 at *
  have H2':=H1.trans H2
  simp only[ir,g0,aby]
  by_cases hib2:i2=b
  ·have:(i2:Int)=b:=by omega
   rw[if_pos hib2] at hR
   simp only[this,decide_true,Eng.cond_true]
   subst hR
   exact h _ H2'
  have hib2': ¬(i2:Int)=b:=by omega
  rw[if_neg hib2] at hR
  simp only[hib2',decide_false,Eng.cond_false]
  unfold M.bc.j7
  have hw0:IntKind.i64.wrap ((b:Int) - a)=((b - a:Nat):Int):=zw (by omega) (by omega)
  simp only[ir,ol,hw0,na]
  by_cases h50:b - a < 50
  ·have:((b - a:Nat):Int) < 50:=by omega
   rw[if_pos h50] at hR
   simp only[this,decide_true,Eng.cond_true]
   subst hR
   exact h _ H2'
  have h50': ¬((b - a:Nat):Int) < 50:=by omega
  rw[if_neg h50] at hR
  simp only[h50',decide_false,Eng.cond_false]
  unfold M.bc.j8
  have a1:=H2.row.at (show i2 < d1.size by omega)
  have a2:=H2.row.at (show i2 - 1 < d1.size by omega)
  have b1:(i2:Int) < n:=by omega
  have b2:((i2 - 1:Nat):Int) < n:=by omega
  have f1:=H2.row.frz i2
  have f2:=H2.row.frz (i2 - 1)
  have hw:IntKind.i64.wrap ((i2:Int) - 1)=((i2 - 1:Nat):Int):=by rw[jc];omega
  have hwa:IntKind.i64.wrap ((i2:Int) - a)=((i2 - a:Nat):Int):=zw (by omega) (by omega)
  simp[g0,b1,b2,a1,a2,f1,f2,hw,hwa,kp,me,-ir]
  have H3:=(H2'.dr 1).swp (i:=i2) (j:=i2 - 1) (by omega) (by omega)
  generalize ((dr w2 1).setCell ⟨g,i2,none⟩ (.int SD.k d1[i2 - 1]!)).setCell ⟨g,i2 - 1,none⟩ (.int SD.k d1[i2]!)=w3 at *
  have hn3:(Sort.swp d1 i2 (i2 - 1)).size=n:=by rw[size_swp];exact hn1
  generalize Sort.swp d1 i2 (i2 - 1)=d3 at *
  -- behind the shift vm
  have tail: ∀(x9:List Value)(w4:World)(d4:Array Int),Rf w w4 g e cap d4->d4.size=n->partialIns ltInt a b s i2 (if b - i2≥2 then shiftUp ltInt b (i2+1) d4 else d4)=R->∀(K3:KL)(x8 x1:List Value),
    (∀w' v,∀d5,Rf w w' g e cap d5->d5.size=n->partialIns ltInt a b s i2 d5=R->K3 [.int .i64 (i2:Int),gv x8 0,gv x9 0,v] w')->
    M.bc.j9 (.int .i64 b) [.int .i64 i2] K3 x8 x9 (.slice (some ⟨g,0,none⟩) n cap) x1 w4 K:=by
   intro x9 w4 d4 H4 hn4 hR4 K3 x8 x1 hK
   unfold M.bc.j9
   have hwb:IntKind.i64.wrap ((b:Int) - i2)=((b - i2:Nat):Int):=zw (by omega) (by omega)
   simp only[g0,ol,hwb,su]
   by_cases h2:b - i2≥2
   ·have h2':(2:Int)<=((b - i2:Nat):Int):=by omega
    rw[if_pos h2] at hR4
    simp only[h2',decide_true,Eng.cond_true,mm,rl (show i2 < 1000000 by omega)]
    refine bpm H4.row hn4 h6 hb (by omega) (by omega) fun w5 v H5=>?_
    exact hK _ v _ (H4.trans H5) (by rw[ass _ _ _ _ (Nat.le_refl _)];exact hn4) hR4
   ·have h2': ¬(2:Int)<=((b - i2:Nat):Int):=by omega
    rw[if_neg h2] at hR4
    simp only[h2',decide_false,Eng.cond_false]
    exact hK _ _ _ H4 hn4 hR4
  have fin: ∀w' (x:List Value) d5,gv x 0= .int .i64 i2->Rf w w' g e cap d5->d5.size=n->partialIns ltInt a b s i2 d5=R->
    PiI w g e cap n a b R [gv x 0,gv x 1,gv x 2,gv x 3,.int .i64 (IntKind.i64.wrap (((4 - s:Nat):Int)+1))] w'/\5 - ms [gv x 0,gv x 1,gv x 2,gv x 3,.int .i64 (IntKind.i64.wrap (((4 - s:Nat):Int)+1))] 4 < 5 - ms [.int .i64 (i:Int),u1,u2,u3,.int .i64 ((4 - s:Nat):Int)] 4:=by
   intro w' x d5 hx H5 hn5 hR5
   have:IntKind.i64.wrap (((4 - s:Nat):Int)+1)=((5 - s:Nat):Int):=by rw[jc];omega
   rw[this,hx]
   refine⟨⟨_,_,_,i2,s,d5,rfl,H5,hn5,by omega,by omega,by omega,hR5⟩,?_⟩
   simp only[ms,q4];omega
  by_cases h2:i2 - a≥2
  ·have h2':(2:Int)<=((i2 - a:Nat):Int):=by omega
   rw[if_pos h2] at hR
   simp only[ir,h2',decide_true,Eng.cond_true]
   refine bfy H3.row hn3 h6 (by omega) fun w4 v H4=>?_
   refine tail _ _ _ (H3.trans H4) (by rw[ago];exact hn3) hR _ _ _ fun w' v d5 H5 hn5 hR5=>?_
   exact fin w' [.int .i64 (i2:Int),_,_,v] d5 rfl H5 hn5 hR5
  ·have h2': ¬(2:Int)<=((i2 - a:Nat):Int):=by omega
   rw[if_neg h2] at hR
   simp only[ir,h2',decide_false,Eng.cond_false]
   refine tail _ _ _ H3 hn3 hR _ _ _ fun w' v d5 H5 hn5 hR5=>?_
   exact fin w' [.int .i64 (i2:Int),_,_,v] d5 rfl H5 hn5 hR5
end Go.Proofs.YtgepcfcicngceaaGreatDoor.SG
set_option maxRecDepth 100000
namespace Go.Proofs.YtgepcfcicngceaaGreatDoor
open Go.Eng
theorem bpa: ∀v:Fin 256,((⟨#[0,1,2,2,3,3,3,3,4,4,4,4,4,4,4,4,5,5,5,5,5,5,5,5,5,5,5,5,5,5,5,5,6,6,6,6,6,6,6,6,6,6,6,6,6,6,6,6,6,6,6,6,6,6,6,6,6,6,6,6,6,6,6,6,7,7,7,7,7,7,7,7,7,7,7,7,7,7,7,7,7,7,7,7,7,7,7,7,7,7,7,7,7,7,7,7,7,7,7,7,7,7,7,7,7,7,7,7,7,7,7,7,7,7,7,7,7,7,7,7,7,7,7,7,7,7,7,7,8,8,8,8,8,8,8,8,8,8,8,8,8,8,8,8,8,8,8,8,8,8,8,8,8,8,8,8,8,8,8,8,8,8,8,8,8,8,8,8,8,8,8,8,8,8,8,8,8,8,8,8,8,8,8,8,8,8,8,8,8,8,8,8,8,8,8,8,8,8,8,8,8,8,8,8,8,8,8,8,8,8,8,8,8,8,8,8,8,8,8,8,8,8,8,8,8,8,8,8,8,8,8,8,8,8,8,8,8,8,8,8,8,8,8,8,8,8,8,8,8,8,8,8,8,8,8,8]⟩:ByteArray).get! v.val).toNat=Sort.bitsLen v.val:=by decide+kernel
theorem bqe:acy P T.n=true:=kr
theorem bir{w:World}{x:Nat}(hx:x < 65536){K:KV}(h:K (.int .i64 (Sort.bitsLen x:Nat)) w):jy P F.fp [.int .u64 x] w K:=by
 apply M.bg.calls
 unfold M.bg
 have h1: ¬(4294967296:Int)<=x:=by omega
 simp only[ir,su,h1,decide_false,Eng.cond_false]
 unfold M.bg.j0
 have q0: ∀a b:Value,gv [a,b] 0=a:=fun _ _=>rfl
 have q1: ∀a b:Value,gv [a,b] 1=b:=fun _ _=>rfl
 have h2: ¬(65536:Int)<=x:=by omega
 simp only[ir,q0,q1,su,h2,decide_false,Eng.cond_false]
 unfold M.bg.j1
 have u64B:zc P T.a .u64=true:=by kernel_rfl
 have u8B:zc P T.be .u8=true:=by kernel_rfl
 have i64B:zc P T.d .i64=true:=by kernel_rfl
 have fin: ∀(y z:Nat),y < 256->z+Sort.bitsLen y=Sort.bitsLen x->z < 1000->M.bg.j2 [.int .u64 y,.int .i64 z] w K:=by
  intro y z hy hz hz1
  unfold M.bg.j2
  simp only[q0,q1]
  rw[pw u64B u8B,bqf hy,bmv bqe (by exact hy)]
  have ht:=bpa ⟨y,hy⟩
  simp only at ht
  rw[ht,pw u8B i64B]
  have hb:Sort.bitsLen y<=16:=(Sort.bitsLen_le_iff y 16).2 (by omega)
  rw[axs (by omega)]
  simp only[mm]
  have:((z:Nat):Int)+(Sort.bitsLen y:Nat)=((Sort.bitsLen x:Nat):Int):=by omega
  simp only[this]
  rw[axs (by omega)]
  exact h
 simp only[ir,q0,q1,su]
 by_cases h3:256<=x
 ·have h3':(256:Int)<=x:=by omega
  have hs:iy P .shr T.a (.tmp 15) (.const (.int .u64 8)) (.int .u64 (x:Int)) (.int .u64 8) w=fun K=>K (.int .u64 ((x / 256:Nat):Int)) w:=by
   funext K
   rw[adx (by decide)]
   have:(min (8:Int).toNat IntKind.u64.bits)=8:=by decide
   rw[this,apb]
  have ha:IntKind.i64.wrap (0+8)=((8:Nat):Int):=by decide
  simp only[h3',decide_true,Eng.cond_true,hs,mm,ha]
  exact fin (x / 256) 8 (by omega) (avk h3).symm (by decide)
 ·have h3': ¬(256:Int)<=x:=by omega
  simp only[h3',decide_false,Eng.cond_false]
  exact fin x 0 (by omega) (by omega) (by decide)
theorem alc{w:World}{x:Nat}(hx:x < 65536){K:KV}(h:K (.int .i64 (Sort.bitsLen x:Nat)) w):jy P F.dr [.int .u64 x] w K:=by
 apply M.dz.calls
 unfold M.dz
 simp only[ir,Eng.cond_false]
 rw[M.bg.fcall]
 exact bir hx h
theorem bmp{w:World}{x:Nat}(hx:x < 65536){K:KV}(h:K (.int .u64 ((2 ^ Sort.bitsLen x:Nat):Int)) w):jy P F.da [.int .i64 x] w K:=by
 apply M.dm.calls
 unfold M.dm
 have uB:zc P T.bu .u64=true:=by kernel_rfl
 have i64B:zc P T.d .i64=true:=by kernel_rfl
 rw[pw i64B uB,za (by omega),M.dz.fcall]
 refine alc hx ?_
 have hb:Sort.bitsLen x<=16:=(Sort.bitsLen_le_iff x 16).2 (by omega)
 have hp:2 ^ Sort.bitsLen x<=2 ^ 16:=Nat.pow_le_pow_right (by decide) hb
 rw[agi (by omega)]
 have e1:(((Sort.bitsLen x:Nat):Int)).toNat=Sort.bitsLen x:=by omega
 have e2:min (Sort.bitsLen x) IntKind.u64.bits=Sort.bitsLen x:=by
  have:IntKind.u64.bits=64:=rfl
  omega
 have e3:(1:Int) * 2 ^ Sort.bitsLen x=((2 ^ Sort.bitsLen x:Nat):Int):=by simp
 rw[e1,e2,e3,za (by omega)]
 exact h
theorem ahu{w:World}{b:Nat}{x v:Value}{e:TypeId}(h:w.heap[b]? =some (.cells #[x] e (0,0))):((dr w 1).setCell ⟨b,0,none⟩ v).heap[b]? =some (.cells #[v] e (0,0)):=
 nl (w:=dr w 1) h
theorem axr{w:World}{sb:Nat}{x:Int}{e:TypeId}(hb:w.heap[sb]? =some (.cells #[.int .u64 x] e (0,0))){K:KV}
  (h: ∀w' (y:Int),0<=y->y < 18446744073709551616->w'.heap[sb]? =some (.cells #[.int .u64 y] e (0,0))->Fr (fun b=>b=sb) w w'->K (.int .u64 y) w'):jy P F.db [.pointer (some ⟨sb,0,none⟩)] w K:=by
 apply M.dn.calls
 unfold M.dn
 have s13: ∀(x:Int)(w:World)(K:KV)(t:TypeId)(rx ry:Operand),iy P .shl t rx ry (.int .u64 x) (.int .u64 13) w K=K (.int .u64 (IntKind.u64.wrap (x * 2 ^ min (13:Int).toNat IntKind.u64.bits))) w:=fun x w K t rx ry=>agi (by decide)
 have s7: ∀(x:Int)(w:World)(K:KV)(t:TypeId)(rx ry:Operand),iy P .shr t rx ry (.int .u64 x) (.int .u64 7) w K=K (.int .u64 (x.fdiv (2 ^ min (7:Int).toNat IntKind.u64.bits))) w:=fun x w K t rx ry=>adx (by decide)
 have s17: ∀(x:Int)(w:World)(K:KV)(t:TypeId)(rx ry:Operand),iy P .shl t rx ry (.int .u64 x) (.int .u64 17) w K=K (.int .u64 (IntKind.u64.wrap (x * 2 ^ min (17:Int).toNat IntKind.u64.bits))) w:=fun x w K t rx ry=>agi (by decide)
 have c0:=iw hb 0
 have f0:=mi hb 0
 simp only[List.size_toArray,List.getElem?_toArray,List.getElem?_cons_zero] at c0
 simp[c0,f0,s13,s7,s17,awp,kp,me]
 refine h _ _ (alf _).1 (alf _).2 ?_ ?_
 ·exact ahu (ahu (ahu hb))
 ·exact (((((((Fr.refl (fun b=>b=sb) w).dr 1).setCell (.inl rfl) _ _).dr 1).setCell (.inl rfl) _ _).dr 1).setCell (.inl rfl) _ _)
end Go.Proofs.YtgepcfcicngceaaGreatDoor
