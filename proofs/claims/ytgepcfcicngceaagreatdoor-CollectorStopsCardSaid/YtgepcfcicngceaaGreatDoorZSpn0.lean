/-
  Names of spans: which are right. No condition.
-/
import Derived.Test.YtgepcfcicngceaaGreatDoorM
import Derived.Test.YtgepcfcicngceaaGreatDoorFacts
import Derived.Test.YtgepcfcicngceaaGreatDoorZEngSl
import Derived.Test.YtgepcfcicngceaaGreatDoorRows
import Derived.Laws.StructEq
import Derived.Test.YtgepcfcicngceaaGreatDoorEnc
import Derived.Sort.AssemblyPlain
set_option maxRecDepth 100000
namespace Go.Proofs.YtgepcfcicngceaaGreatDoor
open Go.Eng
@[simp] theorem alt : aav P T.l = true := kr
@[simp] theorem bjc (ty : TypeId) (cs : List Bool) (s : ByteArray) (w : World) (K : KV) : biT P .len #[T.l] ty cs [.string s] w K = K (.int .i64 s.size) w := bgf alt cs s w K
theorem aqv(s:ByteArray):s.toList.isEmpty=decide (s.size=0):=by
 have h:s.size=s.data.toList.length:=Array.length_toList.symm
 rw[ByteArray.toList_eq,h]
 cases s.data.toList <;>simp
def vz(s p:ByteArray):Bool:=decide (p.size<=s.size) && ((s.extract 0 p.size).toList == p.toList)
theorem aqu{w:World}(s p:ByteArray){K:KV}(h:K (.bool (vz s p)) w):jo P F.ee [.string s,.string p] w K:=by
 apply M.dx.calls
 unfold M.dx
 rw[M.bq.fcall]
 apply M.bq.calls
 unfold M.bq
 unfold vz at h
 by_cases hl:p.size<=s.size
 ·have hl':(p.size:Int)<=s.size:=by omega
  have hsl: ∀K,slT P T.l (.string s) none (some (.int .i64 (p.size:Int))) none w K=K (.string (s.extract 0 p.size)) w:=fun K=>ahh alt (.inl ⟨rfl,rfl⟩) (.inr ⟨_,rfl⟩) (Nat.zero_le _) hl w K
  simp[hl,hsl,sn] at h⊢
  exact h
 ·have hl': ¬(p.size:Int)<=s.size:=by omega
  simp[hl] at h⊢
  exact h
def xa:ByteArray:=⟨#[239,191,189]⟩
def abt(s:ByteArray)(i:Nat):Bool:=decide ((Utf8.decode s i).1 < 32) || ((decide (127<=(Utf8.decode s i).1) && decide ((Utf8.decode s i).1<=159)) || (decide ((Utf8.decode s i).1=65533) && !vz (s.extract i s.size) xa))
def tp(s:ByteArray)(i:Nat):Bool:=
 if h:i < s.size then !abt s i && tp s (i+(Utf8.decode s i).2) else true
termination_by s.size - i
decreasing_by have:=ahi s i;omega
def pw(s:ByteArray):Int:=if s.size=0\/32 < s.size then 5 else if tp s 0=true then 0 else 5
def awu(w:World)(s:ByteArray):KL:=fun x w1=> ∃(pos:Nat),w1.heap[w.heap.size]? =some (.stringIter s pos)/\Fz w w1/\tp s pos=tp s 0
def aht(s:ByteArray)(it:Nat)(w:World):Nat:=match w.heap[it]? with
 | some (.stringIter _ pos)=>s.size - pos
 | _=>0
theorem atg{w:World}(s:ByteArray){K:KV}(h: ∀w',Fz w w'->K (.int .i64 (pw s)) w'):jo P F.ft [.string s] w K:=by
 apply M.ct.calls
 unfold M.ct
 simp only[il]
 have hemp:s.toList.isEmpty=decide (s.size=0):=aqv s
 unfold pw at h
 by_cases h0:s.size=0
 ·simp[sn,hemp,h0] at h⊢
  exact h w (Fr.refl _ _)
 ·by_cases h1:32 < s.size
  ·have h1':(32:Int) < s.size:=by omega
   simp[sn,hemp,h0,h1,h1'] at h⊢
   exact h w (Fr.refl _ _)
  ·have h1': ¬(32:Int) < s.size:=by omega
   simp[sn,hemp,h0,h1,h1'] at h⊢
   unfold M.ct.j0
   simp only[il]
   rw[bkk (vh alt)]
   refine⟨awu w s,fun _ w1=>aht s w.heap.size w1,⟨0,by rw[iw,if_pos rfl],(Fr.refl _ w).alloc _,rfl⟩,?_⟩
   rintro x w1 ⟨pos,hit,hf,hp⟩
   refine bkd hit _ (fun he=>?_) fun hlt w2 hit2 hf2=>?_
   ·have hr:tp s 0=true:=by rw[<-hp];unfold tp;rw[dif_neg he]
    have e0: ∀w K,exT P (.tuple #[.bool false]) 0 w K=K (.bool false) w:=fun _ _=>rfl
    simp[e0]
    have:=h w1 hf
    simpa [hr] using this
   ·simp
    unfold M.ct.j3
    simp
    have hr:tp s pos=(!abt s pos && tp s (pos+(Utf8.decode s pos).2)):=by
     conv=>lhs;unfold tp
     rw[dif_pos hlt]
    have F2:Fz w w2:=hf.jt hf2 fun g hg h'=>by omega
    have hbad:abt s pos=true->K (.int .i64 5) w2:=fun hb=>by
     rw[hb,hp] at hr
     have:=h w2 F2
     simpa [hr] using this
    have hgood:abt s pos=false->∀xs,awu w s xs w2/\aht s w.heap.size w2 < aht s w.heap.size w1:=fun hb xs=>by
     rw[hb,hp] at hr
     refine⟨⟨_,hit2,F2,by rw[hr];rfl⟩,?_⟩
     have:=ahi s pos
     simp only[aht,hit,hit2];omega
    unfold abt at hbad hgood
    generalize hc:(Utf8.decode s pos).1=c at *
    clear hc
    have hsl: ∀K,slT P T.l (.string s) (some (.int .i64 (pos:Int))) none none w2 K=K (.string (s.extract pos s.size)) w2:=fun K=>ahh alt (.inr ⟨_,rfl⟩) (.inl ⟨rfl,rfl⟩) (by omega) (Nat.le_refl _) w2 K
    have j4: ∀(b:Bool)(t14:Value),b=(decide (c < 32) || (decide (127<=c) && decide (c<=159)))->M.ct.j4 [.bool b] (.int .i32 c) (.string s) (.int .i64 pos) (fun x' w'=>awu w s x' w'/\aht s w.heap.size w' < aht s w.heap.size w1) t14 x w2 K:=by
     intro b t14 hb
     unfold M.ct.j4
     cases b with
     | true=>simp at hb⊢;exact hbad (by simp;omega)
     | false=>
      by_cases he:c=65533
      ·have he':(c:Int)=65533:=by omega
       simp[he',hsl]
       rw[M.dx.fcall]
       refine aqu _ _ ?_
       have hx:vz (s.extract pos s.size) ⟨#[239,191,189]⟩=vz (s.extract pos s.size) xa:=rfl
       rw[hx]
       cases hq:vz (s.extract pos s.size) xa with
       | true=>simp;exact hgood (by simp[he,hq]) _
       | false=>simp;exact hbad (by simp[he,hq])
      ·have he': ¬(c:Int)=65533:=by omega
       simp[he']
       refine hgood ?_ _
       have:(decide (c < 32) || (decide (127<=c) && decide (c<=159)))=false:=hb.symm
       simp[he] at this⊢
       exact this
    by_cases h32:c < 32
    ·have h32':(c:Int) < 32:=by omega
     simp[h32']
     exact j4 true _ (by simp[h32])
    ·have h32': ¬(c:Int) < 32:=by omega
     by_cases h127:127<=c
     ·have h127':(127:Int)<=c:=by omega
      by_cases h159:c<=159
      ·have h159':(c:Int)<=159:=by omega
       simp[h32',h127',h159']
       exact j4 true _ (by simp[h32,h127,h159])
      ·have h159': ¬(c:Int)<=159:=by omega
       simp[h32',h127',h159']
       exact j4 false _ (by simp[h32,h127,h159])
     ·have h127': ¬(127:Int)<=c:=by omega
      simp[h32',h127']
      exact j4 false _ (by simp[h32,h127])
set_option maxRecDepth 100000
structure Spn where
 je:Int
 id:Int
 mr:Int
 kl:Int
 len:Int
 kq:ByteArray
 name:ByteArray
 ol:Bool
def jr(s:Spn):List Value:=[.int .u64 s.je,.int .u64 s.id,.int .u64 s.mr,.int .u64 s.kl,.int .u64 s.len,.string s.kq,.string s.name,.bool s.ol]
def li(s:Spn):Value:= .agg #[.int .u64 s.je,.int .u64 s.id,.int .u64 s.mr,.int .u64 s.kl,.int .u64 s.len,.string s.kq,.string s.name,.bool s.ol]
theorem oe(s:Spn):(jr s).length=8:=rfl
theorem ph(s:Spn): ∀u∈jr s,kt u=true:=fun u hu=>by
 simp only[jr,List.mem_cons,List.not_mem_nil,or_false] at hu
 rcases hu with rfl|rfl|rfl|rfl|rfl|rfl|rfl|rfl <;>rfl
@[simp] theorem bxd (t1 t2 ty : TypeId) (cs : List Bool) (k : IntKind) (x y : Int) (w : World) (K : KV) : biT P .max #[t1, t2] ty cs [.int k x, .int k y] w K = K (.int k (max x y)) w := by
 have:(if x < y then y else x)=max x y:=by split <;>omega
 simp[biT,ky,builtin,Builtin.max_,Builtin.max2,Sem.run_bind,Result.andThen,Sem.run_pure,this]
@[simp] theorem bpd (t1 t2 ty : TypeId) (cs : List Bool) (k : IntKind) (x y : Int) (w : World) (K : KV) : biT P .min #[t1, t2] ty cs [.int k x, .int k y] w K = K (.int k (min x y)) w := by
 have:(if y < x then y else x)=min x y:=by split <;>omega
 simp[biT,ky,builtin,Builtin.min_,Builtin.min2,Sem.run_bind,Result.andThen,Sem.run_pure,this]
def abz(k:Int):List Value:=[.int .i64 k]
def orK(l:List Int):Int:=(l.find? fun k=>!decide (k=0)).getD 0
def OrI(w:World)(l:List Int):KL:=fun x w1=> ∃(a b:Value)(i:Nat),x=[a,b,.int .i64 (i:Nat)]/\w1=w/\i<=l.length/\∀(j:Nat) k,l[j]? =some k->j < i->k=0
theorem bll{w:World}{v:Value}{l:List Int}(hs:Sl w 1 abz v l)(hlen:l.length<=1000){K:KV}(h:K (.int .i64 (orK l)) w):jo P F.fb [v] w K:=by
 apply M.dc.calls
 unfold M.dc
 simp only[il]
 rw[hs.jq (by simp)]
 refine⟨OrI w l,fun x _=>l.length - ms x 2,⟨_,_,0,rfl,rfl,Nat.zero_le _,fun j k _ h=>by omega⟩,?_⟩
 rintro x w1 ⟨a,b,i,rfl,rfl,hi,hz⟩
 have gv2:gv [a,b,.int .i64 (i:Int)] 2= .int .i64 (i:Int):=rfl
 simp only[gv2]
 by_cases hil:i < l.length
 ·obtain⟨bb,o,cap,rfl,hb,_,hr⟩:=hs.at hil
  have e0:=hr 0 _ rfl
  simp only[Nat.mul_one,Nat.add_zero] at e0
  have hw:IntKind.i64.wrap ((i:Int)+1)=((i+1:Nat):Int):=by rw[iy];rfl
  simp[hil]
  unfold M.dc.j2
  simp only[il,gv2]
  by_cases hk:l[i]=0
  ·simp[hil,e0,hk,hw]
   refine⟨⟨_,_,i+1,rfl,rfl,by omega,fun j k hj hlt=>?_⟩,by simp[ms,gv];omega⟩
   by_cases hji:j=i
   ·subst hji
    rw[List.getElem?_eq_getElem hil] at hj
    cases hj;exact hk
   ·exact hz j k hj (by omega)
  ·simp[hil,e0,hk]
   have:orK l=l[i]:=by
    unfold orK
    have:l.find? (fun k=>!decide (k=0))=some l[i]:=by
     rw[List.find?_eq_some_iff_getElem]
     refine⟨by simpa using hk,i,hil,rfl,fun j hj=>?_⟩
     have:=hz j _ (List.getElem?_eq_getElem (by omega)) hj
     simp[this]
    rw[this];rfl
   rw[this] at h;exact h
 ·simp[hil]
  have:orK l=0:=by
   unfold orK
   have:l.find? (fun k=>!decide (k=0))=none:=by
    rw[List.find?_eq_none]
    intro k hk
    obtain⟨j,hj,rfl⟩:=List.mem_iff_getElem.1 hk
    have:=hz j _ (List.getElem?_eq_getElem hj) (by omega)
    simp[this]
   rw[this];rfl
  rw[this] at h;exact h
def kv(s:Spn):Int:=if s.je=0\/s.id=0\/1099511627776 < max s.kl s.len then 1 else orK [pw s.kq,pw s.name]
theorem afm{w:World}(s:Spn){K:KV}(h: ∀w',Fz w w'->K (.int .i64 (kv s)) w'):jo P F.fi [li s] w K:=by
 apply M.dn.calls
 unfold M.dn li
 simp only[il,tw,bbd]
 generalize hwa:w.alloc (.cells #[.int .u64 s.je,.int .u64 s.id,.int .u64 s.mr,.int .u64 s.kl,.int .u64 s.len,.string s.kq,.string s.name,.bool s.ol] T.i)=wa
 have hb:wa.heap[w.heap.size]? =some (.cells #[.int .u64 s.je,.int .u64 s.id,.int .u64 s.mr,.int .u64 s.kl,.int .u64 s.len,.string s.kq,.string s.name,.bool s.ol] T.i (0,0)):=by rw[<-hwa,iw,if_pos rfl]
 have hf:Fz w wa:=by rw[<-hwa];exact (Fr.refl _ w).alloc _
 have c0:=iq hb 0
 have c1:=iq hb 1
 have c3:=iq hb 3
 have c4:=iq hb 4
 have c5:=iq hb 5
 have c6:=iq hb 6
 simp at c0 c1 c3 c4 c5 c6
 unfold kv at h
 by_cases h0:s.je=0
 ·simp[c0,h0] at h⊢
  exact h wa hf
 ·by_cases h1:s.id=0
  ·simp[c0,c1,h0,h1] at h⊢
   exact h wa hf
  ·by_cases h2:1099511627776 < max s.kl s.len
   ·simp[c0,c1,c3,c4,h0,h1,h2] at h⊢
    exact h wa hf
   ·simp[c0,c1,c3,c4,h0,h1,h2] at h⊢
    unfold M.dn.j0
    simp[c5,c6]
    rw[M.ct.fcall]
    refine atg _ fun w2 f2=>?_
    have f2':Fz wa w2:=⟨f2.size,f2.jf,f2.tape,f2.os,f2.output⟩
    have d6:ik w2 w.heap.size 6=some (.string s.name):=by rw[vl (f2'.jf _ (lj hb) fun h=>h)];exact c6
    simp[d6]
    rw[M.ct.fcall]
    refine atg _ fun w3 f3=>?_
    simp
    rw[M.dc.fcall]
    have hsl:Sl (w3.alloc (.cells #[.int .i64 (pw s.kq),.int .i64 (pw s.name)] T.ac)) 1 abz (.slice (some ⟨w3.heap.size,0,none⟩) 2 2) [pw s.kq,pw s.name]:=by
     refine⟨_,2,rfl,Nat.le_refl _,by decide,fun i x hi=>⟨_,0,rfl,by simp,fun j u hu=>?_⟩⟩
     rw[abm rfl]
     match i with
     | 0=>simp at hi;subst hi;match j with
      | 0=>simpa [abz] using hu
      | j+1=>simp[abz] at hu
     | 1=>simp at hi;subst hi;match j with
      | 0=>simpa [abz] using hu
      | j+1=>simp[abz] at hu
     | i+2=>simp at hi
    exact bll hsl (by simp) (h _ (((hf.trans f2').trans f3).alloc _))
theorem bfo{t:TypeId}(h:abc P t=false){xs:Array Value}{i:Nat}{v:Value}(hv:xs[i]? =some v)(w:World):(part t xs i).run P w= .ok v w:=by
 unfold part
 rw[Sem.run_bind,anu h]
 simp[Result.andThen,hv,Sem.run_pure]
theorem eqF {d:Nat} {xs ys:Array Value} {f:Field} {fs:List Field} {w:World} {u v:Value} {b c:Bool} (hn:f.name≠ "_") (h:abc P f.type=false) (hx:xs[f.offset]? =some u) (hy:ys[f.offset]? =some v) (he:(Op.equalIn d f.type u v).run P w= .ok b w) (hr:(Op.eqFields d xs ys fs).run P w= .ok c w):(Op.eqFields d xs ys (f :: fs)).run P w= .ok (b && c) w:=by
 simp only[Op.eqFields]
 rw[if_pos hn]
 simp only[Sem.run_bind,bfo h hx,bfo h hy,he,Result.andThen]
 cases b
 ·rfl
 ·simpa using hr
def qa(m:Mem):Value:= .agg #[.int .u64 m.id,.int .u64 m.inc,.int .i64 m.st]
abbrev SlM(w:World)(v:Value)(l:List Mem):Prop:=Sl w 3 acn v l
theorem ldM{w:World}{b i:Nat}{m:Mem}(h: ∀k v,(acn m)[k]? =some v->ik w b (i+k)=some v)(K:KV):ldN P 3 b i w K=K (qa m) w:=su (acn m) 3 rfl h K
def wv:Int->List Mem->Bool
 | _,[]=>true
 | ke,m :: l=>decide (ke < m.id) && wv m.id l
def RsI(W:World)(l:List Mem):KL:=fun x w1=> ∃(u0 u1:Value)(ke:Int)(i:Nat),x=[u0,u1,.int .u64 ke,.int .i64 (i:Nat)]/\i<=l.length/\wv 0 l=wv ke (l.drop i)/\Fz W w1
theorem ayb{w:World}(m:Mem){K:KV}(h: ∀w',Fz w w'->K (.int .u64 m.id) w'):ku P (.func (.func F.dt) #[] #[]) [qa m] w K:=by
 rw[M.er.rcall]
 apply M.er.calls
 unfold M.er qa
 simp
 have c0:ik (w.alloc (.cells #[.int .u64 m.id,.int .u64 m.inc,.int .i64 m.st] T.n)) w.heap.size 0=some (.int .u64 m.id):=by rw[iq (by rw[iw,if_pos rfl])];rfl
 simp[c0]
 exact h _ ((Fr.refl _ w).alloc _)
theorem bib{w:World}{v:Value}{l:List Mem}(hs:SlM w v l)(hlen:l.length<=1000000){K:KV}(h: ∀w',Fz w w'->K (.bool (wv 0 l && (decide (0 < l.length) && decide (l.length<=16)))) w'):
  ie P F.cn [v,.int .i64 16,.func (.func F.dt) #[] #[]] w K:=by
 rw[M.am.fcall]
 apply M.am.calls
 unfold M.am
 simp only[il]
 rw[hs.jq (by kernel_rfl)]
 refine⟨RsI w l,fun x _=>l.length - ms x 3,⟨_,_,0,0,rfl,Nat.zero_le _,rfl,Fr.refl _ _⟩,?_⟩
 rintro x w1 ⟨u0,u1,ke,i,rfl,hi,hr,f1⟩
 have q2:gv [u0,u1,.int .u64 ke,.int .i64 (i:Nat)] 2= .int .u64 ke:=rfl
 have q3:gv [u0,u1,.int .u64 ke,.int .i64 (i:Nat)] 3= .int .i64 (i:Nat):=rfl
 have hs1:=hs.fr f1 fun _ _ _ h=>h
 simp only[q3]
 by_cases hil:i < l.length
 ·have hil':(i:Int) < l.length:=by omega
  simp[hil']
  unfold M.am.j2
  obtain⟨b,o,cap,hv,hb,_,hc⟩:=hs1.at hil
  have hld: ∀K,ldN P 3 b (o+i * 3) w1 K=K (qa l[i]) w1:=fun K=>ldM hc K
  have hwi:IntKind.i64.wrap ((i:Int)+1)=((i+1:Nat):Int):=by rw[iy];rfl
  have hdrop:l.drop i=l[i] :: l.drop (i+1):=List.drop_eq_getElem_cons hil
  rw[hdrop] at hr
  generalize l[i]=m at *
  subst hv
  simp[q2,q3,hil,hld]
  have e1:qa m= .agg #[.int .u64 m.id,.int .u64 m.inc,.int .i64 m.st]:=rfl
  rw[e1]
  simp
  have hba:(w1.alloc (.cells #[.int .u64 0,.int .u64 0,.int .i64 0] T.n)).heap[w1.heap.size]? =some (.cells #[.int .u64 0,.int .u64 0,.int .i64 0] T.n (0,0)):=by rw[iw,if_pos rfl]
  refine jw (vs:=[.int .u64 m.id,.int .u64 m.inc,.int .i64 m.st]) hba rfl (by simp) fun w2 b2 f2=>?_
  have f2':Fz w1 w2:=((Fr.refl _ w1).alloc _).jt f2 fun y hy he=>by subst he;omega
  have hld2: ∀{w'},Fz w2 w'->∀K,ldN P 3 w1.heap.size 0 w' K=K (qa m) w':=fun f K=>by
   have b3:=f.heap b2 fun h=>h
   exact ldM (m:=m) (i:=0) (fun k v hk=>by rw[iq b3,Nat.zero_add,List.getElem?_toArray];exact hk) K
  rw[hld2 (Fr.refl _ _)]
  refine ayb m fun w3 f3=>?_
  simp
  by_cases hle:m.id<=ke
  ·have hlt: ¬ke < m.id:=by omega
   simp[hle]
   have hf:wv 0 l=false:=by rw[hr];unfold wv;simp[hlt]
   rw[hf] at h
   exact h w3 ((f1.trans f2').trans f3)
  ·have hlt:ke < m.id:=by omega
   simp[hle]
   rw[hld2 f3]
   refine ayb m fun w4 f4=>?_
   simp[hwi]
   refine⟨⟨_,_,m.id,i+1,rfl,by omega,?_,((f1.trans f2').trans f3).trans f4⟩,by simp[ms,gv];omega⟩
   rw[hr]
   show (decide (ke < m.id) && wv m.id (l.drop (i+1)))=_
   simp[hlt]
 ·have hil': ¬(i:Int) < l.length:=by omega
  have hr1:wv 0 l=true:=by rw[hr,List.drop_of_length_le (by omega)];rfl
  simp[hil']
  unfold M.am.j0
  rw[hs1.jq (by kernel_rfl)]
  rw[hr1] at h
  by_cases h0:0 < l.length
  ·have h0':(0:Int) < l.length:=by omega
   have hx:decide ((l.length:Int)<=16)=decide (l.length<=16):=by
    by_cases h16:l.length<=16
    ·rw[decide_eq_true h16,decide_eq_true (by omega)]
    ·rw[decide_eq_false h16,decide_eq_false (by omega)]
   simp[h0]
   rw[hs1.jq (by kernel_rfl)]
   simp
   rw[hx]
   have:=h w1 f1
   simpa [h0] using this
  ·simp[h0]
   have:=h w1 f1
   simpa [h0] using this
def bnn(W:World)(p:Mem->Bool)(l:List Mem):KL:=fun x w1=> ∃(u0 u1:Value)(i:Nat),x=[u0,u1,.int .i64 (i:Nat)]/\i<=l.length/\(∀j (h:j < l.length),j < i->p l[j]=false)/\Fz W w1
theorem bbh{w:World}{v fv:Value}{l:List Mem}{p:Mem->Bool}(hs:SlM w v l)(hlen:l.length<=1000000)(hp: ∀m w1,Fz w w1->∀{K:KV},(∀w',Fz w1 w'->K (.bool (p m)) w')->ku P fv [qa m] w1 K){K:KV}
  (h1: ∀w' i (hi:i < l.length),p l[i]=true->(∀j (h:j < l.length),j < i->p l[j]=false)->Fz w w'->K (.int .i64 (i:Nat)) w')
  (h0: ∀w',(∀m∈l,p m=false)->Fz w w'->K (.int .i64 (-1)) w'):ie P F.au [v,fv] w K:=by
 rw[M.x.fcall]
 apply M.x.calls
 unfold M.x
 simp only[il]
 rw[hs.jq (by kernel_rfl)]
 refine⟨bnn w p l,fun x _=>l.length - ms x 2,⟨_,_,0,rfl,Nat.zero_le _,fun _ _ h=>by omega,Fr.refl _ _⟩,?_⟩
 rintro x w1 ⟨u0,u1,i,rfl,hi,hz,f1⟩
 have q2:gv [u0,u1,.int .i64 (i:Nat)] 2= .int .i64 (i:Nat):=rfl
 have hs1:=hs.fr f1 fun _ _ _ h=>h
 simp only[q2]
 by_cases hil:i < l.length
 ·have hil':(i:Int) < l.length:=by omega
  simp[hil']
  unfold M.x.j2
  obtain⟨b,o,cap,hv,hb,_,hc⟩:=hs1.at hil
  have hld: ∀K,ldN P 3 b (o+i * 3) w1 K=K (qa l[i]) w1:=fun K=>ldM hc K
  have hwi:IntKind.i64.wrap ((i:Int)+1)=((i+1:Nat):Int):=by rw[iy];rfl
  subst hv
  simp[q2,hil,hld]
  refine hp l[i] w1 f1 fun w2 f2=>?_
  cases hpi:p l[i] with
  | true=>simp;exact h1 w2 i hil hpi hz (f1.trans f2)
  | false=>
   simp[hwi]
   refine⟨⟨_,_,i+1,rfl,by omega,fun j hj hji=>?_,f1.trans f2⟩,by simp[ms,gv];omega⟩
   by_cases hje:j=i
   ·subst hje;exact hpi
   ·exact hz j hj (by omega)
 ·have hil': ¬(i:Int) < l.length:=by omega
  simp[hil']
  refine h0 w1 (fun m hm=>?_) f1
  obtain⟨j,hj,rfl⟩:=List.getElem_of_mem hm
  exact hz j hj (by omega)
def xw(m:Mem):Bool:=decide (m.inc=0) || (decide (m.st < 0) || decide (2 < m.st))
theorem bih{w:World}(m:Mem){K:KV}(h: ∀w',Fz w w'->K (.bool (xw m)) w'):ku P (.func (.func F.ds) #[] #[]) [qa m] w K:=by
 rw[M.ep.rcall]
 apply M.ep.calls
 unfold M.ep qa
 simp
 have hb:(w.alloc (.cells #[.int .u64 m.id,.int .u64 m.inc,.int .i64 m.st] T.n)).heap[w.heap.size]? =some (.cells #[.int .u64 m.id,.int .u64 m.inc,.int .i64 m.st] T.n (0,0)):=by rw[iw,if_pos rfl]
 have c1:ik (w.alloc (.cells #[.int .u64 m.id,.int .u64 m.inc,.int .i64 m.st] T.n)) w.heap.size 1=some (.int .u64 m.inc):=by rw[iq hb];rfl
 have c2:ik (w.alloc (.cells #[.int .u64 m.id,.int .u64 m.inc,.int .i64 m.st] T.n)) w.heap.size 2=some (.int .i64 m.st):=by rw[iq hb];rfl
 have fin:=h _ ((Fr.refl _ w).alloc (.cells #[.int .u64 m.id,.int .u64 m.inc,.int .i64 m.st] T.n))
 unfold xw at fin
 generalize w.alloc (.cells #[.int .u64 m.id,.int .u64 m.inc,.int .i64 m.st] T.n)=w1 at *
 by_cases h1:m.inc=0
 ·simp[c1,c2,h1] at fin⊢;exact fin
 by_cases h2:m.st < 0
 ·simp[c1,c2,h1,h2] at fin⊢;exact fin
 simp[c1,c2,h1,h2] at fin⊢;exact fin
theorem aoz{w:World}{v:Value}{l:List Mem}(hs:SlM w v l)(hlen:l.length<=1000000){K:KV}(h: ∀w',Fz w w'->K (.bool (l.any xw)) w'):ie P F.am [v,.func (.func F.ds) #[] #[]] w K:=by
 rw[M.aq.fcall]
 apply M.aq.calls
 unfold M.aq
 refine bbh (p:=xw) hs hlen (fun m w1 _ _ hK=>bih m hK) (fun w' i hi hpi _ f=>?_) fun w' hn f=>?_
 ·have:l.any xw=true:=List.any_eq_true.2 ⟨l[i],List.getElem_mem hi,hpi⟩
  rw[this] at h
  have h0:(0:Int)<=(i:Nat):=by omega
  simp[h0]
  exact h w' f
 ·have:l.any xw=false:=by
   rw[List.any_eq_false]
   intro m hm;rw[hn m hm];simp
  rw[this] at h
  simp
  exact h w' f
theorem adm{w:World}{v:Value}{l:List Mem}(hs:SlM w v l)(hlen:l.length<=1000000){K:KV}(h: ∀w' v',SlM w' v' l->(∀x,v'.ownBlock=some x->w.heap.size<=x)->Fz w w'->K v' w'):ie P F.af [v] w K:=by
 rw[M.bi.fcall]
 apply M.bi.calls
 unfold M.bi
 simp only[il]
 have hs':=hs
 obtain⟨a,cap,rfl,_⟩:=hs'
 cases a with
 | none=>
  simp
  have hz:l=[]:=by
   obtain⟨a',cap',hv,_,_,h3⟩:=hs
   cases l with
   | nil=>rfl
   | cons x l=>
    obtain⟨b,o,ha,_⟩:=h3 0 x rfl
    injection hv with h1 _ _
    rw[<-h1] at ha;cases ha
  subst hz
  exact h w _ Sl.nil (fun x hx=>by simp[Value.ownBlock] at hx) (Fr.refl _ _)
 | some a=>
  simp
  have f0:Fz w (w.alloc (.cells #[] T.n)):=(Fr.refl _ w).alloc _
  refine zc et.s yj bdd (base:=w.heap.size) (Ow.empty (by rw[iw,if_pos rfl]) (Nat.le_refl _)) (hs.fr f0 fun _ _ _ h=>h) (by simp;omega) (by decide) (by simp) _ fun v3 w3 o3 f3 g3=>?_
  rw[List.nil_append] at o3
  exact h w3 v3 (o3.sl yj) (fun x hx=>(o3.lt hx).1) (f0.jt f3 fun b hb hv=>by simp[Value.ownBlock] at hv;omega)
theorem bav(x y:Mem)(w:World):(Op.equalIn 10000 T.n (qa x) (qa y)).run P w= .ok (x.id == y.id && (x.inc == y.inc && (x.st == y.st))) w:=by
 have hS:P.underlying T.n=some (.struct (P.fieldsOf T.n)):=by kernel_rfl
 have hp:P.stoodInHeld T.n=false:=by kernel_rfl
 unfold qa
 rw[show (10000:Nat)=9999+1 from rfl,run_equalIn_agg w 9999 T.n _ _ hS hp]
 simp only[Program.fieldsOf,show P.underlying T.n=_ from Tryz.underlying68]
 have u22:P.underlying T.a=some (.int .u64):=by kernel_rfl
 have u3:P.underlying T.d=some (.int .i64):=by kernel_rfl
 have a22:abc P T.a=false:=by kernel_rfl
 have a3:abc P T.d=false:=by kernel_rfl
 refine eqF (by decide) a22 rfl rfl (run_equalIn_int w 9998 T.a _ _ _ _ u22) ?_
 refine eqF (by decide) a22 rfl rfl (run_equalIn_int w 9998 T.a _ _ _ _ u22) ?_
 have:=eqF (fs:=[]) (d:=9999) (xs:= #[.int .u64 x.id,.int .u64 x.inc,.int .i64 x.st]) (ys:= #[.int .u64 y.id,.int .u64 y.inc,.int .i64 y.st]) (f:={name:= "State",type:=T.d,offset:=2,embedded:=false,tag:= "",pkgPath:= "",byteOffset:=16}) (w:=w) (c:=true) (by decide) a3 rfl rfl (run_equalIn_int w 9998 T.d _ _ _ _ u3) rfl
 simpa using this
theorem blb(x y:Mem):(x.id == y.id && (x.inc == y.inc && (x.st == y.st)))=decide (x=y):=by
 obtain⟨a,b,c⟩:=x
 obtain⟨a',b',c'⟩:=y
 simp only[Mem.mk.injEq]
 by_cases h1:a=a' <;>by_cases h2:b=b' <;>by_cases h3:c=c' <;>simp[h1,h2,h3]
theorem bja(rx ry:Operand)(x y:Mem)(w:World)(K:KV):ip P .neq T.n rx ry (qa x) (qa y) w K=K (.bool !(decide (x=y))) w:=by
 have hm:P.eqGuardType P.depth T.n=false:=by kernel_rfl
 have hg:=run_eqGuard_agg (P:=P) w .neq T.n rx ry #[.int .u64 x.id,.int .u64 x.inc,.int .i64 x.st] #[.int .u64 y.id,.int .u64 y.inc,.int .i64 y.st] hm
 have he:=bav x y w
 rw[blb] at he
 unfold ip jk
 unfold qa at he⊢
 rw[Sem.run_bind,hg]
 simp only[Result.andThen]
 rw[run_neq_struct,he]
 rfl
def EmI(W:World)(l1 l2:List Mem):KL:=fun x w1=> ∃(u0 u1:Value)(i:Nat),x=[u0,u1,.int .i64 (i:Nat)]/\i<=l1.length/\(∀j,j < i->l1[j]? =l2[j]?)/\Fz W w1
theorem anc{w:World}{v1 v2:Value}{l1 l2:List Mem}(s1:SlM w v1 l1)(s2:SlM w v2 l2)(hlen:l1.length<=1000000){K:KV}(h: ∀w',Fz w w'->K (.bool (decide (l1=l2))) w'):ie P F.ba [v1,v2] w K:=by
 rw[M.o.fcall]
 apply M.o.calls
 unfold M.o
 simp only[il]
 rw[s1.jq (by kernel_rfl),s2.jq (by kernel_rfl)]
 by_cases hne:l1.length=l2.length
 ·simp[hne]
  unfold M.o.j0
  simp only[il]
  rw[s1.jq (by kernel_rfl)]
  refine⟨EmI w l1 l2,fun x _=>l1.length - ms x 2,⟨_,_,0,rfl,Nat.zero_le _,fun _ h=>by omega,Fr.refl _ _⟩,?_⟩
  rintro x w1 ⟨u0,u1,i,rfl,hi,hz,f1⟩
  have q2:gv [u0,u1,.int .i64 (i:Nat)] 2= .int .i64 (i:Nat):=rfl
  have t1:=s1.fr f1 fun _ _ _ h=>h
  have t2:=s2.fr f1 fun _ _ _ h=>h
  simp only[q2]
  by_cases hil:i < l1.length
  ·have hil':(i:Int) < l1.length:=by omega
   have hil2:i < l2.length:=by omega
   simp[hil']
   unfold M.o.j3
   obtain⟨b1,o1,cap1,hv1,_,_,e1⟩:=(s1.fr (f1.dr 1) fun _ _ _ h=>h).at hil
   obtain⟨b2,o2,cap2,hv2,_,_,e2⟩:=(s2.fr (f1.dr 1) fun _ _ _ h=>h).at hil2
   have hld1: ∀K,ldN P 3 b1 (o1+i * 3) (Eng.dr w1 1) K=K (qa l1[i]) (Eng.dr w1 1):=fun K=>ldM e1 K
   have hld2: ∀K,ldN P 3 b2 (o2+i * 3) (Eng.dr w1 1) K=K (qa l2[i]) (Eng.dr w1 1):=fun K=>ldM e2 K
   have hwi:IntKind.i64.wrap ((i:Int)+1)=((i+1:Nat):Int):=by rw[iy];rfl
   subst hv1 hv2
   simp[q2,hil,hil2,hld1,hld2,bja]
   by_cases heq:l1[i]=l2[i]
   ·simp[heq,hwi]
    refine⟨⟨_,_,i+1,rfl,by omega,fun j hj=>?_,f1.dr 1⟩,by simp[ms,gv];omega⟩
    by_cases hji:j=i
    ·subst hji
     rw[List.getElem?_eq_getElem hil,List.getElem?_eq_getElem hil2,heq]
    ·exact hz j (by omega)
   ·simp[heq]
    have hf:decide (l1=l2)=false:=decide_eq_false fun h=>heq (by subst h;rfl)
    rw[hf] at h
    exact h _ (f1.dr 1)
  ·have hil': ¬(i:Int) < l1.length:=by omega
   simp[hil']
   have hf:decide (l1=l2)=true:=decide_eq_true (List.ext_getElem? fun j=>by
    by_cases hj:j < i
    ·exact hz j hj
    ·rw[List.getElem?_eq_none (by omega),List.getElem?_eq_none (by omega)])
   rw[hf] at h
   exact h _ f1
 ·have hf:decide (l1=l2)=false:=decide_eq_false fun h=>hne (by rw[h])
  rw[hf] at h
  have hne': ¬(l1.length:Int)=l2.length:=by omega
  simp[hne']
  exact h w (Fr.refl _ _)
theorem aue{w:World}{K:KV}(h:K (.bool true) w):ie P F.ay [.slice none 0 0,.slice none 0 0] w K:=by
 rw[M.i.fcall]
 apply M.i.calls
 unfold M.i
 have hl: ∀K',biT P .len #[T.h] T.d [false] [.slice none 0 0] w K'=K' (.int .i64 0) w:=fun K'=>(Sl.nil (w:=w) (enc:=jr) (sz:=8)).jq (by kernel_rfl) [false]
 simp only[il]
 rw[hl,hl]
 simp
 unfold M.i.j0
 simp only[il]
 rw[hl]
 refine⟨fun x w1=>w1=w/\∃u0 u1,x=[u0,u1,.int .i64 0],fun _ _=>0,⟨rfl,_,_,rfl⟩,?_⟩
 rintro x w1 ⟨rfl,u0,u1,rfl⟩
 have q: ∀a b c:Value,gv [a,b,c] 2=c:=fun _ _ _=>rfl
 simp[q]
 exact h
theorem awg{w:World}{K:KV}(h:K (.bool true) w):ie P F.bh [.slice none 0 0,.slice none 0 0] w K:=by
 rw[M.p.fcall]
 apply M.p.calls
 unfold M.p
 have hl: ∀K',biT P .len #[T.g] T.d [false] [.slice none 0 0] w K'=K' (.int .i64 0) w:=fun K'=>(Sl.nil (w:=w) (enc:=ack) (sz:=1)).jq (by kernel_rfl) [false]
 simp only[il]
 rw[hl,hl]
 simp
 unfold M.p.j0
 simp only[il]
 rw[hl]
 refine⟨fun x w1=>w1=w/\∃u0 u1,x=[u0,u1,.int .i64 0],fun _ _=>0,⟨rfl,_,_,rfl⟩,?_⟩
 rintro x w1 ⟨rfl,u0,u1,rfl⟩
 have q: ∀a b c:Value,gv [a,b,c] 2=c:=fun _ _ _=>rfl
 simp[q]
 exact h
theorem arp(v:Value)(w:World)(K:KV):taT P (.iface T.w v) T.be T.y true w K=K (.tuple #[.agg #[.int .u64 0,.bool false,.slice none 0 0],.bool false]) w:=kr
theorem bhg(v:Value)(rx ry:Operand)(w:World)(K:KV):ip P .eql T.be rx ry (.iface T.w v) .nilIface w K=K (.bool false) w:=kr
theorem bht(rx ry:Operand)(w:World)(K:KV):ip P .eql T.e rx ry (.agg #[.int .u64 0,.int .u64 0]) (.agg #[.int .u64 0,.int .u64 0]) w K=K (.bool true) w:=kr
theorem ahx(b:Nat)(w:World)(K:KV):ng P T.c (.pointer (some ⟨b,0,none⟩)) w K=ldN P 11 b 0 w K:=kr
def oz(v:Value):List Value:=[.int .i64 3,.int .u64 0,.int .u64 0,.int .u64 0,.int .u64 0,.int .u64 0,.int .i64 0,.bool false,.slice none 0 0,v,.slice none 0 0]
theorem avv{w:World}{b:Nat}{v:Value}{f:Nat×Nat}(h:w.heap[b]? =some (.cells (oz v).toArray T.c f))(K:KV):ldN P 11 b 0 w K=K (.agg (oz v).toArray) w:=
 su (oz v) 11 rfl (fun k u hk=>by rw[iq h,Nat.zero_add,List.getElem?_toArray];exact hk) K
theorem aen{w:World}{b:Nat}{v:Value}{f:Nat×Nat}(h:w.heap[b]? =some (.cells (oz v).toArray T.c f)): ∀(j:Nat)(u:Value),(oz v)[j]? =some u->ik w b j=some u:=fun j u hj=>by
 rw[iq h,List.getElem?_toArray];exact hj
def vw(l:List Mem):Bool:=(wv 0 l && (decide (0 < l.length) && decide (l.length<=16))) && !(l.any xw)
theorem bcx{w:World}{v:Value}{l:List Mem}(hs:SlM w v l)(hlen:l.length<=1000000){K:KV}(h: ∀w' v',SlM w' v' l->Fz w w'->K (.iface T.w (.agg #[v'])) w'):ie P F.cx [.agg (oz v).toArray] w K:=by
 rw[M.w.fcall]
 apply M.w.calls
 unfold M.w
 have hb:(w.alloc (.cells (oz v).toArray T.c)).heap[w.heap.size]? =some (.cells (oz v).toArray T.c (0,0)):=by rw[iw,if_pos rfl]
 have f1:Fz w (w.alloc (.cells (oz v).toArray T.c)):=(Fr.refl _ w).alloc _
 have c0:=aen hb 0 _ rfl
 have c9:=aen hb 9 _ rfl
 have hs1:=hs.fr f1 fun _ _ _ h=>h
 simp
 generalize w.alloc (.cells (oz v).toArray T.c)=w1 at *
 simp[c0]
 unfold M.w.j1
 obtain⟨a,c,hv,_⟩:=id hs1
 have c9':=c9
 rw[hv] at c9'
 simp[c0,c9']
 rw[<-hv]
 refine adm hs1 hlen fun w2 v2 s2 _ f2=>?_
 obtain⟨a2,c2,hv2,_⟩:=id s2
 have fin:=h w2 v2 s2 (f1.trans f2)
 rw[hv2] at fin⊢
 simp
 exact fin
theorem amu{w:World}{v:Value}{l:List Mem}(hs:SlM w v l)(hlen:l.length<=1000000){K:KV}(h: ∀w',Fz w w'->K (.bool (vw l)) w'):ie P F.bg [.iface T.w (.agg #[v])] w K:=by
 rw[M.ab.fcall]
 apply M.ab.calls
 unfold M.ab
 simp
 have hba:(w.alloc (.cells #[.int .u64 0,.int .u64 0] T.e)).heap[w.heap.size]? =some (.cells #[.int .u64 0,.int .u64 0] T.e (0,0)):=by rw[iw,if_pos rfl]
 refine jw (vs:=[.int .u64 0,.int .u64 0]) hba rfl (by simp) fun w2 b2 f2=>?_
 have f2':Fz w w2:=((Fr.refl _ w).alloc _).jt f2 fun y hy he=>by subst he;omega
 have hs2:=hs.fr f2' fun _ _ _ h=>h
 rw[arp]
 obtain⟨a,c,hv,_⟩:=id hs2
 have hcell: ∀{w'},Fz w2 w'->SlM w' v l:=fun f=>hs2.fr f fun _ _ _ h=>h
 rw[hv]
 simp
 have hbm:(w2.alloc (.cells #[.slice none 0 0] T.w)).heap[w2.heap.size]? =some (.cells #[.slice none 0 0] T.w (0,0)):=by rw[iw,if_pos rfl]
 refine jw (vs:=[.slice a l.length c]) hbm rfl (by simp) fun w3 b3 f3=>?_
 have f3':Fz w2 w3:=((Fr.refl _ w2).alloc _).jt f3 fun y hy he=>by subst he;omega
 have c0:ik w3 w2.heap.size 0=some (.slice a l.length c):=by rw[iq b3];rfl
 simp[c0]
 rw[<-hv]
 refine bib (hcell f3') hlen fun w4 f4=>?_
 have c4:ik w4 w2.heap.size 0=some (.slice a l.length c):=by rw[iq (f4.heap b3 fun h=>h)];rfl
 unfold vw at h
 generalize (wv 0 l && (decide (0 < l.length) && decide (l.length<=16)))=r at *
 cases r with
 | false=>
  simp
  exact h w4 ((f2'.trans f3').trans f4)
 | true=>
  simp[c4]
  rw[<-hv]
  refine aoz (hcell (f3'.trans f4)) hlen fun w5 f5=>?_
  simp
  exact h w5 (((f2'.trans f3').trans f4).trans f5)
theorem akj{w:World}{v:Value}{l:List Mem}(hs:SlM w v l)(hlen:l.length<=1000000){K:KV}(h: ∀w' v',SlM w' v' l->Fz w w'->K (.agg (oz v').toArray) w'):ie P F.bb [.iface T.w (.agg #[v])] w K:=by
 rw[M.ad.fcall]
 apply M.ad.calls
 unfold M.ad
 simp
 rw[arp]
 generalize hw1:w.alloc (.cells #[.int .i64 0,.int .u64 0,.int .u64 0,.int .u64 0,.int .u64 0,.int .u64 0,.int .i64 0,.bool false,.slice none 0 0,.slice none 0 0,.slice none 0 0] T.c)=w1
 have hb1:w1.heap[w.heap.size]? =some (.cells #[.int .i64 0,.int .u64 0,.int .u64 0,.int .u64 0,.int .u64 0,.int .u64 0,.int .i64 0,.bool false,.slice none 0 0,.slice none 0 0,.slice none 0 0] T.c (0,0)):=by rw[<-hw1,iw,if_pos rfl]
 have f1:Fz w w1:=by rw[<-hw1];exact (Fr.refl _ w).alloc _
 have hs1:=hs.fr f1 fun _ _ _ h=>h
 obtain⟨a,c,hv,_⟩:=id hs1
 have hcell: ∀{w'},Fz w1 w'->SlM w' v l:=fun f=>hs1.fr f fun _ _ _ h=>h
 rw[hv]
 simp
 have hbm:(w1.alloc (.cells #[.slice none 0 0] T.w)).heap[w1.heap.size]? =some (.cells #[.slice none 0 0] T.w (0,0)):=by rw[iw,if_pos rfl]
 refine jw (vs:=[.slice a l.length c]) hbm rfl (by simp) fun w3 b3 f3=>?_
 have f3':Fz w1 w3:=((Fr.refl _ w1).alloc _).jt f3 fun y hy he=>by subst he;omega
 have c0:ik w3 w1.heap.size 0=some (.slice a l.length c):=by rw[iq b3];rfl
 simp[c0]
 rw[<-hv]
 refine adm (hcell f3') hlen fun w4 v4 s4 n4 f4=>?_
 obtain⟨a4,c4,hv4,_⟩:=id s4
 have hb4:=(f3'.trans f4).heap hb1 fun h=>h
 rw[hv4]
 simp
 refine jw (vs:=oz (.slice a4 l.length c4)) hb4 rfl (by simp[oz]) fun w5 b5 f5=>?_
 rw[avv b5]
 have e:Value.agg (oz (.slice a4 l.length c4)).toArray= .agg #[.int .i64 3,.int .u64 0,.int .u64 0,.int .u64 0,.int .u64 0,.int .u64 0,.int .i64 0,.bool false,.slice none 0 0,.slice a4 l.length c4,.slice none 0 0]:=rfl
 rw[e]
 simp
 refine jw (vs:=oz (.slice a4 l.length c4)) b5 rfl (by simp[oz]) fun w6 b6 f6=>?_
 rw[ahx,avv b6]
 simp
 have hlt1:w.heap.size < w1.heap.size:=(Array.getElem?_eq_some_iff.1 hb1).1
 have hs31:=f3'.size
 have hnn: ∀b,(Value.slice a4 l.length c4).ownBlock=some b->b≠w.heap.size:=fun b hb=>by
  have:=n4 b (by rw[hv4];exact hb)
  omega
 rw[hv4] at s4
 have s6:SlM w6 (.slice a4 l.length c4) l:=(s4.fr f5 fun b hb _=>hnn b hb).fr f6 fun b hb _=>hnn b hb
 have f46:Fz w w6:=(((f1.trans f3').trans f4).jt f5 fun y hy he=>by subst he;omega).jt f6 fun y hy he=>by subst he;omega
 exact h w6 _ s6 f46
theorem axl{w:World}{v v':Value}{l:List Mem}(s1:SlM w v l)(s2:SlM w v' l)(hlen:l.length<=1000000){K:KV}(h: ∀w',Fz w w'->K (.bool true) w'):ie P F.er [.agg (oz v).toArray,.agg (oz v').toArray] w K:=by
 rw[M.dq.fcall]
 apply M.dq.calls
 unfold M.dq
 have hb1:(w.alloc (.cells (oz v).toArray T.c)).heap[w.heap.size]? =some (.cells (oz v).toArray T.c (0,0)):=by rw[iw,if_pos rfl]
 have f1:Fz w (w.alloc (.cells (oz v).toArray T.c)):=(Fr.refl _ w).alloc _
 simp
 generalize hw1:w.alloc (.cells (oz v).toArray T.c)=w1 at *
 have hsz:w1.heap.size=w.heap.size+1:=by rw[<-hw1,jc]
 have hb2:(w1.alloc (.cells (oz v').toArray T.c)).heap[w1.heap.size]? =some (.cells (oz v').toArray T.c (0,0)):=by rw[iw,if_pos rfl]
 have f2:Fz w1 (w1.alloc (.cells (oz v').toArray T.c)):=(Fr.refl _ w1).alloc _
 have hb1':=f2.heap hb1 fun h=>h
 rw[hsz] at hb2
 generalize w1.alloc (.cells (oz v').toArray T.c)=w2 at *
 have t1:SlM w2 v l:=(s1.fr f1 fun _ _ _ h=>h).fr f2 fun _ _ _ h=>h
 have t2:SlM w2 v' l:=(s2.fr f1 fun _ _ _ h=>h).fr f2 fun _ _ _ h=>h
 obtain⟨a,c,hv,_⟩:=id t1
 obtain⟨a',c',hv',_⟩:=id t2
 have p:=aen hb1'
 have q:=aen hb2
 have p0:=p 0 _ rfl
 have p1:=p 1 _ rfl
 have p2:=p 2 _ rfl
 have p3:=p 3 _ rfl
 have p4:=p 4 _ rfl
 have p5:=p 5 _ rfl
 have p6:=p 6 _ rfl
 have p7:=p 7 _ rfl
 have p8:=p 8 _ rfl
 have p9:=p 9 _ rfl
 have p10:=p 10 _ rfl
 have q0:=q 0 _ rfl
 have q1:=q 1 _ rfl
 have q2:=q 2 _ rfl
 have q3:=q 3 _ rfl
 have q4:=q 4 _ rfl
 have q5:=q 5 _ rfl
 have q6:=q 6 _ rfl
 have q7:=q 7 _ rfl
 have q8:=q 8 _ rfl
 have q9:=q 9 _ rfl
 have q10:=q 10 _ rfl
 have l2: ∀K,ldN P 2 w.heap.size 2 w2 K=K (.agg #[.int .u64 0,.int .u64 0]) w2:=fun K=>zh p2 p3 K
 have l4: ∀K,ldN P 2 w.heap.size 4 w2 K=K (.agg #[.int .u64 0,.int .u64 0]) w2:=fun K=>zh p4 p5 K
 have m2: ∀K,ldN P 2 (w.heap.size+1) 2 w2 K=K (.agg #[.int .u64 0,.int .u64 0]) w2:=fun K=>zh q2 q3 K
 have m4: ∀K,ldN P 2 (w.heap.size+1) 4 w2 K=K (.agg #[.int .u64 0,.int .u64 0]) w2:=fun K=>zh q4 q5 K
 have ebb: ∀{rx ry:Operand}{w:World}{K:KV},ip P .eql T.br rx ry (.bool false) (.bool false) w K=K (.bool true) w:=fun{rx ry w K}=>by rw[afh (by kernel_rfl)];rfl
 rw[hv] at p9
 rw[hv'] at q9
 simp[p0,q0,p1,q1,l2,l4,m2,m4,bht,p6,q6,p7,q7,ebb,p8,q8]
 refine aue ?_
 simp[p9,q9]
 rw[<-hv,<-hv']
 refine anc t1 t2 hlen fun w3 f3=>?_
 have r10:=aen (f3.heap hb1' fun h=>h) 10 _ rfl
 have u10:=aen (f3.heap hb2 fun h=>h) 10 _ rfl
 simp[r10,u10]
 refine awg ?_
 exact h w3 ((f1.trans f2).trans f3)
theorem asj{w:World}{v:Value}{l:List Mem}(hs:SlM w v l)(hlen:l.length<=1000000){K:KV}(h: ∀w',Fz w w'->K (.int .i64 (if vw l=true then 0 else 6)) w'):ie P F.dk [.agg (oz v).toArray] w K:=by
 rw[M.dp.fcall]
 apply M.dp.calls
 unfold M.dp
 have hb:(w.alloc (.cells (oz v).toArray T.c)).heap[w.heap.size]? =some (.cells (oz v).toArray T.c (0,0)):=by rw[iw,if_pos rfl]
 have f1:Fz w (w.alloc (.cells (oz v).toArray T.c)):=(Fr.refl _ w).alloc _
 simp
 generalize w.alloc (.cells (oz v).toArray T.c)=w1 at *
 have s1:=hs.fr f1 fun _ _ _ h=>h
 have hld: ∀{w'},Fz w1 w'->∀K,ldN P 11 w.heap.size 0 w' K=K (.agg (oz v).toArray) w':=fun f K=>avv (f.heap hb fun h=>h) K
 rw[hld (Fr.refl _ _)]
 refine bcx s1 hlen fun w2 v2 s2 f2=>?_
 simp[bhg]
 have fd:Fz w2 (Eng.dr w2 1):=(Fr.refl _ w2).dr 1
 refine amu (s2.fr fd fun _ _ _ h=>h) hlen fun w3 f3=>?_
 have f13:Fz w1 w3:=(f2.trans fd).trans f3
 cases hm:vw l with
 | false=>
  rw[hm] at h
  simp
  exact h w3 (f1.trans f13)
 | true=>
  rw[hm] at h
  simp
  rw[hld f13]
  simp
  refine akj (s2.fr (fd.trans f3) fun _ _ _ h=>h) hlen fun w4 v4 s4 f4=>?_
  rw[hld (f13.trans f4)]
  simp
  refine axl (s1.fr (f13.trans f4) fun _ _ _ h=>h) s4 hlen fun w5 f5=>?_
  simp
  exact h w5 (((f1.trans f13).trans f4).trans f5)
def vf(l:List Mem):Int:=if l=[] then 0 else if vw l=true then 0 else 6
theorem aob{w:World}{v:Value}{l:List Mem}(hs:SlM w v l)(hlen:l.length<=1000000){K:KV}(h: ∀w',Fz w w'->K (.int .i64 (vf l)) w'):ie P F.fw [v] w K:=by
 rw[M.fn.fcall]
 apply M.fn.calls
 unfold M.fn
 simp only[il]
 rw[hs.jq (by kernel_rfl)]
 unfold vf at h
 by_cases h0:l=[]
 ·subst h0
  simp at h⊢
  exact h w (Fr.refl _ _)
 ·rw[if_neg h0] at h
  have hl: ¬(l.length:Int)=0:=by
   intro h'
   exact h0 (List.length_eq_zero_iff.1 (by omega))
  simp[hl]
  obtain⟨a,c,hv,_⟩:=id hs
  rw[hv]
  have e:Value.agg #[.int .i64 3,.int .u64 0,.int .u64 0,.int .u64 0,.int .u64 0,.int .u64 0,.int .i64 0,.bool false,.slice none 0 0,.slice a l.length c,.slice none 0 0]= .agg (oz (.slice a l.length c)).toArray:=rfl
  simp[h0]
  rw[e,<-hv]
  exact asj hs hlen h
class SD where
 k:IntKind
 el:TypeId
 sl:TypeId
 awf:FuncId
 beg:FuncId
 bca:FuncId
 avg:FuncId
 awz:FuncId
 awk:FuncId
 bej:FuncId
 awb:FuncId
 bcp:FuncId
 bco:FuncId
 bbj:FuncId
 auw:FuncId
 bbf:FuncId
 beb:FuncId
 bdk:FuncId
 aul:FuncId
abbrev T.ax[SD]:TypeId:=SD.el
abbrev T.ay[SD]:TypeId:=SD.sl
abbrev F.dw[SD]:FuncId:=SD.awf
abbrev F.ho[SD]:FuncId:=SD.beg
abbrev F.hq[SD]:FuncId:=SD.bca
abbrev F.hb[SD]:FuncId:=SD.avg
abbrev F.hl[SD]:FuncId:=SD.awz
abbrev F.hm[SD]:FuncId:=SD.awk
abbrev F.hr[SD]:FuncId:=SD.bej
abbrev F.hn[SD]:FuncId:=SD.awb
abbrev F.hs[SD]:FuncId:=SD.bcp
abbrev F.hi[SD]:FuncId:=SD.bco
abbrev F.hj[SD]:FuncId:=SD.bbj
abbrev F.gv[SD]:FuncId:=SD.auw
abbrev F.ht[SD]:FuncId:=SD.bbf
abbrev F.hu[SD]:FuncId:=SD.beb
abbrev F.hk[SD]:FuncId:=SD.bdk
abbrev F.hv[SD]:FuncId:=SD.aul
def M.ff[SD](c d:Value):QQ:=fun w K=>ie P F.ho [c] w fun a w=>ic (isB a true) (fun K'=>K' d w) w fun e w=>ic (isB a true) (ie P F.ho [e] w) w fun f w=>ic (isB a true) (unT P .not f w) w fun g w=>iu a g bF w fun b w=>ic (isB b false) (fun K'=>K' c w) w fun h w=>ic (isB b false) (fun K'=>K' d w) w fun i w=>ic (isB b false) (ip P .lss T.ax (.tmp 13) (.tmp 14) h i w) w fun j w=>iu b bY j w fun l w=>K l w
def M.fw[SD](a:Value):QQ:=fun w K=>ip P .neq T.ax (.tmp 3) (.tmp 4) a a w fun b w=>K b w
def M.ea.j4[SD](a:List Value)(b:Value)(d:KL):QQ:=fun w K=>ii (fun e=>jb w fun w=>w=w/\w=w/\w=w/\w=w/\ib (bK .sub T.d 36 (gv a 0) i1 w) w fun c=>w=w/\w=w/\ib (bK .sub T.d 39 (gv a 0) i1 w) w fun f=>ib (iaT P T.ay b f w) w fun g=>ib (ldT P T.ax g w) w fun h=>w=w/\w=w/\ib (iaT P T.ay b (gv a 0) w) w fun i=>ib (ldT P T.ax i w) w fun j=>ib (iaT P T.ay b (gv a 0) w) w fun l=>stT P T.ax l h w fun _ w=>ij (bK .sub T.d 36 (gv a 0) i1 w) w c/\ij (fun K'=>K' (gv a 0) w) w (gv a 0)/\ij (fun K'=>K' b w) w b/\ib (iaT P T.ay b c w) w fun m=>stT P T.ax m j w fun _ w=>e [] w) fun o w=>bK .sub T.d 31 (gv a 0) i1 w fun n w=>d [n] w
def M.ea.j3[SD](b:List Value)(d c:Value)(e f:KL):QQ:=fun w K=>ii (fun g=>jb w fun w=>w=w/\w=w/\ib (bT .gtr T.d 16 17 (gv b 0) d w) w fun a=>w=w/\ib (fun K'=>ic (isB a true) (fun K'=>K' c w) w K') w fun h=>ib (fun K'=>ic (isB a true) (fun K'=>K' (gv b 0) w) w K') w fun i=>ib (ic (isB a true) (iaT P T.ay h i w) w) w fun j=>ib (ic (isB a true) (ldT P T.ax j w) w) w fun l=>ib (fun K'=>ic (isB a true) (fun K'=>K' c w) w K') w fun m=>ib (fun K'=>ic (isB a true) (fun K'=>K' (gv b 0) w) w K') w fun n=>ib (ic (isB a true) (bK .sub T.d 25 n i1 w) w) w fun o=>ib (ic (isB a true) (iaT P T.ay m o w) w) w fun p=>ib (ic (isB a true) (ldT P T.ax p w) w) w fun q=>ic (isB a true) (ie P F.dw [l,q] w) w fun r w=>ib (iu a r bF w) w fun s=>ig s (g [] w) (e [(gv b 0)] w)) fun t w=>M.ea.j4 b c f w K
def M.ea.j0[SD](a:List Value)(b c d:Value)(e:KL):QQ:=fun w K=>ii (fun f=>bT .lss T.d 10 11 (gv a 1) b w fun g w=>ig g (f [] w) (K (.tuple #[]) w)) fun n w=>ii (fun h=>jl [(gv a 1)] w fun i j w=>M.ea.j3 j c d h i w K) fun l w=>bK .add T.d 13 (gv a 1) i1 w fun m w=>e [(gv l 0),m] w
def M.ea[SD](b a c:Value):QQ:=fun w K=>bK .add T.d 8 a i1 w fun d w=>jl [undef,d] w fun e f w=>M.ea.j0 f c a b e w K
def M.dg.j3[SD](a:Value)(d b:List Value)(c:Value)(f:KL):QQ:=fun w K=>jb w fun w=>w=w/\w=w/\w=w/\ib (bT .add T.d 54 55 a (gv d 1) w) w fun g=>w=w/\w=w/\w=w/\ib (bT .add T.d 58 59 a (gv b 0) w) w fun e=>w=w/\w=w/\w=w/\ib (bT .add T.d 62 63 a (gv b 0) w) w fun h=>ib (iaT P T.ay c h w) w fun i=>ib (ldT P T.ax i w) w fun j=>w=w/\w=w/\w=w/\ib (bT .add T.d 68 69 a (gv d 1) w) w fun l=>ib (iaT P T.ay c l w) w fun m=>ib (ldT P T.ax m w) w fun n=>ib (iaT P T.ay c g w) w fun o=>stT P T.ax o j w fun _ w=>ij (bT .add T.d 58 59 a (gv b 0) w) w e/\ij (fun K'=>K' (gv b 0) w) w (gv b 0)/\ij (fun K'=>K' a w) w a/\ij (fun K'=>K' c w) w c/\ib (iaT P T.ay c e w) w fun p=>stT P T.ax p n w fun _ w=>f [(gv b 0),(gv b 0)] w
def M.dg.j2[SD](a:Value)(c:List Value)(b:Value)(d:List Value)(e:KL):QQ:=fun w K=>ii (fun f=>jb w fun w=>w=w/\w=w/\w=w/\ib (bT .add T.d 40 41 a (gv c 1) w) w fun g=>ib (iaT P T.ay b g w) w fun h=>ib (ldT P T.ax h w) w fun i=>w=w/\w=w/\w=w/\ib (bT .add T.d 46 47 a (gv d 0) w) w fun j=>ib (iaT P T.ay b j w) w fun l=>ib (ldT P T.ax l w) w fun m=>ie P F.dw [i,m] w fun n w=>ib (unT P .not n w) w fun o=>ig o (K (.tuple #[]) w) (f [] w)) fun p w=>M.dg.j3 a c d b e w K
def M.dg.j1[SD](b f c d:Value)(g:List Value)(h:KL):QQ:=fun w K=>ii (fun e=>jb w fun w=>w=w/\ib (bK .add T.d 17 b i1 w) w fun i=>w=w/\ib (bT .lss T.d 18 19 i f w) w fun a=>w=w/\ib (fun K'=>ic (isB a true) (fun K'=>K' c w) w K') w fun j=>ib (fun K'=>ic (isB a true) (fun K'=>K' d w) w K') w fun l=>ib (fun K'=>ic (isB a true) (fun K'=>K' b w) w K') w fun m=>ib (ic (isB a true) (bT .add T.d 23 24 l m w) w) w fun n=>ib (ic (isB a true) (iaT P T.ay j n w) w) w fun o=>ib (ic (isB a true) (ldT P T.ax o w) w) w fun p=>ib (fun K'=>ic (isB a true) (fun K'=>K' c w) w K') w fun q=>ib (fun K'=>ic (isB a true) (fun K'=>K' d w) w K') w fun r=>ib (fun K'=>ic (isB a true) (fun K'=>K' b w) w K') w fun s=>ib (ic (isB a true) (bT .add T.d 29 30 r s w) w) w fun t=>ib (ic (isB a true) (bK .add T.d 31 t i1 w) w) w fun u=>ib (ic (isB a true) (iaT P T.ay q u w) w) w fun v=>ib (ic (isB a true) (ldT P T.ax v w) w) w fun x=>ic (isB a true) (ie P F.dw [p,x] w) w fun y w=>ib (iu a y bF w) w fun z=>ig z (bK .add T.d 37 b i1 w fun A w=>e [A] w) (e [b] w)) fun B w=>M.dg.j2 d g c B h w K
def M.dg.j0[SD](a:List Value)(b d e:Value)(f:KL):QQ:=fun w K=>ip P .mul T.d (.const i2) (.tmp 11) i2 (gv a 1) w fun g w=>bK .add T.d 12 g i1 w fun c w=>ii (fun h=>bT .geq T.d 14 15 c b w fun i w=>ig i (K (.tuple #[]) w) (h [] w)) fun j w=>M.dg.j1 c b d e a f w K
def M.dg[SD](a b c d:Value):QQ:=fun w K=>jl [undef,b] w fun e f w=>M.dg.j0 f c a d e w K
def M.du.j1[SD](a:List Value)(b:KL)(c d e:Value)(f:KL):QQ:=fun w K=>ii (fun g=>bK .geq T.d 18 (gv a 0) i0 w fun h w=>ig h (g [] w) (b [(gv a 0)] w)) fun l w=>ii (fun i=>ie P F.hb [c,(gv a 0),d,e] w fun m w=>i [] w) fun n w=>bK .sub T.d 20 (gv a 0) i1 w fun j w=>f [j] w
def M.du.j5[SD](a:Value)(b:List Value)(c:Value)(e:KL):QQ:=fun w K=>ii (fun f=>jb w fun w=>w=w/\w=w/\w=w/\w=w/\w=w/\ib (bT .add T.d 36 37 a (gv b 0) w) w fun d=>w=w/\w=w/\w=w/\ib (bT .add T.d 40 41 a (gv b 0) w) w fun g=>ib (iaT P T.ay c g w) w fun h=>ib (ldT P T.ax h w) w fun i=>w=w/\w=w/\ib (iaT P T.ay c a w) w fun j=>ib (ldT P T.ax j w) w fun l=>ib (iaT P T.ay c a w) w fun m=>stT P T.ax m i w fun _ w=>ij (bT .add T.d 36 37 a (gv b 0) w) w d/\ij (fun K'=>K' (gv b 0) w) w (gv b 0)/\ij (fun K'=>K' a w) w a/\ij (fun K'=>K' c w) w c/\ib (iaT P T.ay c d w) w fun n=>stT P T.ax n l w fun _ w=>ie P F.hb [c,i0,(gv b 0),a] w fun p w=>f [] w) fun q w=>bK .sub T.d 31 (gv b 0) i1 w fun o w=>e [o] w
def M.du.j0[SD](b c d:Value):QQ:=fun w K=>bK .sub T.d 27 b i1 w fun e w=>jl [e] w fun f a w=>ii (fun g=>bK .geq T.d 29 (gv a 0) i0 w fun h w=>ig h (g [] w) (K (.tuple #[]) w)) fun i w=>M.du.j5 c a d f w K
def M.du[SD](c a d:Value):QQ:=fun w K=>bT .sub T.d 12 13 d a w fun b w=>ii (fun e=>bK .sub T.d 15 b i1 w fun f w=>ip P .quo T.d (.tmp 16) (.const i2) f i2 w fun g w=>jl [g] w fun h i w=>M.du.j1 i e c b a h w K) fun j w=>M.du.j0 b a c w K
def M.bk.j1[SD](b:List Value)(d c e:Value)(f g:KL):QQ:=fun w K=>ii (fun h=>jb w fun w=>w=w/\w=w/\ib (bT .leq T.d 30 31 (gv b 0) d w) w fun a=>w=w/\ib (fun K'=>ic (isB a true) (fun K'=>K' c w) w K') w fun i=>ib (fun K'=>ic (isB a true) (fun K'=>K' (gv b 0) w) w K') w fun j=>ib (ic (isB a true) (iaT P T.ay i j w) w) w fun l=>ib (ic (isB a true) (ldT P T.ax l w) w) w fun m=>ib (fun K'=>ic (isB a true) (fun K'=>K' c w) w K') w fun n=>ib (fun K'=>ic (isB a true) (fun K'=>K' e w) w K') w fun o=>ib (ic (isB a true) (iaT P T.ay n o w) w) w fun p=>ib (ic (isB a true) (ldT P T.ax p w) w) w fun q=>ic (isB a true) (ie P F.dw [m,q] w) w fun r w=>ib (iu a r bF w) w fun s=>ig s (h [] w) (f [(gv b 0)] w)) fun u w=>bK .add T.d 44 (gv b 0) i1 w fun t w=>g [t] w
def M.bk.j4[SD](d b:List Value)(c e:Value)(f g:KL):QQ:=fun w K=>ii (fun h=>jb w fun w=>w=w/\w=w/\ib (bT .leq T.d 46 47 (gv d 0) (gv b 0) w) w fun a=>w=w/\ib (fun K'=>ic (isB a true) (fun K'=>K' c w) w K') w fun i=>ib (fun K'=>ic (isB a true) (fun K'=>K' (gv b 0) w) w K') w fun j=>ib (ic (isB a true) (iaT P T.ay i j w) w) w fun l=>ib (ic (isB a true) (ldT P T.ax l w) w) w fun m=>ib (fun K'=>ic (isB a true) (fun K'=>K' c w) w K') w fun n=>ib (fun K'=>ic (isB a true) (fun K'=>K' e w) w K') w fun o=>ib (ic (isB a true) (iaT P T.ay n o w) w) w fun p=>ib (ic (isB a true) (ldT P T.ax p w) w) w fun q=>ic (isB a true) (ie P F.dw [m,q] w) w fun r w=>ib (ic (isB a true) (unT P .not r w) w) w fun s=>ib (iu a s bF w) w fun t=>ig t (h [] w) (f [(gv b 0)] w)) fun v w=>bK .sub T.d 61 (gv b 0) i1 w fun u w=>g [u] w
def M.bk.j10[SD](b d:List Value)(c e:Value)(f g:KL):QQ:=fun w K=>ii (fun h=>jb w fun w=>w=w/\w=w/\ib (bT .leq T.d 99 100 (gv b 0) (gv d 1) w) w fun a=>w=w/\ib (fun K'=>ic (isB a true) (fun K'=>K' c w) w K') w fun i=>ib (fun K'=>ic (isB a true) (fun K'=>K' (gv b 0) w) w K') w fun j=>ib (ic (isB a true) (iaT P T.ay i j w) w) w fun l=>ib (ic (isB a true) (ldT P T.ax l w) w) w fun m=>ib (fun K'=>ic (isB a true) (fun K'=>K' c w) w K') w fun n=>ib (fun K'=>ic (isB a true) (fun K'=>K' e w) w K') w fun o=>ib (ic (isB a true) (iaT P T.ay n o w) w) w fun p=>ib (ic (isB a true) (ldT P T.ax p w) w) w fun q=>ic (isB a true) (ie P F.dw [m,q] w) w fun r w=>ib (iu a r bF w) w fun s=>ig s (h [] w) (f [(gv b 0)] w)) fun u w=>bK .add T.d 113 (gv b 0) i1 w fun t w=>g [t] w
def M.bk.j13[SD](d b:List Value)(c e:Value)(f g:KL):QQ:=fun w K=>ii (fun h=>jb w fun w=>w=w/\w=w/\ib (bT .leq T.d 115 116 (gv d 0) (gv b 0) w) w fun a=>w=w/\ib (fun K'=>ic (isB a true) (fun K'=>K' c w) w K') w fun i=>ib (fun K'=>ic (isB a true) (fun K'=>K' (gv b 0) w) w K') w fun j=>ib (ic (isB a true) (iaT P T.ay i j w) w) w fun l=>ib (ic (isB a true) (ldT P T.ax l w) w) w fun m=>ib (fun K'=>ic (isB a true) (fun K'=>K' c w) w K') w fun n=>ib (fun K'=>ic (isB a true) (fun K'=>K' e w) w K') w fun o=>ib (ic (isB a true) (iaT P T.ay n o w) w) w fun p=>ib (ic (isB a true) (ldT P T.ax p w) w) w fun q=>ic (isB a true) (ie P F.dw [m,q] w) w fun r w=>ib (ic (isB a true) (unT P .not r w) w) w fun s=>ib (iu a s bF w) w fun t=>ig t (h [] w) (f [(gv b 0)] w)) fun v w=>bK .sub T.d 130 (gv b 0) i1 w fun u w=>g [u] w
def M.bk.j15[SD](a:Value)(b c:List Value)(d:KL):QQ:=fun w K=>jb w fun w=>w=w/\w=w/\w=w/\w=w/\w=w/\w=w/\ib (iaT P T.ay a (gv b 0) w) w fun e=>ib (ldT P T.ax e w) w fun f=>w=w/\w=w/\ib (iaT P T.ay a (gv c 0) w) w fun g=>ib (ldT P T.ax g w) w fun h=>ib (iaT P T.ay a (gv c 0) w) w fun i=>stT P T.ax i f w fun _ w=>ij (fun K'=>K' (gv b 0) w) w (gv b 0)/\ij (fun K'=>K' a w) w a/\ib (iaT P T.ay a (gv b 0) w) w fun j=>stT P T.ax j h w fun _ w=>bK .add T.d 149 (gv c 0) i1 w fun l w=>bK .sub T.d 151 (gv b 0) i1 w fun m w=>d [l,m] w
def M.bk.j9[SD](d a:List Value)(c e:Value)(f g:KL):QQ:=fun w K=>ii (fun h=>jl [(gv d 1)] w fun i j w=>M.bk.j13 a j c e h i w K) fun b w=>ii (fun l=>bT .gtr T.d 132 133 (gv a 0) (gv b 0) w fun m w=>ig m (f [(gv a 0),(gv b 0)] w) (l [] w)) fun n w=>M.bk.j15 c b a g w K
def M.bk.j7[SD](a b:Value)(c:List Value):QQ:=fun w K=>jb w fun w=>w=w/\w=w/\w=w/\w=w/\w=w/\w=w/\ib (iaT P T.ay a b w) w fun d=>ib (ldT P T.ax d w) w fun e=>w=w/\w=w/\ib (iaT P T.ay a (gv c 1) w) w fun f=>ib (ldT P T.ax f w) w fun g=>ib (iaT P T.ay a (gv c 1) w) w fun h=>stT P T.ax h e w fun _ w=>ij (fun K'=>K' b w) w b/\ij (fun K'=>K' a w) w a/\ib (iaT P T.ay a b w) w fun i=>stT P T.ax i g w fun _ w=>K (.tuple #[(gv c 1),bF]) w
def M.bk.j6[SD](a:Value)(b c:List Value)(d:Value):QQ:=fun w K=>jb w fun w=>w=w/\w=w/\w=w/\w=w/\w=w/\w=w/\ib (iaT P T.ay a (gv b 0) w) w fun f=>ib (ldT P T.ax f w) w fun g=>w=w/\w=w/\ib (iaT P T.ay a (gv c 0) w) w fun h=>ib (ldT P T.ax h w) w fun i=>ib (iaT P T.ay a (gv c 0) w) w fun j=>stT P T.ax j g w fun _ w=>ij (fun K'=>K' (gv b 0) w) w (gv b 0)/\ij (fun K'=>K' a w) w a/\ib (iaT P T.ay a (gv b 0) w) w fun l=>stT P T.ax l i w fun _ w=>bK .add T.d 95 (gv c 0) i1 w fun m w=>bK .sub T.d 97 (gv b 0) i1 w fun n w=>ii (fun o=>jl [m,n] w fun p e w=>ii (fun q=>jl [(gv e 0)] w fun r s w=>M.bk.j10 s e a d q r w K) fun t w=>M.bk.j9 e t a d o p w K) fun u w=>M.bk.j7 a d u w K
def M.bk.j3[SD](d b:List Value)(a c:Value):QQ:=fun w K=>ii (fun e=>bT .gtr T.d 63 64 (gv d 0) (gv b 0) w fun f w=>ig f (jb w fun w=>w=w/\w=w/\w=w/\w=w/\w=w/\w=w/\ib (iaT P T.ay a c w) w fun g=>ib (ldT P T.ax g w) w fun h=>w=w/\w=w/\ib (iaT P T.ay a (gv b 0) w) w fun i=>ib (ldT P T.ax i w) w fun j=>ib (iaT P T.ay a (gv b 0) w) w fun l=>stT P T.ax l h w fun _ w=>ij (fun K'=>K' c w) w c/\ij (fun K'=>K' a w) w a/\ib (iaT P T.ay a c w) w fun m=>stT P T.ax m j w fun _ w=>K (.tuple #[(gv b 0),bY]) w) (e [i0,bF] w)) fun n w=>M.bk.j6 a b d c w K
def M.bk[SD](a b f c:Value):QQ:=fun w K=>jb w fun w=>w=w/\w=w/\w=w/\w=w/\w=w/\w=w/\ib (iaT P T.ay a c w) w fun g=>ib (ldT P T.ax g w) w fun h=>w=w/\w=w/\ib (iaT P T.ay a b w) w fun i=>ib (ldT P T.ax i w) w fun j=>ib (iaT P T.ay a b w) w fun l=>stT P T.ax l h w fun _ w=>ij (fun K'=>K' c w) w c/\ij (fun K'=>K' a w) w a/\ib (iaT P T.ay a c w) w fun m=>stT P T.ax m j w fun _ w=>bK .add T.d 26 b i1 w fun n w=>bK .sub T.d 28 f i1 w fun d w=>ii (fun o=>jl [n] w fun p q w=>M.bk.j1 q d a b o p w K) fun e w=>ii (fun r=>jl [d] w fun s t w=>M.bk.j4 e t a b r s w K) fun u w=>M.bk.j3 e u a b w K
def M.eb.j3[SD](b d:List Value)(c e:Value)(f g:KL):QQ:=fun w K=>ii (fun h=>jb w fun w=>w=w/\w=w/\ib (bT .leq T.d 29 30 (gv b 0) (gv d 1) w) w fun a=>w=w/\ib (fun K'=>ic (isB a true) (fun K'=>K' c w) w K') w fun i=>ib (fun K'=>ic (isB a true) (fun K'=>K' e w) w K') w fun j=>ib (ic (isB a true) (iaT P T.ay i j w) w) w fun l=>ib (ic (isB a true) (ldT P T.ax l w) w) w fun m=>ib (fun K'=>ic (isB a true) (fun K'=>K' c w) w K') w fun n=>ib (fun K'=>ic (isB a true) (fun K'=>K' (gv b 0) w) w K') w fun o=>ib (ic (isB a true) (iaT P T.ay n o w) w) w fun p=>ib (ic (isB a true) (ldT P T.ax p w) w) w fun q=>ic (isB a true) (ie P F.dw [m,q] w) w fun r w=>ib (ic (isB a true) (unT P .not r w) w) w fun s=>ib (iu a s bF w) w fun t=>ig t (h [] w) (f [(gv b 0)] w)) fun v w=>bK .add T.d 44 (gv b 0) i1 w fun u w=>g [u] w
def M.eb.j6[SD](d b:List Value)(c e:Value)(f g:KL):QQ:=fun w K=>ii (fun h=>jb w fun w=>w=w/\w=w/\ib (bT .leq T.d 46 47 (gv d 0) (gv b 0) w) w fun a=>w=w/\ib (fun K'=>ic (isB a true) (fun K'=>K' c w) w K') w fun i=>ib (fun K'=>ic (isB a true) (fun K'=>K' e w) w K') w fun j=>ib (ic (isB a true) (iaT P T.ay i j w) w) w fun l=>ib (ic (isB a true) (ldT P T.ax l w) w) w fun m=>ib (fun K'=>ic (isB a true) (fun K'=>K' c w) w K') w fun n=>ib (fun K'=>ic (isB a true) (fun K'=>K' (gv b 0) w) w K') w fun o=>ib (ic (isB a true) (iaT P T.ay n o w) w) w fun p=>ib (ic (isB a true) (ldT P T.ax p w) w) w fun q=>ic (isB a true) (ie P F.dw [m,q] w) w fun r w=>ib (iu a r bF w) w fun s=>ig s (h [] w) (f [(gv b 0)] w)) fun u w=>bK .sub T.d 60 (gv b 0) i1 w fun t w=>g [t] w
def M.eb.j8[SD](a:Value)(b c:List Value)(d:KL):QQ:=fun w K=>jb w fun w=>w=w/\w=w/\w=w/\w=w/\w=w/\w=w/\ib (iaT P T.ay a (gv b 0) w) w fun e=>ib (ldT P T.ax e w) w fun f=>w=w/\w=w/\ib (iaT P T.ay a (gv c 0) w) w fun g=>ib (ldT P T.ax g w) w fun h=>ib (iaT P T.ay a (gv c 0) w) w fun i=>stT P T.ax i f w fun _ w=>ij (fun K'=>K' (gv b 0) w) w (gv b 0)/\ij (fun K'=>K' a w) w a/\ib (iaT P T.ay a (gv b 0) w) w fun j=>stT P T.ax j h w fun _ w=>bK .add T.d 79 (gv c 0) i1 w fun l w=>bK .sub T.d 81 (gv b 0) i1 w fun m w=>d [l,m] w
def M.eb.j2[SD](d a:List Value)(c e:Value)(f g:KL):QQ:=fun w K=>ii (fun h=>jl [(gv d 1)] w fun i j w=>M.eb.j6 a j c e h i w K) fun b w=>ii (fun l=>bT .gtr T.d 62 63 (gv a 0) (gv b 0) w fun m w=>ig m (f [(gv a 0),(gv b 0)] w) (l [] w)) fun n w=>M.eb.j8 c b a g w K
def M.eb[SD](a b e c:Value):QQ:=fun w K=>jb w fun w=>w=w/\w=w/\w=w/\w=w/\w=w/\w=w/\ib (iaT P T.ay a c w) w fun f=>ib (ldT P T.ax f w) w fun g=>w=w/\w=w/\ib (iaT P T.ay a b w) w fun h=>ib (ldT P T.ax h w) w fun i=>ib (iaT P T.ay a b w) w fun j=>stT P T.ax j g w fun _ w=>ij (fun K'=>K' c w) w c/\ij (fun K'=>K' a w) w a/\ib (iaT P T.ay a c w) w fun l=>stT P T.ax l i w fun _ w=>bK .add T.d 25 b i1 w fun m w=>bK .sub T.d 27 e i1 w fun n w=>ii (fun o=>jl [m,n] w fun p d w=>ii (fun q=>jl [(gv d 0)] w fun r s w=>M.eb.j3 s d a b q r w K) fun t w=>M.eb.j2 d t a b o p w K) fun u w=>K (gv u 0) w
def M.ax.j5[SD](b:List Value)(d c:Value)(e f:KL):QQ:=fun w K=>ii (fun g=>jb w fun w=>w=w/\w=w/\ib (bT .lss T.d 17 18 (gv b 0) d w) w fun a=>w=w/\ib (fun K'=>ic (isB a true) (fun K'=>K' c w) w K') w fun h=>ib (fun K'=>ic (isB a true) (fun K'=>K' (gv b 0) w) w K') w fun i=>ib (ic (isB a true) (iaT P T.ay h i w) w) w fun j=>ib (ic (isB a true) (ldT P T.ax j w) w) w fun l=>ib (fun K'=>ic (isB a true) (fun K'=>K' c w) w K') w fun m=>ib (fun K'=>ic (isB a true) (fun K'=>K' (gv b 0) w) w K') w fun n=>ib (ic (isB a true) (bK .sub T.d 26 n i1 w) w) w fun o=>ib (ic (isB a true) (iaT P T.ay m o w) w) w fun p=>ib (ic (isB a true) (ldT P T.ax p w) w) w fun q=>ic (isB a true) (ie P F.dw [l,q] w) w fun r w=>ib (ic (isB a true) (unT P .not r w) w) w fun s=>ib (iu a s bF w) w fun t=>ig t (g [] w) (e [(gv b 0)] w)) fun v w=>bK .add T.d 33 (gv b 0) i1 w fun u w=>f [u] w
def M.ax.j13[SD](a:List Value)(b:Value)(d:KL):QQ:=fun w K=>jb w fun w=>w=w/\w=w/\w=w/\w=w/\ib (bK .sub T.d 82 (gv a 0) i1 w) w fun c=>w=w/\w=w/\ib (bK .sub T.d 85 (gv a 0) i1 w) w fun e=>ib (iaT P T.ay b e w) w fun f=>ib (ldT P T.ax f w) w fun g=>w=w/\w=w/\ib (iaT P T.ay b (gv a 0) w) w fun h=>ib (ldT P T.ax h w) w fun i=>ib (iaT P T.ay b (gv a 0) w) w fun j=>stT P T.ax j g w fun _ w=>ij (bK .sub T.d 82 (gv a 0) i1 w) w c/\ij (fun K'=>K' (gv a 0) w) w (gv a 0)/\ij (fun K'=>K' b w) w b/\ib (iaT P T.ay b c w) w fun l=>stT P T.ax l i w fun _ w=>d [] w
def M.ax.j11[SD](b:Value)(a:List Value)(c d:KL):QQ:=fun w K=>ii (fun e=>ii (fun f=>jb w fun w=>w=w/\w=w/\ib (iaT P T.ay b (gv a 0) w) w fun g=>ib (ldT P T.ax g w) w fun h=>w=w/\w=w/\ib (bK .sub T.d 73 (gv a 0) i1 w) w fun i=>ib (iaT P T.ay b i w) w fun j=>ib (ldT P T.ax j w) w fun l=>ie P F.dw [h,l] w fun m w=>ib (unT P .not m w) w fun n=>ig n (c [(gv a 0)] w) (f [] w)) fun p w=>M.ax.j13 a b e w K) fun q w=>bK .sub T.d 66 (gv a 0) i1 w fun o w=>d [o] w
def M.ax.j17[SD](a:List Value)(b:Value)(d:KL):QQ:=fun w K=>jb w fun w=>w=w/\w=w/\w=w/\w=w/\ib (bK .sub T.d 120 (gv a 0) i1 w) w fun c=>w=w/\w=w/\ib (bK .sub T.d 123 (gv a 0) i1 w) w fun e=>ib (iaT P T.ay b e w) w fun f=>ib (ldT P T.ax f w) w fun g=>w=w/\w=w/\ib (iaT P T.ay b (gv a 0) w) w fun h=>ib (ldT P T.ax h w) w fun i=>ib (iaT P T.ay b (gv a 0) w) w fun j=>stT P T.ax j g w fun _ w=>ij (bK .sub T.d 120 (gv a 0) i1 w) w c/\ij (fun K'=>K' (gv a 0) w) w (gv a 0)/\ij (fun K'=>K' b w) w b/\ib (iaT P T.ay b c w) w fun l=>stT P T.ax l i w fun _ w=>d [] w
def M.ax.j15[SD](b:Value)(a:List Value)(c:KL)(d e f:List Value)(g:KL):QQ:=fun w K=>ii (fun h=>ii (fun i=>jb w fun w=>w=w/\w=w/\ib (iaT P T.ay b (gv a 0) w) w fun j=>ib (ldT P T.ax j w) w fun l=>w=w/\w=w/\ib (bK .sub T.d 111 (gv a 0) i1 w) w fun m=>ib (iaT P T.ay b m w) w fun n=>ib (ldT P T.ax n w) w fun o=>ie P F.dw [l,o] w fun p w=>ib (unT P .not p w) w fun q=>ig q (c [(gv d 0),(gv e 0),(gv f 0),(gv a 0)] w) (i [] w)) fun s w=>M.ax.j17 a b h w K) fun t w=>bK .add T.d 104 (gv a 0) i1 w fun r w=>g [r] w
def M.ax.j14[SD](a:List Value)(f:Value)(b:KL)(c d e:List Value)(g:Value)(h:KL):QQ:=fun w K=>ii (fun i=>bT .lss T.d 101 102 (gv a 0) f w fun j w=>ig j (i [] w) (b [(gv c 0),(gv d 0),(gv e 0),(gv a 0)] w)) fun l w=>M.ax.j15 g a b c d e h w K
def M.ax.j9[SD](b:Value)(a:List Value)(c:KL)(d e:List Value)(f:Value)(g:List Value):QQ:=fun w K=>bT .sub T.d 95 96 b (gv a 0) w fun h w=>bK .geq T.d 97 h i2 w fun i w=>ig i (bK .add T.d 99 (gv a 0) i1 w fun j w=>jl [j] w fun l m w=>M.ax.j14 m b c a d e f l w K) (c [(gv a 0),(gv d 0),(gv e 0),(gv g 3)] w)
def M.ax.j8[SD](a:List Value)(b g:Value)(e:List Value)(h:Value)(i:KL)(j:List Value):QQ:=fun w K=>jb w fun w=>w=w/\w=w/\w=w/\w=w/\ib (bK .sub T.d 45 (gv a 0) i1 w) w fun f=>w=w/\w=w/\ib (bK .sub T.d 48 (gv a 0) i1 w) w fun l=>ib (iaT P T.ay b l w) w fun m=>ib (ldT P T.ax m w) w fun n=>w=w/\w=w/\ib (iaT P T.ay b (gv a 0) w) w fun o=>ib (ldT P T.ax o w) w fun p=>ib (iaT P T.ay b (gv a 0) w) w fun q=>stT P T.ax q n w fun _ w=>ij (bK .sub T.d 45 (gv a 0) i1 w) w f/\ij (fun K'=>K' (gv a 0) w) w (gv a 0)/\ij (fun K'=>K' b w) w b/\ib (iaT P T.ay b f w) w fun r=>stT P T.ax r p w fun _ w=>ii (fun c=>bT .sub T.d 58 59 (gv a 0) g w fun s w=>bK .geq T.d 60 s i2 w fun t w=>ig t (bK .sub T.d 62 (gv a 0) i1 w fun u w=>jl [u] w fun v d w=>ii (fun x=>bK .geq T.d 64 (gv d 0) i1 w fun y w=>ig y (x [] w) (c [(gv d 0)] w)) fun A w=>M.ax.j11 b d c v w K) (c [(gv e 2)] w)) fun z w=>M.ax.j9 h a i j z b e w K
def M.ax.j7[SD](a b:Value)(c d:List Value)(e:Value)(f:List Value)(g:KL):QQ:=fun w K=>ii (fun h=>bT .sub T.d 38 39 a b w fun i w=>bK .lss T.d 40 i (.int .i64 50) w fun j w=>ig j (K bF w) (h [(gv c 0)] w)) fun l w=>M.ax.j8 d e b f a g l w K
def M.ax.j2[SD](a:List Value)(c d f:Value)(g:KL):QQ:=fun w K=>ii (fun h=>ii (fun i=>jl [(gv a 0)] w fun j l w=>M.ax.j5 l c d i j w K) fun e w=>ii (fun m=>bT .eql T.d 35 36 (gv e 0) c w fun n w=>ig n (K bY w) (m [(gv a 1)] w)) fun o w=>M.ax.j7 c f o e d a h w K) fun b w=>bK .add T.d 15 (gv a 4) i1 w fun p w=>g [(gv b 0),(gv b 1),(gv b 2),(gv b 3),p] w
def M.ax.j1[SD](a:List Value)(b:KL)(c d e:Value)(f:KL):QQ:=fun w K=>ii (fun g=>bK .lss T.d 13 (gv a 4) (.int .i64 5) w fun h w=>ig h (g [] w) (b [(gv a 4),(gv a 0),(gv a 1),(gv a 2),(gv a 3)] w)) fun i w=>M.ax.j2 a c d e f w K
def M.ax[SD](b a c:Value):QQ:=fun w K=>bK .add T.d 11 a i1 w fun d w=>ii (fun e=>jl [d,bF,undef,undef,i0] w fun f g w=>M.ax.j1 g e c b a f w K) fun h w=>K bF w
def M.ev.j3[SD](c:Value)(a:List Value)(b:Value)(d:List Value)(f:KL):QQ:=fun w K=>jb w fun w=>w=w/\w=w/\w=w/\w=w/\w=w/\ib (bT .add T.d 50 51 c (gv a 0) w) w fun e=>w=w/\w=w/\w=w/\ib (bT .add T.d 54 55 c (gv a 0) w) w fun g=>ib (iaT P T.ay b g w) w fun h=>ib (ldT P T.ax h w) w fun i=>w=w/\w=w/\ib (iaT P T.ay b (gv d 1) w) w fun j=>ib (ldT P T.ax j w) w fun l=>ib (iaT P T.ay b (gv d 1) w) w fun m=>stT P T.ax m i w fun _ w=>ij (bT .add T.d 50 51 c (gv a 0) w) w e/\ij (fun K'=>K' (gv a 0) w) w (gv a 0)/\ij (fun K'=>K' c w) w c/\ij (fun K'=>K' b w) w b/\ib (iaT P T.ay b e w) w fun n=>stT P T.ax n l w fun _ w=>f [(gv a 0)] w
def M.ev.j1[SD](e f b g h:Value)(c:List Value)(i:KL):QQ:=fun w K=>ii (fun j=>ie P F.cv [e] w fun l w=>bK .sub T.bs 37 f (.int .u64 1) w fun m w=>ip P .and T.bs (.tmp 36) (.tmp 38) l m w fun n w=>cvT P T.bs T.d n w fun a w=>ii (fun d=>bT .geq T.d 41 42 a b w fun o w=>ig o (bT .sub T.d 44 45 a b w fun p w=>d [p] w) (d [a] w)) fun q w=>M.ev.j3 g q h c j w K) fun r w=>bK .add T.d 34 (gv c 1) i1 w fun s w=>i [(gv r 0),s] w
def M.ev.j0[SD](a b:Value)(c:List Value)(d e f:Value)(g:KL):QQ:=fun w K=>ii (fun h=>ip P .quo T.d (.tmp 28) (.const (.int .i64 4)) a (.int .i64 4) w fun i w=>ip P .mul T.d (.tmp 29) (.const i2) i i2 w fun j w=>bT .add T.d 27 30 b j w fun l w=>bK .add T.d 31 l i1 w fun m w=>bT .leq T.d 26 32 (gv c 1) m w fun n w=>ig n (h [] w) (K (.tuple #[]) w)) fun o w=>M.ev.j1 d e a b f c g w K
def M.ev[SD](d b e:Value):QQ:=fun w K=>bT .sub T.d 11 12 e b w fun a w=>bK .geq T.d 14 a (.int .i64 8) w fun f w=>ig f (cvT P T.d T.ag a w fun g w=>alT P T.ag w fun c w=>stT P T.ag c g w fun _ w=>ie P F.cu [a] w fun h w=>ip P .quo T.d (.tmp 21) (.const (.int .i64 4)) a (.int .i64 4) w fun i w=>ip P .mul T.d (.tmp 22) (.const i2) i i2 w fun j w=>bT .add T.d 20 23 b j w fun l w=>bK .sub T.d 24 l i1 w fun m w=>jl [undef,m] w fun n o w=>M.ev.j0 a b o c h d n w K) (K (.tuple #[]) w)
def M.fx[SD](c a b d:Value):QQ:=fun w K=>ii (fun e=>jb w fun w=>w=w/\w=w/\ib (iaT P T.ay c b w) w fun f=>ib (ldT P T.ax f w) w fun g=>w=w/\w=w/\ib (iaT P T.ay c a w) w fun h=>ib (ldT P T.ax h w) w fun i=>ie P F.dw [g,i] w fun j w=>ig j (im d w fun l w=>ldT P T.d l w fun m w=>bK .add T.d 21 m i1 w fun n w=>im d w fun o w=>stT P T.d o n w fun _ w=>K (.tuple #[b,a]) w) (e [i0,i0] w)) fun p w=>K (.tuple #[a,b]) w
def M.fy[SD](a f g h b:Value):QQ:=fun w K=>ie P F.hi [a,f,g,b] w fun c w=>exT P c 0 w fun i w=>exT P c 1 w fun j w=>ie P F.hi [a,j,h,b] w fun d w=>exT P d 0 w fun l w=>exT P d 1 w fun n w=>ie P F.hi [a,i,l,b] w fun e w=>exT P e 0 w fun o w=>exT P e 1 w fun m w=>K m w
def M.fg[SD](b a c:Value):QQ:=fun w K=>bK .sub T.d 8 a i1 w fun d w=>bK .add T.d 11 a i1 w fun e w=>ie P F.hj [b,d,a,e,c] w fun f w=>K f w
def M.fc.j0[SD](c:Value)(a:List Value):QQ:=fun w K=>ldT P T.d c w fun b w=>bK .eql T.d 49 b i0 w fun d w=>ig d (K (.tuple #[(gv a 1),i1]) w) (bK .eql T.d 49 b (.int .i64 12) w fun e w=>ig e (K (.tuple #[(gv a 1),i2]) w) (K (.tuple #[(gv a 1),i0]) w))
def M.fc[SD](d e l:Value):QQ:=fun w K=>bT .sub T.d 13 14 l e w fun a w=>alT P T.d w fun b w=>ip P .quo T.d (.tmp 17) (.const (.int .i64 4)) a (.int .i64 4) w fun m w=>ip P .mul T.d (.tmp 18) (.const i1) m i1 w fun n w=>bT .add T.d 16 19 e n w fun f w=>ip P .quo T.d (.tmp 22) (.const (.int .i64 4)) a (.int .i64 4) w fun o w=>ip P .mul T.d (.tmp 23) (.const i2) o i2 w fun p w=>bT .add T.d 21 24 e p w fun g w=>ip P .quo T.d (.tmp 27) (.const (.int .i64 4)) a (.int .i64 4) w fun q w=>ip P .mul T.d (.tmp 28) (.const (.int .i64 3)) q (.int .i64 3) w fun r w=>bT .add T.d 26 29 e r w fun h w=>ii (fun i=>bK .geq T.d 31 a (.int .i64 8) w fun s w=>ig s (ii (fun j=>bK .geq T.d 33 a (.int .i64 50) w fun t w=>ig t (ie P F.gv [d,f,b] w fun u w=>ie P F.gv [d,g,b] w fun v w=>ie P F.gv [d,h,b] w fun x w=>j [u,v,x] w) (j [f,g,h] w)) fun c w=>ie P F.hj [d,(gv c 0),(gv c 1),(gv c 2),b] w fun y w=>i [(gv c 0),y,(gv c 2)] w) (i [f,g,h] w)) fun z w=>M.fc.j0 b z w K
def M.fi.j1[SD](b:Value)(a:List Value)(c:KL):QQ:=fun w K=>jb w fun w=>w=w/\w=w/\w=w/\w=w/\w=w/\w=w/\ib (iaT P T.ay b (gv a 1) w) w fun d=>ib (ldT P T.ax d w) w fun e=>w=w/\w=w/\ib (iaT P T.ay b (gv a 0) w) w fun f=>ib (ldT P T.ax f w) w fun g=>ib (iaT P T.ay b (gv a 0) w) w fun h=>stT P T.ax h e w fun _ w=>ij (fun K'=>K' (gv a 1) w) w (gv a 1)/\ij (fun K'=>K' b w) w b/\ib (iaT P T.ay b (gv a 1) w) w fun i=>stT P T.ax i g w fun _ w=>bK .add T.d 28 (gv a 0) i1 w fun j w=>bK .sub T.d 30 (gv a 1) i1 w fun l w=>c [j,l] w
def M.fi[SD](b c d:Value):QQ:=fun w K=>bK .sub T.d 9 d i1 w fun e w=>jl [c,e] w fun f a w=>ii (fun g=>bT .lss T.d 11 12 (gv a 0) (gv a 1) w fun h w=>ig h (g [] w) (K (.tuple #[]) w)) fun i w=>M.fi.j1 b a f w K
def M.bv.j6[SD](j:Value)(b d c:List Value)(l:Value)(e:List Value)(m:KL):QQ:=fun w K=>ie P F.hm [j,(gv b 1),(gv d 13),(gv c 0)] w fun n w=>exT P n 0 w fun a w=>exT P n 1 w fun f w=>bT .sub T.d 103 104 a (gv b 1) w fun g w=>bT .sub T.d 106 107 (gv d 13) a w fun h w=>ip P .quo T.d (.tmp 109) (.const (.int .i64 8)) l (.int .i64 8) w fun i w=>bT .lss T.d 111 112 g h w fun o w=>ig o (bT .geq T.d 114 115 g i w fun p w=>ie P F.hk [j,(gv b 1),a,(gv e 0)] w fun t w=>bK .add T.d 122 a i1 w fun q w=>m [l,(gv e 0),(gv c 0),(gv c 1),(gv b 0),q,a,f,f,g,h,i,p,(gv d 13)] w) (bT .geq T.d 124 125 h i w fun r w=>bK .add T.d 128 a i1 w fun s w=>ie P F.hk [j,s,(gv d 13),(gv e 0)] w fun u w=>m [l,(gv e 0),(gv c 0),(gv c 1),(gv b 0),(gv b 1),a,f,f,g,h,i,r,a] w)
def M.bv.j5[SD](a:List Value)(d:Value)(c:List Value)(e:KL)(f:Value)(g:List Value):QQ:=fun w K=>ii (fun i=>jb w fun w=>w=w/\ib (bK .gtr T.d 73 (gv a 5) i0 w) w fun b=>w=w/\ib (fun K'=>ic (isB b true) (fun K'=>K' d w) w K') w fun j=>ib (fun K'=>ic (isB b true) (fun K'=>K' (gv a 5) w) w K') w fun l=>ib (ic (isB b true) (bK .sub T.d 77 l i1 w) w) w fun m=>ib (ic (isB b true) (iaT P T.ay j m w) w) w fun n=>ib (ic (isB b true) (ldT P T.ax n w) w) w fun o=>ib (fun K'=>ic (isB b true) (fun K'=>K' d w) w K') w fun p=>ib (fun K'=>ic (isB b true) (fun K'=>K' (gv c 0) w) w K') w fun q=>ib (ic (isB b true) (iaT P T.ay p q w) w) w fun r=>ib (ic (isB b true) (ldT P T.ax r w) w) w fun s=>ic (isB b true) (ie P F.dw [o,s] w) w fun t w=>ib (ic (isB b true) (unT P .not t w) w) w fun u=>ib (iu b u bF w) w fun v=>ig v (ie P F.hr [d,(gv a 5),(gv a 13),(gv c 0)] w fun h w=>e [f,(gv g 0),(gv c 0),(gv c 1),h,h,(gv a 6),(gv a 7),(gv a 8),(gv a 9),(gv a 10),(gv a 11),(gv a 12),(gv a 13)] w) (i [(gv a 4),(gv a 5)] w)) fun x w=>M.bv.j6 d x a c f g e w K
def M.bv.j4[SD](a c:List Value)(d:Value)(f:KL)(g:Value)(h:List Value):QQ:=fun w K=>ii (fun e=>ic (isB (gv a 12) true) (fun K'=>K' (gv a 8) w) w fun i w=>iu (gv a 12) i bF w fun b w=>ic (isB b true) (fun K'=>K' (gv c 1) w) w fun j w=>ic (isB b true) (ip P .eql T.bt (.tmp 66) (.const i1) j i1 w) w fun l w=>iu b l bF w fun m w=>ig m (ie P F.hn [d,(gv a 5),(gv a 13)] w fun n w=>ig n (K (.tuple #[]) w) (e [] w)) (e [] w)) fun o w=>M.bv.j5 a d c f g h w K
def M.bv.j3[SD](b:Value)(a:List Value)(g:KL)(h:Value)(i:List Value):QQ:=fun w K=>ie P F.ht [b,(gv a 5),(gv a 13)] w fun c w=>exT P c 0 w fun d w=>exT P c 1 w fun e w=>ii (fun f=>ip P .eql T.bt (.tmp 49) (.const i2) e i2 w fun j w=>ig j (ie P F.hu [b,(gv a 5),(gv a 13)] w fun p w=>bK .sub T.d 55 (gv a 13) i1 w fun l w=>bT .sub T.d 57 58 d (gv a 5) w fun m w=>bT .sub T.d 56 59 l m w fun n w=>f [n,i1] w) (f [d,e] w)) fun o w=>M.bv.j4 a o b g h i w K
def M.bv.j2[SD](a:List Value)(b:Value)(d:KL)(e:Value):QQ:=fun w K=>ii (fun c=>unT P .not (gv a 12) w fun f w=>ig f (ie P F.hs [b,(gv a 5),(gv a 13)] w fun i w=>bK .sub T.d 40 (gv a 1) i1 w fun g w=>c [g] w) (c [(gv a 1)] w)) fun h w=>M.bv.j3 b a d e h w K
def M.bv.j1[SD](a:List Value)(b:Value)(c:KL)(d:Value):QQ:=fun w K=>ii (fun e=>bK .eql T.d 28 (gv a 1) i0 w fun f w=>ig f (ie P F.hl [b,(gv a 5),(gv a 13)] w fun g w=>K (.tuple #[]) w) (e [] w)) fun h w=>M.bv.j2 a b c d w K
def M.bv.j0[SD](a:List Value)(b:Value)(d:KL):QQ:=fun w K=>bT .sub T.d 19 20 (gv a 13) (gv a 5) w fun c w=>ii (fun e=>bK .leq T.d 22 c (.int .i64 12) w fun f w=>ig f (ie P F.hq [b,(gv a 5),(gv a 13)] w fun g w=>K (.tuple #[]) w) (e [] w)) fun h w=>M.bv.j1 a b d c w K
def M.bv[SD](a b c d:Value):QQ:=fun w K=>jl [undef,d,undef,undef,undef,b,undef,undef,bY,undef,undef,undef,bY,c] w fun e f w=>M.bv.j0 f a e w K
def M.fh[SD](a:Value):QQ:=fun w K=>biT P .len #[T.ay] T.d [false] [a] w fun b w=>cvT P T.d T.bs b w fun c w=>ie P F.dl [c] w fun d w=>ie P F.hk [a,i0,b,d] w fun e w=>K (.tuple #[]) w
def M.ff.L:List Nat:=[0,1,4]
def M.ff.pl:Nat->oy:=fun id=>⟨.nil,[],false,[]⟩
def M.fw.L:List Nat:=[0,2]
def M.fw.pl:Nat->oy:=fun id=>⟨.nil,[],false,[]⟩
def M.ea.L:List Nat:=[0,1,2,6,7]
def M.ea.pl:Nat->oy:=fun id=>cond (Nat.beq id 4) ⟨(gS 0 13 (.eff 13 (.go 14 .nil) .ir)),[13],false,[0,0,3,7,15,15,63,127,15,15,527,1807,3855,8191,16383]⟩ (cond (Nat.beq id 6) ⟨(gS 0 15 (.eff 15 (.go 16 (.eff 17 .nil .ir)) .ir)),[15,17],false,[0,0,0,0,8,0,0,64,224,480,0,0,3072,7168,16355,32739,65535,131071]⟩ (⟨.nil,[],false,[]⟩))
def M.dg.L:List Nat:=[0,1,2,3,8,9]
def M.dg.pl:Nat->oy:=fun id=>cond (Nat.beq id 3) ⟨(gS 0 18 (.eff 18 (.go 19 .nil) .ir)),[18],false,[0,1,0,7,15,31,31,31,223,511,1023,31,31,31,12319,28703,63519,129055,262143,524287]⟩ (cond (Nat.beq id 5) ⟨(gS 0 12 (.eff 12 (.go 13 .nil) .ir)),[12],false,[0,0,0,6,15,31,0,0,0,384,960,1984,4095,8191]⟩ (cond (Nat.beq id 6) ⟨(gS 0 21 (.eff 21 (.go 22 (.eff 23 .nil .ir)) .ir)),[21,23],false,[0,0,0,6,0,0,0,96,0,0,0,1536,3840,7936,0,0,0,98304,245760,507904,1048335,2096911,4194303,8388607]⟩ (⟨.nil,[],false,[]⟩)))
def M.du.L:List Nat:=[0,1,2,6,7,8,9,10]
def M.du.pl:Nat->oy:=fun id=>cond (Nat.beq id 10) ⟨(gS 0 17 (.eff 17 (.go 18 (.eff 19 .nil .ir)) .ir)),[17,19],false,[0,0,0,0,0,24,0,0,0,384,960,1984,0,0,12288,28672,65475,131011,262143,524287]⟩ (⟨.nil,[],false,[]⟩)
def M.bk.L:List Nat:=[0,1,2,3,8,9,10,11]
def M.bk.pl:Nat->oy:=fun id=>cond (Nat.beq id 1) ⟨(gS 0 13 (.eff 13 (.go 14 (.eff 15 .nil .ir)) .ir)),[13,15],false,[0,0,0,0,0,0,48,112,0,0,768,1792,4083,8179,16383,32767]⟩ (cond (Nat.beq id 3) ⟨(gS 0 12 (.eff 12 (.go 13 .nil) .ir)),[12],false,[0,0,3,7,15,15,63,127,15,15,783,1807,4095,8191]⟩ (cond (Nat.beq id 5) ⟨(gS 0 12 (.eff 12 (.go 13 (.go 14 .nil)) .ir)),[12],false,[0,0,3,7,15,15,63,127,15,15,783,1807,4095,8191,16383]⟩ (cond (Nat.beq id 8) ⟨(gS 0 13 (.eff 13 (.go 14 (.eff 15 .nil .ir)) .ir)),[13,15],false,[0,0,0,0,0,0,48,112,0,0,768,1792,4083,8179,16383,32767]⟩ (cond (Nat.beq id 10) ⟨(gS 0 13 (.eff 13 (.go 14 (.eff 15 .nil .ir)) .ir)),[13,15],false,[0,0,0,0,0,0,48,112,0,0,768,1792,4083,8179,16383,32767]⟩ (cond (Nat.beq id 13) ⟨(gS 0 12 (.eff 12 (.go 13 .nil) .ir)),[12],false,[0,0,3,7,15,15,63,127,15,15,783,1807,4095,8191]⟩ (cond (Nat.beq id 15) ⟨(gS 0 12 (.eff 12 (.go 13 (.go 14 .nil)) .ir)),[12],false,[0,0,3,7,15,15,63,127,15,15,783,1807,4095,8191,16383]⟩ (cond (Nat.beq id 18) ⟨(gS 0 13 (.eff 13 (.go 14 (.eff 15 .nil .ir)) .ir)),[13,15],false,[0,0,0,0,0,0,48,112,0,0,768,1792,4083,8179,16383,32767]⟩ (cond (Nat.beq id 21) ⟨(gS 0 13 (.eff 13 (.go 14 (.eff 15 .nil .ir)) .ir)),[13,15],false,[0,0,0,0,0,0,48,112,0,0,768,1792,4083,8179,16383,32767]⟩ (⟨.nil,[],false,[]⟩)))))))))
def M.eb.L:List Nat:=[0,1,2,3,8,9,10]
def M.eb.pl:Nat->oy:=fun id=>cond (Nat.beq id 1) ⟨(gS 0 13 (.eff 13 (.go 14 (.eff 15 .nil .ir)) .ir)),[13,15],false,[0,0,0,0,0,0,48,112,0,0,768,1792,4083,8179,16383,32767]⟩ (cond (Nat.beq id 3) ⟨(gS 0 12 (.eff 12 (.go 13 (.go 14 .nil)) .ir)),[12],false,[0,0,3,7,15,15,63,127,15,15,783,1807,4095,8191,16383]⟩ (cond (Nat.beq id 5) ⟨(gS 0 12 (.eff 12 (.go 13 .nil) .ir)),[12],false,[0,0,3,7,15,15,63,127,15,15,783,1807,4095,8191]⟩ (cond (Nat.beq id 8) ⟨(gS 0 13 (.eff 13 (.go 14 (.eff 15 .nil .ir)) .ir)),[13,15],false,[0,0,0,0,0,0,48,112,0,0,768,1792,4083,8179,16383,32767]⟩ (⟨.nil,[],false,[]⟩))))
def M.ax.L:List Nat:=[0,1,2,6,7,8,9,10]
def M.ax.pl:Nat->oy:=fun id=>cond (Nat.beq id 5) ⟨(gS 0 13 (.eff 13 (.go 14 (.go 15 .nil)) .ir)),[13],false,[0,0,3,7,15,15,63,127,15,15,527,1807,3855,8191,16383,32767]⟩ (cond (Nat.beq id 11) ⟨(gS 0 15 (.eff 15 (.go 16 (.eff 17 .nil .ir)) .ir)),[15,17],false,[0,0,0,0,8,0,0,64,224,480,0,0,3072,7168,16355,32739,65535,131071]⟩ (cond (Nat.beq id 16) ⟨(gS 0 9 (.eff 9 (.go 10 .nil) .ir)),[9],false,[0,0,3,7,0,0,32,112,240,511,1023]⟩ (cond (Nat.beq id 17) ⟨(gS 0 15 (.eff 15 (.go 16 (.eff 17 .nil .ir)) .ir)),[15,17],false,[0,0,0,0,8,0,0,64,224,480,0,0,3072,7168,16355,32739,65535,131071]⟩ (cond (Nat.beq id 22) ⟨(gS 0 9 (.eff 9 (.go 10 .nil) .ir)),[9],false,[0,0,3,7,0,0,32,112,240,511,1023]⟩ (cond (Nat.beq id 23) ⟨(gS 0 15 (.eff 15 (.go 16 (.eff 17 .nil .ir)) .ir)),[15,17],false,[0,0,0,0,8,0,0,64,224,480,0,0,3072,7168,16355,32739,65535,131071]⟩ (⟨.nil,[],false,[]⟩))))))
def M.ev.L:List Nat:=[0,1,2,6,8,9,10,7]
def M.ev.pl:Nat->oy:=fun id=>cond (Nat.beq id 10) ⟨(gS 0 17 (.eff 17 (.go 18 (.eff 19 .nil .ir)) .ir)),[17,19],false,[0,0,0,0,0,24,0,0,0,384,960,1984,0,0,12288,28672,65475,131011,262143,524287]⟩ (⟨.nil,[],false,[]⟩)
def M.fx.L:List Nat:=[0,1,2,3,8,9]
def M.fx.pl:Nat->oy:=fun id=>cond (Nat.beq id 1) ⟨(gS 0 8 (.eff 8 .nil .ir)),[8],false,[0,0,3,7,0,0,48,112,255]⟩ (⟨.nil,[],false,[]⟩)
def M.fy.L:List Nat:=[0,1,2,3,4,10]
def M.fy.pl:Nat->oy:=fun id=>⟨.nil,[],false,[]⟩
def M.fg.L:List Nat:=[0,1,2,6]
def M.fg.pl:Nat->oy:=fun id=>⟨.nil,[],false,[]⟩
def M.fc.L:List Nat:=[0,1,2,6,7,8,10,11,12,51,54,9]
def M.fc.pl:Nat->oy:=fun id=>⟨.nil,[],false,[]⟩
def M.fi.L:List Nat:=[0,1,2,6,7]
def M.fi.pl:Nat->oy:=fun id=>cond (Nat.beq id 3) ⟨(gS 0 13 (.eff 13 (.go 14 (.eff 15 .nil .ir)) .ir)),[13,15],false,[0,0,0,0,0,0,48,112,0,0,768,1792,4083,8179,16383,32767]⟩ (⟨.nil,[],false,[]⟩)
def M.bv.L:List Nat:=[0,1,2,3,8,9,10,11,12,13,14,15,16,17,18]
def M.bv.pl:Nat->oy:=fun id=>cond (Nat.beq id 17) ⟨(gS 0 12 (.eff 12 (.go 13 (.go 14 .nil)) .ir)),[12],false,[0,1,3,7,7,23,63,127,7,7,775,1799,4095,8191,16383]⟩ (⟨.nil,[],false,[]⟩)
def M.fh.L:List Nat:=[0,2]
def M.fh.pl:Nat->oy:=fun id=>⟨.nil,[],false,[]⟩
class SE extends SD where
 bkc:ni P sl=true
 sz:szE P sl=1
 ld: ∀(b i:Nat)(w:World)(K:KV),ldT P el (.pointer (some ⟨b,i,none⟩)) w K=ld1 P b i w K
 st: ∀(b i:Nat)(x:Int)(w:World)(K:KV),stT P el (.pointer (some ⟨b,i,none⟩)) (.int k x) w K=st1 P b i (.int k x) w K
 ayy:C2 awf M.ff
 ayx:fC awf
 bfd:C1 beg M.fw
 bfr:fC beg
 bff:C3 bca M.ea
 bfk:fC bca
 ayl:C4 avg M.dg
 azh:fC avg
 ayw:C3 awz M.du
 axr:fC awz
 axv:C4 awk M.bk
 axb:fC awk
 bfc:C4 bej M.eb
 bfv:fC bej
 baf:C3 awb M.ax
 axh:fC awb
 beu:C3 bcp M.ev
 bfw:fC bcp
 bev:C4 bco M.fx
 bfq:fC bco
 bfg:C5 bbj M.fy
 bfl:fC bbj
 aza:C3 auw M.fg
 ayu:fC auw
 bfe:C3 bbf M.fc
 bfx:fC bbf
 bex:C3 beb M.fi
 bet:fC beb
 bey:C4 bdk M.bv
 bfn:fC bdk
 axq:C1 aul M.fh
 bky:fC aul
section
variable [SE]
@[simp] theorem SE.cbq : ni P T.ay = true := SE.bkc
@[simp] theorem SE.sz' : szE P T.ay = 1 := SE.sz
@[simp] theorem SE.ld' (b i : Nat) (w : World) (K : KV) : ldT P T.ax (.pointer (some ⟨b, i, none⟩)) w K = ld1 P b i w K := SE.ld b i w K
@[simp] theorem SE.st' (b i : Nat) (x : Int) (w : World) (K : KV) : stT P T.ax (.pointer (some ⟨b, i, none⟩)) (.int SD.k x) w K = st1 P b i (.int SD.k x) w K := SE.st b i x w K
theorem M.ff.calls:C2 F.dw M.ff:=SE.ayy
theorem M.ff.fcall:fC F.dw:=SE.ayx
theorem M.fw.calls:C1 F.ho M.fw:=SE.bfd
theorem M.fw.fcall:fC F.ho:=SE.bfr
theorem M.ea.calls:C3 F.hq M.ea:=SE.bff
theorem M.ea.fcall:fC F.hq:=SE.bfk
theorem M.dg.calls:C4 F.hb M.dg:=SE.ayl
theorem M.dg.fcall:fC F.hb:=SE.azh
theorem M.du.calls:C3 F.hl M.du:=SE.ayw
theorem M.du.fcall:fC F.hl:=SE.axr
theorem M.bk.calls:C4 F.hm M.bk:=SE.axv
theorem M.bk.fcall:fC F.hm:=SE.axb
theorem M.eb.calls:C4 F.hr M.eb:=SE.bfc
theorem M.eb.fcall:fC F.hr:=SE.bfv
theorem M.ax.calls:C3 F.hn M.ax:=SE.baf
theorem M.ax.fcall:fC F.hn:=SE.axh
theorem M.ev.calls:C3 F.hs M.ev:=SE.beu
theorem M.ev.fcall:fC F.hs:=SE.bfw
theorem M.fx.calls:C4 F.hi M.fx:=SE.bev
theorem M.fx.fcall:fC F.hi:=SE.bfq
theorem M.fy.calls:C5 F.hj M.fy:=SE.bfg
theorem M.fy.fcall:fC F.hj:=SE.bfl
theorem M.fg.calls:C3 F.gv M.fg:=SE.aza
theorem M.fg.fcall:fC F.gv:=SE.ayu
theorem M.fc.calls:C3 F.ht M.fc:=SE.bfe
theorem M.fc.fcall:fC F.ht:=SE.bfx
theorem M.fi.calls:C3 F.hu M.fi:=SE.bex
theorem M.fi.fcall:fC F.hu:=SE.bet
theorem M.bv.calls:C4 F.hk M.bv:=SE.bey
theorem M.bv.fcall:fC F.hk:=SE.bfn
theorem M.fh.calls:C1 F.hv M.fh:=SE.axq
end
abbrev sdU:SD:=⟨.u64,T.a,T.g,F.bx,F.ae,F.j,F.t,F.s,F.q,F.h,F.c,F.k,F.ac,F.ab,F.i,F.p,F.n,F.y,F.g⟩
theorem M.ff.callsU:C2 F.bx (@M.ff sdU):=mk2 M.ff.L M.ff.pl FN.bx.at
theorem M.fw.callsU:C1 F.ae (@M.fw sdU):=mk1 M.fw.L M.fw.pl FN.ae.at
theorem M.ea.callsU:C3 F.j (@M.ea sdU):=mk3 M.ea.L M.ea.pl FN.j.at
theorem M.dg.callsU:C4 F.t (@M.dg sdU):=mk4 M.dg.L M.dg.pl FN.t.at
theorem M.du.callsU:C3 F.s (@M.du sdU):=mk3 M.du.L M.du.pl FN.s.at
theorem M.bk.callsU:C4 F.q (@M.bk sdU):=mk4 M.bk.L M.bk.pl FN.q.at
theorem M.eb.callsU:C4 F.h (@M.eb sdU):=mk4 M.eb.L M.eb.pl FN.h.at
theorem M.ax.callsU:C3 F.c (@M.ax sdU):=mk3 M.ax.L M.ax.pl FN.c.at
theorem M.ev.callsU:C3 F.k (@M.ev sdU):=mk3 M.ev.L M.ev.pl FN.k.at
theorem M.fx.callsU:C4 F.ac (@M.fx sdU):=mk4 M.fx.L M.fx.pl FN.ac.at
theorem M.fy.callsU:C5 F.ab (@M.fy sdU):=mk5 M.fy.L M.fy.pl FN.ab.at
theorem M.fg.callsU:C3 F.i (@M.fg sdU):=mk3 M.fg.L M.fg.pl FN.i.at
theorem M.fc.callsU:C3 F.p (@M.fc sdU):=mk3 M.fc.L M.fc.pl FN.p.at
theorem M.fi.callsU:C3 F.n (@M.fi sdU):=mk3 M.fi.L M.fi.pl FN.n.at
theorem M.bv.callsU:C4 F.y (@M.bv sdU):=mk4 M.bv.L M.bv.pl FN.y.at
theorem M.fh.callsU:C1 F.g (@M.fh sdU):=mk1 M.fh.L M.fh.pl FN.g.at
abbrev seU:SE where
 toSD:=sdU
 bkc:=by kernel_rfl
 sz:=by kernel_rfl
 ld:=fun b i w K=>kr
 st:=fun b i x w K=>kr
 ayy:=M.ff.callsU
 ayx:=fcN FN.bx.at
 bfd:=M.fw.callsU
 bfr:=fcN FN.ae.at
 bff:=M.ea.callsU
 bfk:=fcN FN.j.at
 ayl:=M.dg.callsU
 azh:=fcN FN.t.at
 ayw:=M.du.callsU
 axr:=fcN FN.s.at
 axv:=M.bk.callsU
 axb:=fcN FN.q.at
 bfc:=M.eb.callsU
 bfv:=fcN FN.h.at
 baf:=M.ax.callsU
 axh:=fcN FN.c.at
 beu:=M.ev.callsU
 bfw:=fcN FN.k.at
 bev:=M.fx.callsU
 bfq:=fcN FN.ac.at
 bfg:=M.fy.callsU
 bfl:=fcN FN.ab.at
 aza:=M.fg.callsU
 ayu:=fcN FN.i.at
 bfe:=M.fc.callsU
 bfx:=fcN FN.p.at
 bex:=M.fi.callsU
 bet:=fcN FN.n.at
 bey:=M.bv.callsU
 bfn:=fcN FN.y.at
 axq:=M.fh.callsU
 bky:=fcN FN.g.at
end Go.Proofs.YtgepcfcicngceaaGreatDoor
set_option maxRecDepth 100000
namespace Go.Proofs.YtgepcfcicngceaaGreatDoor.SG
open Go.Eng Go.Sort
variable [SE]
def Rw(w:World)(g:Nat)(e:TypeId)(cap:Nat)(d:Array Int):Prop:= ∃cur:Array Value,w.heap[g]? =some (.cells cur e (0,0))/\cur.size=cap/\d.size<=cap/\∀j,j < d.size->cur[j]? =some (.int SD.k d[j]!)
section
variable {w w' : World} {g cap : Nat} {e : TypeId} {d : Array Int} {S : Nat → Prop}
theorem Rw.at(h:Rw w g e cap d){j:Nat}(hj:j < d.size):ik w g j=some (.int SD.k d[j]!):=by
 obtain⟨cur,h1,_,_,h4⟩:=h
 rw[iq h1];exact h4 j hj
theorem Rw.frz(h:Rw w g e cap d)(j:Nat):pq w g j=false:=by
 obtain⟨cur,h1,_⟩:=h
 exact lk h1 j
theorem Rw.lt(h:Rw w g e cap d):g < w.heap.size:=by
 obtain⟨cur,h1,_⟩:=h
 exact lj h1
theorem Rw.heap(h:Rw w g e cap d)(he:w'.heap[g]? =w.heap[g]?):Rw w' g e cap d:=by
 obtain⟨cur,h1,h2⟩:=h
 exact⟨cur,he.trans h1,h2⟩
theorem Rw.fr(h:Rw w g e cap d)(hf:Fr S w w')(hn: ¬S g):Rw w' g e cap d:=h.heap (hf.jf g h.lt hn)
omit [SE] in
theorem biz(d:Array Int){i:Nat}(hi:i < d.size)(x:Int)(j:Nat):(d.setIfInBounds i x)[j]! =if i=j then x else d[j]! :=by
 by_cases h:i=j
 ·subst h;simp[hi]
 ·simp[h,getElem!_def,Array.getElem?_setIfInBounds]
theorem Rw.set(h:Rw w g e cap d){i:Nat}(hi:i < d.size)(x:Int):Rw (w.setCell ⟨g,i,none⟩ (.int SD.k x)) g e cap (d.setIfInBounds i x):=by
 obtain⟨cur,h1,h2,h3,h4⟩:=h
 refine⟨cur.setIfInBounds i (.int SD.k x),mh h1,by simpa using h2,by simpa using h3,fun j hj=>?_⟩
 have hj':j < d.size:=by simpa using hj
 rw[biz d hi,Array.getElem?_setIfInBounds]
 by_cases hij:i=j
 ·subst hij;simp[h2];omega
 ·rw[if_neg hij,if_neg hij];exact h4 j hj'
theorem Rw.swp(h:Rw w g e cap d){i j:Nat}(hi:i < d.size)(hj:j < d.size):Rw ((w.setCell ⟨g,i,none⟩ (.int SD.k d[j]!)).setCell ⟨g,j,none⟩ (.int SD.k d[i]!)) g e cap (Sort.swp d i j):=by
 have:=(h.set hi d[j]!).set (i:=j) (by simpa using hj) d[i]!
 exact this
theorem Rw.dr(h:Rw w g e cap d)(n:Nat):Rw (Eng.dr w n) g e cap d:=h.heap rfl
structure Rf(w w':World)(g:Nat)(e:TypeId)(cap:Nat)(d:Array Int):Prop where
 row:Rw w' g e cap d
 fr:Fr (fun b=>b=g) w w'
theorem Rw.nc(h:Rw w g e cap d):Rf w w g e cap d:=⟨h,Fr.refl _ _⟩
theorem Rf.dr(h:Rf w w' g e cap d)(n:Nat):Rf w (Eng.dr w' n) g e cap d:=⟨h.row.dr n,h.fr.dr n⟩
theorem Rf.swp(h:Rf w w' g e cap d){i j:Nat}(hi:i < d.size)(hj:j < d.size):Rf w ((w'.setCell ⟨g,i,none⟩ (.int SD.k d[j]!)).setCell ⟨g,j,none⟩ (.int SD.k d[i]!)) g e cap (Sort.swp d i j):=
 ⟨h.row.swp hi hj,(h.fr.setCell (.inl rfl) _ _).setCell (.inl rfl) _ _⟩
theorem Rf.trans{w'':World}{d':Array Int}(h:Rf w w' g e cap d)(h':Rf w' w'' g e cap d'):Rf w w'' g e cap d':=⟨h'.row,h.fr.trans h'.fr⟩
end
theorem qk{w:World}(x y:Int){K:KV}(h:K (.bool (ltInt x y)) w):ie P F.dw [.int SD.k x,.int SD.k y] w K:=by
 have nan: ∀(z:Int){K:KV},K (.bool false) w->ie P F.ho [.int SD.k z] w K:=fun z K hK=>by
  rw[M.fw.fcall]
  apply M.fw.calls
  unfold M.fw
  simp
  exact hK
 rw[M.ff.fcall]
 apply M.ff.calls
 unfold M.ff
 refine nan x ?_
 simp
 exact h
omit [SE] in
theorem bli{x:Nat}(h:x < 1000000):IntKind.i64.wrap (x:Int)=x:=iy
omit [SE] in
theorem qg{x:Nat}(h:x < 1000000):IntKind.i64.wrap ((x:Int)+1)=((x+1:Nat):Int):=by rw[iy];rfl
omit [SE] in
theorem xv{x y:Nat}(h:y<=x)(hx:x < 1000000):IntKind.i64.wrap ((x:Int) - y)=((x - y:Nat):Int):=by rw[iy];omega
def InI(w:World)(g:Nat)(e:TypeId)(cap n a:Nat)(R:Array Int):KL:=fun x w1=> ∃(j:Nat)(d:Array Int),x=[.int .i64 (j:Int)]/\Rf w w1 g e cap d/\d.size=n/\j < n/\insInner ltInt a j d=R
def InO(w:World)(g:Nat)(e:TypeId)(cap n a b:Nat)(R:Array Int):KL:=fun x w1=> ∃(u:Value)(i:Nat)(d:Array Int),x=[u,.int .i64 (i:Int)]/\Rf w w1 g e cap d/\d.size=n/\insOuter ltInt a b i d=R
theorem ahs{w:World}{g cap n:Nat}{e:TypeId}{d:Array Int}(H:Rw w g e cap d)(hn:d.size=n)(h6:n < 100000){a b:Nat}(hb:b<=n)(ha:a<=n){K:KV}
  (h: ∀w',Rf w w' g e cap (insertionSort ltInt d a b)->K (.tuple #[]) w'):jo P F.hq [.slice (some ⟨g,0,none⟩) n cap,.int .i64 a,.int .i64 b] w K:=by
 apply M.ea.calls
 unfold M.ea
 simp only[lx,qg (show a < 1000000 by omega)]
 refine⟨InO w g e cap n a b (insertionSort ltInt d a b),fun x _=>b - ms x 1,⟨_,a+1,d,rfl,H.nc,hn,rfl⟩,?_⟩
 rintro x w1 ⟨u,i,d1,rfl,H1,hn1,hR⟩
 have g1: ∀u v:Value,gv [u,v] 1=v:=fun _ _=>rfl
 have g0: ∀u:Value,gv [u] 0=u:=fun _=>rfl
 unfold M.ea.j0
 simp only[il,g1]
 unfold insOuter at hR
 by_cases hi:i < b
 ·simp[hi] at hR⊢
  generalize hT:insInner ltInt a i d1=T at *
  refine⟨InI w g e cap n a T,fun x _=>ms x 0,⟨i,d1,rfl,H1,hn1,by omega,hT⟩,?_⟩
  rintro x w2 ⟨j,d2,rfl,H2,hn2,hj,hR2⟩
  have done:d2=T->∀v w2,Rf w w2 g e cap d2->InO w g e cap n a b (insertionSort ltInt d a b) [v,.int .i64 (IntKind.i64.wrap ((i:Int)+1))] w2/\b - ms [v,.int .i64 (IntKind.i64.wrap ((i:Int)+1))] 1 < b - ms [u,.int .i64 (i:Int)] 1:=by
   intro hd v w2 H2
   rw[qg (by omega)]
   refine⟨⟨v,i+1,d2,rfl,H2,hn2,by rw[hd];exact hR⟩,?_⟩
   simp[ms,gv];omega
  unfold M.ea.j3
  simp only[il,g0]
  cases j with
  | zero=>
   simp[insInner] at hR2
   have:=done hR2 (.int .i64 0) _ (H2.dr 1)
   have hz: ¬(a:Int) < 0:=by omega
   simp[hz]
   simpa using this
  | succ j=>
   unfold insInner at hR2
   have hw:=bli (show j < 1000000 by omega)
   by_cases hja:a < j+1
   ·have hja':(a:Int) < (j:Int)+1:=by omega
    have c1:=H2.row.at (show j+1 < d2.size by omega)
    have c0:=H2.row.at (show j < d2.size by omega)
    have hjn:(j:Int) < n:=by omega
    have hjn':(j:Int)+1 < n:=by omega
    have z1:(0:Int)<=(j:Int)+1:=by omega
    simp[hja,hja',hw,c0,c1,hjn,hjn',z1] at hR2⊢
    refine qk _ _ ?_
    cases hl:ltInt d2[j+1]! d2[j]! with
    | true=>
     simp[hl] at hR2⊢
     unfold M.ea.j4
     have f1:=H2.row.frz (j+1)
     have f0:=H2.row.frz j
     simp[hw,c0,c1,hjn,hjn',z1,f0,f1,ka,lf]
     refine⟨⟨j,_,rfl,((H2.dr 1).dr 1).swp (by omega) (by omega),by rw[size_swp];exact hn2,by omega,hR2⟩,?_⟩
     simp[ms,gv]
    | false=>
     simp[hl] at hR2⊢
     have:=done hR2 (.int .i64 ((j:Int)+1)) _ (H2.dr 1)
     simpa using this
   ·have hja': ¬(a:Int) < (j:Int)+1:=by omega
    simp[hja,hja'] at hR2⊢
    have:=done hR2 (.int .i64 ((j:Int)+1)) _ (H2.dr 1)
    simpa using this
 ·simp[hi] at hR⊢
  subst hR
  exact h w1 H1
end Go.Proofs.YtgepcfcicngceaaGreatDoor.SG
set_option maxRecDepth 100000
namespace Go.Proofs.YtgepcfcicngceaaGreatDoor.SG
open Go.Eng Go.Sort
variable [SE]
omit [SE] in
theorem xu(hi first:Nat): ∀(n root:Nat)(d:Array Int),hi - root<=n->(siftDown ltInt hi first root d).size=d.size
 | 0,root,d,h=>by
  unfold siftDown
  rw[dif_pos (by omega)]
 | n+1,root,d,h=>by
  unfold siftDown
  split
  ·rfl
  split
  ·split
   ·rfl
   split
   ·rw[xu hi first n _ _ (by omega),size_swp]
   ·rfl
  ·split
   ·rfl
   ·rw[xu hi first n _ _ (by omega),size_swp]
def SfI(w:World)(g:Nat)(e:TypeId)(cap n hi first:Nat)(R:Array Int):KL:=fun x w1=> ∃(u:Value)(root:Nat)(d:Array Int),x=[u,.int .i64 (root:Int)]/\Rf w w1 g e cap d/\d.size=n/\root<=hi/\siftDown ltInt hi first root d=R
theorem atu{w:World}{g cap n:Nat}{e:TypeId}{d:Array Int}(H:Rw w g e cap d)(hn:d.size=n)(h6:n < 100000){lo hi first:Nat}(hb:first+hi<=n)(hlo:lo<=hi){K:KV}
  (h: ∀w',Rf w w' g e cap (siftDown ltInt hi first lo d)->K (.tuple #[]) w'):jo P F.hb [.slice (some ⟨g,0,none⟩) n cap,.int .i64 lo,.int .i64 hi,.int .i64 first] w K:=by
 apply M.dg.calls
 unfold M.dg
 generalize hR0:siftDown ltInt hi first lo d=R0 at *
 refine⟨SfI w g e cap n hi first R0,fun x _=>hi - ms x 1,⟨_,lo,d,rfl,H.nc,hn,hlo,hR0⟩,?_⟩
 clear hR0
 rintro x w1 ⟨u,root,d1,rfl,H1,hn1,hro,hR⟩
 have g1: ∀u v:Value,gv [u,v] 1=v:=fun _ _=>rfl
 have g0: ∀u:Value,gv [u] 0=u:=fun _=>rfl
 have w2:IntKind.i64.wrap (2 * (root:Int))=((2 * root:Nat):Int):=by rw[iy];omega
 have w3:IntKind.i64.wrap (((2 * root:Nat):Int)+1)=((2 * root+1:Nat):Int):=qg (by omega)
 have w4:IntKind.i64.wrap (((2 * root+1:Nat):Int)+1)=((2 * root+2:Nat):Int):=qg (by omega)
 unfold M.dg.j0
 simp only[il,g1,vm,lx,qu,w2,w3]
 unfold siftDown at hR
 by_cases h0:2 * root+1≥hi
 ·have h0':(hi:Int)<=((2 * root+1:Nat):Int):=by omega
  rw[dif_pos h0] at hR
  subst hR
  simp only[h0',decide_true,Eng.cond_true]
  exact h w1 H1
 rw[dif_neg h0] at hR
 have h0': ¬(hi:Int)<=((2 * root+1:Nat):Int):=by omega
 simp only[h0',decide_false,Eng.cond_false]
 unfold M.dg.j1
 have wf: ∀k:Nat,k < hi->IntKind.i64.wrap ((first:Int)+(k:Int))=((first+k:Nat):Int):=fun k hk=>by rw[iy];omega
 -- behind the choice of the child
 have tail: ∀(c:Nat)(w2:World),Rf w w2 g e cap d1->c < hi->root < c->(if !ltInt d1[first+root]! d1[first+c]! then d1 else siftDown ltInt hi first c (Sort.swp d1 (first+root) (first+c)))=R0->
   M.dg.j2 (.int .i64 first) [u,.int .i64 root] (.slice (some ⟨g,0,none⟩) n cap) [.int .i64 c] (fun x' w'=>SfI w g e cap n hi first R0 x' w'/\hi - ms x' 1 < hi - ms [u,.int .i64 (root:Int)] 1) w2 K:=by
  intro c w2 H2 hc hrc hR
  unfold M.dg.j2
  have a1:=H2.row.at (show first+root < d1.size by omega)
  have a2:=H2.row.at (show first+c < d1.size by omega)
  have b1:((first+root:Nat):Int) < n:=by omega
  have b2:((first+c:Nat):Int) < n:=by omega
  have wr:=wf root (by omega)
  have wc:=wf c hc
  simp only[il,pz,vu,g1,g0,lx,wr,wc,true_and,and_true]
  simp[b1,b2,a1,a2,-Int.natCast_add]
  refine qk _ _ ?_
  cases hl:ltInt d1[first+root]! d1[first+c]! with
  | false=>
   simp[hl] at hR⊢
   subst hR
   exact h _ (H2.dr 1)
  | true=>
   simp[hl] at hR⊢
   unfold M.dg.j3
   have f1:=H2.row.frz (first+root)
   have f2:=H2.row.frz (first+c)
   simp only[il,pz,vu,aja,g1,g0,lx,wr,wc,true_and,and_true]
   simp[b1,b2,a1,a2,f1,f2,ka,lf,-Int.natCast_add]
   refine⟨⟨_,c,_,rfl,((H2.dr 1).dr 1).swp (by omega) (by omega),by rw[size_swp];exact hn1,by omega,hR⟩,?_⟩
   simp[ms,gv];omega
 have v1:IntKind.i64.wrap ((first:Int)+((2 * root+1:Nat):Int))=((first+(2 * root+1):Nat):Int):=wf _ (by omega)
 simp only[il,pz,vu,lx,mw,w4,true_and,and_true,zw]
 by_cases h1:2 * root+1+1 < hi
 ·have h1':((2 * root+2:Nat):Int) < hi:=by omega
  have v2:IntKind.i64.wrap (((first+(2 * root+1):Nat):Int)+1)=((first+(2 * root+2):Nat):Int):=by rw[iy];omega
  have a1:=H1.row.at (show first+(2 * root+1) < d1.size by omega)
  have a2:=H1.row.at (show first+(2 * root+2) < d1.size by omega)
  have b1:((first+(2 * root+1):Nat):Int) < n:=by omega
  have b2:((first+(2 * root+2):Nat):Int) < n:=by omega
  have e2:first+(2 * root+1)+1=first+(2 * root+2):=by omega
  simp only[h1',decide_true,beq_self_eq_true,abi,lx,v1,v2]
  simp[b1,b2,a1,a2,-Int.natCast_add]
  refine qk _ _ ?_
  rw[e2] at hR
  cases hl:ltInt d1[first+(2 * root+1)]! d1[first+(2 * root+2)]! with
  | true=>
   simp only[h1,hl,decide_true,Bool.and_self,if_true] at hR
   have hx:2 * root+2 < hi:=by omega
   simp only[hx,dif_pos] at hR
   simp[-Int.natCast_add]
   exact tail (2 * root+2) _ (H1.dr 1) (by omega) (by omega) hR
  | false=>
   simp only[hl,Bool.and_false,Bool.false_eq_true,if_false] at hR
   simp[-Int.natCast_add]
   exact tail (2 * root+1) _ (H1.dr 1) (by omega) (by omega) hR
 ·have h1': ¬((2 * root+2:Nat):Int) < hi:=by omega
  simp only[h1,decide_false,Bool.false_and,Bool.false_eq_true,if_false] at hR
  simp only[h1',decide_false]
  simp[-Int.natCast_add]
  exact tail (2 * root+1) _ (H1.dr 1) (by omega) (by omega) hR
def HbI(w:World)(g:Nat)(e:TypeId)(cap n hi first:Nat)(R:Array Int):KL:=fun x w1=> ∃(k:Nat)(d:Array Int),x=[.int .i64 ((k:Int) - 1)]/\Rf w w1 g e cap d/\d.size=n/\k<=hi+1/\(k<=hi\/hi=0)/\heapBuild ltInt hi first k d=R
def HpI(w:World)(g:Nat)(e:TypeId)(cap n hi first:Nat)(R:Array Int):KL:=fun x w1=> ∃(k:Nat)(d:Array Int),x=[.int .i64 ((k:Int) - 1)]/\Rf w w1 g e cap d/\d.size=n/\k<=hi/\heapPop ltInt first k d=R
def mp(x:List Value)(i:Nat):Nat:=match gv x i with
 | .int _ k=>(k+1).toNat
 | _=>0
theorem asq{w:World}{g cap n:Nat}{e:TypeId}{d:Array Int}(H:Rw w g e cap d)(hn:d.size=n)(h6:n < 100000){a b:Nat}(hb:b<=n)(hab:a < b){K:KV}
  (h: ∀w',Rf w w' g e cap (heapSort ltInt d a b)->K (.tuple #[]) w'):jo P F.hl [.slice (some ⟨g,0,none⟩) n cap,.int .i64 a,.int .i64 b] w K:=by
 apply M.du.calls
 unfold M.du
 have hw0:IntKind.i64.wrap ((b:Int) - a)=((b - a:Nat):Int):=xv (by omega) (by omega)
 generalize hhi:b - a=hi at *
 have hw1:IntKind.i64.wrap ((hi:Int) - 1)=((hi - 1:Nat):Int):=by rw[iy];omega
 have hw2:IntKind.i64.wrap (((hi - 1:Nat):Int).tdiv 2)=(((hi - 1) / 2:Nat):Int):=by
  rw[Int.tdiv_eq_ediv_of_nonneg (by omega),iy];omega
 have hw3:(((hi - 1) / 2:Nat):Int)=(((hi - 1) / 2+1:Nat):Int) - 1:=by omega
 simp only[nf,hw0,il,hw1,apt,hw2]
 have g0: ∀u:Value,gv [u] 0=u:=fun _=>rfl
 generalize hZ:heapBuild ltInt hi a ((hi - 1) / 2+1) d=Z
 refine⟨HbI w g e cap n hi a Z,fun x _=>mp x 0,⟨(hi - 1) / 2+1,d,by rw[hw3],H.nc,hn,by omega,by omega,hZ⟩,?_⟩
 rintro x w1 ⟨k,d1,rfl,H1,hn1,hk,hk2,hR⟩
 unfold M.du.j1
 simp only[il,g0,qu]
 cases k with
 | succ k=>
  have hk0:(0:Int)<=((k+1:Nat):Int) - 1:=by omega
  have hk1:((k+1:Nat):Int) - 1=(k:Int):=by omega
  simp only[hk0,decide_true,Eng.cond_true,hk1]
  rw[M.dg.fcall]
  refine atu H1.row hn1 h6 (by omega) (by omega) fun w2 H2=>?_
  have hw4:IntKind.i64.wrap ((k:Int) - 1)=(k:Int) - 1:=iy
  simp only[nf,hw4]
  refine⟨⟨k,_,rfl,H1.trans H2,by rw[xu _ _ _ _ _ (Nat.le_refl _)];exact hn1,by omega,by omega,hR⟩,?_⟩
  simp[mp,gv]
 | zero=>
  have hk0: ¬(0:Int)<=((0:Nat):Int) - 1:=by omega
  simp only[hk0,decide_false,Eng.cond_false]
  unfold heapBuild at hR
  unfold M.du.j0
  have hw5:((hi - 1:Nat):Int)=(hi:Int) - 1:=by omega
  simp only[nf,hw1,hw5]
  have hR2:heapPop ltInt a hi d1=heapSort ltInt d a b:=by
   unfold heapSort
   rw[hhi,hZ,<-hR]
  refine⟨HpI w g e cap n hi a (heapSort ltInt d a b),fun x _=>mp x 0,⟨hi,d1,rfl,H1,hn1,Nat.le_refl _,hR2⟩,?_⟩
  rintro x w2 ⟨k,d2,rfl,H2,hn2,hk,hR3⟩
  simp only[il,g0,qu]
  cases k with
  | zero=>
   have hk0: ¬(0:Int)<=((0:Nat):Int) - 1:=by omega
   simp only[hk0,decide_false,Eng.cond_false]
   unfold heapPop at hR3
   subst hR3
   exact h w2 H2
  | succ k=>
   have hk0:(0:Int)<=((k+1:Nat):Int) - 1:=by omega
   have hk1:((k+1:Nat):Int) - 1=(k:Int):=by omega
   simp only[hk0,decide_true,Eng.cond_true,hk1]
   unfold heapPop at hR3
   unfold M.du.j5
   have wr:IntKind.i64.wrap ((a:Int)+(k:Int))=((a+k:Nat):Int):=by rw[iy];omega
   have a1:=H2.row.at (show a < d2.size by omega)
   have a2:=H2.row.at (show a+k < d2.size by omega)
   have b1:(a:Int) < n:=by omega
   have b2:((a+k:Nat):Int) < n:=by omega
   have f1:=H2.row.frz a
   have f2:=H2.row.frz (a+k)
   have hw4:IntKind.i64.wrap ((k:Int) - 1)=(k:Int) - 1:=iy
   simp only[il,pz,vu,aja,g0,lx,nf,wr,hw4,true_and,and_true]
   simp[b1,b2,a1,a2,f1,f2,ka,lf,-Int.natCast_add]
   have H3:=(H2.dr 1).swp (i:=a) (j:=a+k) (by omega) (by omega)
   rw[M.dg.fcall]
   refine atu (lo:=0) H3.row (by rw[size_swp];exact hn2) h6 (by omega) (by omega) fun w4 H4=>?_
   refine⟨⟨k,_,rfl,H3.trans H4,by rw[xu _ _ _ _ _ (Nat.le_refl _),size_swp];exact hn2,by omega,hR3⟩,?_⟩
   simp[mp,gv]
end Go.Proofs.YtgepcfcicngceaaGreatDoor.SG
set_option maxRecDepth 100000
namespace Go.Proofs.YtgepcfcicngceaaGreatDoor.SG
open Go.Eng Go.Sort
variable [SE]
section
variable {w : World} {g cap n : Nat} {e : TypeId} {d : Array Int}
def UpI(w:World)(g:Nat)(e:TypeId)(cap:Nat)(d:Array Int)(p:Int->Bool)(j r:Nat):KL:=fun x w1=> ∃i:Nat,x=[.int .i64 (i:Int)]/\Rf w w1 g e cap d/\i<=j+2/\scanUp p d j i=r
def DnI(w:World)(g:Nat)(e:TypeId)(cap:Nat)(d:Array Int)(p:Int->Bool)(i n r:Nat):KL:=fun x w1=> ∃j:Nat,x=[.int .i64 (j:Int)]/\Rf w w1 g e cap d/\j < n/\scanDown p d i j=r
theorem ali{p:Int->Bool}{i j:Nat}(H:Rw w g e cap d)(hi:i<=j+2){K0:KL}{body:KL->KL->KL}
  (hB: ∀(k:Nat) w1 (Kn:KL),k<=j+2->Rf w w1 g e cap d->((k<=j/\p d[k]! =true)->∀w2,Rf w w2 g e cap d->Kn [.int .i64 ((k+1:Nat):Int)] w2)->(¬(k<=j/\p d[k]! =true)->∀w2,Rf w w2 g e cap d->K0 [.int .i64 (k:Int)] w2)->body K0 Kn [.int .i64 (k:Int)] w1)
  (h: ∀w',Rf w w' g e cap d->K0 [.int .i64 (scanUp p d j i:Nat)] w'):ii (fun K0=>jl [.int .i64 (i:Int)] w (body K0)) K0:=by
 rw[il]
 generalize hr:scanUp p d j i=r at *
 refine⟨UpI w g e cap d p j r,fun x _=>j+2 - ms x 0,⟨i,rfl,H.nc,hi,hr⟩,?_⟩
 clear hr
 rintro x w1 ⟨k,rfl,H1,hk,hR⟩
 unfold scanUp at hR
 refine hB k w1 _ hk H1 (fun hc w2 H2=>?_) fun hc w2 H2=>?_
 ·rw[if_pos (by simpa using hc)] at hR
  refine⟨⟨k+1,rfl,H2,by omega,hR⟩,?_⟩
  simp[ms,gv];omega
 ·rw[if_neg (by simpa using hc)] at hR
  rw[<-hR] at h
  exact h w2 H2
theorem aha{p:Int->Bool}{i j:Nat}(H:Rw w g e cap d)(hj:j < n)(hi:1<=i){K0:KL}{body:KL->KL->KL}
  (hB: ∀(k:Nat) w1 (Kn:KL),k < n->Rf w w1 g e cap d->((i<=k/\p d[k]! =true)->∀w2,Rf w w2 g e cap d->Kn [.int .i64 ((k - 1:Nat):Int)] w2)->(¬(i<=k/\p d[k]! =true)->∀w2,Rf w w2 g e cap d->K0 [.int .i64 (k:Int)] w2)->body K0 Kn [.int .i64 (k:Int)] w1)
  (h: ∀w',Rf w w' g e cap d->K0 [.int .i64 (scanDown p d i j:Nat)] w'):ii (fun K0=>jl [.int .i64 (j:Int)] w (body K0)) K0:=by
 rw[il]
 generalize hr:scanDown p d i j=r at *
 refine⟨DnI w g e cap d p i n r,fun x _=>ms x 0,⟨j,rfl,H.nc,hj,hr⟩,?_⟩
 clear hr
 rintro x w1 ⟨k,rfl,H1,hk,hR⟩
 refine hB k w1 _ hk H1 (fun hc w2 H2=>?_) fun hc w2 H2=>?_
 ·cases k with
  | zero=>omega
  | succ k=>
   unfold scanDown at hR
   rw[if_pos (by simpa using hc)] at hR
   refine⟨⟨k,rfl,H2,by omega,hR⟩,?_⟩
   simp[ms,gv]
 ·have:scanDown p d i k=k:=by
   cases k with
   | zero=>rfl
   | succ k=>unfold scanDown;rw[if_neg (by simpa using hc)]
  rw[this] at hR
  rw[<-hR] at h
  exact h w2 H2
omit [SE] in
theorem ahp(p:Int->Bool)(d:Array Int)(j i:Nat):scanUp p d j i<=max i (j+1):=by
 by_cases h:i<=j+1
 ·have:=(scanUp_spec p d j _ i rfl).2.1 h
  omega
 ·unfold scanUp
  rw[if_neg (by simp;omega)]
  omega
omit [SE] in
theorem g0(u:Value):gv [u] 0=u:=rfl
omit [SE] in
theorem g20(u v:Value):gv [u,v] 0=u:=rfl
omit [SE] in
theorem g21(u v:Value):gv [u,v] 1=v:=rfl
theorem bgy{w0 w1:World}{a k j:Nat}{K0 Kn:KL}{K:KV}(H1:Rf w0 w1 g e cap d)(hn:d.size=n)(h6:n < 100000)(ha:a < n)(hj:j < n)(hk:k<=j+2)
  (k1:(k<=j/\ltInt d[k]! d[a]! =true)->∀w2,Rf w0 w2 g e cap d->Kn [.int .i64 ((k+1:Nat):Int)] w2) (k2: ¬(k<=j/\ltInt d[k]! d[a]! =true)->∀w2,Rf w0 w2 g e cap d->K0 [.int .i64 (k:Int)] w2):
  M.bk.j1 [.int .i64 (k:Int)] (.int .i64 (j:Int)) (.slice (some ⟨g,0,none⟩) n cap) (.int .i64 (a:Int)) K0 Kn w1 K:=by
 unfold M.bk.j1
 by_cases hkj:k<=j
 ·have a1:=H1.row.at (show k < d.size by omega)
  have a2:=H1.row.at (show a < d.size by omega)
  have b1:(k:Int) < n:=by omega
  have b2:(a:Int) < n:=by omega
  have b3:(k:Int)<=j:=by omega
  simp[g0,g21,b1,b2,b3,a1,a2]
  refine qk _ _ ?_
  cases hl:ltInt d[k]! d[a]! with
  | true=>
   simp[qg (show k < 1000000 by omega)]
   have:=k1 ⟨hkj,hl⟩ _ (H1.dr 1)
   simpa using this
  | false=>
   simp[qg (show k < 1000000 by omega)]
   have:=k2 (fun h=>by simp[hl] at h) _ (H1.dr 1)
   simpa using this
 ·have b3: ¬(k:Int)<=j:=by omega
  simp[g0,g21,b3]
  have:=k2 (fun h=>hkj h.1) _ (H1.dr 1)
  simpa using this
theorem bgw{w0 w1:World}{a k i:Nat}{K0 Kn:KL}{K:KV}(H1:Rf w0 w1 g e cap d)(hn:d.size=n)(h6:n < 100000)(hai:a < n/\1<=i)(hk:k < n)
  (k1:(i<=k/\(!ltInt d[k]! d[a]!)=true)->∀w2,Rf w0 w2 g e cap d->Kn [.int .i64 ((k - 1:Nat):Int)] w2) (k2: ¬(i<=k/\(!ltInt d[k]! d[a]!)=true)->∀w2,Rf w0 w2 g e cap d->K0 [.int .i64 (k:Int)] w2):
  M.bk.j4 [.int .i64 (i:Int)] [.int .i64 (k:Int)] (.slice (some ⟨g,0,none⟩) n cap) (.int .i64 (a:Int)) K0 Kn w1 K:=by
 unfold M.bk.j4
 by_cases hik:i<=k
 ·have a1:=H1.row.at (show k < d.size by omega)
  have a2:=H1.row.at (show a < d.size by omega)
  have b1:(k:Int) < n:=by omega
  have b2:(a:Int) < n:=by omega
  have b3:(i:Int)<=k:=by omega
  have hw:IntKind.i64.wrap ((k:Int) - 1)=((k - 1:Nat):Int):=by rw[iy];omega
  simp[g0,b1,b2,b3,a1,a2]
  refine qk _ _ ?_
  cases hl:ltInt d[k]! d[a]! with
  | true=>
   simp[hw]
   have:=k2 (fun h=>by simp[hl] at h) _ (H1.dr 1)
   simpa using this
  | false=>
   simp[hw]
   have:=k1 ⟨hik,by simp[hl]⟩ _ (H1.dr 1)
   simpa using this
 ·have b3: ¬(i:Int)<=k:=by omega
  simp[g0,b3]
  have:=k2 (fun h=>hik h.1) _ (H1.dr 1)
  simpa using this
theorem bdu{w0 w1:World}{vi:Value}{a k j:Nat}{K0 Kn:KL}{K:KV}(H1:Rf w0 w1 g e cap d)(hn:d.size=n)(h6:n < 100000)(ha:a < n)(hj:j < n)(hk:k<=j+2)
  (k1:(k<=j/\ltInt d[k]! d[a]! =true)->∀w2,Rf w0 w2 g e cap d->Kn [.int .i64 ((k+1:Nat):Int)] w2) (k2: ¬(k<=j/\ltInt d[k]! d[a]! =true)->∀w2,Rf w0 w2 g e cap d->K0 [.int .i64 (k:Int)] w2):
  M.bk.j10 [.int .i64 (k:Int)] [vi,.int .i64 (j:Int)] (.slice (some ⟨g,0,none⟩) n cap) (.int .i64 (a:Int)) K0 Kn w1 K:=by
 unfold M.bk.j10
 by_cases hkj:k<=j
 ·have a1:=H1.row.at (show k < d.size by omega)
  have a2:=H1.row.at (show a < d.size by omega)
  have b1:(k:Int) < n:=by omega
  have b2:(a:Int) < n:=by omega
  have b3:(k:Int)<=j:=by omega
  simp[g0,g21,b1,b2,b3,a1,a2]
  refine qk _ _ ?_
  cases hl:ltInt d[k]! d[a]! with
  | true=>
   simp[qg (show k < 1000000 by omega)]
   have:=k1 ⟨hkj,hl⟩ _ (H1.dr 1)
   simpa using this
  | false=>
   simp[qg (show k < 1000000 by omega)]
   have:=k2 (fun h=>by simp[hl] at h) _ (H1.dr 1)
   simpa using this
 ·have b3: ¬(k:Int)<=j:=by omega
  simp[g0,g21,b3]
  have:=k2 (fun h=>hkj h.1) _ (H1.dr 1)
  simpa using this
theorem bcf{w0 w1:World}{a k i:Nat}{K0 Kn:KL}{K:KV}(H1:Rf w0 w1 g e cap d)(hn:d.size=n)(h6:n < 100000)(hai:a < n/\1<=i)(hk:k < n)
  (k1:(i<=k/\(!ltInt d[k]! d[a]!)=true)->∀w2,Rf w0 w2 g e cap d->Kn [.int .i64 ((k - 1:Nat):Int)] w2) (k2: ¬(i<=k/\(!ltInt d[k]! d[a]!)=true)->∀w2,Rf w0 w2 g e cap d->K0 [.int .i64 (k:Int)] w2):
  M.bk.j13 [.int .i64 (i:Int)] [.int .i64 (k:Int)] (.slice (some ⟨g,0,none⟩) n cap) (.int .i64 (a:Int)) K0 Kn w1 K:=by
 unfold M.bk.j13
 by_cases hik:i<=k
 ·have a1:=H1.row.at (show k < d.size by omega)
  have a2:=H1.row.at (show a < d.size by omega)
  have b1:(k:Int) < n:=by omega
  have b2:(a:Int) < n:=by omega
  have b3:(i:Int)<=k:=by omega
  have hw:IntKind.i64.wrap ((k:Int) - 1)=((k - 1:Nat):Int):=by rw[iy];omega
  simp[g0,b1,b2,b3,a1,a2]
  refine qk _ _ ?_
  cases hl:ltInt d[k]! d[a]! with
  | true=>
   simp[hw]
   have:=k2 (fun h=>by simp[hl] at h) _ (H1.dr 1)
   simpa using this
  | false=>
   simp[hw]
   have:=k1 ⟨hik,by simp[hl]⟩ _ (H1.dr 1)
   simpa using this
 ·have b3: ¬(i:Int)<=k:=by omega
  simp[g0,b3]
  have:=k2 (fun h=>hik h.1) _ (H1.dr 1)
  simpa using this
theorem bgv{w0 w1:World}{vi:Value}{a k j:Nat}{K0 Kn:KL}{K:KV}(H1:Rf w0 w1 g e cap d)(hn:d.size=n)(h6:n < 100000)(ha:a < n)(hj:j < n)(hk:k<=j+2)
  (k1:(k<=j/\(!ltInt d[a]! d[k]!)=true)->∀w2,Rf w0 w2 g e cap d->Kn [.int .i64 ((k+1:Nat):Int)] w2) (k2: ¬(k<=j/\(!ltInt d[a]! d[k]!)=true)->∀w2,Rf w0 w2 g e cap d->K0 [.int .i64 (k:Int)] w2):
  M.eb.j3 [.int .i64 (k:Int)] [vi,.int .i64 (j:Int)] (.slice (some ⟨g,0,none⟩) n cap) (.int .i64 (a:Int)) K0 Kn w1 K:=by
 unfold M.eb.j3
 by_cases hkj:k<=j
 ·have a1:=H1.row.at (show k < d.size by omega)
  have a2:=H1.row.at (show a < d.size by omega)
  have b1:(k:Int) < n:=by omega
  have b2:(a:Int) < n:=by omega
  have b3:(k:Int)<=j:=by omega
  simp[g0,g21,b1,b2,b3,a1,a2]
  refine qk _ _ ?_
  cases hl:ltInt d[a]! d[k]! with
  | true=>
   simp[qg (show k < 1000000 by omega)]
   have:=k2 (fun h=>by simp[hl] at h) _ (H1.dr 1)
   simpa using this
  | false=>
   simp[qg (show k < 1000000 by omega)]
   have:=k1 ⟨hkj,by simp[hl]⟩ _ (H1.dr 1)
   simpa using this
 ·have b3: ¬(k:Int)<=j:=by omega
  simp[g0,g21,b3]
  have:=k2 (fun h=>hkj h.1) _ (H1.dr 1)
  simpa using this
theorem bhh{w0 w1:World}{a k i:Nat}{K0 Kn:KL}{K:KV}(H1:Rf w0 w1 g e cap d)(hn:d.size=n)(h6:n < 100000)(hai:a < n/\1<=i)(hk:k < n)
  (k1:(i<=k/\ltInt d[a]! d[k]! =true)->∀w2,Rf w0 w2 g e cap d->Kn [.int .i64 ((k - 1:Nat):Int)] w2) (k2: ¬(i<=k/\ltInt d[a]! d[k]! =true)->∀w2,Rf w0 w2 g e cap d->K0 [.int .i64 (k:Int)] w2):
  M.eb.j6 [.int .i64 (i:Int)] [.int .i64 (k:Int)] (.slice (some ⟨g,0,none⟩) n cap) (.int .i64 (a:Int)) K0 Kn w1 K:=by
 unfold M.eb.j6
 by_cases hik:i<=k
 ·have a1:=H1.row.at (show k < d.size by omega)
  have a2:=H1.row.at (show a < d.size by omega)
  have b1:(k:Int) < n:=by omega
  have b2:(a:Int) < n:=by omega
  have b3:(i:Int)<=k:=by omega
  have hw:IntKind.i64.wrap ((k:Int) - 1)=((k - 1:Nat):Int):=by rw[iy];omega
  simp[g0,b1,b2,b3,a1,a2]
  refine qk _ _ ?_
  cases hl:ltInt d[a]! d[k]! with
  | true=>
   simp[hw]
   have:=k1 ⟨hik,hl⟩ _ (H1.dr 1)
   simpa using this
  | false=>
   simp[hw]
   have:=k2 (fun h=>by simp[hl] at h) _ (H1.dr 1)
   simpa using this
 ·have b3: ¬(i:Int)<=k:=by omega
  simp[g0,b3]
  have:=k2 (fun h=>hik h.1) _ (H1.dr 1)
  simpa using this
end
def PlI(w:World)(g:Nat)(e:TypeId)(cap n a b:Nat)(R:Nat×Array Int):KL:=fun x w1=> ∃(i j:Nat)(d:Array Int),x=[.int .i64 (i:Int),.int .i64 (j:Int)]/\Rf w w1 g e cap d/\d.size=n/\a < i/\i<=j+2/\j < b/\partLoop ltInt a i j d=R
theorem aqc{w:World}{g cap n:Nat}{e:TypeId}{d:Array Int}(H:Rw w g e cap d)(hn:d.size=n)(h6:n < 100000){a b pv:Nat}(hb:b<=n)(ha:a<=pv)(hp:pv < b){K:KV}
  (h: ∀w',Rf w w' g e cap (partition ltInt d a b pv).2.2->K (.tuple #[.int .i64 ((partition ltInt d a b pv).1:Nat),.bool (partition ltInt d a b pv).2.1]) w'):
  jo P F.hm [.slice (some ⟨g,0,none⟩) n cap,.int .i64 a,.int .i64 b,.int .i64 pv] w K:=by
 apply M.bk.calls
 unfold M.bk
 have a1:=H.at (show a < d.size by omega)
 have a2:=H.at (show pv < d.size by omega)
 have b1:(a:Int) < n:=by omega
 have b2:(pv:Int) < n:=by omega
 have f1:=H.frz a
 have f2:=H.frz pv
 have hw1:IntKind.i64.wrap ((a:Int)+1)=((a+1:Nat):Int):=qg (by omega)
 have hw2:IntKind.i64.wrap ((b:Int) - 1)=((b - 1:Nat):Int):=by rw[iy];omega
 simp[b1,b2,a1,a2,f1,f2,ka,lf,hw1,hw2,-Int.natCast_add,-il]
 have H1:=(H.nc.dr 1).swp (i:=a) (j:=pv) (by omega) (by omega)
 generalize ((dr w 1).setCell ⟨g,a,none⟩ (.int SD.k d[pv]!)).setCell ⟨g,pv,none⟩ (.int SD.k d[a]!)=w1 at *
 clear a1 a2 f1 f2
 unfold partition at h
 have hn1:(Sort.swp d a pv).size=n:=by rw[size_swp];exact hn
 generalize Sort.swp d a pv=d1 at *
 try simp only at h
 refine ali (p:=fun x=>ltInt x d1[a]!) (i:=a+1) (j:=b - 1) H1.row (by omega) (fun k w2 Kn hk H2 k1 k2=>by refine bgy H2 hn1 h6 (by omega) (by omega) hk ?_ ?_ <;>first|exact k1|exact k2) fun w2 H2=>?_
 have hge:=scanUp_ge (fun x=>ltInt x d1[a]!) d1 (b - 1) (a+1)
 have hle:=ahp (fun x=>ltInt x d1[a]!) d1 (b - 1) (a+1)
 generalize scanUp (fun x=>ltInt x d1[a]!) d1 (b - 1) (a+1)=i at *
 refine aha (n:=n) (p:=fun x=>!ltInt x d1[a]!) H2.row (by omega) (i:=i) (j:=b - 1) (by omega) (fun k w3 Kn hk H3 k1 k2=>by refine bgw H3 hn1 h6 (by omega) hk ?_ ?_ <;>first|exact k1|exact k2) fun w3 H3=>?_
 have hdl:=scanDown_le (fun x=>!ltInt x d1[a]!) d1 i (b - 1)
 generalize scanDown (fun x=>!ltInt x d1[a]!) d1 i (b - 1)=j at *
 have H3':=H1.trans (H2.trans H3)
 unfold M.bk.j3
 have c1:=H3.row.at (show a < d1.size by omega)
 have c2:=H3.row.at (show j < d1.size by omega)
 have e1:(j:Int) < n:=by omega
 have f1:=H3.row.frz a
 have f2:=H3.row.frz j
 simp only[il,g0]
 by_cases hij:i > j
 ·have hij':(j:Int) < i:=by omega
  rw[if_pos hij] at h
  simp[hij',b1,e1,c1,c2,f1,f2,ka,lf,-Int.natCast_add]
  exact h _ ((H3'.dr 1).swp (by omega) (by omega))
 ·have hij': ¬(j:Int) < i:=by omega
  rw[if_neg hij] at h
  simp only[vj,hij',decide_false,Eng.cond_false]
  unfold M.bk.j6
  have c3:=H3.row.at (show i < d1.size by omega)
  have e2:(i:Int) < n:=by omega
  have f3:=H3.row.frz i
  have hw3:IntKind.i64.wrap ((i:Int)+1)=((i+1:Nat):Int):=qg (by omega)
  have hw4:IntKind.i64.wrap ((j:Int) - 1)=((j - 1:Nat):Int):=by rw[iy];omega
  simp[g0,e1,e2,c2,c3,f2,f3,ka,lf,hw3,hw4,-Int.natCast_add,-il]
  rw[il]
  have H4:=(H3'.dr 1).swp (i:=i) (j:=j) (by omega) (by omega)
  generalize ((dr w3 1).setCell ⟨g,i,none⟩ (.int SD.k d1[j]!)).setCell ⟨g,j,none⟩ (.int SD.k d1[i]!)=w4 at *
  have hn2:(Sort.swp d1 i j).size=n:=by rw[size_swp];exact hn1
  generalize Sort.swp d1 i j=d2 at *
  generalize hr:partLoop ltInt a (i+1) (j - 1) d2=r at *
  refine⟨PlI w g e cap n a b r,fun x _=>ms x 1+2 - ms x 0,⟨i+1,j - 1,d2,rfl,H4,hn2,by omega,by omega,by omega,hr⟩,?_⟩
  rintro x w5 ⟨i5,j5,d5,rfl,H5,hn5,ha5,hij5,hj5,hR⟩
  rw[partLoop_eq] at hR
  refine ali (p:=fun x=>ltInt x d5[a]!) (i:=i5) (j:=j5) H5.row hij5 (fun k w6 Kn hk H6 k1 k2=>by refine bdu H6 hn5 h6 (by omega) (by omega) hk ?_ ?_ <;>first|exact k1|exact k2) fun w6 H6=>?_
  have hge:=scanUp_ge (fun x=>ltInt x d5[a]!) d5 j5 i5
  have hle:=ahp (fun x=>ltInt x d5[a]!) d5 j5 i5
  generalize scanUp (fun x=>ltInt x d5[a]!) d5 j5 i5=i6 at *
  unfold M.bk.j9
  simp only[g21]
  refine aha (n:=n) (p:=fun x=>!ltInt x d5[a]!) H6.row (by omega) (i:=i6) (j:=j5) (by omega) (fun k w7 Kn hk H7 k1 k2=>by refine bcf H7 hn5 h6 (by omega) hk ?_ ?_ <;>first|exact k1|exact k2) fun w7 H7=>?_
  have hdl:=scanDown_le (fun x=>!ltInt x d5[a]!) d5 i6 j5
  generalize scanDown (fun x=>!ltInt x d5[a]!) d5 i6 j5=j6 at *
  have H7':=H5.trans (H6.trans H7)
  try simp only at hR
  simp only[g0,il]
  by_cases hgt:i6 > j6
  ·have hgt':(j6:Int) < i6:=by omega
   rw[if_pos hgt] at hR
   simp only[vj,hgt',decide_true,Eng.cond_true]
   unfold M.bk.j7
   have c1:=H7.row.at (show a < d5.size by omega)
   have c2:=H7.row.at (show j6 < d5.size by omega)
   have e1:(j6:Int) < n:=by omega
   have f1:=H7.row.frz a
   have f2:=H7.row.frz j6
   simp[g21,b1,e1,c1,c2,f1,f2,ka,lf,-Int.natCast_add]
   subst hR
   exact h _ ((H7'.dr 1).swp (by omega) (by omega))
  ·have hgt': ¬(j6:Int) < i6:=by omega
   rw[if_neg hgt] at hR
   simp only[vj,hgt',decide_false,Eng.cond_false]
   unfold M.bk.j15
   have c1:=H7.row.at (show i6 < d5.size by omega)
   have c2:=H7.row.at (show j6 < d5.size by omega)
   have e1:(j6:Int) < n:=by omega
   have e2:(i6:Int) < n:=by omega
   have f1:=H7.row.frz i6
   have f2:=H7.row.frz j6
   have hw3:IntKind.i64.wrap ((i6:Int)+1)=((i6+1:Nat):Int):=qg (by omega)
   have hw4:IntKind.i64.wrap ((j6:Int) - 1)=((j6 - 1:Nat):Int):=by rw[iy];omega
   simp[g0,e1,e2,c1,c2,f1,f2,ka,lf,hw3,hw4,-Int.natCast_add]
   refine⟨⟨i6+1,j6 - 1,_,rfl,(H7'.dr 1).swp (by omega) (by omega),by rw[size_swp];exact hn5,by omega,by omega,by omega,hR⟩,?_⟩
   simp[ms,gv];omega
def PeI(w:World)(g:Nat)(e:TypeId)(cap n a b:Nat)(R:Nat×Array Int):KL:=fun x w1=> ∃(i j:Nat)(d:Array Int),x=[.int .i64 (i:Int),.int .i64 (j:Int)]/\Rf w w1 g e cap d/\d.size=n/\a < i/\i<=j+2/\j < b/\partEqLoop ltInt a i j d=R
theorem aik{w:World}{g cap n:Nat}{e:TypeId}{d:Array Int}(H:Rw w g e cap d)(hn:d.size=n)(h6:n < 100000){a b pv:Nat}(hb:b<=n)(ha:a<=pv)(hp:pv < b){K:KV}
  (h: ∀w',Rf w w' g e cap (partitionEqual ltInt d a b pv).2->K (.int .i64 ((partitionEqual ltInt d a b pv).1:Nat)) w'):
  jo P F.hr [.slice (some ⟨g,0,none⟩) n cap,.int .i64 a,.int .i64 b,.int .i64 pv] w K:=by
 apply M.eb.calls
 unfold M.eb
 have a1:=H.at (show a < d.size by omega)
 have a2:=H.at (show pv < d.size by omega)
 have b1:(a:Int) < n:=by omega
 have b2:(pv:Int) < n:=by omega
 have f1:=H.frz a
 have f2:=H.frz pv
 have hw1:IntKind.i64.wrap ((a:Int)+1)=((a+1:Nat):Int):=qg (by omega)
 have hw2:IntKind.i64.wrap ((b:Int) - 1)=((b - 1:Nat):Int):=by rw[iy];omega
 simp[b1,b2,a1,a2,f1,f2,ka,lf,hw1,hw2,-Int.natCast_add,-il]
 have H1:=(H.nc.dr 1).swp (i:=a) (j:=pv) (by omega) (by omega)
 generalize ((dr w 1).setCell ⟨g,a,none⟩ (.int SD.k d[pv]!)).setCell ⟨g,pv,none⟩ (.int SD.k d[a]!)=w1 at *
 clear a1 a2 f1 f2
 unfold partitionEqual at h
 have hn1:(Sort.swp d a pv).size=n:=by rw[size_swp];exact hn
 generalize Sort.swp d a pv=d1 at *
 generalize hr:partEqLoop ltInt a (a+1) (b - 1) d1=r at *
 rw[il]
 refine⟨PeI w g e cap n a b r,fun x _=>ms x 1+2 - ms x 0,⟨a+1,b - 1,d1,rfl,H1,hn1,by omega,by omega,by omega,hr⟩,?_⟩
 rintro x w5 ⟨i5,j5,d5,rfl,H5,hn5,ha5,hij5,hj5,hR⟩
 rw[partEqLoop_eq] at hR
 simp only[g20]
 refine ali (p:=fun x=>!ltInt d5[a]! x) (i:=i5) (j:=j5) H5.row hij5 (fun k w6 Kn hk H6 k1 k2=>by refine bgv H6 hn5 h6 (by omega) (by omega) hk ?_ ?_ <;>first|exact k1|exact k2) fun w6 H6=>?_
 have hge:=scanUp_ge (fun x=>!ltInt d5[a]! x) d5 j5 i5
 have hle:=ahp (fun x=>!ltInt d5[a]! x) d5 j5 i5
 generalize scanUp (fun x=>!ltInt d5[a]! x) d5 j5 i5=i6 at *
 unfold M.eb.j2
 simp only[g21]
 refine aha (n:=n) (p:=fun x=>ltInt d5[a]! x) H6.row (by omega) (i:=i6) (j:=j5) (by omega) (fun k w7 Kn hk H7 k1 k2=>by refine bhh H7 hn5 h6 (by omega) hk ?_ ?_ <;>first|exact k1|exact k2) fun w7 H7=>?_
 have hdl:=scanDown_le (fun x=>ltInt d5[a]! x) d5 i6 j5
 generalize scanDown (fun x=>ltInt d5[a]! x) d5 i6 j5=j6 at *
 have H7':=H5.trans (H6.trans H7)
 try simp only at hR
 simp only[g0,il]
 by_cases hgt:i6 > j6
 ·have hgt':(j6:Int) < i6:=by omega
  rw[if_pos hgt] at hR
  simp only[vj,hgt',decide_true,Eng.cond_true,g20]
  subst hR
  exact h _ H7'
 ·have hgt': ¬(j6:Int) < i6:=by omega
  rw[if_neg hgt] at hR
  simp only[vj,hgt',decide_false,Eng.cond_false]
  unfold M.eb.j8
  have c1:=H7.row.at (show i6 < d5.size by omega)
  have c2:=H7.row.at (show j6 < d5.size by omega)
  have e1:(j6:Int) < n:=by omega
  have e2:(i6:Int) < n:=by omega
  have f1:=H7.row.frz i6
  have f2:=H7.row.frz j6
  have hw3:IntKind.i64.wrap ((i6:Int)+1)=((i6+1:Nat):Int):=qg (by omega)
  have hw4:IntKind.i64.wrap ((j6:Int) - 1)=((j6 - 1:Nat):Int):=by rw[iy];omega
  simp[g0,e1,e2,c1,c2,f1,f2,ka,lf,hw3,hw4,-Int.natCast_add]
  refine⟨⟨i6+1,j6 - 1,_,rfl,(H7'.dr 1).swp (by omega) (by omega),by rw[size_swp];exact hn5,by omega,by omega,by omega,hR⟩,?_⟩
  simp[ms,gv];omega
end Go.Proofs.YtgepcfcicngceaaGreatDoor.SG
set_option maxRecDepth 100000
namespace Go.Proofs.YtgepcfcicngceaaGreatDoor.SG
open Go.Eng Go.Sort
variable [SE]
def RvI(w:World)(g:Nat)(e:TypeId)(cap n:Nat)(R:Array Int):KL:=fun x w1=> ∃(i j:Nat)(d:Array Int),x=[.int .i64 (i:Int),.int .i64 (j:Int)]/\Rf w w1 g e cap d/\d.size=n/\i<=n/\j < n/\reverseLoop i j d=R
theorem awj{w:World}{g cap n:Nat}{e:TypeId}{d:Array Int}(H:Rw w g e cap d)(hn:d.size=n)(h6:n < 100000){a b:Nat}(hb:b<=n)(hab:a < b){K:KV}
  (h: ∀w',Rf w w' g e cap (reverseRange d a b)->K (.tuple #[]) w'):jo P F.hu [.slice (some ⟨g,0,none⟩) n cap,.int .i64 a,.int .i64 b] w K:=by
 apply M.fi.calls
 unfold M.fi
 have hw2:IntKind.i64.wrap ((b:Int) - 1)=((b - 1:Nat):Int):=by rw[iy];omega
 simp only[nf,hw2]
 unfold reverseRange at h
 generalize hR:reverseLoop a (b - 1) d=R at *
 refine⟨RvI w g e cap n R,fun x _=>ms x 1 - ms x 0,⟨a,b - 1,d,rfl,H.nc,hn,by omega,by omega,hR⟩,?_⟩
 clear hR
 rintro x w1 ⟨i,j,d1,rfl,H1,hn1,hi,hj,hR⟩
 simp only[il,g20,g21]
 unfold reverseLoop at hR
 by_cases hij:i < j
 ·have hij':(i:Int) < j:=by omega
  rw[if_pos hij] at hR
  simp only[mw,hij',decide_true,Eng.cond_true]
  unfold M.fi.j1
  have c1:=H1.row.at (show i < d1.size by omega)
  have c2:=H1.row.at (show j < d1.size by omega)
  have e1:(i:Int) < n:=by omega
  have e2:(j:Int) < n:=by omega
  have f1:=H1.row.frz i
  have f2:=H1.row.frz j
  have hw3:IntKind.i64.wrap ((i:Int)+1)=((i+1:Nat):Int):=qg (by omega)
  have hw4:IntKind.i64.wrap ((j:Int) - 1)=((j - 1:Nat):Int):=by rw[iy];omega
  simp[g20,g21,e1,e2,c1,c2,f1,f2,ka,lf,hw3,hw4,-Int.natCast_add]
  refine⟨⟨i+1,j - 1,_,rfl,(H1.dr 1).swp (by omega) (by omega),by rw[size_swp];exact hn1,by omega,by omega,hR⟩,?_⟩
  simp[ms,gv];omega
 ·have hij': ¬(i:Int) < j:=by omega
  rw[if_neg hij] at hR
  subst hR
  simp only[mw,hij',decide_false,Eng.cond_false]
  exact h w1 H1
omit [SE] in
theorem aog(d:Array Int)(b:Nat): ∀m i,b - i<=m->i<=b->i<=scanSorted ltInt d b i/\scanSorted ltInt d b i<=b:=by
 intro m
 induction m with
 | zero=>
  intro i hm hi
  unfold scanSorted
  rw[if_neg (by simp;omega)]
  omega
 | succ m ih=>
  intro i hm hi
  unfold scanSorted
  split
  ·rename_i h
   simp at h
   have:=ih (i+1) (by omega) (by omega)
   omega
  ·omega
omit [SE] in
theorem aee: ∀(j:Nat)(d:Array Int),(shiftDown ltInt j d).size=d.size
 | 0,_=>rfl
 | j+1,d=>by
  unfold shiftDown
  split
  ·rfl
  ·rw[aee j,size_swp]
omit [SE] in
theorem aqd(b:Nat): ∀(m j:Nat)(d:Array Int),b - j<=m->(shiftUp ltInt b j d).size=d.size:=by
 intro m
 induction m with
 | zero=>
  intro j d hm
  unfold shiftUp
  rw[if_neg (by omega)]
 | succ m ih=>
  intro j d hm
  unfold shiftUp
  split
  ·split
   ·rfl
   ·rw[ih _ _ (by omega),size_swp]
  ·rfl
section
variable {w : World} {g cap n : Nat} {e : TypeId} {d : Array Int}
def SsI(w:World)(g:Nat)(e:TypeId)(cap:Nat)(d:Array Int)(a b r:Nat):KL:=fun x w1=> ∃i:Nat,x=[.int .i64 (i:Int)]/\Rf w w1 g e cap d/\a < i/\i<=b/\scanSorted ltInt d b i=r
theorem bcq(H:Rw w g e cap d)(hn:d.size=n)(h6:n < 100000){a b i:Nat}(hb:b<=n)(ha:a < i)(hi:i<=b){K4:KL}{K:KV}
  (h: ∀w',Rf w w' g e cap d->K4 [.int .i64 (scanSorted ltInt d b i:Nat)] w'):
  ii (fun K4=>jl [.int .i64 (i:Int)] w fun K5 x5 w=>M.ax.j5 x5 (.int .i64 (b:Int)) (.slice (some ⟨g,0,none⟩) n cap) K4 K5 w K) K4:=by
 rw[il]
 generalize hr:scanSorted ltInt d b i=r at *
 refine⟨SsI w g e cap d a b r,fun x _=>b - ms x 0,⟨i,rfl,H.nc,ha,hi,hr⟩,?_⟩
 clear hr
 rintro x w1 ⟨k,rfl,H1,hak,hkb,hR⟩
 unfold M.ax.j5
 unfold scanSorted at hR
 by_cases hk:k < b
 ·have a1:=H1.row.at (show k < d.size by omega)
  have a2:=H1.row.at (show k - 1 < d.size by omega)
  have b1:(k:Int) < n:=by omega
  have b2:((k - 1:Nat):Int) < n:=by omega
  have b3:(k:Int) < b:=by omega
  have hw:IntKind.i64.wrap ((k:Int) - 1)=((k - 1:Nat):Int):=by rw[iy];omega
  simp[g0,b1,b2,b3,a1,a2,hw]
  refine qk _ _ ?_
  cases hl:ltInt d[k]! d[k - 1]! with
  | true=>
   rw[if_neg (by simp[hl])] at hR
   simp
   rw[<-hR] at h
   exact h _ (H1.dr 1)
  | false=>
   rw[if_pos (by simp[hl,hk])] at hR
   simp[qg (show k < 1000000 by omega)]
   refine⟨⟨k+1,by simp,H1.dr 1,by omega,by omega,hR⟩,?_⟩
   simp[ms,gv];omega
 ·have b3: ¬(k:Int) < b:=by omega
  rw[if_neg (by simp[hk])] at hR
  simp[g0,b3]
  rw[<-hR] at h
  exact h _ (H1.dr 1)
def SdI(w:World)(g:Nat)(e:TypeId)(cap n:Nat)(R:Array Int):KL:=fun x w1=> ∃(j:Nat)(d:Array Int),x=[.int .i64 (j:Int)]/\Rf w w1 g e cap d/\d.size=n/\j < n/\shiftDown ltInt j d=R
theorem beo(H:Rw w g e cap d)(hn:d.size=n)(h6:n < 100000){j:Nat}(hj:j < n){K9:KL}{K:KV}
  (h: ∀w' v,Rf w w' g e cap (shiftDown ltInt j d)->K9 [v] w'):
  jl [.int .i64 (j:Int)] w fun K10 x10 w=>ii (fun K11=>ip P .geq T.d (.tmp 64) (.const (.int .i64 1)) (gv x10 0) (.int .i64 1) w fun t65 w=>ig t65 (K11 [] w) (K9 [(gv x10 0)] w)) fun x11 w=>M.ax.j11 (.slice (some ⟨g,0,none⟩) n cap) x10 K9 K10 w K:=by
 generalize hr:shiftDown ltInt j d=R at *
 refine⟨SdI w g e cap n R,fun x _=>ms x 0,⟨j,d,rfl,H.nc,hn,hj,hr⟩,?_⟩
 clear hr
 rintro x w1 ⟨k,d1,rfl,H1,hn1,hk,hR⟩
 simp only[il,g0,qu]
 cases k with
 | zero=>
  have hk0: ¬(1:Int)<=((0:Nat):Int):=by omega
  simp only[hk0,decide_false,Eng.cond_false]
  unfold shiftDown at hR
  subst hR
  exact h _ _ H1
 | succ k=>
  have hk0:(1:Int)<=((k+1:Nat):Int):=by omega
  simp only[hk0,decide_true,Eng.cond_true]
  unfold M.ax.j11
  unfold shiftDown at hR
  have a1:=H1.row.at (show k+1 < d1.size by omega)
  have a2:=H1.row.at (show k < d1.size by omega)
  have b1:((k+1:Nat):Int) < n:=by omega
  have b2:(k:Int) < n:=by omega
  have f1:=H1.row.frz (k+1)
  have f2:=H1.row.frz k
  have hw:IntKind.i64.wrap (((k+1:Nat):Int) - 1)=(k:Int):=by rw[iy];omega
  simp[g0,b1,b2,a1,a2,hw,-Int.natCast_add]
  refine qk _ _ ?_
  cases hl:ltInt d1[k+1]! d1[k]! with
  | false=>
   rw[if_pos (by simp[hl])] at hR
   subst hR
   simp
   exact h _ _ (H1.dr 1)
  | true=>
   rw[if_neg (by simp[hl])] at hR
   simp[-Int.natCast_add]
   unfold M.ax.j13
   simp[g0,b1,b2,a1,a2,f1,f2,hw,ka,lf,-Int.natCast_add]
   refine⟨⟨k,_,rfl,((H1.dr 1).dr 1).swp (by omega) (by omega),by rw[size_swp];exact hn1,by omega,hR⟩,?_⟩
   simp[ms,gv]
def SuI(w:World)(g:Nat)(e:TypeId)(cap n b:Nat)(R:Array Int):KL:=fun x w1=> ∃(j:Nat)(d:Array Int),x=[.int .i64 (j:Int)]/\Rf w w1 g e cap d/\d.size=n/\1<=j/\j<=b/\shiftUp ltInt b j d=R
theorem bjt(H:Rw w g e cap d)(hn:d.size=n)(h6:n < 100000){j b:Nat}(hb:b<=n)(hj:1<=j)(hjb:j<=b){K3:KL}{x4 x8 x9:List Value}{K:KV}
  (h: ∀w' v,Rf w w' g e cap (shiftUp ltInt b j d)->K3 [gv x4 0,gv x8 0,gv x9 0,v] w'):
  jl [.int .i64 (j:Int)] w fun K14 x14 w=>M.ax.j14 x14 (.int .i64 (b:Int)) K3 x4 x8 x9 (.slice (some ⟨g,0,none⟩) n cap) K14 w K:=by
 generalize hr:shiftUp ltInt b j d=R at *
 refine⟨SuI w g e cap n b R,fun x _=>b - ms x 0,⟨j,d,rfl,H.nc,hn,hj,hjb,hr⟩,?_⟩
 clear hr
 rintro x w1 ⟨k,d1,rfl,H1,hn1,hk1,hk,hR⟩
 unfold M.ax.j14
 simp only[il,g0,mw]
 unfold shiftUp at hR
 by_cases hkb:k < b
 ·have hkb':(k:Int) < b:=by omega
  rw[if_pos hkb] at hR
  simp only[hkb',decide_true,Eng.cond_true]
  unfold M.ax.j15
  have a1:=H1.row.at (show k < d1.size by omega)
  have a2:=H1.row.at (show k - 1 < d1.size by omega)
  have b1:(k:Int) < n:=by omega
  have b2:((k - 1:Nat):Int) < n:=by omega
  have f1:=H1.row.frz k
  have f2:=H1.row.frz (k - 1)
  have hw:IntKind.i64.wrap ((k:Int) - 1)=((k - 1:Nat):Int):=by rw[iy];omega
  simp[g0,b1,b2,a1,a2,hw]
  refine qk _ _ ?_
  cases hl:ltInt d1[k]! d1[k - 1]! with
  | false=>
   rw[if_pos (by simp[hl])] at hR
   subst hR
   simp
   exact h _ _ (H1.dr 1)
  | true=>
   rw[if_neg (by simp[hl])] at hR
   simp
   unfold M.ax.j17
   simp[g0,b1,b2,a1,a2,f1,f2,hw,ka,lf,qg (show k < 1000000 by omega)]
   refine⟨⟨k+1,_,by simp,((H1.dr 1).dr 1).swp (by omega) (by omega),by rw[size_swp];exact hn1,by omega,by omega,hR⟩,?_⟩
   simp[ms,gv];omega
 ·have hkb': ¬(k:Int) < b:=by omega
  rw[if_neg hkb] at hR
  simp only[hkb',decide_false,Eng.cond_false]
  subst hR
  exact h _ _ H1
end
def PiI(w:World)(g:Nat)(e:TypeId)(cap n a b:Nat)(R:Array Int×Bool):KL:=fun x w1=> ∃(u1 u2 u3:Value)(i s:Nat)(d:Array Int),x=[.int .i64 (i:Int),u1,u2,u3,.int .i64 ((5 - s:Nat):Int)]/\Rf w w1 g e cap d/\d.size=n/\s<=5/\a < i/\i<=b/\partialIns ltInt a b s i d=R
theorem aoe{w:World}{g cap n:Nat}{e:TypeId}{d:Array Int}(H:Rw w g e cap d)(hn:d.size=n)(h6:n < 100000){a b:Nat}(hb:b<=n)(hab:a < b){K:KV}
  (h: ∀w',Rf w w' g e cap (partialInsertionSort ltInt d a b).1->K (.bool (partialInsertionSort ltInt d a b).2) w'):jo P F.hn [.slice (some ⟨g,0,none⟩) n cap,.int .i64 a,.int .i64 b] w K:=by
 apply M.ax.calls
 unfold M.ax
 simp only[lx,qg (show a < 1000000 by omega),il]
 unfold partialInsertionSort at h
 generalize hR:partialIns ltInt a b 5 (a+1) d=R at *
 refine⟨PiI w g e cap n a b R,fun x _=>5 - ms x 4,⟨_,_,_,a+1,5,d,rfl,H.nc,hn,by omega,by omega,by omega,hR⟩,?_⟩
 clear hR
 rintro x w1 ⟨u1,u2,u3,i,s,d1,rfl,H1,hn1,hs,hai,hib,hR⟩
 have q0: ∀a b c d e:Value,gv [a,b,c,d,e] 0=a:=fun _ _ _ _ _=>rfl
 have q1: ∀a b c d e:Value,gv [a,b,c,d,e] 1=b:=fun _ _ _ _ _=>rfl
 have q2: ∀a b c d e:Value,gv [a,b,c,d,e] 2=c:=fun _ _ _ _ _=>rfl
 have q3: ∀a b c d e:Value,gv [a,b,c,d,e] 3=d:=fun _ _ _ _ _=>rfl
 have q4: ∀a b c d e:Value,gv [a,b,c,d,e] 4=e:=fun _ _ _ _ _=>rfl
 unfold M.ax.j1
 simp only[il,q0,q1,q2,q3,q4,mw]
 cases s with
 | zero=>
  simp
  unfold partialIns at hR
  subst hR
  exact h _ H1
 | succ s=>
  rw[show 5 - (s+1)=4 - s from by omega]
  have hs5:((4 - s:Nat):Int) < 5:=by omega
  simp only[hs5,decide_true,Eng.cond_true]
  unfold M.ax.j2
  unfold partialIns at hR
  simp only at hR
  rw[il]
  simp only[q0,q1,q2,q3,q4]
  refine bcq (a:=a) H1.row hn1 h6 hb hai hib fun w2 H2=>?_
  have hsc:=aog d1 b _ i (Nat.le_refl _) hib
  generalize scanSorted ltInt d1 b i=i2 at *
  have H2':=H1.trans H2
  simp only[il,g0,zq]
  by_cases hib2:i2=b
  ·have:(i2:Int)=b:=by omega
   rw[if_pos hib2] at hR
   simp only[this,decide_true,Eng.cond_true]
   subst hR
   exact h _ H2'
  have hib2': ¬(i2:Int)=b:=by omega
  rw[if_neg hib2] at hR
  simp only[hib2',decide_false,Eng.cond_false]
  unfold M.ax.j7
  have hw0:IntKind.i64.wrap ((b:Int) - a)=((b - a:Nat):Int):=xv (by omega) (by omega)
  simp only[il,nf,hw0,mw]
  by_cases h50:b - a < 50
  ·have:((b - a:Nat):Int) < 50:=by omega
   rw[if_pos h50] at hR
   simp only[this,decide_true,Eng.cond_true]
   subst hR
   exact h _ H2'
  have h50': ¬((b - a:Nat):Int) < 50:=by omega
  rw[if_neg h50] at hR
  simp only[h50',decide_false,Eng.cond_false]
  unfold M.ax.j8
  have a1:=H2.row.at (show i2 < d1.size by omega)
  have a2:=H2.row.at (show i2 - 1 < d1.size by omega)
  have b1:(i2:Int) < n:=by omega
  have b2:((i2 - 1:Nat):Int) < n:=by omega
  have f1:=H2.row.frz i2
  have f2:=H2.row.frz (i2 - 1)
  have hw:IntKind.i64.wrap ((i2:Int) - 1)=((i2 - 1:Nat):Int):=by rw[iy];omega
  have hwa:IntKind.i64.wrap ((i2:Int) - a)=((i2 - a:Nat):Int):=xv (by omega) (by omega)
  simp[g0,b1,b2,a1,a2,f1,f2,hw,hwa,ka,lf,-il]
  have H3:=(H2'.dr 1).swp (i:=i2) (j:=i2 - 1) (by omega) (by omega)
  generalize ((dr w2 1).setCell ⟨g,i2,none⟩ (.int SD.k d1[i2 - 1]!)).setCell ⟨g,i2 - 1,none⟩ (.int SD.k d1[i2]!)=w3 at *
  have hn3:(Sort.swp d1 i2 (i2 - 1)).size=n:=by rw[size_swp];exact hn1
  generalize Sort.swp d1 i2 (i2 - 1)=d3 at *
  -- behind the shift th
  have tail: ∀(x9:List Value)(w4:World)(d4:Array Int),Rf w w4 g e cap d4->d4.size=n->partialIns ltInt a b s i2 (if b - i2≥2 then shiftUp ltInt b (i2+1) d4 else d4)=R->∀(K3:KL)(x8 x1:List Value),
    (∀w' v,∀d5,Rf w w' g e cap d5->d5.size=n->partialIns ltInt a b s i2 d5=R->K3 [.int .i64 (i2:Int),gv x8 0,gv x9 0,v] w')->
    M.ax.j9 (.int .i64 b) [.int .i64 i2] K3 x8 x9 (.slice (some ⟨g,0,none⟩) n cap) x1 w4 K:=by
   intro x9 w4 d4 H4 hn4 hR4 K3 x8 x1 hK
   unfold M.ax.j9
   have hwb:IntKind.i64.wrap ((b:Int) - i2)=((b - i2:Nat):Int):=xv (by omega) (by omega)
   simp only[g0,nf,hwb,qu]
   by_cases h2:b - i2≥2
   ·have h2':(2:Int)<=((b - i2:Nat):Int):=by omega
    rw[if_pos h2] at hR4
    simp only[h2',decide_true,Eng.cond_true,lx,qg (show i2 < 1000000 by omega)]
    refine bjt H4.row hn4 h6 hb (by omega) (by omega) fun w5 v H5=>?_
    exact hK _ v _ (H4.trans H5) (by rw[aqd _ _ _ _ (Nat.le_refl _)];exact hn4) hR4
   ·have h2': ¬(2:Int)<=((b - i2:Nat):Int):=by omega
    rw[if_neg h2] at hR4
    simp only[h2',decide_false,Eng.cond_false]
    exact hK _ _ _ H4 hn4 hR4
  have fin: ∀w' (x:List Value) d5,gv x 0= .int .i64 i2->Rf w w' g e cap d5->d5.size=n->partialIns ltInt a b s i2 d5=R->
    PiI w g e cap n a b R [gv x 0,gv x 1,gv x 2,gv x 3,.int .i64 (IntKind.i64.wrap (((4 - s:Nat):Int)+1))] w'/\5 - ms [gv x 0,gv x 1,gv x 2,gv x 3,.int .i64 (IntKind.i64.wrap (((4 - s:Nat):Int)+1))] 4 < 5 - ms [.int .i64 (i:Int),u1,u2,u3,.int .i64 ((4 - s:Nat):Int)] 4:=by
   intro w' x d5 hx H5 hn5 hR5
   have:IntKind.i64.wrap (((4 - s:Nat):Int)+1)=((5 - s:Nat):Int):=by rw[iy];omega
   rw[this,hx]
   refine⟨⟨_,_,_,i2,s,d5,rfl,H5,hn5,by omega,by omega,by omega,hR5⟩,?_⟩
   simp only[ms,q4];omega
  by_cases h2:i2 - a≥2
  ·have h2':(2:Int)<=((i2 - a:Nat):Int):=by omega
   rw[if_pos h2] at hR
   simp only[il,h2',decide_true,Eng.cond_true]
   refine beo H3.row hn3 h6 (by omega) fun w4 v H4=>?_
   refine tail _ _ _ (H3.trans H4) (by rw[aee];exact hn3) hR _ _ _ fun w' v d5 H5 hn5 hR5=>?_
   exact fin w' [.int .i64 (i2:Int),_,_,v] d5 rfl H5 hn5 hR5
  ·have h2': ¬(2:Int)<=((i2 - a:Nat):Int):=by omega
   rw[if_neg h2] at hR
   simp only[il,h2',decide_false,Eng.cond_false]
   refine tail _ _ _ H3 hn3 hR _ _ _ fun w' v d5 H5 hn5 hR5=>?_
   exact fin w' [.int .i64 (i2:Int),_,_,v] d5 rfl H5 hn5 hR5
end Go.Proofs.YtgepcfcicngceaaGreatDoor.SG
set_option maxRecDepth 100000
namespace Go.Proofs.YtgepcfcicngceaaGreatDoor
open Go.Eng
theorem bjm: ∀v:Fin 256,((⟨#[0,1,2,2,3,3,3,3,4,4,4,4,4,4,4,4,5,5,5,5,5,5,5,5,5,5,5,5,5,5,5,5,6,6,6,6,6,6,6,6,6,6,6,6,6,6,6,6,6,6,6,6,6,6,6,6,6,6,6,6,6,6,6,6,7,7,7,7,7,7,7,7,7,7,7,7,7,7,7,7,7,7,7,7,7,7,7,7,7,7,7,7,7,7,7,7,7,7,7,7,7,7,7,7,7,7,7,7,7,7,7,7,7,7,7,7,7,7,7,7,7,7,7,7,7,7,7,7,8,8,8,8,8,8,8,8,8,8,8,8,8,8,8,8,8,8,8,8,8,8,8,8,8,8,8,8,8,8,8,8,8,8,8,8,8,8,8,8,8,8,8,8,8,8,8,8,8,8,8,8,8,8,8,8,8,8,8,8,8,8,8,8,8,8,8,8,8,8,8,8,8,8,8,8,8,8,8,8,8,8,8,8,8,8,8,8,8,8,8,8,8,8,8,8,8,8,8,8,8,8,8,8,8,8,8,8,8,8,8,8,8,8,8,8,8,8,8,8,8,8,8,8,8,8,8,8]⟩:ByteArray).get! v.val).toNat=Sort.bitsLen v.val:=by decide+kernel
theorem blc:aav P T.l=true:=kr
theorem bde{w:World}{x:Nat}(hx:x < 65536){K:KV}(h:K (.int .i64 (Sort.bitsLen x:Nat)) w):jo P F.fd [.int .u64 x] w K:=by
 apply M.bb.calls
 unfold M.bb
 have h1: ¬(4294967296:Int)<=x:=by omega
 simp only[il,qu,h1,decide_false,Eng.cond_false]
 unfold M.bb.j0
 have q0: ∀a b:Value,gv [a,b] 0=a:=fun _ _=>rfl
 have q1: ∀a b:Value,gv [a,b] 1=b:=fun _ _=>rfl
 have h2: ¬(65536:Int)<=x:=by omega
 simp only[il,q0,q1,qu,h2,decide_false,Eng.cond_false]
 unfold M.bb.j1
 have u64B:xf P T.a .u64=true:=by kernel_rfl
 have u8B:xf P T.ba .u8=true:=by kernel_rfl
 have i64B:xf P T.d .i64=true:=by kernel_rfl
 have fin: ∀(y z:Nat),y < 256->z+Sort.bitsLen y=Sort.bitsLen x->z < 1000->M.bb.j2 [.int .u64 y,.int .i64 z] w K:=by
  intro y z hy hz hz1
  unfold M.bb.j2
  simp only[q0,q1]
  rw[ou u64B u8B,bls hy,bgh blc (by exact hy)]
  have ht:=bjm ⟨y,hy⟩
  simp only at ht
  rw[ht,ou u8B i64B]
  have hb:Sort.bitsLen y<=16:=(Sort.bitsLen_le_iff y 16).2 (by omega)
  rw[auf (by omega)]
  simp only[lx]
  have:((z:Nat):Int)+(Sort.bitsLen y:Nat)=((Sort.bitsLen x:Nat):Int):=by omega
  simp only[this]
  rw[auf (by omega)]
  exact h
 simp only[il,q0,q1,qu]
 by_cases h3:256<=x
 ·have h3':(256:Int)<=x:=by omega
  have hs:ip P .shr T.a (.tmp 15) (.const (.int .u64 8)) (.int .u64 (x:Int)) (.int .u64 8) w=fun K=>K (.int .u64 ((x / 256:Nat):Int)) w:=by
   funext K
   rw[abu (by decide)]
   have:(min (8:Int).toNat IntKind.u64.bits)=8:=by decide
   rw[this,ame]
  have ha:IntKind.i64.wrap (0+8)=((8:Nat):Int):=by decide
  simp only[h3',decide_true,Eng.cond_true,hs,lx,ha]
  exact fin (x / 256) 8 (by omega) (asm h3).symm (by decide)
 ·have h3': ¬(256:Int)<=x:=by omega
  simp only[h3',decide_false,Eng.cond_false]
  exact fin x 0 (by omega) (by omega) (by decide)
theorem aih{w:World}{x:Nat}(hx:x < 65536){K:KV}(h:K (.int .i64 (Sort.bitsLen x:Nat)) w):jo P F.dl [.int .u64 x] w K:=by
 apply M.dr.calls
 unfold M.dr
 simp only[il,Eng.cond_false]
 rw[M.bb.fcall]
 exact bde hx h
theorem bgm{w:World}{x:Nat}(hx:x < 65536){K:KV}(h:K (.int .u64 ((2 ^ Sort.bitsLen x:Nat):Int)) w):jo P F.cu [.int .i64 x] w K:=by
 apply M.de.calls
 unfold M.de
 have uB:xf P T.bs .u64=true:=by kernel_rfl
 have i64B:xf P T.d .i64=true:=by kernel_rfl
 rw[ou i64B uB,ww (by omega),M.dr.fcall]
 refine aih hx ?_
 have hb:Sort.bitsLen x<=16:=(Sort.bitsLen_le_iff x 16).2 (by omega)
 have hp:2 ^ Sort.bitsLen x<=2 ^ 16:=Nat.pow_le_pow_right (by decide) hb
 rw[ael (by omega)]
 have e1:(((Sort.bitsLen x:Nat):Int)).toNat=Sort.bitsLen x:=by omega
 have e2:min (Sort.bitsLen x) IntKind.u64.bits=Sort.bitsLen x:=by
  have:IntKind.u64.bits=64:=rfl
  omega
 have e3:(1:Int) * 2 ^ Sort.bitsLen x=((2 ^ Sort.bitsLen x:Nat):Int):=by simp
 rw[e1,e2,e3,ww (by omega)]
 exact h
theorem afu{w:World}{b:Nat}{x v:Value}{e:TypeId}(h:w.heap[b]? =some (.cells #[x] e (0,0))):((dr w 1).setCell ⟨b,0,none⟩ v).heap[b]? =some (.cells #[v] e (0,0)):=
 mh (w:=dr w 1) h
theorem avk{w:World}{sb:Nat}{x:Int}{e:TypeId}(hb:w.heap[sb]? =some (.cells #[.int .u64 x] e (0,0))){K:KV}
  (h: ∀w' (y:Int),0<=y->y < 18446744073709551616->w'.heap[sb]? =some (.cells #[.int .u64 y] e (0,0))->Fr (fun b=>b=sb) w w'->K (.int .u64 y) w'):jo P F.cv [.pointer (some ⟨sb,0,none⟩)] w K:=by
 apply M.df.calls
 unfold M.df
 have s13: ∀(x:Int)(w:World)(K:KV)(t:TypeId)(rx ry:Operand),ip P .shl t rx ry (.int .u64 x) (.int .u64 13) w K=K (.int .u64 (IntKind.u64.wrap (x * 2 ^ min (13:Int).toNat IntKind.u64.bits))) w:=fun x w K t rx ry=>ael (by decide)
 have s7: ∀(x:Int)(w:World)(K:KV)(t:TypeId)(rx ry:Operand),ip P .shr t rx ry (.int .u64 x) (.int .u64 7) w K=K (.int .u64 (x.fdiv (2 ^ min (7:Int).toNat IntKind.u64.bits))) w:=fun x w K t rx ry=>abu (by decide)
 have s17: ∀(x:Int)(w:World)(K:KV)(t:TypeId)(rx ry:Operand),ip P .shl t rx ry (.int .u64 x) (.int .u64 17) w K=K (.int .u64 (IntKind.u64.wrap (x * 2 ^ min (17:Int).toNat IntKind.u64.bits))) w:=fun x w K t rx ry=>ael (by decide)
 have c0:=iq hb 0
 have f0:=lk hb 0
 simp only[List.size_toArray,List.getElem?_toArray,List.getElem?_cons_zero] at c0
 simp[c0,f0,s13,s7,s17,atl,ka,lf]
 refine h _ _ (ail _).1 (ail _).2 ?_ ?_
 ·exact afu (afu (afu hb))
 ·exact (((((((Fr.refl (fun b=>b=sb) w).dr 1).setCell (.inl rfl) _ _).dr 1).setCell (.inl rfl) _ _).dr 1).setCell (.inl rfl) _ _)
end Go.Proofs.YtgepcfcicngceaaGreatDoor
