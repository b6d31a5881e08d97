/-
  Slices that read as lists: each element has its cells ('enc'). Laws over any program. No condition.
-/
import Derived.Test.YtgepcfcicngceaaGreatDoorZEng
import Derived.Maps.RangeRun
import Derived.Sort.AssemblyPlain
import Derived.RangeFuncRecord
import Derived.Lib.AppendZeros
import Derived.Laws.BytesString
import Derived.ArgAppend
import Derived.Lib.AppendStr
namespace Go.Eng
section
variable {α : Type} {enc : α → List Value} {sz : Nat} {w w' : World} {v : Value} {l : List α} {S : Nat → Prop}
def rdE(enc:α->List Value)(w:World)(b o:Nat)(x:α):Prop:= ∀j u,(enc x)[j]? =some u->iq w b (o+j)=some u
abbrev Sl(w:World)(sz:Nat)(enc:α->List Value)(v:Value)(l:List α):Prop:=ajf w sz (rdE enc) v l
def Ow(w:World)(base:Nat)(e:TypeId)(sz:Nat)(enc:α->List Value)(v:Value)(l:List α):Prop:=w.ownsRow base e sz v l.length (l.flatMap enc)
theorem ajf.mono{rd rd':World->Nat->Nat->α->Prop}(h:ajf w sz rd v l)(hr: ∀b o x,rd w b o x->rd' w b o x):ajf w sz rd' v l:=by
 obtain⟨a,cap,hv,h1,h2,h3⟩:=h
 exact⟨a,cap,hv,h1,h2,fun i x hi=>by obtain⟨b,o,ha,hb,hr'⟩:=h3 i x hi;exact⟨b,o,ha,hb,hr _ _ _ hr'⟩⟩
theorem bji{b o:Nat}{x:α}(h:rdE enc w b o x)(hb:w'.heap[b]? =w.heap[b]?):rdE enc w' b o x:=fun j u hj=>by rw[xv hb];exact h j u hj
theorem Sl.lt(h:Sl w sz enc v l){x:α}(hx:x∈l): ∃b,v.ownBlock=some b/\b < w.heap.size:=by
 obtain⟨a,cap,rfl,h1,h2,h3⟩:=h
 obtain⟨i,hi,rfl⟩:=List.mem_iff_getElem.1 hx
 obtain⟨b,o,rfl,hb,hr⟩:=h3 i _ (List.getElem?_eq_getElem hi)
 exact⟨b,rfl,hb⟩
theorem Sl.fr(h:Sl w sz enc v l)(hf:Fr S w w')(hn: ∀b,v.ownBlock=some b->b < w.heap.size->¬S b):Sl w' sz enc v l:=by
 obtain⟨a,cap,rfl,h1,h2,h3⟩:=h
 refine⟨a,cap,rfl,h1,h2,fun i x hi=>?_⟩
 obtain⟨b,o,rfl,hb,hr⟩:=h3 i x hi
 exact⟨b,o,rfl,Nat.lt_of_lt_of_le hb hf.size,bji hr (hf.jl b hb (hn b rfl hb))⟩
theorem Sl.at(h:Sl w sz enc v l){i:Nat}(hi:i < l.length): ∃b o cap,v= .slice (some ⟨b,o,none⟩) l.length cap/\b < w.heap.size/\l.length<=cap/\∀j u,(enc l[i])[j]? =some u->iq w b (o+i * sz+j)=some u:=by
 obtain⟨a,cap,rfl,h1,h2,h3⟩:=h
 obtain⟨b,o,rfl,hb,hr⟩:=h3 i _ (List.getElem?_eq_getElem hi)
 exact⟨b,o,cap,rfl,hb,h1,hr⟩
theorem Sl.nil:Sl w sz enc (.slice none 0 0) ([]:List α):=⟨none,0,rfl,Nat.le_refl _,Nat.zero_le _,fun i x h=>by simp at h⟩
theorem tc(he: ∀x,(enc x).length=sz): ∀l:List α,(l.flatMap enc).length=l.length * sz
 | []=>by simp
 | x :: l=>by rw[List.flatMap_cons,List.length_append,he,tc he l,List.length_cons,Nat.add_mul];omega
theorem adm(he: ∀x,(enc x).length=sz): ∀(l:List α)(i:Nat)(x:α)(j:Nat)(u:Value),l[i]? =some x->(enc x)[j]? =some u->(l.flatMap enc)[i * sz+j]? =some u:=by
 intro l
 induction l with
 | nil=>intro i x j u h;simp at h
 | cons y l ih=>
  intro i x j u hx hu
  rw[List.flatMap_cons]
  cases i with
  | zero=>
   simp at hx;subst hx
   have hj:=(List.getElem?_eq_some_iff.1 hu).1
   rw[List.getElem?_append_left (by omega)]
   simpa using hu
  | succ i=>
   simp at hx
   rw[List.getElem?_append_right (by rw[he,Nat.add_mul];omega),he]
   have:(i+1) * sz+j - sz=i * sz+j:=by rw[Nat.add_mul];omega
   rw[this]
   exact ih i x j u hx hu
theorem avl(he: ∀x,(enc x).length=sz)(hp:0 < sz): ∀(l:List α)(k:Nat)(u:Value),(l.flatMap enc)[k]? =some u->∃x,l[k / sz]? =some x/\(enc x)[k % sz]? =some u:=by
 intro l
 induction l with
 | nil=>intro k u h;simp at h
 | cons y l ih=>
  intro k u h
  rw[List.flatMap_cons,List.getElem?_append,he] at h
  split at h
  ·rename_i hk
   rw[Nat.div_eq_of_lt hk,Nat.mod_eq_of_lt hk]
   exact⟨y,rfl,h⟩
  ·rename_i hk
   obtain⟨x,h1,h2⟩:=ih _ _ h
   have hk':k=k - sz+sz:=by omega
   rw[hk',Nat.add_div_right _ hp,Nat.add_mod_right]
   exact⟨x,by simpa using h1,h2⟩
theorem Sl.cells(he: ∀x,(enc x).length=sz)(hp:0 < sz)(h:Sl w sz enc v l)(hne:l≠[]): ∃b o cap,v= .slice (some ⟨b,o,none⟩) l.length cap/\b < w.heap.size/\∀k u,(l.flatMap enc)[k]? =some u->iq w b (o+k)=some u:=by
 obtain⟨b,o,cap,hv,hb,_,_⟩:=h.at (i:=0) (by cases l with|nil=>exact absurd rfl hne|cons=>simp)
 refine⟨b,o,cap,hv,hb,fun k u hk=>?_⟩
 obtain⟨x,h1,h2⟩:=avl he hp l k u hk
 obtain⟨a,cap',hv',_,_,h3⟩:=h
 rw[hv] at hv'
 injection hv' with q _ _
 obtain⟨b',o',ha,hb',hr⟩:=h3 _ x h1
 rw[ha] at q
 injection q with q
 injection q with q1 q2 _
 subst q1 q2
 have:=hr _ u h2
 rw[Nat.add_assoc,Nat.mul_comm,Nat.div_add_mod] at this
 exact this
theorem Ow.sl{base:Nat}{e:TypeId}(he: ∀x,(enc x).length=sz)(h:Ow w base e sz enc v l):Sl w sz enc v l:=by
 cases l with
 | nil=>
  rcases h.2 with⟨rfl,_⟩|⟨g,cap,cur,hv,_,_,h1,h2,_⟩
  ·exact Sl.nil
  ·exact⟨some ⟨g,0,none⟩,cap,hv,h1,h2,fun i x h=>by simp at h⟩
 | cons y l=>
  obtain⟨g,cap,cur,hv,hg,hb,h1,h2,_⟩:=yn h (by simp)
  refine⟨some ⟨g,0,none⟩,cap,hv,h1,h2,fun i x hi=>⟨g,0,rfl,mh hb,fun j u hu=>?_⟩⟩
  rw[Nat.zero_add]
  exact yr h (by rw[hv];rfl) (adm he _ _ _ _ _ hi hu)
theorem Ow.jl{base:Nat}{e:TypeId}(h:Ow w base e sz enc v l)(hk: ∀g,v.ownBlock=some g->w'.heap[g]? =w.heap[g]?):Ow w' base e sz enc v l:=sy h hk
theorem Ow.lt{base:Nat}{e:TypeId}(h:Ow w base e sz enc v l){g:Nat}(hg:v.ownBlock=some g):base<=g/\g < w.heap.size:=by
 obtain⟨_,_,_,h1,h2,_⟩:=oe h hg
 exact⟨h1,mh h2⟩
theorem Ow.fr{base:Nat}{e:TypeId}(h:Ow w base e sz enc v l)(hf:Fr S w w')(hn: ∀g,v.ownBlock=some g->¬S g):Ow w' base e sz enc v l:=h.jl fun g hg=>hf.jl g (h.lt hg).2 (hn g hg)
theorem Ow.none{base:Nat}{e:TypeId}:Ow w base e sz enc (.slice none 0 0) ([]:List α):=⟨by simp,.inl ⟨rfl,rfl⟩⟩
theorem Ow.mono{base base':Nat}{e:TypeId}(h:Ow w base e sz enc v l)(hb:base'<=base):Ow w base' e sz enc v l:=by
 refine⟨h.1,?_⟩
 rcases h.2 with hn| ⟨g,cap,cur,hv,hg,po⟩
 ·exact .inl hn
 ·exact .inr ⟨g,cap,cur,hv,by omega,po⟩
theorem Ow.empty{base:Nat}{e:TypeId}{g:Nat}(hb:w.heap[g]? =some (.cells #[] e (0,0)))(hg:base<=g):Ow w base e sz enc (.slice (some ⟨g,0,Option.none⟩) 0 0) ([]:List α):=
 ⟨by simp,.inr ⟨g,0,#[],rfl,hg,hb,Nat.le_refl _,Nat.zero_le _,by simp,by simp⟩⟩
theorem Ow.len{base:Nat}{e:TypeId}(h:Ow w base e sz enc v l): ∃a cap,v= .slice a l.length cap/\l.length<=cap:=by
 rcases h.2 with⟨rfl,h0⟩|⟨g,cap,cur,hv,_,_,h1,_⟩
 ·exact⟨_,_,by rw[h0],by omega⟩
 ·exact⟨_,_,hv,h1⟩
variable {P : Program}
theorem ajf.jv{rd:World->Nat->Nat->α->Prop}(h:ajf w' sz rd v l){t ty:TypeId}(ht:nq P t=true)(cs:List Bool){K:KV}:biT P .len #[t] ty cs [v] w K=K (.int .i64 l.length) w:=by
 obtain⟨a,cap,rfl,_⟩:=h
 rw[vq ht]
theorem aiy{t:TypeId}(h:nq P t=true){a:Option Addr}{len cap:Nat}{lo hi:Option Value}{i j:Nat}(hlo:lo=none/\i=0\/∃k,lo=some (.int k (i:Int)))(hhi:hi=none/\j=len\/∃k,hi=some (.int k (j:Int)))(h0:i<=j)(h1:j<=cap)(w:World)(K:KV):
  slT P t (.slice a len cap) lo hi none w K=K (.slice (if cap=i then a else a.map (·.add (i * szE P t))) (j - i) (cap - i)) w:=by
 obtain⟨hu,inf,hi,hs⟩:=yx h
 rcases hlo with⟨rfl,rfl⟩|⟨k,rfl⟩ <;>rcases hhi with⟨rfl,rfl⟩|⟨k',rfl⟩ <;>
  simp[slT,jt,Instr.sliceAt,Instr.slice,Instr.sliceBounds,Instr.sliceBound,asIntOf,Sem.run_bind,ji hu,Result.andThen,Sem.run_pure,acp hi,hs,h0,h1] <;>
  first|rfl| (split <;>first|rfl|simp_all)
theorem Sl.sub{lo hi:Option Value}{i j:Nat}(hs:Sl w sz enc v l){t:TypeId}(h:nq P t=true)(hz:szE P t=sz)(hlo:lo=none/\i=0\/∃k,lo=some (.int k (i:Int)))(hhi:hi=none/\j=l.length\/∃k,hi=some (.int k (j:Int)))(h0:i<=j)(h1:j<=l.length):
  ∃v',Sl w sz enc v' ((l.drop i).take (j - i))/\(∀b,v'.ownBlock=some b->v.ownBlock=some b)/\∀w1 K,slT P t v lo hi none w1 K=K v' w1:=by
 obtain⟨a,cap,rfl,g1,g2,g3⟩:=hs
 refine⟨_,?_,?_,fun w1 K=>aiy h hlo hhi h0 (by omega) w1 K⟩
 ·have hlen:((l.drop i).take (j - i)).length=j - i:=by simp;omega
  refine⟨_,_,by rw[hlen],by omega,by omega,fun k x hk=>?_⟩
  have hk':k < j - i:=by have:=(List.getElem?_eq_some_iff.1 hk).1;omega
  rw[List.getElem?_take_of_lt hk',List.getElem?_drop] at hk
  obtain⟨b,o,rfl,hb,hr⟩:=g3 (i+k) x hk
  rw[if_neg (by omega)]
  refine⟨b,o+i * sz,by simp[Addr.add,hz],hb,?_⟩
  rw[Nat.add_assoc,<-Nat.add_mul];exact hr
 ·intro b hb
  cases a with
  | none=>split at hb <;>simp[Value.ownBlock] at hb
  | some a=>
   have: ∀k,(a.add k).block=a.block:=fun k=>by unfold Addr.add;split <;>rfl
   split at hb <;>simp_all[Value.ownBlock]
theorem bjb{t e ty:TypeId}{by':Nat}(ht:nj P t e sz by'){a a':Option Addr}{n c c':Nat}(hn:n<=c)(cs:List Bool)(w:World)(K:KV):biT P .append #[t,t] ty cs [.slice a n c,.slice a' 0 c'] w K=K (.slice a n c) w:=by
 obtain⟨i,z,hi,hz,hs,hb,hzs⟩:=ht.inf
 have hfc: ∀s,(Builtin.firstCells s 0 (.slice a' 0 c')).run P w= .ok #[] w:=by
  intro s
  cases a' with
  | none=>rfl
  | some x=>simp[Builtin.firstCells,loadCells,loadCellsFrom,Sem.run_pure]
 cases a <;>simp[biT,lz,builtin,Builtin.append_,Sem.run_bind,ji ht.ty,Result.andThen,Sem.run_pure,acp hi,Builtin.lenOf,hn,hfc,storeCells]
theorem yo{t e ty:TypeId}{by':Nat}(ht:nj P t e sz by')(he: ∀x,(enc x).length=sz)(h1: ∀x,∀u∈enc x,lc u=true){base:Nat}{v2:Value}{l2:List α}(ho:Ow w base e sz enc v l)(hs:Sl w sz enc v2 l2)
  (h63:l.length+l2.length<=1000000000) (hby:by'<=100000) (hbase:base<=w.heap.size) (cs:List Bool) {K:KV}
  (h: ∀v' w',Ow w' base e sz enc v' (l ++ l2)->Fr (fun b=>v.ownBlock=some b) w w'->(v'.ownBlock=v.ownBlock\/∃g,v'.ownBlock=some g/\w.heap.size<=g)->K v' w'):biT P .append #[t,t] ty cs [v,v2] w K:=by
 by_cases hne:l2=[]
 ·subst hne
  obtain⟨a,cap,rfl,hc⟩:=ho.len
  obtain⟨a2,cap2,rfl,_⟩:=hs
  rw[List.length_nil,bjb ht hc]
  exact h _ _ (by rw[List.append_nil];exact ho) (Fr.refl _ _) (.inl rfl)
 ·obtain⟨b,o,cap,rfl,hb,hc⟩:=hs.cells he ht.pos hne
  have hmul:(l.length+l2.length) * by'<=1000000000 * 100000:=Nat.mul_le_mul h63 hby
  refine apc ht ho (tc he l2) hc (fun u hu=>?_) (by omega) (by omega) hbase cs K fun v' w' r g _ hg=>h v' w' ?_ ⟨g.size,fun b hb hn=>g.block b hb fun he=>hn he.symm,g.tape,g.os,g.output⟩ hg
  ·obtain⟨x,_,hx⟩:=List.mem_flatMap.1 hu
   exact h1 x u hx
  ·unfold Ow;rw[List.length_append,List.flatMap_append];exact r
theorem Sl.one{e:TypeId}{x:α}{cells:Array Value}(hw:w'=w.alloc (.cells cells e))(hc:cells.toList=enc x):Sl w' sz enc (.slice (some ⟨w.heap.size,0,none⟩) 1 1) [x]:=by
 subst hw
 refine⟨some ⟨w.heap.size,0,none⟩,1,rfl,Nat.le_refl _,by decide,fun i y hi=>?_⟩
 have hi0:i=0:=by have:=(List.getElem?_eq_some_iff.1 hi).1;simpa using this
 subst hi0
 simp at hi;subst hi
 refine⟨_,0,rfl,by simp,fun j u hu=>?_⟩
 rw[ads rfl]
 rw[<-hc] at hu
 simpa using hu
def akq(P:Program)(t:TypeId):Bool:=match P.underlying t with
 | some .bool=>true
 | _=>false
theorem ayt{t:TypeId}(h:akq P t=true):P.underlying t=some .bool:=by
 unfold akq at h
 split at h
 ·assumption
 ·cases h
theorem anv{t:TypeId}(h:akq P t=true)(x y:Bool)(w:World):(Op.equal t (.bool x) (.bool y)).run P w= .ok (x == y) w:=by
 have hu:=ayt h
 unfold Op.equal Op.maxDepth Op.equalIn
 simp[Sem.run_bind,ji hu,Result.andThen,Sem.run_pure]
theorem aia{t:TypeId}(h:akq P t=true){rx ry:Operand}{x y:Bool}{K:KV}:iy P .eql t rx ry (.bool x) (.bool y) w K=K (.bool (x == y)) w:=by
 simp[iy,jt,eqGuard,binOp,Sem.run_bind,Result.andThen,Sem.run_pure,anv h]
theorem bii{t:TypeId}(h:akq P t=true){rx ry:Operand}{x y:Bool}{K:KV}:iy P .neq t rx ry (.bool x) (.bool y) w K=K (.bool !(x == y)) w:=by
 simp[iy,jt,eqGuard,binOp,Sem.run_bind,Result.andThen,Sem.run_pure,anv h]
theorem uy{t:TypeId}{rx ry:Operand}{x y:ByteArray}{K:KV}:iy P .eql t rx ry (.string x) (.string y) w K=K (.bool (x.toList == y.toList)) w:=by
 simp[iy,jt,eqGuard,binOp,Op.stringOp,Sem.run_bind,Result.andThen,Sem.run_pure]
theorem biz{t:TypeId}{rx ry:Operand}{x y:ByteArray}{K:KV}:iy P .neq t rx ry (.string x) (.string y) w K=K (.bool !(x.toList == y.toList)) w:=by
 simp[iy,jt,eqGuard,binOp,Op.stringOp,Sem.run_bind,Result.andThen,Sem.run_pure]
theorem aff{b:Nat}{e:TypeId}{f:Nat×Nat}: ∀(vs:List Value)(w:World)(i:Nat)(c:Array Value),w.heap[b]? =some (.cells c e f)->i+vs.length<=c.size->
  ∃c',(aco w b i vs).heap[b]? =some (.cells c' e f)/\c'.toList=c.toList.take i ++ vs ++ c.toList.drop (i+vs.length)/\Fr (fun g=>g=b) w (aco w b i vs):=by
 intro vs
 induction vs with
 | nil=>intro w i c h _;exact⟨c,h,by simp,Fr.refl _ _⟩
 | cons v vs ih=>
  intro w i c h hl
  simp only[List.length_cons] at hl
  have h':(w.setCell ⟨b,i,none⟩ v).heap[b]? =some (.cells (c.setIfInBounds i v) e f):=by rw[tj,if_pos rfl,h];rfl
  obtain⟨c',g1,g2,g3⟩:=ih (w.setCell ⟨b,i,none⟩ v) (i+1) _ h' (by simp;omega)
  refine⟨c',g1,?_,((Fr.refl (fun g=>g=b) w).setCell (.inl rfl) i v).trans g3⟩
  rw[g2,Array.toList_setIfInBounds]
  apply List.ext_getElem?
  intro k
  simp only[List.getElem?_append,List.getElem?_take,List.getElem?_drop,List.length_append,List.length_take,List.length_set,List.length_cons,Array.length_toList,List.getElem?_set]
  rw[Nat.min_eq_left (by omega),Nat.min_eq_left (by omega)]
  by_cases h1:k < i
  ·rw[if_pos (by omega),if_pos (by omega),if_pos (by omega),if_neg (by omega),if_pos (by omega),if_pos h1,if_pos h1]
  ·by_cases h2:k=i
   ·subst h2
    rw[if_pos (by omega),if_pos (by omega),if_pos (by omega),if_pos rfl,if_pos (by omega),if_pos (by omega),if_neg (by omega)]
    simp
   ·by_cases h3:k < i+1+vs.length
    ·rw[if_pos (by omega),if_neg (by omega),if_pos (by omega),if_neg (by omega)]
     have:k - i=k - (i+1)+1:=by omega
     rw[this,List.getElem?_cons_succ]
    ·rw[if_neg (by omega),if_neg (by omega),if_neg (by omega)]
     congr 1;omega
theorem kg{b:Nat}{c:Array Value}{e:TypeId}{vs:List Value}(hb:w.heap[b]? =some (.cells c e (0,0)))(hl:vs.length=c.size)(h1: ∀u∈vs,lc u=true){K:KV}
  (h: ∀w',w'.heap[b]? =some (.cells vs.toArray e (0,0))->Fr (fun g=>g=b) w w'->K undef w'):stN P b 0 vs w K:=by
 rw[atl vs fun k u hk=>by
  have hk':=(List.getElem?_eq_some_iff.1 hk).1
  rw[Nat.zero_add]
  exact⟨by rw[iw hb,Array.getElem?_eq_getElem (by omega)];rfl,mi hb k,h1 _ (List.mem_of_getElem? hk)⟩]
 obtain⟨c',g1,g2,g3⟩:=aff vs w 0 c hb (by omega)
 refine h _ ?_ g3
 rw[g1]
 have:c'=vs.toArray:=by
  apply Array.toList_inj.1
  rw[g2];simp[hl]
 rw[this]
theorem abf{b i:Nat}{u0 u1:Value}(h0:iq w b i=some u0)(h1:iq w b (i+1)=some u1)(K:KV):ldN P 2 b i w K=K (.agg #[u0,u1]) w:=
 tk [u0,u1] 2 rfl (fun k v hk=>by
  match k with
  | 0=>simp at hk;subst hk;exact h0
  | 1=>simp at hk;subst hk;exact h1
  | k+2=>simp at hk) K
end
open Go.ChangeMaps (setBlock)
theorem qq.mem{k:IntKind}{es:List MapEntry}{m:MP}(h:qq k es m): ∀e∈es,∃x,e.key= .int k x/\(x,e.val)∈m:=by
 induction h with
 | nil=>intro e he;cases he
 | cons _ ih=>
  intro e he
  rcases List.mem_cons.1 he with rfl|he
  ·exact⟨_,rfl,List.mem_cons_self ..⟩
  ·obtain⟨x,h1,h2⟩:=ih e he
   exact⟨x,h1,List.mem_cons_of_mem _ h2⟩
theorem qq.bsg{k:IntKind}{es:List MapEntry}{m:MP}(h:qq k es m): ∀p∈m,∃e∈es,e.key= .int k p.1/\e.val=p.2:=by
 induction h with
 | nil=>intro e he;cases he
 | cons _ ih=>
  intro p hp
  rcases List.mem_cons.1 hp with rfl|hp
  ·exact⟨_,List.mem_cons_self ..,rfl,rfl⟩
  ·obtain⟨e,h1,h2⟩:=ih p hp
   exact⟨e,List.mem_cons_of_mem _ h1,h2⟩
theorem qq.inj{k:IntKind}{es:List MapEntry}{m:MP}(h:qq k es m)(hn:(jp m).Nodup): ∀e∈es,∀e'∈es,e.key=e'.key->e=e':=by
 induction h with
 | nil=>intro e he;cases he
 | @cons x v b es m h ih=>
  simp only[jp,List.map_cons,List.nodup_cons] at hn
  have hno: ∀e∈es,e.key≠ .int k x:=fun e he hk=>by
   obtain⟨y,h1,h2⟩:=h.mem e he
   rw[hk] at h1
   injection h1 with _ h1
   exact hn.1 (by rw[h1];exact List.mem_map_of_mem h2)
  intro e he e' he' hk
  rcases List.mem_cons.1 he with rfl|he <;>rcases List.mem_cons.1 he' with rfl|he'
  ·rfl
  ·exact absurd hk.symm (hno e' he')
  ·exact absurd hk (hno e he)
  ·exact ih hn.2 e he e' he' hk
theorem ue{α β:Type}{f:α->β}: ∀{l:List α},(l.map f).Nodup->∀{a b:α},a∈l->b∈l->f a=f b->a=b
 | [],_,_,_,h,_,_=>by cases h
 | c :: l,hn,a,b,ha,hb,he=>by
  rw[List.map_cons,List.nodup_cons] at hn
  rcases List.mem_cons.1 ha with ha1|ha1 <;>rcases List.mem_cons.1 hb with hb1|hb1
  ·rw[ha1,hb1]
  ·exact absurd (by rw[<-ha1,he];exact List.mem_map_of_mem hb1) hn.1
  ·exact absurd (by rw[<-hb1,<-he];exact List.mem_map_of_mem ha1) hn.1
  ·exact ue hn.2 ha1 hb1 he
def ya(w:World)(it r:Nat)(k:IntKind)(m:MP)(done:List Int):Prop:= ∃(es:Array MapEntry)(clk since c0:Nat)(ka:Array Nat),w.heap[it]? =some (.mapIter (some r) since ka c0)/\w.heap[r]? =some (.map es clk)/\qq k es.toList m/\abn es.toList clk/\
 (∀e∈es.toList,e.born < since)/\since<=c0/\since<=clk/\(∀e∈es.toList,∀x,e.key= .int k x->(ka.contains e.born=true↔x∈done))/\ka.size=done.length/\done.Nodup/\∀x∈done,x∈jp m
def rk(w:World)(it n:Nat):Nat:=match w.heap[it]? with
 | some (.mapIter _ _ ka _)=>n - ka.size
 | _=>0
theorem xu{α:Type}[DecidableEq α]: ∀{l l':List α},l.Nodup->(∀x∈l,x∈l')->l.length<=l'.length
 | [],_,_,_=>Nat.zero_le _
 | a :: l,l',hn,hs=>by
  rw[List.nodup_cons] at hn
  have ha:=hs a (List.mem_cons_self ..)
  have:=xu (l:=l) (l':=l'.erase a) hn.2 fun x hx=>by
   rw[List.mem_erase_of_ne (fun h=>hn.1 (by rw[<-h];exact hx))]
   exact hs x (List.mem_cons_of_mem _ hx)
  rw[List.length_erase_of_mem ha] at this
  have:=List.length_pos_of_mem ha
  simp only[List.length_cons];omega
def bkg(w:World)(it r:Nat)(k:IntKind)(m:MP)(done:List Int)(x:Int)(v:Value):Prop:=ya w it r k m (x :: done)/\∃(es:Array MapEntry)(clk since:Nat)(ka:Array Nat)(e:MapEntry),w.heap[it]? =some (.mapIter (some r) since (ka.push e.born) clk)/\
 w.heap[r]? =some (.map es clk)/\e∈es.toList/\(es.toList.map (·.born)).Nodup/\e.key= .int k x/\e.val=v
section
variable {P : Program} {w w' : World} {it r : Nat} {k : IntKind} {m : MP} {done : List Int}
theorem ya.jl(h:ya w it r k m done)(h1:w'.heap[it]? =w.heap[it]?)(h2:w'.heap[r]? =w.heap[r]?):ya w' it r k m done:=by
 obtain⟨es,clk,since,c0,ka,g1,g2,po⟩:=h
 exact⟨es,clk,since,c0,ka,h1.trans g1,h2.trans g2,po⟩
theorem ya.lt(h:ya w it r k m done):it < w.heap.size/\r < w.heap.size:=by
 obtain⟨es,clk,since,c0,ka,g1,g2,po⟩:=h
 exact⟨mh g1,mh g2⟩
theorem aol{t elem:Nat}{zero:Value}(ht:ot P t k elem zero)(hm:lj w r k m){K:KV}(h: ∀w',ya w' w.heap.size r k m []->Fz w w'->K (.pointer (some ⟨w.heap.size,0,none⟩)) w'):rgT P t (.map (some r)) w K:=by
 obtain⟨⟨key,h1,h2⟩,i,h3,h4⟩:=ht
 obtain⟨es,clk,hr,he,hbn⟩:=hm
 have hlt:=mh hr
 have:=h (w.alloc (.mapIter (some r) clk #[] clk)) ⟨es,clk,clk,clk,#[],by rw[ja,if_pos rfl],by rw[ja,if_neg (by omega)];exact hr,he,hbn,hbn.2,Nat.le_refl _,Nat.le_refl _,fun e _ x _=>by simp,rfl,List.nodup_nil,fun x hx=>by cases hx⟩ ((Fr.refl _ w).alloc _)
 simpa [rgT,jt,Instr.range,Sem.run_bind,ji h1,Result.andThen,ri hr,Sem.run_pure,newObj,Sem.run] using this
theorem anb(H:ya w it r k m done)(hn:(jp m).Nodup)(ty:TypeId){K:KV}(h0:(∀p∈m,p.1∈done)->K (.tuple #[.bool false]) w)
  (h1: ∀x v w',(x,v)∈m->x∉done->bkg w' it r k m done x v->Fr (fun b=>b=it) w w'->rk w' it m.length < rk w it m.length->K (.tuple #[.bool true,.int k x,v]) w'):nxT P (.pointer (some ⟨it,0,none⟩)) false ty w K:=by
 obtain⟨es,clk,since,c0,ka,g1,g2,he,hbn,hold,hsc,hsk,hdn,hsz,hdnd,hdsub⟩:=H
 have hne:it≠r:=fun h=>by rw[h,g2] at g1;cases g1
 unfold nxT jt
 rcases run_next_at (P:=P) w ty it r since c0 ka es clk g1 g2 hold hsc with⟨hz,hrun⟩|⟨e,hel,w1,hw1,hrun⟩
 ·rw[hrun]
  refine h0 fun p hp=>?_
  obtain⟨e,hee,hk,hv⟩:=he.bsg p hp
  refine (hdn e hee p.1 hk).1 ?_
  have hl:leftOf es ka= #[]:=Array.eq_empty_of_size_eq_zero hz
  unfold leftOf at hl
  rw[Array.filter_eq_empty_iff] at hl
  have:=hl e (by simpa using hee)
  simpa using this
 ·rw[hrun]
  unfold leftOf at hel
  simp only[Array.toList_filter,List.mem_filter] at hel
  obtain⟨hee,hns⟩:=hel
  obtain⟨x,hk,hxm⟩:=he.mem e hee
  have hxd:x∉done:=fun h=>by
   have:=(hdn e hee x hk).2 h
   rw[this] at hns;cases hns
  have hi:=mh g1
  have hw1h:w1.heap=w.heap:=by rcases hw1 with rfl|rfl <;>rfl
  have hb1:(setBlock w1 it (.mapIter (some r) since (ka.push e.born) clk)).heap[it]? =some (.mapIter (some r) since (ka.push e.born) clk):=by
   show (w1.heap.setIfInBounds it _)[it]? =_
   rw[Array.getElem?_setIfInBounds_self_of_lt (by rw[hw1h];exact hi)]
  have hb2: ∀b,b≠it->(setBlock w1 it (.mapIter (some r) since (ka.push e.born) clk)).heap[b]? =w.heap[b]? :=fun b hb=>by
   show (w1.heap.setIfInBounds it _)[b]? =_
   rw[Array.getElem?_setIfInBounds_ne (Ne.symm hb),hw1h]
  have hm2:(setBlock w1 it (.mapIter (some r) since (ka.push e.born) clk)).heap[r]? =some (.map es clk):=by rw[hb2 r (Ne.symm hne)];exact g2
  have key:K (.tuple #[.bool true,.int k x,e.val]) (setBlock w1 it (.mapIter (some r) since (ka.push e.born) clk)):=by
   refine h1 x e.val _ hxm hxd ⟨⟨es,clk,since,clk,ka.push e.born,hb1,hm2,he,hbn,hold,hsk,hsk,fun e' he' y hy=>?_,by rw[Array.size_push,hsz];rfl,List.nodup_cons.2 ⟨hxd,hdnd⟩,fun y hy=>?_⟩,es,clk,since,ka,e,hb1,hm2,hee,hbn.1,hk,rfl⟩ ⟨?_,fun b _ hb=>hb2 b hb,?_,?_,?_⟩ ?_
   ·rw[List.mem_cons,<-hdn e' he' y hy]
    simp only[Array.contains_push,Bool.or_eq_true,beq_iff_eq]
    constructor
    ·rintro (h|h)
     ·exact .inr h
     ·left
      have hee':e'=e:=ue hbn.1 he' hee (by simpa using h)
      rw[hee',hk] at hy
      injection hy with _ hy
      exact hy.symm
    ·rintro (h|h)
     ·right
      subst h
      rw[he.inj hn e' he' e hee (by rw[hy,hk])]
     ·exact .inl h
   ·rcases List.mem_cons.1 hy with rfl|hy
    ·exact List.mem_map_of_mem hxm
    ·exact hdsub y hy
   ·show _<=(w1.heap.setIfInBounds it _).size
    simp[hw1h]
   ·rcases hw1 with rfl|rfl <;>rfl
   ·rcases hw1 with rfl|rfl <;>rfl
   ·rcases hw1 with rfl|rfl <;>rfl
   ·have hlen:=xu (l:=x :: done) (l':=jp m) (List.nodup_cons.2 ⟨hxd,hdnd⟩) fun y hy=>by
     rcases List.mem_cons.1 hy with rfl|hy
     ·exact List.mem_map_of_mem hxm
     ·exact hdsub y hy
    simp only[jp,List.length_map,List.length_cons] at hlen
    simp only[rk,hb1,g1,Array.size_push,hsz]
    omega
  rw[hk]
  exact key
theorem aof{x:Int}{v:Value}(H:bkg w it r k m done x v){K:KV}:enT P (.pointer (some ⟨it,0,none⟩)) w K=K (.tuple #[.int k x,v]) w:=by
 obtain⟨_,es,clk,since,ka,e,g1,g2,g3,g4,g5,g6⟩:=H
 unfold enT jt
 rw[run_entry_at (P:=P) w it r since ka es clk e g1 g2 g3 g4,g5,g6]
theorem bou{t:TypeId}(ht:P.underlying t=some .string)(s:ByteArray)(K:KV):rgT P t (.string s) w K=K (.pointer (some ⟨w.heap.size,0,none⟩)) (w.alloc (.stringIter s 0)):=by
 simp[rgT,jt,Instr.range,Sem.run_bind,ji ht,Result.andThen,Sem.run_pure,newObj,Sem.run]
theorem bpb{s:ByteArray}{pos:Nat}(h:w.heap[it]? =some (.stringIter s pos))(ty:TypeId){K:KV}(h0: ¬pos < s.size->K (.tuple #[.bool false]) w)
  (h1:pos < s.size->∀w',w'.heap[it]? =some (.stringIter s (pos+(Utf8.decode s pos).2))->Fr (fun b=>b=it) w w'->K (.tuple #[.bool true,.int .i64 pos,.int .i32 (Utf8.decode s pos).1]) w'):nxT P (.pointer (some ⟨it,0,none⟩)) true ty w K:=by
 have hi:=mh h
 by_cases hp:pos < s.size
 ·have hr:(Instr.next (.pointer (some ⟨it,0,none⟩)) true ty).run P w= .ok (.tuple #[.bool true,.int .i64 pos,.int .i32 (Utf8.decode s pos).1]) {w with heap:=w.heap.setIfInBounds it (.stringIter s (pos+(Utf8.decode s pos).2))}:=by
   simp[Instr.next,getObj,setObj,Sem.run_bind,Sem.run,h,Result.andThen,hp,goInt]
  unfold nxT jt
  rw[hr]
  refine h1 hp _ ?_ ⟨by simp,fun b hb hn=>?_,rfl,rfl,rfl⟩
  ·show (w.heap.setIfInBounds it _)[it]? =_
   rw[Array.getElem?_setIfInBounds_self_of_lt hi]
  ·show (w.heap.setIfInBounds it _)[b]? =_
   rw[Array.getElem?_setIfInBounds_ne (fun h=>hn h.symm)]
 ·have hr:(Instr.next (.pointer (some ⟨it,0,none⟩)) true ty).run P w= .ok (.tuple #[.bool false]) w:=by
   simp[Instr.next,getObj,Sem.run,h,hp,Sem.run_bind,Result.andThen]
  unfold nxT jt
  rw[hr]
  exact h0 hp
end
section
variable {P : Program}
def acy(P:Program)(t:TypeId):Bool:=match P.underlying t with
 | some .string=>true
 | _=>false
theorem xw{t:TypeId}(h:acy P t=true):P.underlying t=some .string:=by
 unfold acy at h
 split at h
 ·assumption
 ·cases h
theorem bmh{t ty:TypeId}(h:acy P t=true)(cs:List Bool)(s:ByteArray)(w:World)(K:KV):biT P .len #[t] ty cs [.string s] w K=K (.int .i64 s.size) w:=by
 have hu:=xw h
 simp[biT,lz,builtin,Builtin.len_,Sem.run_bind,ji hu,Result.andThen,Sem.run_pure,goInt]
theorem aiv{t:TypeId}(h:acy P t=true){s:ByteArray}{lo hi:Option Value}{i j:Nat}(hlo:lo=none/\i=0\/∃k,lo=some (.int k (i:Int)))(hhi:hi=none/\j=s.size\/∃k,hi=some (.int k (j:Int)))(h0:i<=j)(h1:j<=s.size)(w:World)(K:KV):
  slT P t (.string s) lo hi none w K=K (.string (s.extract i j)) w:=by
 have hu:=xw h
 rcases hlo with⟨rfl,rfl⟩|⟨k,rfl⟩ <;>rcases hhi with⟨rfl,rfl⟩|⟨k',rfl⟩ <;>
  simp[slT,jt,Instr.sliceAt,Instr.slice,Instr.sliceBounds,Instr.sliceBound,asIntOf,Sem.run_bind,ji hu,Result.andThen,Sem.run_pure,h0,h1]
theorem ajl(s:ByteArray)(i:Nat):1<=(Utf8.decode s i).2:=by
 unfold Utf8.decode
 simp only
 repeat' split
 all_goals simp
theorem zm(fn:Fn)(f c:List Value)(w:World)(K:KV):aah P fn f c w K=K (.func fn f.toArray c.toArray) w:=Eq.trans rfl rfl
theorem bia(f:FuncId)(a c:List Value)(args:List Value)(w:World)(K:KV):aax P (.func (.func f) a.toArray c.toArray) args w K=ik P f (a ++ args ++ c) w K:=by
 simp[aax,ik,lz,Deferred.ofValue,invoke]
end
structure Asn where
 ok:World->(Nat->Prop)->Prop
 jl: ∀{w w':World}{B S:Nat->Prop},ok w B->Fr S w w'->(∀b,B b->¬S b)->ok w' B
def Rs:List Asn->World->(Nat->Prop)->Prop
 | [],_,_=>True
 | a :: L,w,U=> ∃B,a.ok w B/\(∀b,B b->U b)/\Rs L w fun b=>U b/\¬B b
section
variable {w w' w0 : World} {U U' V S : Nat → Prop} {a b c d e : Asn} {L L1 L2 R : List Asn}
theorem Rs.mono: ∀{L:List Asn}{U U':Nat->Prop},Rs L w U->(∀b,U b->U' b)->Rs L w U'
 | [],_,_,_,_=>trivial
 | _ :: _,_,_,⟨B,h1,h2,h3⟩,h=>⟨B,h1,fun b hb=>h b (h2 b hb),Rs.mono h3 fun b hb=>⟨h b hb.1,hb.2⟩⟩
theorem Rs.jl: ∀{L:List Asn}{U:Nat->Prop},Rs L w U->Fr S w w'->(∀b,U b->¬S b)->Rs L w' U
 | [],_,_,_,_=>trivial
 | a :: _,_,⟨B,h1,h2,h3⟩,hf,h=>⟨B,a.jl h1 hf fun b hb=>h b (h2 b hb),h2,Rs.jl h3 hf fun b hb=>h b hb.1⟩
theorem Rs.split: ∀{L:List Asn}{V:Nat->Prop},Rs (L ++ R) w V->∃U,Rs L w U/\(∀b,U b->V b)/\Rs R w fun b=>V b/\¬U b
 | [],V,h=>⟨fun _=>False,trivial,fun _ h=>h.elim,h.mono fun _ hb=>⟨hb,fun h=>h⟩⟩
 | a :: L,V,⟨B,h1,h2,h3⟩=>by
  obtain⟨U,g1,g2,g3⟩:=Rs.split (L:=L) h3
  refine⟨fun b=>B b\/U b,⟨B,h1,fun b hb=> .inl hb,g1.mono fun b hb=>⟨.inr hb,(g2 b hb).2⟩⟩,fun b hb=>hb.elim (h2 b) fun h=>(g2 b h).1,g3.mono fun b hb=>⟨hb.1.1,fun h=>h.elim hb.1.2 hb.2⟩⟩
theorem Rs.append: ∀{L:List Asn}{U V:Nat->Prop},Rs L w U->Rs R w V->(∀b,U b->¬V b)->Rs (L ++ R) w fun b=>U b\/V b
 | [],_,_,_,h,_=>h.mono fun _ h=> .inr h
 | a :: L,U,V,⟨B,h1,h2,h3⟩,h,hd=>⟨B,h1,fun b hb=> .inl (h2 b hb),(Rs.append h3 h fun b hb=>hd b hb.1).mono fun b hb=>hb.elim (fun h=>⟨.inl h.1,h.2⟩) fun h=>⟨.inr h,fun hB=>hd b (h2 b hB) h⟩⟩
theorem Rs.perm{L L':List Asn}(hp:L.Perm L'): ∀{U:Nat->Prop},Rs L w U->Rs L' w U:=by
 induction hp with
 | nil=>exact fun _=>trivial
 | cons a _ ih=>rintro U ⟨B,h1,h2,h3⟩;exact⟨B,h1,h2,ih h3⟩
 | swap a b l=>
  rintro U ⟨B,h1,h2,C,h3,h4,h5⟩
  exact⟨C,h3,fun b hb=>(h4 b hb).1,B,h1,fun b hb=>⟨h2 b hb,fun h=>(h4 b h).2 hb⟩,h5.mono fun b hb=>⟨⟨hb.1.1,hb.2⟩,hb.1.2⟩⟩
 | trans _ _ ih1 ih2=>exact fun h=>ih2 (ih1 h)
structure St(w0 w:World)(L:List Asn):Prop where
 fr:Fz w0 w
 rs:Rs L w fun b=>w0.heap.size<=b/\b < w.heap.size
theorem St.km(w:World):St w w []:=⟨Fr.refl _ _,trivial⟩
theorem St.perm{L L':List Asn}(h:St w0 w L)(hp:L.Perm L'):St w0 w L':=⟨h.fr,h.rs.perm hp⟩
theorem St.akw(h:St w0 w (L ++ R)): ∃U,Rs L w U/\(∀b,U b->w0.heap.size<=b/\b < w.heap.size)/\∀w' L',Fr U w w'->Rs L' w' (fun b=>U b\/(w.heap.size<=b/\b < w'.heap.size))->St w0 w' (L' ++ R):=by
 obtain⟨hf,hr⟩:=h
 obtain⟨U,g1,g2,g3⟩:=hr.split
 refine⟨U,g1,g2,fun w' L' hf' hr'=>⟨hf.jw hf' fun b hb hu=>by have:=(g2 b hu).1;omega,?_⟩⟩
 have k:=g3.jl hf' fun b hb=>hb.2
 have hs:=hf.size
 have hs':=hf'.size
 refine (Rs.append hr' k fun b hb hn=>hb.elim hn.2 fun h=>by omega).mono fun b hb=>?_
 rcases hb with (h|h)|h
 ·have:=g2 b h;omega
 ·omega
 ·omega
theorem St.open(h:St w0 w (a :: R)): ∃B,a.ok w B/\(∀b,B b->w0.heap.size<=b/\b < w.heap.size)/\∀w' L',Fr B w w'->Rs L' w' (fun b=>B b\/(w.heap.size<=b/\b < w'.heap.size))->St w0 w' (L' ++ R):=by
 obtain⟨hf,B,h1,h2,h3⟩:=h
 refine⟨B,h1,h2,fun w' L' hf' hr'=>⟨hf.jw hf' fun b hb hu=>by have:=(h2 b hu).1;omega,?_⟩⟩
 have k:=h3.jl hf' fun b hb=>hb.2
 have hs:=hf.size
 have hs':=hf'.size
 refine (Rs.append hr' k fun b hb hn=>hb.elim hn.2 fun h=>by omega).mono fun b hb=>?_
 rcases hb with (h|h)|h
 ·have:=h2 b h;omega
 ·omega
 ·omega
theorem Rs.one{B:Nat->Prop}(h:a.ok w B)(hb: ∀b,B b->U b):Rs [a] w U:=⟨B,h,hb,trivial⟩
theorem St.ju(h:St w0 w R)(hf:Fz w w'):St w0 w' R:=by
 have:=h.akw (L:=[]) (R:=R)
 obtain⟨U,_,_,g⟩:=this
 exact g w' [] (hf.mono fun _ _ h=>h.elim) trivial
theorem St.add(h:St w0 w R)(hf:Fz w w'){B:Nat->Prop}(ha:a.ok w' B)(hB: ∀b,B b->w.heap.size<=b/\b < w'.heap.size):St w0 w' (a :: R):=by
 obtain⟨U,_,_,g⟩:=h.akw (L:=[]) (R:=R)
 exact g w' [a] (hf.mono fun _ _ h=>h.elim) (Rs.one ha fun b hb=> .inr (hB b hb))
theorem St.drop(h:St w0 w (a :: R)):St w0 w R:=by
 obtain⟨hf,B,h1,h2,h3⟩:=h
 exact⟨hf,h3.mono fun b hb=>hb.1⟩
theorem St.swap(h:St w0 w (a :: b :: R)):St w0 w (b :: a :: R):=h.perm (.swap _ _ _)
theorem St.amq(h:St w0 w (a :: b :: c :: R)):St w0 w (c :: a :: b :: R):=h.perm ((List.Perm.cons a (.swap c b R)).trans (.swap c a _))
theorem St.bnm(h:St w0 w (a :: b :: c :: d :: R)):St w0 w (d :: a :: b :: c :: R):=h.perm ((List.Perm.cons a ((List.Perm.cons b (.swap d c R)).trans (.swap d b _))).trans (.swap d a _))
theorem St.tail(h:St w0 w (a :: R)){R':List Asn}(hp:R.Perm R'):St w0 w (a :: R'):=h.perm (.cons a hp)
variable {α : Type}
def qa(e:TypeId)(sz:Nat)(enc:α->List Value)(v:Value)(l:List α):Asn where
 ok w B:=Ow w 0 e sz enc v l/\∀b,v.ownBlock=some b->B b
 jl h hf hn:=⟨h.1.fr hf fun g hg=>hn g (h.2 g hg),h.2⟩
def rdA(sz:Nat)(enc:α->List Value)(v:Value)(l:List α):Asn where
 ok w B:=Sl w sz enc v l/\∀b,v.ownBlock=some b->B b
 jl h hf hn:=⟨Sl.fr h.1 hf fun b hb _=>hn b (h.2 b hb),h.2⟩
def jd(b:Nat)(cs:Array Value)(e:TypeId):Asn where
 ok w B:=w.heap[b]? =some (.cells cs e (0,0))/\B b
 jl h hf hn:=⟨hf.heap h.1 (hn _ h.2),h.2⟩
def jm(r:Nat)(k:IntKind)(m:MP):Asn where
 ok w B:=(lj w r k m/\(jp m).Nodup)/\B r
 jl h hf hn:=⟨⟨h.1.1.of_heap (hf.jl r h.1.1.lt (hn _ h.2)),h.1.2⟩,h.2⟩
def ahw(L:List Asn):Asn where
 ok w B:=Rs L w B
 jl h hf hn:=h.jl hf hn
theorem St.all:St w0 w (ahw L :: R)↔St w0 w (L ++ R):=by
 constructor
 ·intro h
  obtain⟨B,h1,h2,g⟩:=h.open
  exact g w L (Fr.refl _ _) (Rs.mono h1 fun b hb=> .inl hb)
 ·intro h
  obtain⟨U,h1,h2,g⟩:=h.akw
  exact g w [ahw L] (Fr.refl _ _) ⟨U,h1,fun b hb=> .inl hb,trivial⟩
theorem St.rd{sz:Nat}{enc:α->List Value}{v:Value}{l:List α}(h:St w0 w (rdA sz enc v l :: R)):Sl w sz enc v l:=by
 obtain⟨B,h1,_⟩:=h.open
 exact h1.1
theorem St.blk{b:Nat}{cs:Array Value}{e:TypeId}(h:St w0 w (jd b cs e :: R)):w.heap[b]? =some (.cells cs e (0,0)):=by
 obtain⟨B,h1,_⟩:=h.open
 exact h1.1
theorem St.oz{b:Nat}{cs cs':Array Value}{e e':TypeId}{w':World}(h:St w0 w (jd b cs e :: R))(hf:Fr (fun x=>x=b) w w')(hb:w'.heap[b]? =some (.cells cs' e' (0,0))):St w0 w' (jd b cs' e' :: R):=by
 obtain⟨B,h1,h2,g⟩:=h.open
 exact g w' [jd b cs' e'] (hf.mono fun x _ hx=>by rw[hx];exact h1.2) (Rs.one (B:=fun x=>x=b) ⟨hb,rfl⟩ fun x hx=> .inl (by rw[hx];exact h1.2))
theorem St.row{e:TypeId}{sz:Nat}{enc:α->List Value}{v:Value}{l:List α}(h:St w0 w (qa e sz enc v l :: R))(he: ∀x,(enc x).length=sz):Sl w sz enc v l:=by
 obtain⟨B,h1,_⟩:=h.open
 exact h1.1.sl he
end
section
variable {P : Program} {t : TypeId} {rx ry : Operand} {k k2 : IntKind} {x y : Int} {w : World} {K : KV}
theorem agi(hy:0<=y):iy P .shl t rx ry (.int k x) (.int k2 y) w K=K (.int k (k.wrap (x * 2 ^ min y.toNat k.bits))) w:=by
 simp[iy,jt,eqGuard,binOp,Op.shift,Sem.run_bind,Result.andThen,Sem.run_pure,Int.not_lt.2 hy]
theorem adx(hy:0<=y):iy P .shr t rx ry (.int k x) (.int k2 y) w K=K (.int k (x.fdiv (2 ^ min y.toNat k.bits))) w:=by
 simp[iy,jt,eqGuard,binOp,Op.shift,Sem.run_bind,Result.andThen,Sem.run_pure,Int.not_lt.2 hy]
theorem ape:iy P .and t rx ry (.int k x) (.int k y) w K=K (.int k (k.wrap (BitVec.ofInt k.bits x &&& BitVec.ofInt k.bits y).toNat)) w:=by
 simp[iy,jt,eqGuard,binOp,Op.intBits,Sem.run_bind,Result.andThen,Sem.run_pure]
theorem awp:iy P .xor t rx ry (.int k x) (.int k y) w K=K (.int k (k.wrap (BitVec.ofInt k.bits x ^^^ BitVec.ofInt k.bits y).toNat)) w:=by
 simp[iy,jt,eqGuard,binOp,Op.intBits,Sem.run_bind,Result.andThen,Sem.run_pure]
theorem bdv:iy P .or t rx ry (.int k x) (.int k y) w K=K (.int k (k.wrap (BitVec.ofInt k.bits x ||| BitVec.ofInt k.bits y).toNat)) w:=by
 simp[iy,jt,eqGuard,binOp,Op.intBits,Sem.run_bind,Result.andThen,Sem.run_pure]
theorem app(hy:y≠0):iy P .quo t rx ry (.int k x) (.int k y) w K=K (.int k (k.wrap (x.tdiv y))) w:=by
 simp[iy,jt,eqGuard,binOp,Op.intDiv,Sem.run_bind,Result.andThen,Sem.run_pure,hy]
theorem axp(hy:y≠0):iy P .rem t rx ry (.int k x) (.int k y) w K=K (.int k (x.tmod y)) w:=by
 simp[iy,jt,eqGuard,binOp,Op.intDiv,Sem.run_bind,Result.andThen,Sem.run_pure,hy]
def zc(P:Program)(t:TypeId)(k:IntKind):Bool:=match P.underlying t with
 | some (.int k')=>k' == k
 | _=>false
theorem aqn(h:zc P t k=true):P.underlying t=some (.int k):=by
 unfold zc at h
 split at h
 ·rename_i k' hk;rw[hk,beq_iff_eq.1 h]
 ·cases h
theorem pw{s d:TypeId}{ks kd:IntKind}(hs:zc P s ks=true)(hd:zc P d kd=true):cvT P s d (.int k x) w K=K (.int kd (kd.wrap x)) w:=by
 simp[cvT,jt,convert,Sem.run_bind,ji (aqn hs),ji (aqn hd),Result.andThen,Conv.intToInt,Sem.run_pure]
theorem bmv(h:acy P t=true){s:ByteArray}{i:Nat}(hi:i < s.size):ixT P t (.string s) (.int k (i:Int)) w K=K (.int .u8 ((s.get! i).toNat:Nat)) w:=by
 have hu:P.underlying t=some .string:=xw h
 have hg:s[i]? =some (s.get! i):=by
  rw[getElem?_pos s i hi]
  have e:s.get! i=s[i]'hi:=by
   simp[ByteArray.get!,getElem!_pos,hi]
   rfl
  rw[e]
 simp[ixT,jt,Instr.index,asIntOf,Sem.run_bind,ji hu,Result.andThen,Sem.run_pure,hg]
theorem za{n:Nat}(h:n < 18446744073709551616):IntKind.u64.wrap (n:Int)=n:=mu (by omega) (by omega)
theorem axs{n:Nat}(h:n < 9223372036854775808):IntKind.i64.wrap (n:Int)=n:=jc
theorem bqf{n:Nat}(h:n < 256):IntKind.u8.wrap (n:Int)=n:=by
 show (if (false && decide ((n:Int) % 256≥128))=true then (n:Int) % 256 - 256 else (n:Int) % 256)=n
 simp;omega
theorem acx{n:Nat}(h:n < 18446744073709551616):(BitVec.ofInt 64 (n:Int)).toNat=n:=by
 rw[BitVec.toNat_ofInt];omega
theorem apb(x n:Nat):((x:Nat):Int).fdiv (2 ^ n)=((x / 2 ^ n:Nat):Int):=by
 have:((2:Int) ^ n)=((2 ^ n:Nat):Int):=by simp
 rw[this,Int.fdiv_eq_ediv_of_nonneg _ (Int.natCast_nonneg _)];rfl
end
theorem avk{x:Nat}(h:256<=x):Sort.bitsLen x=8+Sort.bitsLen (x / 256):=by
 apply Nat.le_antisymm
 ·rw[Sort.bitsLen_le_iff,Nat.pow_add]
  have:=Sort.lt_two_pow_bitsLen (x / 256)
  omega
 ·have hx:=Sort.lt_two_pow_bitsLen x
  have h8:8<=Sort.bitsLen x:=by
   have: ¬Sort.bitsLen x<=7:=fun hle=>by
    rw[Sort.bitsLen_le_iff] at hle;omega
   omega
  have:Sort.bitsLen (x / 256)<=Sort.bitsLen x - 8:=by
   rw[Sort.bitsLen_le_iff]
   have e:Sort.bitsLen x=8+(Sort.bitsLen x - 8):=by omega
   rw[e,Nat.pow_add] at hx
   omega
  omega
theorem bpg{x y:Nat}(hx:x < 18446744073709551616)(hy:y < 18446744073709551616):(BitVec.ofInt 64 (x:Int) &&& BitVec.ofInt 64 (y:Int)).toNat<=y:=by
 rw[BitVec.toNat_and,acx hx,acx hy]
 exact Nat.and_le_right
theorem alf(z:Int):0<=IntKind.u64.wrap z/\IntKind.u64.wrap z < 18446744073709551616:=by
 have:IntKind.u64.wrap z=z % 18446744073709551616:=by
  show (if (false && decide (z % 18446744073709551616≥9223372036854775808))=true then z % 18446744073709551616 - 18446744073709551616 else z % 18446744073709551616)=_
  simp
 rw[this];omega
def apo{α:Type}(P:Program)(g:FuncId)(cap:List Value)(enc:α->Value)(Out:List α->Prop)(N:Nat)(w:World):Prop:=
 ∀(l:Nat)(J:List α->Asn)(W:World)(U:Nat->Prop)(K:KV),Fz w W->(J []).ok W U->(∀b,U b->w.heap.size<=b/\b < W.heap.size)->
  (∀(pre:List α)(x:α)(W1:World)(U1:Nat->Prop)(K1:KV),(J pre).ok W1 U1->(∀b,U1 b->w.heap.size<=b/\b < W1.heap.size)->pre.length < N->
   (∀W2 U2,(J (pre ++ [x])).ok W2 U2->(∀b,U2 b->U1 b\/(W1.heap.size<=b/\b < W2.heap.size))->Fr U1 W1 W2->K1 (.bool true) W2)->lh P (.func (.yield l) #[] #[]) [enc x] W1 K1)->
  (∀v W2 xs U2,Out xs->(J xs).ok W2 U2->Fr (fun b=>w.heap.size<=b) W W2->K v W2)->
  jy P g (.func (.yield l) #[] #[] :: cap) W K
theorem wz(w:World)(r:Nat)(o:Obj):w.putObj r o=World.setObj w r o:=rfl
section
variable {P : Program}
theorem ato{w:World}{l:Nat}{r:Loop}{args:List Value}(h:w.heap[l]? =some (.loop r))(hs:args.length=r.params.size)(K:KV):
  lh P (.func (.yield l) #[] #[]) args w K=RoundIn Fence.wide 0 P l r.fn ((r.params.zip args.toArray).foldl (fun tmps (t,a)=>tmps.setIfInBounds t a) r.tmps) r.assign r.body w fun e w''=> ∃v,e= .returned v/\K v w'':=by
 have hy:=run_yield (P:=P) (args:=args.toArray) h (by simpa using hs)
 have e1:lh P (.func (.yield l) #[] #[]) args w K=adu P (Instr.yield l args.toArray) w K:=by
  simp[lh,Deferred.ofValue,invoke]
 rw[e1]
 unfold adu
 rw[hy]
variable (tS tE tQ : TypeId)
def ap0:Array Oper:= #[{dst:=some 2,op:= .box tS (.tmp 0),type:=0,pos:= "iter.go:50",after:= #[],guard:=none},{dst:=some 4,op:= .assign (.const (.slice none 0 0)),type:=tS,pos:= "iter.go:50",after:= #[],guard:=none}]
def ap1:Array Oper:= #[{dst:=some 6,op:= .move (.tmp 1),type:=tQ,pos:= "iter.go:51",after:= #[],guard:=none}]
def ap2:Array Oper:= #[{dst:=some 5,op:= .assign (.tmp 7),type:=tE,pos:= "iter.go:51",after:= #[],guard:=none}]
def ap3:Array Oper:= #[{dst:=some 8,op:= .load tS (.tmp 2),type:=tS,pos:= "iter.go:52",after:= #[],guard:=none},
 {dst:=some 9,op:= .move (.tmp 5),type:=tE,pos:= "iter.go:52",after:= #[],guard:=none},
 {dst:=some 10,op:= .buildSlice tS 1 #[(0,.tmp 9)],type:=tS,pos:= "iter.go:52",after:= #[{on:=1,ground:= .data}],guard:=none},
 {dst:=some 11,op:= .call {callee:= .builtin .append,args:= #[.tmp 8,.tmp 10],argTypes:= #[tS,tS]},type:=tS,pos:= "iter.go:52",after:= #[{on:=0,ground:= .data},{on:=2,ground:= .data}],guard:=none},
 {dst:=none,op:= .store tS (.tmp 2) (.tmp 11),type:=0,pos:= "iter.go:52",after:= #[{on:=3,ground:= .data},{on:=3,ground:= .chain},{on:=0,ground:= .phase},{on:=1,ground:= .phase},{on:=2,ground:= .phase},{on:=3,ground:= .phase}],guard:=none}]
def ap4:Array Oper:= #[{dst:=some 12,op:= .load tS (.tmp 2),type:=tS,pos:= "iter.go:54",after:= #[],guard:=none},
 {dst:=some 4,op:= .assign (.tmp 12),type:=tS,pos:= "iter.go:54",after:= #[{on:=0,ground:= .data},{on:=0,ground:= .phase}],guard:=none}]
def aca:Code:= .region 2 (ap2 tE) false
def ajp:Code:= .block 1 (.region 3 (ap3 tS tE) false)
def bdx(asg body:Code):Code:= .seq (.region 0 (ap0 tS) false) (.seq (.seq (.region 1 (ap1 tQ) false) (.block 0 (.rangeFunc (.tmp 6) #[7] asg body))) (.seq (.region 4 (ap4 tS) false) .ret))
variable {tS tE tQ} {asg body : Code}
structure bol{α:Type}(P:Program)(tS tE:TypeId)(enc:α->Value)(ec:α->List Value)(sz by':Nat):Prop where
 et:nj P tS tE sz by'
 by5:by'<=100000
 ld: ∀(b i:Nat)(w:World)(K:KV),ldT P tS (.pointer (some ⟨b,i,none⟩)) w K=ld1 P b i w K
 st: ∀(b i:Nat)(a:Option Addr)(n c:Nat)(w:World)(K:KV),stT P tS (.pointer (some ⟨b,i,none⟩)) (.slice a n c) w K=st1 P b i (.slice a n c) w K
 bs: ∀(x:α)(w:World)(K:KV),bsT P tS 1 #[(0,enc x)] w K=K (.slice (some ⟨w.heap.size,0,none⟩) 1 1) (w.alloc (.cells (ec x).toArray tE))
 len: ∀x:α,(ec x).length=sz
 one: ∀x:α,∀u∈ec x,lc u=true
 ne:tS≠tE
def ach(asg body:Code)(fn:FuncId)(tmps:Array Value)(D:Nat)(st:LoopState):Loop:={state:=st,pending:=none,fn,tmps,params:= #[7],assign:=asg,body:=body,defers:=D}
def apJ{α:Type}(asg body:Code)(tS tE:TypeId)(ec:α->List Value)(sz:Nat)(fn:FuncId)(tmps:Array Value)(base Bs l D:Nat)(st:LoopState)(pre:List α):Asn where
 ok W U:=(∃v,W.heap[Bs]? =some (.cells #[v] tS (0,0))/\Ow W base tE sz ec v pre/\∀g,v.ownBlock=some g->U g)/\W.heap[l]? =some (.loop (ach asg body fn tmps D st))/\W.heap[D]? =some (.deferred (some []))/\U Bs/\U l/\U D
 jl:=by
  rintro w w' B S ⟨⟨v,h1,h2,h3⟩,h4,h5,h6,h7,h8⟩ hf hn
  exact⟨⟨v,hf.heap h1 (hn _ h6),h2.fr hf fun g hg=>hn g (h3 g hg),h3⟩,hf.heap h4 (hn _ h7),hf.heap h5 (hn _ h8),h6,h7,h8⟩
def bdn{α:Type}(P:Program)(asg body:Code)(tS tE:TypeId)(enc:α->Value)(ec:α->List Value)(sz:Nat):Prop:=
 ∀{fn:FuncId}{tmps:Array Value}{base Bs l D:Nat},tmps.size=13->tmps.getD 2 undef= .pointer (some ⟨Bs,0,none⟩)->
  ∀{pre:List α}{x:α}{W1:World}{U1:Nat->Prop},(apJ asg body tS tE ec sz fn tmps base Bs l D .ready pre).ok W1 U1->(∀b,U1 b->base<=b/\b < W1.heap.size)->base<=W1.heap.size->pre.length < 60000->∀{K1:KV},
  (∀W2 U2,(apJ asg body tS tE ec sz fn tmps base Bs l D .ready (pre ++ [x])).ok W2 U2->(∀b,U2 b->U1 b\/(W1.heap.size<=b/\b < W2.heap.size))->Fr U1 W1 W2->K1 (.bool true) W2)->
  lh P (.func (.yield l) #[] #[]) [enc x] W1 K1
theorem bhj{α:Type}{enc:α->Value}{ec:α->List Value}{sz by':Nat}(T:bol P tS tE enc ec sz by'):bdn P (aca tE) (ajp tS tE) tS tE enc ec sz:=by
 intro fn tmps base Bs l D hsz ht2 pre x W1 U1 hJ hU hb hlen K1 h
 obtain⟨⟨v,h1,h2,h3⟩,h4,h5,h6,h7,h8⟩:=hJ
 rw[ato h4 rfl]
 have hBl:Bs≠l:=fun e=>by rw[e,h4] at h1;cases h1
 have hDl:D≠l:=fun e=>by rw[e,h4] at h5;cases h5
 have hDB:D≠Bs:=fun e=>by rw[e,h1] at h5;cases h5
 have hgl: ∀g,v.ownBlock=some g->g≠l/\g≠D/\g≠Bs:=fun g hg=>by
  obtain⟨_,cur,_,_,hc,_⟩:=oe h2 hg
  refine⟨fun e=>?_,fun e=>?_,fun e=>?_⟩
  ·rw[e,h4] at hc;cases hc
  ·rw[e,h5] at hc;cases hc
  ·rw[e,h1] at hc;injection hc with hc;injection hc with _ hc _;exact T.ne hc
 refine roundIn_of_wpIn (F:=Fence.wide) (n:=0) trivial ?_
 -- the assignment
 show (aca tE).wpIn (vh (some l)) 0 P _ _ W1
 have e0:RdI 13 [2,7] [] {tmps:=((#[7]:Array Nat).zip #[enc x]).foldl (fun tmps (t,a)=>tmps.setIfInBounds t a) tmps,defers:=[]} (fun t=>if t=7 then enc x else .pointer (some ⟨Bs,0,none⟩)):=by
  refine⟨by simpa using hsz,rfl,fun t ht=>?_⟩
  simp only[List.contains_cons,List.contains_nil,Bool.or_false,Bool.or_eq_true,beq_iff_eq] at ht
  rcases ht with rfl|rfl
  ·simpa using ht2
  ·simp[hsz]
 refine wpIn_region (F:=vh (some l)) (xn (n:=13) (r:=some l) (ops:=ap2 tE) (ds:=[]) (e0:=fun t=>if t=7 then enc x else .pointer (some ⟨Bs,0,none⟩)) _ [2,7] _ _ W1 (fun e w=>e 2= .pointer (some ⟨Bs,0,none⟩)/\e 5=enc x/\w=W1) rfl e0 (fun _ _=>rfl) ⟨rfl,rfl,rfl⟩ fun a1 e1 w1 hR1 _ he1=>?_)
 obtain⟨hq2,hq5,rfl⟩:=he1
 have hbr:=run_beginRound (P:=P) h4 rfl
 refine⟨_,hbr,?_⟩
 rw[wz]
 have hl:=mh h4
 generalize hw2:World.setObj w1 l (.loop {ach (aca tE) (ajp tS tE) fn tmps D .ready with state:= .busy})=w2
 have f2:Fr (fun b=>b=l) w1 w2:=by rw[<-hw2];exact (Fr.refl (fun b=>b=l) w1).setObj (.inl rfl) _
 have k4:w2.heap[l]? =some (.loop {ach (aca tE) (ajp tS tE) fn tmps D .ready with state:= .busy}):=by rw[<-hw2,qj _ _ _ _ hl,if_pos rfl]
 have k1:w2.heap[Bs]? =some (.cells #[v] tS (0,0)):=f2.heap h1 fun e=>hBl e
 have k5:w2.heap[D]? =some (.deferred (some [])):=f2.heap h5 fun e=>hDl e
 have k2:=h2.fr f2 fun g hg e=>(hgl g hg).1 e
 have hs2:w1.heap.size<=w2.heap.size:=f2.size
 refine wpIn_block ?_
 refine wpIn_region (F:=vh (some l)) (xn (n:=13) (r:=some l) (ops:=ap3 tS tE) (ds:=[]) (e0:=e1) _ [2,5] _ e1 w2 (fun e w=> ∃v',w.heap[Bs]? =some (.cells #[v'] tS (0,0))/\Ow w base tE sz ec v' (pre ++ [x])/\(∀g,v'.ownBlock=some g->v.ownBlock=some g\/(w2.heap.size<=g/\g < w.heap.size))/\Fr (fun b=>v.ownBlock=some b\/b=Bs) w2 w) rfl ⟨hR1.1,hR1.2.1,fun t ht=>?_⟩ (fun _ _=>rfl) ?_ fun a3 e3 w3 hR3 _ he3=>?_)
 ·refine hR1.2.2 t ?_
  show (xq (ap2 tE) [2,7] (List.range (ap2 tE).size)).contains t=true
  simp only[List.contains_cons,List.contains_nil,Bool.or_false,Bool.or_eq_true,beq_iff_eq] at ht
  rcases ht with rfl|rfl <;>rfl
 ·-- the body's region
  have hreg: ∀K:KE,aec P (ap3 tS tE) (List.range (ap3 tS tE).size) e1 w2 K=ldT P tS (e1 2) w2 fun t8 w=>bsT P tS 1 #[(0,e1 5)] w fun t10 w=>biT P .append #[tS,tS] tS [false,false] [t8,t10] w fun t11 w=>stT P tS (e1 2) t11 w fun _ w=>K (upd (upd (upd (upd e1 8 t8) 9 (e1 5)) 10 t10) 11 t11) w:=fun K=>rfl
  rw[hreg,hq2,hq5,T.ld,aoc (v:=v) (by rw[iw k1];rfl),T.bs]
  have fa:Fz w2 (w2.alloc (.cells (ec x).toArray tE)):=(Fr.refl _ w2).alloc _
  refine yo T.et T.len T.one (k2.fr fa fun _ _ h=>h) (Sl.one (x:=x) rfl rfl) (by simp;omega) T.by5 (by simp;omega) _ fun v' w4 o4 f4 g4=>?_
  obtain⟨a',c',hv',_⟩:=o4.len
  have f24:Fr (fun b=>v.ownBlock=some b) w2 w4:=(fa.mono fun _ _ h=>h.elim).trans f4
  have k14:w4.heap[Bs]? =some (.cells #[v] tS (0,0)):=f24.heap k1 fun e=>(hgl Bs e).2.2 rfl
  have hst: ∀K:KV,stT P tS (.pointer (some ⟨Bs,0,none⟩)) v' w4 K=K undef (w4.setCell ⟨Bs,0,none⟩ v'):=fun K=>by
   rw[hv',T.st]
   exact ael (by rw[iw k14];rfl) (mi k14 0) rfl K
  rw[hst]
  have fs:Fr (fun b=>b=Bs) w4 (w4.setCell ⟨Bs,0,none⟩ v'):=(Fr.refl (fun b=>b=Bs) w4).setCell (.inl rfl) _ _
  refine⟨v',nl k14,o4.fr fs fun g hg e=>?_,fun g hg=>?_,(f24.mono fun _ _ h=> .inl h).trans (fs.mono fun _ _ h=> .inr h)⟩
  ·subst e
   obtain⟨_,cur,_,_,hc,_⟩:=oe o4 hg
   rw[k14] at hc;injection hc with hc;injection hc with _ hc _;exact T.ne hc
  ·rcases g4 with g4| ⟨y,q1,q2⟩
   ·exact .inl (by rw[<-g4];exact hg)
   ·rw[hg] at q1;cases q1
    have:=(o4.lt hg).2
    simp at q2
    exact .inr ⟨by omega,by rw[yp];exact this⟩
 ·-- the round's end
  obtain⟨v',m1,m2,m3,m4⟩:=he3
  have hlv:v.ownBlock≠some l:=fun e=>(hgl l e).1 rfl
  have hDv:v.ownBlock≠some D:=fun e=>(hgl D e).2.1 rfl
  have n4:w3.heap[l]? =some (.loop {ach (aca tE) (ajp tS tE) fn tmps D .ready with state:= .busy}):=m4.heap k4 fun e=>e.elim hlv fun e=>hBl e.symm
  have n5:w3.heap[D]? =some (.deferred (some [])):=m4.heap k5 fun e=>e.elim hDv fun e=>hDB e
  have hend:=run_endRound (P:=P) none n4
  simp only[Exit.inBlock]
  refine⟨_,_,hend,.bool true,rfl,?_⟩
  rw[wz]
  have f3:Fr (fun b=>b=l) w3 (World.setObj w3 l (.loop {{ach (aca tE) (ajp tS tE) fn tmps D .ready with state:= .busy} with state:=if (none:Option Code).isNone then .ready else .done,pending:=none})):=(Fr.refl (fun b=>b=l) w3).setObj (.inl rfl) _
  have hs3:=m4.size
  refine h _ (fun b=>U1 b\/(w1.heap.size<=b/\b < w3.heap.size)) ⟨⟨v',f3.heap m1 fun e=>hBl e,m2.fr f3 fun g hg e=>?_,fun g hg=>?_⟩,by rw[qj _ _ _ _ (mh n4),if_pos rfl];rfl,f3.heap n5 fun e=>hDl e,.inl h6,.inl h7,.inl h8⟩ (fun b hb=>hb.imp id fun h=>⟨h.1,by rw[afv];exact h.2⟩) ?_
  ·subst e
   obtain⟨_,cur,_,_,hc,_⟩:=oe m2 hg
   rw[n4] at hc;cases hc
  ·rcases m3 g hg with h|h
   ·exact .inl (h3 g h)
   ·exact .inr ⟨by omega,h.2⟩
  ·exact ((f2.mono fun b _ h=>by rw[h];exact h7).trans (m4.mono fun b _ h=>h.elim (fun h=>h3 b h) fun h=>by rw[h];exact h6)).trans (f3.mono fun b _ h=>by rw[h];exact h7)
theorem aur{α:Type}{enc:α->Value}{ec:α->List Value}{sz:Nat}(T:bdn P asg body tS tE enc ec sz)(hld: ∀(b i:Nat)(w:World)(K:KV),ldT P tS (.pointer (some ⟨b,i,none⟩)) w K=ld1 P b i w K){f g:FuncId}{fn gn:Func}(hf:P.funcs[f]? =some fn)(hb:fn.body=some (bdx tS tQ asg body))(hnt:fn.ntmps=13)(hres:fn.results= #[.tmp 4])
  (hg:P.funcs[g]? =some gn) (hgn:(gn.name == "runtime.NumGoroutine")=false) (hgb:gn.body.isNone=false) {cap:List Value} {w:World} {Out:List α->Prop} (hs:apo P g cap enc Out 60000 w) {K:KV}
  (h: ∀w' v xs,Out xs->Ow w' w.heap.size tE sz ec v xs->Fz w w'->K v w'):jy P f [.slice none 0 0,.func (.func g) #[] cap.toArray] w K:=by
 refine (callsIn_wide (n:=0)).1 (callsIn_of_wp_marks (F:=Fence.wide) hf hb trivial ?_)
 rw[hnt]
 unfold bdx
 -- the slice's box
 have e0:RdI 13 [0,1] [] {tmps:= #[.slice none 0 0,.func (.func g) #[] cap.toArray] ++ Array.replicate (13 - 2) undef,defers:=[]} (fun t=>if t=0 then .slice none 0 0 else .func (.func g) #[] cap.toArray):=by
  refine⟨rfl,rfl,fun t ht=>?_⟩
  simp only[List.contains_cons,List.contains_nil,Bool.or_false,Bool.or_eq_true,beq_iff_eq] at ht
  rcases ht with rfl|rfl <;>rfl
 refine wpIn_seq (wpIn_region (F:=vh none) (xn (n:=13) (r:=none) (ops:=ap0 tS) (ds:=[]) (e0:=fun t=>if t=0 then .slice none 0 0 else .func (.func g) #[] cap.toArray) _ [0,1] _ _ w
  (fun e w'=>e 2= .pointer (some ⟨w.heap.size,0,none⟩)/\e 1= .func (.func g) #[] cap.toArray/\w'=w.alloc (.cells #[.slice none 0 0] tS)) rfl e0 (fun _ _=>rfl) ?_ fun a1 e1 w1 hR1 _ he1=>?_))
 ·have hreg: ∀(e:Env)(K:KE),aec P (ap0 tS) (List.range (ap0 tS).size) e w K=lk P tS (e 0) w fun t2 w=>K (upd (upd e 2 t2) 4 (.slice none 0 0)) w:=fun e K=>rfl
  rw[hreg,vd]
  exact⟨rfl,rfl,rfl⟩
 obtain⟨q2,q1,rfl⟩:=he1
 refine wpIn_seq (wpIn_seq (wpIn_region (F:=vh none) (xn (n:=13) (r:=none) (ops:=ap1 tQ) (ds:=[]) (e0:=e1) _ [1,2] _ e1 _
  (fun e w'=>e 2= .pointer (some ⟨w.heap.size,0,none⟩)/\e 6= .func (.func g) #[] cap.toArray/\w'=w.alloc (.cells #[.slice none 0 0] tS)) rfl ⟨hR1.1,hR1.2.1,fun t ht=>?_⟩ (fun _ _=>rfl) ⟨q2,q1,rfl⟩ fun a2 e2 w2 hR2 _ he2=>?_)))
 ·refine hR1.2.2 t ?_
  show (xq (ap0 tS) [0,1] (List.range (ap0 tS).size)).contains t=true
  simp only[List.contains_cons,List.contains_nil,Bool.or_false,Bool.or_eq_true,beq_iff_eq] at ht
  rcases ht with rfl|rfl <;>rfl
 obtain⟨p2,p6,rfl⟩:=he2
 have ev6:a2.eval (.tmp 6)= .func (.func g) #[] cap.toArray:=by
  rw[hR2.ev (.tmp 6) fun t ht=>by cases ht;rfl];exact p6
 have t2:a2.tmps.getD 2 undef= .pointer (some ⟨w.heap.size,0,none⟩):=by
  rw[hR2.2.2 2 rfl];exact p2
 have d2:a2.defers=[]:=hR2.2.1
 refine wpIn_block (wpIn_rangeFunc fun fn' hfn=>?_)
 generalize hw0:w.alloc (.cells #[.slice none 0 0] tS)=W0
 have f0:Fz w W0:=by rw[<-hw0];exact (Fr.refl _ w).alloc _
 have s0:W0.heap.size=w.heap.size+1:=by rw[<-hw0];simp
 have b0:W0.heap[w.heap.size]? =some (.cells #[.slice none 0 0] tS (0,0)):=by rw[<-hw0,ja,if_pos rfl]
 generalize hw1:(W0.alloc (.deferred (some []))).alloc (.loop (ach asg body fn' a2.tmps W0.heap.size .ready))=W1
 have f1:Fz W0 W1:=by rw[<-hw1];exact ((Fr.refl _ W0).alloc _).alloc _
 have s1:W1.heap.size=W0.heap.size+2:=by rw[<-hw1];simp
 have bD:W1.heap[W0.heap.size]? =some (.deferred (some [])):=by rw[<-hw1,ja,if_neg (by simp),ja,if_pos rfl]
 have bl:W1.heap[W0.heap.size+1]? =some (.loop (ach asg body fn' a2.tmps W0.heap.size .ready)):=by rw[<-hw1,ja,if_pos (by simp)]
 have hcf: ∀args w,(callFunc g args).run P w= .ok (.enter g args) w:=fun args w=>by
  unfold callFunc
  simp only[Sem.run_bind,program]
  rw[show Sem.run P (Sem.program Sem.pure) w=Result.ok P w from rfl]
  simp only[Result.andThen,hg,hgn,hgb,Bool.false_eq_true,if_false,Sem.run_pure]
 refine⟨W0.heap.size+1,[{target:= .collected W0.heap.size,args:= #[]}],W1,{target:= .fn (.func g) cap.toArray,args:= #[.func (.yield (W0.heap.size+1)) #[] #[]]},W1,g,
  #[.func (.yield (W0.heap.size+1)) #[] #[]] ++ cap.toArray,W1,?_,?_,fun _ _=>trivial,?_,fun h=>by simp[Fence.wide] at h,?_⟩
 ·rw[<-hw1];exact run_enterLoop_outer _ _ _ _ _
 ·have evc: ∀v,a2.eval (.const v)=v:=fun _=>rfl
  simp[resolve,rangeCall,ev6,evc,Deferred.ofValue]
 ·simp[invoke,hcf]
 ·have hcall:jy P g (.func (.yield (W0.heap.size+1)) #[] #[] :: cap) W1 fun v w'=>rangePost Fence.wide 0 P (W0.heap.size+1) (Exit.inBlock 0 (Exit.then ((Code.seq (.region 4 (ap4 tS) false) .ret).wpIn Fence.wide 0 P (bodyPostM Fence.wide 0 P fn fun e w'=> ∃v,e= .returned v/\K v w')) (bodyPostM Fence.wide 0 P fn fun e w'=> ∃v,e= .returned v/\K v w'))) {a2 with defers:=[{target:= .collected W0.heap.size,args:= #[]}] ++ a2.defers} (.returned v) w':=by
   refine hs (W0.heap.size+1) (fun pre=>apJ asg body tS tE ec sz fn' a2.tmps w.heap.size w.heap.size (W0.heap.size+1) W0.heap.size .ready pre) W1 (fun b=>w.heap.size<=b/\b < W1.heap.size) _ (f0.trans f1) ⟨⟨.slice none 0 0,f1.heap b0 fun h=>h,Ow.none,fun g hg=>by simp[Value.ownBlock] at hg⟩,bl,bD,by omega,by omega,by omega⟩ (fun b hb=>hb) (fun pre x V U1 K1 hJ hU hlen hk=>?_) fun v W2 xs U2 hout hJ f2=>?_
   ·have hsV:w.heap.size<=V.heap.size:=by
     have:=hU _ hJ.2.2.2.1
     omega
    exact T hR2.1 t2 hJ hU hsV hlen hk
   ·obtain⟨⟨v',h1,h2,h3⟩,h4,h5,h6,h7,h8⟩:=hJ
    have hend:=run_endLoop (P:=P) h4 (by simp[ach])
    refine⟨_,_,hend,?_⟩
    rw[wz]
    have hBl:w.heap.size≠W0.heap.size+1:=by omega
    generalize hw3:World.setObj W2 (W0.heap.size+1) (.loop {ach asg body fn' a2.tmps W0.heap.size .ready with state:= .exhausted})=W3
    have f3:Fr (fun b=>b=W0.heap.size+1) W2 W3:=by rw[<-hw3];exact (Fr.refl (fun b=>b=W0.heap.size+1) W2).setObj (.inl rfl) _
    have k1:W3.heap[w.heap.size]? =some (.cells #[v'] tS (0,0)):=f3.heap h1 hBl
    have k5:W3.heap[W0.heap.size]? =some (.deferred (some [])):=f3.heap h5 (by omega)
    have k2:=h2.fr f3 fun g hg e=>by
     obtain⟨_,cur,_,_,hc,_⟩:=oe h2 hg
     rw[e,h4] at hc;cases hc
    simp only[Exit.inBlock,Exit.then,ach]
    rw[d2]
    refine wpIn_seq (wpIn_region (F:=vh none) (xn (n:=13) (r:=none) (ops:=ap4 tS) (ds:=[{target:= .collected W0.heap.size,args:= #[]}]) (e0:=e2) _ [2] _ e2 W3
     (fun e w'=>e 4=v'/\w'=W3) rfl ⟨hR2.1,rfl,fun t ht=>?_⟩ (fun _ _=>rfl) ?_ fun a4 e4 w4 hR4 _ he4=>?_))
    ·simp only[List.contains_cons,List.contains_nil,Bool.or_false,beq_iff_eq] at ht
     subst ht
     exact hR2.2.2 2 rfl
    ·have hreg: ∀(e:Env)(K:KE),aec P (ap4 tS) (List.range (ap4 tS).size) e W3 K=ldT P tS (e 2) W3 fun t12 w=>K (upd (upd e 12 t12) 4 t12) w:=fun e K=>rfl
     rw[hreg,p2,hld,aoc (v:=v') (by rw[iw k1];rfl)]
     exact⟨rfl,rfl⟩
    ·obtain⟨q4,rfl⟩:=he4
     refine wpIn_ret ?_
     show LeavesInM Fence.wide 0 P fn a4.tmps _ a4.defers .returning w4
     rw[hR4.2.1]
     refine⟨by simp,.inl ⟨_,_,rfl,run_takeDeferred k5,?_⟩⟩
     rw[wz]
     have t4:a4.tmps.getD 4 undef=v':=by rw[hR4.2.2 4 rfl];exact q4
     have fz:Fr (fun b=>b=W0.heap.size) w4 (World.setObj w4 W0.heap.size (.deferred none)):=(Fr.refl (fun b=>b=W0.heap.size) w4).setObj (.inl rfl) _
     refine⟨v',?_,v',rfl,h _ v' xs hout (k2.fr fz fun g hg e=>?_) ?_⟩
     ·have:=results_tmp (P:=P) (fn:=fn) (t:=4) hres a4.tmps (World.setObj w4 W0.heap.size (.deferred none))
      rw[t4] at this
      exact this
     ·obtain⟨_,cur,_,_,hc,_⟩:=oe k2 hg
      rw[e,k5] at hc;cases hc
     ·exact (((f0.trans f1).jw f2 fun b hb h'=>by omega).jw f3 fun b hb h'=>by omega).jw fz fun b hb h'=>by omega
  have:=adh (r:=none) (n:=0 - 1) hcall
  rw[show #[Value.func (.yield (W0.heap.size+1)) #[] #[]] ++ cap.toArray=(Value.func (.yield (W0.heap.size+1)) #[] #[] :: cap).toArray from by simp]
  refine CallsIn.mono (F:=Fence.wide) this fun e w' ⟨v,he,hk⟩=>?_
  subst he
  exact hk
end
section
variable {P : Program}
theorem amy{t ty:TypeId}(h:nq P t=true)(cs:List Bool)(a:Option Addr)(n c:Nat)(w:World)(K:KV):biT P .cap #[t] ty cs [.slice a n c] w K=K (.int .i64 c) w:=by
 obtain⟨hu,_⟩:=yx h
 simp[biT,lz,builtin,Builtin.cap_,Sem.run_bind,ji hu,Result.andThen,Sem.run_pure,goInt]
theorem bbg{α:Type}{enc:α->List Value}{t tn e ty:TypeId}{sz by':Nat}{kn k:IntKind}(ht:nj P t e sz by')(htn:P.underlying tn=some (.int kn)){n:Nat}(h0:0 < n)(hn:n<=1000000000)(hby:by'<=100000){w:World}(cs:List Bool){K:KV}
  (h: ∀w' cap,n<=cap->Ow w' w.heap.size e sz enc (.slice (some ⟨w.heap.size,0,none⟩) 0 cap) ([]:List α)->Fz w w'->K (.slice (some ⟨w.heap.size,0,none⟩) n cap) w'):biT P .append #[t,tn] ty cs [.slice none 0 0,.int k n] w K:=by
 obtain⟨i,z,hi,hz,hs,hb,hzs⟩:=ht.inf
 have hsz:=ht.pos
 have hmul:n * i.bytes<=1000000000 * 100000:=Nat.mul_le_mul hn (by omega)
 have hr:=Lib.run_append_nil_zeros (P:=P) w t tn ty e i z k kn ht.ty htn hi hz n h0 (by omega) (by omega) (by omega)
 have hml:n<=maxLen:=Nat.le_trans hn (by decide)
 unfold biT lz builtin
 simp only
 rw[Sem.run_bind]
 have:(#[.slice none 0 0,.int k (n:Int)]:Array Value)=[.slice none 0 0,.int k (n:Int)].toArray:=rfl
 rw[<-this,hr]
 simp only[Result.andThen,Sem.run_pure]
 refine h _ _ (grownCap_ge w n 0 e) ⟨by simp,.inr ⟨w.heap.size,_,Builtin.zeroCells z.cells n ++ Builtin.zeroCells z.cells (grownCap w n 0 e - n),rfl,Nat.le_refl _,?_,Nat.zero_le _,grownCap_le_maxLen w n 0 e hml,?_,by simp⟩⟩ ?_
 ·exact heap_alloc_new w.drew _
 ·have hge:=grownCap_ge w n 0 e
  simp only[Array.size_append,size_zeroCells,hzs,<-Nat.add_mul]
  congr 1
  omega
 ·exact ((Fr.refl (fun _=>False) w).dr 1).alloc _
end
section
variable {α : Type} {enc : α → List Value} {sz : Nat} {P : Program}
variable {w0 w : World} {R : List Asn} {v : Value} {l : List α} {e : TypeId}
theorem St.akx(S:St w0 w (qa e sz enc v l :: R)){k:Nat}(hk:k < l.length): ∃b cap cur,v= .slice (some ⟨b,0,none⟩) l.length cap/\w.heap[b]? =some (.cells cur e (0,0))/\l.length<=cap/\cur.size=cap * sz/\cur.toList.take (l.length * sz)=l.flatMap enc/\
  ∀w' c' l',Fr (fun y=>y=b) w w'->w'.heap[b]? =some (.cells c' e (0,0))->c'.size=cur.size->l'.length=l.length->(l'.flatMap enc).length=l.length * sz->c'.toList.take (l.length * sz)=l'.flatMap enc->St w0 w' (qa e sz enc v l' :: R):=by
 obtain⟨B,⟨h1,h2⟩,hB,cl⟩:=S.open
 obtain⟨g,cap,cur,hv,hg,hb,n1,n2,n3,n4⟩:=yn h1 (by omega)
 refine⟨g,cap,cur,hv,hb,n1,n3,n4,fun w' c' l' hf hb' hc' hl' hll ht=>cl w' [qa e sz enc v l'] (hf.mono fun y _ hy=>by rw[hy];exact h2 g (by rw[hv];rfl)) (Rs.one (B:=fun y=>v.ownBlock=some y) ⟨?_,fun b hb=>hb⟩ fun y hy=> .inl (h2 y hy))⟩
 refine⟨by rw[hl'];exact hll,.inr ⟨g,cap,c',by rw[hl'];exact hv,Nat.zero_le _,hb',by rw[hl'];exact n1,n2,by rw[hc'];exact n3,by rw[hl'];exact ht⟩⟩
theorem alj(he: ∀x,(enc x).length=sz){k:Nat}(hk:k < l.length)(x:α):(l.set k x).flatMap enc=(l.flatMap enc).take (k * sz) ++ enc x ++ (l.flatMap enc).drop (k * sz+sz):=by
 have hsplit:l=l.take k ++ l[k] :: l.drop (k+1):=by rw[<-List.drop_eq_getElem_cons hk,List.take_append_drop]
 have t1:((l.take k).flatMap enc).length=k * sz:=by rw[tc he,List.length_take,Nat.min_eq_left (by omega)]
 have e2:l.flatMap enc=(l.take k).flatMap enc ++ (enc l[k] ++ (l.drop (k+1)).flatMap enc):=by
  conv=>lhs;rw[hsplit]
  rw[List.flatMap_append,List.flatMap_cons]
 have a1:(l.flatMap enc).take (k * sz)=(l.take k).flatMap enc:=by rw[e2,List.take_left' t1]
 have a2:(l.flatMap enc).drop (k * sz+sz)=(l.drop (k+1)).flatMap enc:=by
  rw[e2,<-List.append_assoc,List.drop_left' (by rw[List.length_append,t1,he])]
 rw[a1,a2,List.set_eq_take_append_cons_drop,if_pos hk,List.flatMap_append,List.flatMap_cons,List.append_assoc]
theorem St.bqg(he: ∀x,(enc x).length=sz)(ho: ∀x,∀u∈enc x,lc u=true)(S:St w0 w (qa e sz enc v l :: R)){k:Nat}(hk:k < l.length)(x:α): ∃b cap,v= .slice (some ⟨b,0,none⟩) l.length cap/\
  ∀(K:KV),(∀w',St w0 w' (qa e sz enc v (l.set k x) :: R)->K undef w')->stN P b (0+k * sz) (enc x) w K:=by
 obtain⟨b,cap,cur,hv,hb,n1,n3,n4,cl⟩:=S.akx hk
 refine⟨b,cap,hv,fun K hK=>?_⟩
 have hk1:(k+1) * sz<=l.length * sz:=Nat.mul_le_mul_right _ hk
 have hk2:l.length * sz<=cap * sz:=Nat.mul_le_mul_right _ n1
 have hk3:(k+1) * sz=k * sz+sz:=by rw[Nat.add_mul,Nat.one_mul]
 rw[atl (enc x) fun j u hj=>by
  have hj':=(List.getElem?_eq_some_iff.1 hj).1
  rw[he] at hj'
  exact⟨by rw[iw hb,Array.getElem?_eq_getElem (by omega)];rfl,mi hb _,ho x u (List.mem_of_getElem? hj)⟩]
 obtain⟨c',g1,g2,g3⟩:=aff (enc x) w (0+k * sz) cur hb (by rw[he];omega)
 have hll:((l.set k x).flatMap enc).length=l.length * sz:=by rw[tc he,List.length_set]
 have hfl:(l.flatMap enc).length=l.length * sz:=tc he l
 refine hK _ (cl _ c' (l.set k x) g3 g1 ?_ (List.length_set ..) hll ?_)
 ·have:=congrArg List.length g2
  simp[he] at this
  omega
 ·rw[alj he hk,<-n4,g2,he]
  have hz:0+k * sz=k * sz:=Nat.zero_add _
  rw[hz]
  apply List.ext_getElem?
  intro j
  simp only[List.getElem?_take,List.getElem?_append,List.getElem?_drop,List.length_take,List.length_append,he,Array.length_toList]
  rw[Nat.min_eq_left (by omega),Nat.min_eq_left (by rw[Nat.min_eq_left (by omega)];omega)]
  by_cases h1:j < k * sz
  ·simp only[h1,if_true]
   rw[if_pos (by omega),if_pos (by omega),if_pos (by omega),if_pos (by omega)]
  ·by_cases h2:j < k * sz+sz
   ·simp only[h1,h2,if_true,if_false]
    rw[if_pos (by omega)]
   ·simp only[h1,h2,if_false]
    by_cases h3:j < l.length * sz
    ·rw[if_pos h3,if_pos (by omega)]
    ·rw[if_neg h3,if_neg (by omega)]
theorem St.ajr(he: ∀x,(enc x).length=sz)(S:St w0 w (qa e sz enc v l :: R)){k:Nat}(hk:k < l.length)(x:α){f:Nat}{u:Value}(hf:f < sz)(hx:enc x=(enc l[k]).set f u): ∃b cap,v= .slice (some ⟨b,0,none⟩) l.length cap/\
  (iq w b (k * sz+f)).isSome=true/\(∀i,qy w b i=false)/\(∀j y,(enc l[k])[j]? =some y->iq w b (k * sz+j)=some y)/\St w0 (w.setCell ⟨b,k * sz+f,none⟩ u) (qa e sz enc v (l.set k x) :: R):=by
 obtain⟨b,cap,cur,hv,hb,n1,n3,n4,cl⟩:=S.akx hk
 have hk1:(k+1) * sz<=l.length * sz:=Nat.mul_le_mul_right _ hk
 have hk2:l.length * sz<=cap * sz:=Nat.mul_le_mul_right _ n1
 have hk3:(k+1) * sz=k * sz+sz:=by rw[Nat.add_mul,Nat.one_mul]
 have hcell: ∀j y,(enc l[k])[j]? =some y->iq w b (k * sz+j)=some y:=fun j y hy=>by
  have hj:=(List.getElem?_eq_some_iff.1 hy).1
  rw[he] at hj
  have:=adm he l k l[k] j y (List.getElem?_eq_getElem hk) hy
  rw[<-n4,List.getElem?_take_of_lt (by omega)] at this
  rw[iw hb]
  simpa using this
 refine⟨b,cap,hv,?_,mi hb,hcell,?_⟩
 ·rw[iw hb,Array.getElem?_eq_getElem (by omega)];rfl
 have hll:((l.set k x).flatMap enc).length=l.length * sz:=by rw[tc he,List.length_set]
 refine cl _ (cur.setIfInBounds (k * sz+f) u) (l.set k x) ((Fr.refl (fun y=>y=b) w).setCell (.inl rfl) _ _) (nl hb) (by simp) (List.length_set ..) hll ?_
 rw[alj he hk,hx,<-n4,Array.toList_setIfInBounds]
 have e1:enc l[k]=(cur.toList.drop (k * sz)).take sz:=by
  apply List.ext_getElem?
  intro j
  have hel:(enc l[k]).length=sz:=he _
  by_cases hj:j < sz
  ·rw[List.getElem?_take_of_lt hj,List.getElem?_drop]
   have h0:(enc l[k])[j]? =some ((enc l[k])[j]'(by omega)):=List.getElem?_eq_getElem (by omega)
   have h':=hcell j _ h0
   rw[h0,<-h',iw hb];simp
  ·rw[List.getElem?_eq_none (by omega),List.getElem?_eq_none (by simp;omega)]
 rw[e1]
 apply List.ext_getElem?
 intro j
 simp only[List.getElem?_take,List.getElem?_append,List.getElem?_drop,List.length_take,List.length_append,List.getElem?_set,List.length_set,List.length_drop,Array.length_toList]
 rw[Nat.min_eq_left (by omega),Nat.min_eq_left (by omega)]
 by_cases h0:j=k * sz+f
 ·subst h0
  rw[if_pos (by omega),if_pos rfl,if_pos (by omega),if_pos (by omega),if_neg (by omega),if_pos (by omega),if_pos (by omega)]
 ·by_cases h1:j < k * sz
  ·simp only[h1,if_true]
   rw[if_pos (by omega),if_neg (by omega),if_pos (by omega),if_pos (by omega)]
  ·by_cases h2:j < k * sz+sz
   ·simp only[h1,h2,if_true,if_false]
    rw[if_pos (by omega),if_neg (by omega),if_neg (by omega),if_pos (by omega),show k * sz+(j - k * sz)=j by omega]
   ·simp only[h1,h2,if_false]
    rw[if_neg (by omega: ¬k * sz+f=j)]
    by_cases h3:j < l.length * sz
    ·rw[if_pos h3,if_pos (by omega)]
     congr 1;omega
    ·rw[if_neg h3,if_neg (by omega)]
end
section
variable {w0 w : World} {R : List Asn}
theorem St.up2{a b c:Asn}{R:List Asn}(h:St w0 w (a :: b :: c :: R)):St w0 w (c :: a :: b :: R):=h.amq
theorem St.up3{a b c d:Asn}{R:List Asn}(h:St w0 w (a :: b :: c :: d :: R)):St w0 w (d :: a :: b :: c :: R):=h.bnm
theorem St.up4{a b c d e:Asn}{R:List Asn}(h:St w0 w (a :: b :: c :: d :: e :: R)):St w0 w (e :: a :: b :: c :: d :: R):=h.perm (List.perm_middle (l₁:=[a,b,c,d]))
theorem St.dn2{a b c:Asn}{R:List Asn}(h:St w0 w (c :: a :: b :: R)):St w0 w (a :: b :: c :: R):=h.perm (List.perm_middle (l₁:=[a,b])).symm
theorem St.dn3{a b c d:Asn}{R:List Asn}(h:St w0 w (d :: a :: b :: c :: R)):St w0 w (a :: b :: c :: d :: R):=h.perm (List.perm_middle (l₁:=[a,b,c])).symm
theorem St.dn4{a b c d e:Asn}{R:List Asn}(h:St w0 w (e :: a :: b :: c :: d :: R)):St w0 w (a :: b :: c :: d :: e :: R):=h.perm (List.perm_middle (l₁:=[a,b,c,d])).symm
end
section
variable {w0 w w' : World} {R L : List Asn}
theorem wt{α:Type}{enc:α->List Value}{sz:Nat}{P:Program}{t e ty:TypeId}{by':Nat}{v v2:Value}{l l2:List α}(ht:nj P t e sz by')(he: ∀x,(enc x).length=sz)(h1: ∀x,∀u∈enc x,lc u=true)(S:St w0 w (qa e sz enc v l :: R))(hs:Sl w sz enc v2 l2)(hl:l.length+l2.length<=1000000000)(hby:by'<=100000){cs:List Bool}{K:KV}(h: ∀w' v',St w0 w' (qa e sz enc v' (l ++ l2) :: R)->K v' w'):
  biT P .append #[t,t] ty cs [v,v2] w K:=by
 obtain⟨B,⟨g1,g2⟩,hB,cl⟩:=S.open
 refine yo ht he h1 g1 hs hl hby (Nat.zero_le _) cs fun v' w' o f g=>?_
 refine h w' v' (cl w' [qa e sz enc v' (l ++ l2)] (f.mono fun x _ hx=>g2 x hx) (Rs.one (B:=fun x=>v'.ownBlock=some x) ⟨o,fun b hb=>hb⟩ fun x hx=>?_))
 rcases g with g| ⟨y,q1,q2⟩
 ·exact .inl (g2 x (by rw[<-g];exact hx))
 ·rw[hx] at q1;cases q1
  exact .inr ⟨q2,(o.lt hx).2⟩
theorem ye{α:Type}{enc:α->List Value}{sz:Nat}{e:TypeId}(S:St w0 w R):St w0 w (qa e sz enc (.slice none 0 0) ([]:List α) :: R):=S.add (a:=qa e sz enc (.slice none 0 0) []) (Fr.refl _ w) (B:=fun _=>False) ⟨Ow.none,fun b hb=>by simp[Value.ownBlock] at hb⟩ fun b hb=>hb.elim
end
section
variable {P : Program} {t ty : TypeId} {k : IntKind} {x y : Int} {w : World} {K : KV}
theorem amb(a b:TypeId)(cs:List Bool):biT P .min #[a,b] ty cs [.int k x,.int k y] w K=K (.int k (min x y)) w:=by
 simp[biT,lz,builtin,Builtin.min_,Builtin.min2,Sem.run_bind,Result.andThen,Sem.run_pure]
 congr 1
 by_cases h:x<=y
 ·rw[Int.min_eq_left h,if_neg (by omega)]
 ·rw[Int.min_eq_right (by omega),if_pos (by omega)]
theorem qo(a b:TypeId)(cs:List Bool):biT P .max #[a,b] ty cs [.int k x,.int k y] w K=K (.int k (max x y)) w:=by
 simp[biT,lz,builtin,Builtin.max_,Builtin.max2,Sem.run_bind,Result.andThen,Sem.run_pure]
 by_cases h:x < y
 ·rw[Int.max_eq_right (by omega),if_pos h]
 ·rw[Int.max_eq_left (by omega),if_neg h]
theorem brd{x1 x2 x3 x4:Int}(a b c d:TypeId)(cs:List Bool):biT P .min #[a,b,c,d] ty cs [.int k x1,.int k x2,.int k x3,.int k x4] w K=K (.int k (min (min (min x1 x2) x3) x4)) w:=by
 have m2: ∀x y:Int,(if y < x then y else x)=min x y:=fun x y=>by
  by_cases h:x<=y
  ·rw[Int.min_eq_left h,if_neg (by omega)]
  ·rw[Int.min_eq_right (by omega),if_pos (by omega)]
 simp[biT,lz,builtin,Builtin.min_,Builtin.min2,Sem.run_bind,Result.andThen,Sem.run_pure,m2]
end
section
variable {P : Program}
def aye(P:Program)(t:TypeId):Bool:=match P.underlying t with
 | some (.slice e)=>match P.underlying e with
  | some (.int .u8)=>true
  | _=>false
 | _=>false
theorem bao{t:TypeId}(h:aye P t=true): ∃e,P.underlying t=some (.slice e)/\P.underlying e=some (.int .u8):=by
 unfold aye at h
 split at h
 ·rename_i e he
  split at h
  ·exact⟨e,he,by assumption⟩
  ·cases h
 ·cases h
def akb(l:List Int):ByteArray:=l.foldl (fun r n=>r.push (UInt8.ofNat n.toNat)) ByteArray.empty
theorem bjp{s d:TypeId}(h:aye P s=true)(hd:acy P d=true){w:World}{v:Value}{l:List Int}(hs:Sl w 1 (fun x=>[.int .u8 x]) v l)(K:KV):cvT P s d v w K=K (.string (akb l)) w:=by
 obtain⟨e,h1,h2⟩:=bao h
 have hu:=xw hd
 obtain⟨a,cap,rfl,_⟩:=id hs
 have hr:(convert s d (.slice a l.length cap)).run P w= .ok (.string (akb l)) w:=by
  rw[run_convert_bytes_string w s d e a l.length cap h1 h2 hu]
  by_cases hne:l=[]
  ·subst hne
   cases a with
   | none=>rfl
   | some a=>
    exact run_bytesToString w a 0 cap [] rfl
  ·obtain⟨b,o,cap',hv,hb,hc⟩:=Sl.cells (sz:=1) (enc:=fun x=>[.int .u8 x]) (fun _=>rfl) Nat.zero_lt_one hs hne
   injection hv with ha
   subst ha
   refine run_bytesToString w ⟨b,o,none⟩ l.length cap l ?_
   have hfm: ∀l:List Int,l.flatMap (fun x=>[Value.int .u8 x])=l.map (Value.int .u8):=fun l=>by
    induction l with
    | nil=>rfl
    | cons x l ih=>rw[List.flatMap_cons,ih];rfl
   rw[hfm] at hc
   unfold loadCells
   have:=aif (P:=P) (w:=w) (b:=b) (i:=o) (l.map (Value.int .u8)) 0 #[] (fun k v hk=>by simpa using hc k v hk)
   simpa using this
 simp[cvT,jt,hr]
end
section
variable {α : Type} {enc : α → List Value} {sz : Nat} {w w' w0 : World} {v : Value} {l : List α} {e : TypeId} {R : List Asn}
theorem St.uh{cells:Array Value}(S:St w0 w R)(he: ∀x,(enc x).length=sz)(hc:cells.toList=l.flatMap enc)(hl:l.length<=maxLen):St w0 (w.alloc (.cells cells e)) (qa e sz enc (.slice (some ⟨w.heap.size,0,none⟩) l.length l.length) l :: R):=
 S.add (a:=qa e sz enc (.slice (some ⟨w.heap.size,0,none⟩) l.length l.length) l) ((Fr.refl _ w).alloc _) (B:=fun x=>x=w.heap.size) ⟨⟨tc he l,.inr ⟨w.heap.size,l.length,cells,rfl,Nat.zero_le _,by rw[ja,if_pos rfl],Nat.le_refl _,hl,by
  have:=congrArg List.length hc
  rw[tc he] at this
  simpa using this,by rw[hc,List.take_of_length_le (by rw[tc he];exact Nat.le_refl _)]⟩⟩,fun x hx=>by simpa [Value.ownBlock] using hx.symm⟩ fun x hx=>by subst hx;rw[jg];omega
theorem ajx(b:Nat): ∀(vs:List Value)(o:Nat)(w:World),w.setCells b o vs=aco w b o vs
 | [],_,_=>rfl
 | v :: r,o,w=>by rw[World.setCells,aco];exact ajx b r (o+1) _
end
section
variable {β γ : Type} {f : β → γ → Asn} {w0 w : World} {R : List Asn} {ps : List β} {qs : List γ}
end
section
variable {P : Program} {w0 w : World} {b i n : Nat} {cs cs' : Array Value} {e : TypeId} {R : List Asn}
theorem St.cell(S:St w0 w (jd b cs e :: R))(i:Nat):iq w b i=cs[i]? :=iw S.blk i
theorem St.frz(S:St w0 w (jd b cs e :: R))(i:Nat):qy w b i=false:=mi S.blk i
theorem St.ldA(S:St w0 w (jd b cs e :: R))(l:List Value)(hl:l.length=n)(h:(cs.toList.drop i).take n=l)(K:KV):ldN P n b i w K=K (.agg l.toArray) w:=
 tk l n hl (fun k u hk=>by
  rw[S.cell]
  have hk':k < n:=by rw[<-hl];exact (List.getElem?_eq_some_iff.1 hk).1
  rw[<-h,List.getElem?_take,if_pos hk',List.getElem?_drop] at hk
  simpa using hk) K
theorem St.put(S:St w0 w (jd b cs e :: R)){vs:List Value}(h1: ∀u∈vs,lc u=true)(hl:i+vs.length<=cs.size)(hc:cs.toList.take i ++ vs ++ cs.toList.drop (i+vs.length)=cs'.toList){K:KV}
  (h: ∀w',St w0 w' (jd b cs' e :: R)->K undef w'):stN P b i vs w K:=by
 have hb:=S.blk
 rw[atl vs fun k u hk=>by
  have hk':=(List.getElem?_eq_some_iff.1 hk).1
  exact⟨by rw[iw hb,Array.getElem?_eq_getElem (by omega)];rfl,mi hb _,h1 _ (List.mem_of_getElem? hk)⟩]
 obtain⟨c',g1,g2,g3⟩:=aff vs w i cs hb hl
 refine h _ (S.oz g3 ?_)
 rw[g1]
 have:c'=cs':=Array.toList_inj.1 (by rw[g2,hc])
 rw[this]
theorem St.oh(S:St w0 w (jd b cs e :: R)){v:Value}(h1:lc v=true)(hi:i < cs.size){K:KV}(h: ∀w',St w0 w' (jd b (cs.setIfInBounds i v) e :: R)->K undef w'):st1 P b i v w K:=by
 rw[ael (by rw[S.cell,Array.getElem?_eq_getElem hi];rfl) (S.frz i) h1]
 exact h _ (S.oz ((Fr.refl (fun x=>x=b) w).setCell (.inl rfl) _ _) (by rw[tj,if_pos rfl,S.blk];rfl))
theorem St.mkB(S:St w0 w R)(cs:Array Value)(e:TypeId):St w0 (w.alloc (.cells cs e)) (jd w.heap.size cs e :: R):=S.add ((Fr.refl _ w).alloc _) (B:=fun x=>x=w.heap.size) ⟨by rw[ja,if_pos rfl],rfl⟩ fun x hx=>by subst hx;rw[jg];omega
theorem St.uf(S:St w0 w R){t:TypeId}{xs:Array Value}{K:KV}(h: ∀b w',St w0 w' (jd b xs t :: R)->K (.pointer (some ⟨b,0,none⟩)) w'):lk P t (.agg xs) w K:=by
 rw[vd]
 exact h _ _ (S.mkB xs t)
end
section
variable {P : Program} {w0 w : World} {t elem : TypeId} {r ty : Nat} {k : IntKind} {zero : Value} {m : MP} {R : List Asn}
theorem St.mp(S:St w0 w (jm r k m :: R)):lj w r k m:=by
 obtain⟨B,h1,_⟩:=S.open
 exact h1.1.1
theorem St.bim(S:St w0 w (jm r k m :: R)):(jp m).Nodup:=by
 obtain⟨B,h1,_⟩:=S.open
 exact h1.1.2
theorem St.akk(S:St w0 w R)(k:IntKind):St w0 (w.alloc (.map #[] 0)) (jm w.heap.size k [] :: R):=
 S.add ((Fr.refl _ w).alloc _) (B:=fun x=>x=w.heap.size) ⟨⟨yi w k,by simp[jp]⟩,rfl⟩ fun x hx=>by subst hx;rw[jg];omega
theorem St.auz{m':MP}(S:St w0 w (jm r k m :: R)){o:Obj}(h:lj (World.setObj w r o) r k m')(hn:(jp m').Nodup):St w0 (World.setObj w r o) (jm r k m' :: R):=by
 obtain⟨B,⟨k1,k2⟩,hB,cl⟩:=S.open
 exact cl (World.setObj w r o) [jm r k m'] ((Fr.refl B w).setObj (.inl k2) o) (Rs.one (B:=B) ⟨⟨h,hn⟩,k2⟩ fun b hb=> .inl hb)
theorem bmd{m:MP}(h:(jp m).Nodup)(x:Int)(v:Value):(jp (tz m x v)).Nodup:=by
 rw[adq]
 split
 ·exact h
 ·rename_i hx
  rw[List.nodup_append]
  exact⟨h,by simp,fun a ha b hb' hab=>by
   simp at hb'
   exact hx (by rw[<-hb',<-hab];exact ha)⟩
theorem St.azu(ht:ot P t k elem zero)(S:St w0 w (jm r k m :: R))(x:Int)(v:Value){K:KV}(h: ∀w',St w0 w' (jm r k (tz m x v) :: R)->K undef w'):muT P t (.map (some r)) (.int k x) v w K:=
 aey ht S.mp x v K fun _ ho=>h _ (S.auz ho (bmd S.bim x v))
theorem St.bkc(ht:ot P t k elem zero)(S:St w0 w (jm r k m :: R))(x:Int){ats:TypeId}{cs:List Bool}{K:KV}(h: ∀w',St w0 w' (jm r k (xp m x) :: R)->K (.tuple #[]) w'):biT P .delete #[t,ats] ty cs [.map (some r),.int k x] w K:=
 aui ht S.mp x ats cs K fun _ ho=>h _ (S.auz ho (by rw[aaz];exact S.bim.erase _))
theorem St.bqc(ht:ot P t k elem zero)(S:St w0 w (jm r k m :: R)){cs:List Bool}{K:KV}(h: ∀w',St w0 w' (jm r k [] :: R)->K (.tuple #[]) w'):biT P .clear #[t] ty cs [.map (some r)] w K:=by
 obtain⟨⟨key,h1,h2⟩,i,h3,h4⟩:=ht
 obtain⟨es,clk,hr,he,hbn⟩:=S.mp
 have hlt:r < w.heap.size:=(Array.getElem?_eq_some_iff.1 hr).1
 simp only[biT,lz,builtin,Builtin.clear_,List.getElem?_toArray,List.getElem?_cons_zero,Sem.run_bind,ji h1,Result.andThen,ri hr,xj hr,Sem.run_pure]
 refine h _ (S.auz ⟨#[],clk,?_,.nil,by simp[abn]⟩ (by simp[jp]))
 rw[qj _ _ _ _ hlt,if_pos rfl]
end
set_option maxRecDepth 100000
open Go.Lib
section
variable {P : Program}
def aar(s:ByteArray):List Int:=s.data.toList.map fun b=>(b.toNat:Int)
theorem aet(s:ByteArray):(aar s).length=s.size:=by
 unfold aar
 rw[List.length_map,Array.length_toList]
 rfl
theorem ays(s:ByteArray):(aar s).flatMap (fun x=>[Value.int .u8 x])=strCells s:=by
 unfold aar strCells
 generalize s.data.toList=l
 induction l with
 | nil=>rfl
 | cons a t ih=>simp only[List.map_cons,List.flatMap_cons,ih];rfl
theorem awc{t u ty e:TypeId}(ht:nj P t e 1 1)(hz0:((P.info? e).bind fun i=>i.zero)=some (.int .u8 0))(hu:P.underlying u=some .string){w:World}{base n:Nat}{v:Value}{xs:List Value}(hown:w.ownsRow base e 1 v n xs)(s:ByteArray)(h63:n+s.size<=140737488355328)(hbase:base<=w.heap.size)(cs:List Bool)(K:KV)
  (h: ∀v' w',w'.ownsRow base e 1 v' (n+s.size) (xs ++ strCells s)->w.grownBy w' v.ownBlock->(v'.ownBlock=v.ownBlock\/∃g,v'.ownBlock=some g/\w.heap.size<=g)->K v' w'):biT P .append #[t,u] ty cs [v,.string s] w K:=by
 obtain⟨i,z,hi,hz,hs,hb,hzs⟩:=ht.inf
 have hz':i.zero=some (.int .u8 0):=by
  rw[hi] at hz0
  exact hz0
 have key: ∃v' w',(Builtin.append_ #[t,u] ty #[v,.string s]).run P w= .ok v' w'/\w'.ownsRow base e 1 v' (n+s.size) (xs ++ strCells s)/\w.grownBy w' v.ownBlock/\(v'.ownBlock=v.ownBlock\/∃g,v'.ownBlock=some g/\w.heap.size<=g):=by
  obtain⟨v',w',hr,g1,g2,g3⟩:=run_append_own_string (P:=P) w base t u ty e i ht.ty hu hi hz' hs hb v n xs hown s (by unfold maxLen;omega) h63 hbase
  refine⟨v',w',hr,g1,g2,?_⟩
  rcases hown.2 with⟨hv,hn0⟩|⟨g,cap,cur,hv,hbg,hg,hnc,hcm,hcs,htake⟩
  ·subst hv
   subst hn0
   obtain⟨v2,w2,hr2,k1,_,_⟩:=run_append_own_string (P:=P) w w.heap.size t u ty e i ht.ty hu hi hz' hs hb (.slice none 0 0) 0 xs ⟨hown.1,.inl ⟨rfl,rfl⟩⟩ s (by unfold maxLen;omega) h63 (Nat.le_refl _)
   rw[hr] at hr2
   injection hr2 with e1 e2
   subst e1
   rcases k1.2 with⟨h0,_⟩|⟨g,_,_,h0,hge,_⟩
   ·exact .inl (by rw[h0])
   ·exact .inr ⟨g,by rw[h0];rfl,hge⟩
  ·subst hv
   by_cases hroom:n+s.size<=cap
   ·have hr2:=run_append_room_string (P:=P) w t u ty e i ht.ty hu hi hs g n cap cur hg s hroom (by omega)
    rw[hr] at hr2
    injection hr2 with e1 e2
    exact .inl (by rw[e1];rfl)
   ·have holds: ∀j u,xs[j]? =some u->w.cell? ((⟨g,0,none⟩:Addr).add j)=some u:=hown.cells (g:=g) rfl
    have hr2:=run_append_grow_string (P:=P) w t u ty e i z ht.ty hu hi hz ⟨g,0,none⟩ n cap xs (by rw[hs];exact hown.1) holds s (by omega) (by omega) (growslice_fits (by omega) (by rw[hb];omega))
    rw[hr] at hr2
    injection hr2 with e1 e2
    exact .inr ⟨w.heap.size,by rw[e1];rfl,Nat.le_refl _⟩
 obtain⟨v',w',hr,g1,g2,g4⟩:=key
 unfold biT lz builtin
 simp only
 rw[Sem.run_bind]
 have:(#[v,.string s]:Array Value)=[v,.string s].toArray:=rfl
 rw[<-this,hr]
 simp only[Result.andThen,Sem.run_pure]
 exact h v' w' g1 g2 g4
theorem bne{enc:Int->List Value}{w0 w:World}{R:List Asn}{t u e ty:TypeId}{v:Value}{l:List Int}(ht:nj P t e 1 1)(hz0:((P.info? e).bind fun i=>i.zero)=some (.int .u8 0))(hu:P.underlying u=some .string)(he: ∀x,enc x=[.int .u8 x])(S:St w0 w (qa e 1 enc v l :: R))(s:ByteArray)(hl:l.length+s.size<=1000000000){cs:List Bool}{K:KV}(h: ∀w' v',St w0 w' (qa e 1 enc v' (l ++ aar s) :: R)->K v' w'):
  biT P .append #[t,u] ty cs [v,.string s] w K:=by
 obtain⟨B,⟨g1,g2⟩,hB,cl⟩:=S.open
 refine awc ht hz0 hu (n:=l.length) g1 s (by omega) (Nat.zero_le _) cs K fun v' w' r g hg=>?_
 have f:Fr (fun b=>v.ownBlock=some b) w w':=⟨g.size,fun b hb hn=>g.block b hb fun he=>hn he.symm,g.tape,g.os,g.output⟩
 have o:Ow w' 0 e 1 enc v' (l ++ aar s):=by
  have e1:(l ++ aar s).flatMap enc=l.flatMap enc ++ strCells s:=by
   rw[List.flatMap_append,<-ays]
   rw[show enc=fun x=>[Value.int .u8 x] from funext he]
  unfold Ow
  rw[e1,List.length_append,aet]
  exact r
 refine h w' v' (cl w' [qa e 1 enc v' (l ++ aar s)] (f.mono fun x _ hx=>g2 x hx) (Rs.one (B:=fun x=>v'.ownBlock=some x) ⟨o,fun b hb=>hb⟩ fun x hx=>?_))
 rcases hg with hg| ⟨y,q1,q2⟩
 ·exact .inl (g2 x (by rw[<-hg];exact hx))
 ·rw[hx] at q1;cases q1
  exact .inr ⟨q2,(o.lt hx).2⟩
end
def abm(P:Program):Code->Env->World->(Exit->KE)->Prop
 | .skip,e,w,Q=>Q .normal e w
 | .label _,e,w,Q=>Q .normal e w
 | .region _ ops draw,e,w,Q=>match draw with
  | false=>aec P ops (List.range ops.size) e w (Q .normal)
  | true=>False
 | .seq x y,e,w,Q=>abm P x e w (agw (fun e w=>abm P y e w Q) Q)
 | .cond c x y,e,w,Q=>il (ev e c) (abm P x e w Q) (abm P y e w Q)
 | .block id c,e,w,Q=>abm P c e w (abz id Q)
 | .exit id,e,w,Q=>Q (.exit id) e w
 | .ret,e,w,Q=>Q .ret e w
 | _,_,_,_=>False
def ok0(n:Nat):Code->Bool
 | .skip=>true
 | .label _=>true
 | .exit _=>true
 | .ret=>true
 | .region _ ops draw=>!draw && ahb n ops (List.range n) (List.range ops.size)
 | .seq x y=>ok0 n x && ok0 n y
 | .cond c x y=>okO (List.range n) c && (ok0 n x && ok0 n y)
 | .block _ c=>ok0 n c
 | _=>false
def brc(n:Nat)(ds:List Deferred)(Q:Exit->KE):Exit->Act->World->Prop:=fun x a' w'=> ∃e',RdI n (List.range n) ds a' e'/\Q x e' w'
theorem xd{P:Program}{n m:Nat}{r:Option Nat}{ds:List Deferred}: ∀(c:Code)(e:Env)(w:World)(Q:Exit->KE)(a:Act),ok0 n c=true->RdI n (List.range n) ds a e->abm P c e w Q->c.wpIn (vh r) m P (brc n ds Q) a w:=by
 intro c
 induction c with
 | skip=>intro e w Q a _ hR h;exact wpIn_skip ⟨e,hR,h⟩
 | label l=>intro e w Q a _ hR h;exact wpIn_label ⟨e,hR,h⟩
 | exit id=>intro e w Q a _ hR h;exact wpIn_exit ⟨e,hR,h⟩
 | ret=>intro e w Q a _ hR h;exact wpIn_ret ⟨e,hR,h⟩
 | region id ops draw=>
  intro e w Q a hok hR h
  cases draw with
  | true=>exact h.elim
  | false=>
   simp only[ok0,Bool.not_false,Bool.true_and] at hok
   refine wpIn_region (F:=vh r) (xn (n:=n) (r:=r) (ds:=ds) (e0:=e) _ _ a e w _ hok hR (fun _ _=>rfl) h fun a' e' w' hR' _ hk=>⟨e',⟨hR'.1,hR'.2.1,fun t ht=>hR'.2.2 t (ahs ops _ _ t ht)⟩,hk⟩)
 | seq x y ihx ihy=>
  intro e w Q a hok hR h
  simp only[ok0,Bool.and_eq_true] at hok
  refine wpIn_seq (wpIn_mono (ihx e w _ a hok.1 hR h) fun x' a' w' ho=>?_)
  obtain⟨e',hR',hq⟩:=ho
  cases x' with
  | normal=>exact ihy e' w' Q a' hok.2 hR' hq
  | _=>exact⟨e',hR',hq⟩
 | cond c x y ihx ihy=>
  intro e w Q a hok hR h
  simp only[ok0,Bool.and_eq_true] at hok
  have hev:a.eval c=ev e c:=hR.ev c fun t ht=>by
   subst ht
   exact hok.1
  simp only[abm] at h
  unfold il at h
  split at h
  ·rename_i hb
   exact wpIn_cond_true (hev.trans hb) (ihx e w Q a hok.2.1 hR h)
  ·rename_i hb
   exact wpIn_cond_false (hev.trans hb) (ihy e w Q a hok.2.2 hR h)
  ·exact h.elim
 | block id c ih=>
  intro e w Q a hok hR h
  refine wpIn_block (wpIn_mono (ih e w _ a hok hR h) fun x' a' w' ho=>?_)
  obtain⟨e',hR',hq⟩:=ho
  cases x' with
  | exit id'=>
   simp only[abz] at hq
   simp only[Exit.inBlock]
   by_cases hi:id'=id
   ·subst hi
    rw[if_pos rfl]
    rw[Nat.beq_refl] at hq
    exact⟨e',hR',hq⟩
   ·rw[if_neg hi]
    have hb:Nat.beq id' id=false:=by
     cases hb:Nat.beq id' id with
     | false=>rfl
     | true=>exact absurd (Nat.eq_of_beq_eq_true hb) hi
    rw[hb] at hq
    exact⟨e',hR',hq⟩
  | _=>exact⟨e',hR',hq⟩
 | _=>intro e w Q a hok;simp[ok0] at hok
theorem awg{n:Nat}{ds:List Deferred}{a:Act}(h:a.tmps.size=n)(hd:a.defers=ds):RdI n (List.range n) ds a fun t=>a.tmps.getD t undef:=⟨h,hd,fun _ _=>rfl⟩
theorem ayl{P:Program}{fn:Func}{n:Nat}{L:List Nat}{a:Act}{e:Env}{w:World}{k:List Value->Prop}(hR:Rd n L a e)(hok:ahh L fn.results.toList=true)(hq:ajk P fn.results.toList e w k): ∃vs,k vs/\(results fn a.tmps).run P w= .ok (ahz vs) w:=by
 obtain⟨vs,hk,hr⟩:=anl hR _ _ hok hq
 refine⟨vs,hk,?_⟩
 have hfun:results fn a.tmps=(do let vs<-fn.results.mapM (aso a.tmps);pure (if h:vs.size=1 then vs[0] else .tuple vs)):=by
  unfold results
  congr 1
 rw[hfun,Array.mapM_eq_mapM_toList,Sem.run_bind,map_eq_pure_bind,Sem.run_bind,hr]
 simp only[Result.andThen,Sem.run_pure]
 cases vs with
 | nil=>simp[ahz]
 | cons v vs=>cases vs <;>simp[ahz]
section
variable {w0 w : World} {R : List Asn}
theorem St.bka: ∀{X:List Asn},St w0 w (X ++ R)->St w0 w R
 | [],h=>h
 | _ :: _,h=>St.bka (X:=_) h.drop
theorem ayj{idx:List Nat}{n:Nat}(h:idx.Nodup)(hl: ∀i∈idx,i < n):(((List.range n).filter fun i=>!idx.contains i) ++ idx).Perm (List.range n):=by
 refine (List.perm_ext_iff_of_nodup ?_ List.nodup_range).2 fun i=>?_
 ·rw[List.nodup_append]
  refine⟨List.nodup_range.filter _,h,fun a ha b hb hab=>?_⟩
  subst hab
  have:=(List.mem_filter.1 ha).2
  simp[hb] at this
 ·rw[List.mem_append,List.mem_filter,List.mem_range]
  constructor
  ·rintro (h|h)
   ·exact h.1
   ·exact hl i h
  ·intro h
   by_cases hi:i∈idx
   ·exact .inr hi
   ·exact .inl ⟨h,by simp[hi]⟩
def bhw:Asn where
 ok _ _:=True
 jl _ _ _:=trivial
theorem St.pick{L:List Asn}(S:St w0 w (L ++ R))(idx:List Nat)(n:Nat)(hn:L.length=n)(h:idx.Nodup/\∀i∈idx,i < n):St w0 w (idx.map (fun i=>L.getD i bhw) ++ R):=by
 have e:L=(List.range n).map fun i=>L.getD i bhw:=by
  apply List.ext_getElem?
  intro i
  rw[List.getElem?_map]
  by_cases hi:i < n
  ·rw[List.getElem?_range hi,List.getElem?_eq_getElem (by omega)]
   simp[List.getD_eq_getElem?_getD,List.getElem?_eq_getElem (show i < L.length by omega)]
  ·rw[List.getElem?_eq_none (by omega),List.getElem?_eq_none (by rw[List.length_range];omega)]
   rfl
 have hp:=(ayj h.1 h.2).map fun i=>L.getD i bhw
 rw[<-e,List.map_append] at hp
 have S2:=S.perm (hp.symm.append_right R)
 rw[List.append_assoc] at S2
 exact S2.bka
end
section
variable {P : Program} {α : Type} {enc : α → List Value} {sz : Nat} {w0 w : World} {R : List Asn} {l : List α} {g n cap i : Nat} {e : TypeId}
theorem art{z:Array Value}(h: ∀u∈z.toList,lc u=true)(n:Nat): ∀u∈(Builtin.zeroCells z n).toList,lc u=true:=by
 intro u hu
 unfold Builtin.zeroCells at hu
 simp only[Array.toList_map,List.mem_map] at hu
 obtain⟨a,ha,rfl⟩:=hu
 have ha':a < n * z.size:=by simpa using ha
 have hz:0 < z.size:=by
  rcases Nat.eq_zero_or_pos z.size with h0|h0
  ·rw[h0] at ha';omega
  ·exact h0
 have hm:a % z.size < z.size:=Nat.mod_lt _ hz
 rw[getElem!_pos z _ hm]
 exact h _ (Array.getElem_mem_toList hm)
theorem bgx{t ty by':Nat}(ht:nj P t e sz by')(hz1:((P.info? e).bind fun i=>i.zero.map fun z=>z.cells.toList.all lc)=some true)(he: ∀x,(enc x).length=sz)(S:St w0 w (qa e sz enc (.slice (some ⟨g,0,none⟩) n cap) l :: R))(hi:i < n){c:Nat}{cs:List Bool}{K:KV}
  (h: ∀w',St w0 w' (rdA sz enc (.slice (some ⟨g,0,none⟩) i cap) (l.take i) :: R)->K (.tuple #[]) w'):biT P .clear #[t] ty cs [.slice (some ⟨g,i * sz,none⟩) (n - i) c] w K:=by
 obtain⟨inf,z,hinf,hz,hs,hb',hzs⟩:=ht.inf
 obtain⟨B,⟨h1,h2⟩,hB,cl⟩:=S.open
 have hln:l.length=n:=by
  obtain⟨_,_,hv,_⟩:=(S.row he:Sl w sz enc (.slice (some ⟨g,0,none⟩) n cap) l)
  injection hv with _ h _
  exact h.symm
 obtain⟨g',cap',cur,hv,hg,hb,n1,n2,n3,n4⟩:=yn h1 (by omega)
 injection hv with q1 q2 q3
 injection q1 with q1
 injection q1 with q1 _
 subst q1 q3
 have hzone: ∀u∈z.cells.toList,lc u=true:=by
  rw[hinf] at hz1
  simp only[Option.bind_some,hz,Option.map_some,Option.some.injEq] at hz1
  exact List.all_eq_true.1 hz1
 have hvs:(Builtin.zeroCells z.cells (n - i)).toList.length=(n - i) * sz:=by
  rw[Array.length_toList,size_zeroCells,hzs]
 have hfit:i * sz+(n - i) * sz<=cur.size:=by
  rw[n3,<-Nat.add_mul]
  exact Nat.mul_le_mul_right _ (by omega)
 have hz1':=art hzone (n - i)
 generalize hzz:(Builtin.zeroCells z.cells (n - i)).toList=zs at *
 have hrun:(Builtin.clear_ #[t] ty #[.slice (some ⟨g,i * sz,none⟩) (n - i) c]).run P w= .ok (.tuple #[]) (w.setCells g (i * sz) zs):=by
  have hc: ∀k,k < zs.length->(w.cell? ⟨g,i * sz+0+k,none⟩).isSome=true:=fun k hk=>by
   rw[aag,iw hb,Array.getElem?_eq_getElem (by omega)];rfl
  have hf: ∀k,k < zs.length->w.frozen? ⟨g,i * sz+0+k,none⟩=false:=fun k hk=>by
   rw[aoh];exact mi hb _
  have hst:=run_storeCells_cells (P:=P) g (i * sz) zs 0 w hc hf fun u hu=>by rw[<-awo];exact hz1' u hu
  obtain⟨m,hm⟩: ∃m,n - i=m+1:=⟨n - i - 1,by omega⟩
  rw[hm] at hzz
  have hv:=afd hinf hz
  rw[hm]
  simp[Builtin.clear_,Sem.run_bind,ji ht.ty,hv,hzz,hst,Result.andThen,Sem.run_pure]
 unfold biT lz builtin
 simp only
 rw[Sem.run_bind]
 have:(#[.slice (some ⟨g,i * sz,none⟩) (n - i) c]:Array Value)=[.slice (some ⟨g,i * sz,none⟩) (n - i) c].toArray:=rfl
 rw[<-this,hrun]
 simp only[Result.andThen,Sem.run_pure]
 rw[ajx]
 obtain⟨c',g1,g2,g3⟩:=aff zs w (i * sz) cur hb (by rw[hvs];exact hfit)
 refine h _ (cl _ [rdA sz enc (.slice (some ⟨g,0,none⟩) i cap) (l.take i)] (g3.mono fun y _ hy=>by rw[hy];exact h2 g rfl) (Rs.one (B:=fun y=>y=g) ⟨?_,fun b hb=>by simpa [Value.ownBlock] using hb.symm⟩ fun y hy=> .inl (by rw[hy];exact h2 g rfl)))
 have hli:(l.take i).length=i:=by rw[List.length_take];omega
 refine⟨some ⟨g,0,none⟩,cap,by rw[hli],by omega,by omega,fun k x hk=>⟨g,0,rfl,mh g1,fun j u hj=>?_⟩⟩
 have hki:k < i:=by have:=(List.getElem?_eq_some_iff.1 hk).1;omega
 have hjs:j < sz:=by have:=(List.getElem?_eq_some_iff.1 hj).1;rw[he] at this;exact this
 have hlt:k * sz+j < i * sz:=by
  have:(k+1) * sz<=i * sz:=Nat.mul_le_mul_right _ hki
  rw[Nat.add_mul] at this;omega
 have hin:i * sz<=n * sz:=Nat.mul_le_mul_right _ (by omega)
 rw[List.getElem?_take_of_lt hki] at hk
 have hf:=adm (enc:=enc) he l k x j u hk hj
 rw[<-n4,List.getElem?_take_of_lt (by rw[hln];omega)] at hf
 rw[iw g1,Nat.zero_add,<-Array.getElem?_toList,g2,List.getElem?_append_left (by simp;omega),List.getElem?_append_left (by simp;omega),List.getElem?_take_of_lt hlt]
 exact hf
end
end Go.Eng
