/-
  The engine: a shallow reading of a function's code. 'den' takes the code of a Go function to a predicate over values and a world; 'returns_of_den' shows that what 'den' grants the call really does. No condition.
-/
import Derived.Orders
import Derived.Scope
import Derived.CallsIn
import Derived.Laws.AppendOwn
import Derived.RowKit3
import Derived.DataReads
import Derived.ChangeArms
import Derived.ChangeSame
import Derived.WalkKit
import Derived.ProofKit
namespace Go.Eng
theorem kr{α:Type}{a b:α}(h:a=b:=by kernel_rfl):a=b:=Eq.trans h rfl
abbrev i0:Value:= .int .i64 0
abbrev i1:Value:= .int .i64 1
abbrev i2:Value:= .int .i64 2
abbrev u0:Value:= .int .u64 0
abbrev bF:Value:= .bool false
abbrev bY:Value:= .bool true
abbrev nS:Value:= .slice none 0 0
abbrev nP:Value:= .pointer none
abbrev pB(b i:Nat):Value:= .pointer (some ⟨b,i,none⟩)
abbrev Env:=Nat->Value
abbrev KV:=Value->World->Prop
abbrev KL:=List Value->World->Prop
abbrev KE:=Env->World->Prop
def upd(e:Env)(d:Nat)(v:Value):Env:=fun t=>cond (Nat.beq t d) v (e t)
def zh(e:Env)(d:Option Nat)(v:Value):Env:=match d with
 | some d=>upd e d v
 | none=>e
def ev(e:Env):Operand->Value
 | .tmp t=>e t
 | .const v=>v
 | .global g=> .pointer (some ⟨g,0,none⟩)
 | .func f=> .func (.func f) #[] #[]
def asc(a:Act):Env:=fun t=>a.tmps.getD t undef
def aho:Operand->Bool
 | .const _=>true
 | _=>false
def jt(P:Program)(s:Sem Value)(w:World)(K:KV):Prop:=match s.run P w with
 | .ok v w'=>K v w'
 | .halt _ _=>False
def vo(P:Program)(s:Sem Unit)(w:World)(K:KV):Prop:=match s.run P w with
 | .ok _ w'=>K undef w'
 | .halt _ _=>False
def jy(P:Program)(f:FuncId)(args:List Value)(w:World)(K:KV):Prop:=
 Calls P f args.toArray w fun e w'=> ∃v,e= .returned v/\K v w'
def lz(P:Program)(s:Sem Next)(w:World)(K:KV):Prop:=match s.run P w with
 | .ok (.value v) w'=>K v w'
 | .ok .skip w'=>K undef w'
 | .ok (.enter f args) w'=>jy P f args.toList w' K
 | _=>False
def oc(P:Program)(recv:Value)(name:String)(args:List Value)(w:World)(K:KV):Prop:=
 lz P (callMethod recv name args.toArray) w K
def ik(P:Program)(f:FuncId)(args:List Value)(w:World)(K:KV):Prop:=lz P (callFunc f args.toArray) w K
def biT(P:Program)(b:Builtin)(argTypes:Array TypeId)(type:TypeId)(consts:List Bool)(args:List Value)(w:World)(K:KV):Prop:=
 lz P (builtin b argTypes type consts.toArray args.toArray) w K
def aax(P:Program)(f:Value)(args:List Value)(w:World)(K:KV):Prop:=
 lz P (do let d<-Deferred.ofValue f args.toArray;invoke d.target d.args) w K
def jb(c a b:Value)(w:World)(K:KV):Prop:=match c with
 | .bool t=>K (cond t a b) w
 | _=>False
def iu(v:Value)(w:World)(K:KV):Prop:=match v with
 | .pointer none=>False
 | .nilIface=>False
 | .nilFunc=>False
 | .func (.method _) _ _=>False
 | x=>K x w
def isB(v:Value)(t:Bool):Bool:=match v with
 | .bool b=>b == t
 | _=>false
def ij(c:Bool)(f:KV->Prop)(w:World)(K:KV):Prop:=match c with
 | true=>f K
 | false=>K undef w
def ii(f:KV->Prop)(w:World)(K:Value->Prop):Prop:=f fun v w'=>w'=w/\K v
def ip(f:KV->Prop)(w:World)(v:Value):Prop:=f fun v' w'=>w'=w/\v'=v
def je(w:World)(K:World->Prop):Prop:=K {w with drawn:=w.drawn+1}
def im(F:KL->Prop)(K:KL):Prop:=F K
def jo(x:List Value)(w:World)(body:KL->KL):Prop:=
 ∃(I:KL)(μ:List Value->World->Nat),I x w/\∀x w,I x w->body (fun x' w'=>I x' w'/\μ x' w' < μ x w) x w
def il(c:Value)(A B:Prop):Prop:=match c with
 | .bool true=>A
 | .bool false=>B
 | _=>False
def opT(P:Program)(o:Oper)(e:Env)(w:World)(K:KV):Prop:=
 match o.op with
 | .move x=>K (ev e x) w
 | .assign x=>K (ev e x) w
 | .pick c a b=>jb (ev e c) (ev e a) (ev e b) w K
 | .alloc elem=>jt P (Instr.alloc elem true (.tuple #[])) w K
 | .box elem x=>jt P (Instr.box elem (ev e x)) w K
 | .build t parts=>jt P (Instr.build t ((parts.toList.map fun p=>(p.1,ev e p.2)).toArray)) w K
 | .buildSlice t len parts=>jt P (Instr.buildSlice t len ((parts.toList.map fun p=>(p.1,ev e p.2)).toArray)) w K
 | .load t a=>jt P (Instr.loadAt t (ev e a)) w K
 | .store t a x=>vo P (Instr.storeAt t (ev e a) (ev e x)) w K
 | .nilCheck x=>iu (ev e x) w K
 | .binOp op xType x y _=>jt P (do eqGuard op xType x y (ev e x) (ev e y);binOp op xType (ev e x) (ev e y)) w K
 | .unOp op _ x=>jt P (Op.unary op (ev e x)) w K
 | .convert src dst x=>jt P (convert src dst (ev e x)) w K
 | .makeInterface xType x=>jt P (Instr.makeInterface xType (ev e x)) w K
 | .makeFunc fn first captured=>jt P (Instr.makeFunc fn (first.toList.map (ev e)).toArray (captured.toList.map (ev e)).toArray) w K
 | .makeMap t r=>jt P (Instr.makeMap t (r.map (ev e))) w K
 | .makeSlice t l c=>jt P (Instr.makeSlice t (ev e l) (ev e c)) w K
 | .slice t x lo hi mx=>jt P (Instr.sliceAt t (ev e x) (lo.map (ev e)) (hi.map (ev e)) (mx.map (ev e))) w K
 | .fieldAddr s x f=>jt P (Instr.fieldAt s (ev e x) f) w K
 | .field t x f=>jt P (Instr.field t (ev e x) f) w K
 | .indexAddr t x ix=>jt P (Instr.indexAt t (ev e x) (ev e ix)) w K
 | .index t x ix=>jt P (Instr.index t (ev e x) (ev e ix)) w K
 | .lookup t x ix ok=>jt P (Instr.lookup t (ev e x) (ev e ix) ok) w K
 | .mapUpdate t m k x=>vo P (Instr.mapUpdate t (ev e m) (ev e k) (ev e x)) w K
 | .insert t m k x=>vo P (Instr.mapUpdate t (ev e m) (ev e k) (ev e x)) w K
 | .mapEntry t m k=>jt P (Instr.mapEntry t (ev e m) (ev e k)) w K
 | .entryStore t m s x=>vo P (Instr.entryStore t (ev e m) (ev e s) (ev e x)) w K
 | .range t x=>jt P (Instr.range t (ev e x)) w K
 | .next it isString=>jt P (Instr.next (ev e it) isString o.type) w K
 | .entry it=>jt P (Instr.entry (ev e it)) w K
 | .typeAssert x xType asserted ok=>jt P (Instr.typeAssert (ev e x) xType asserted ok) w K
 | .extract t ix=>jt P (Instr.extract (ev e t) ix) w K
 | .call c=>match c.callee with
  | .value (.func f)=>ik P f (c.args.toList.map (ev e)) w K
  | .value f=>aax P (ev e f) (c.args.toList.map (ev e)) w K
  | .invoke r m=>oc P (ev e r) m (c.args.toList.map (ev e)) w K
  | .builtin b=>biT P b c.argTypes o.type (c.args.toList.map aho) (c.args.toList.map (ev e)) w K
 | _=>False
theorem agy{P:Program}{s:Sem Next}{w:World}{K K':KV}(h: ∀v w,K v w->K' v w)(hh:lz P s w K):lz P s w K':=by
 unfold lz at *
 cases hr:s.run P w with
 | halt x w'=>simp only[hr] at hh
 | ok n w'=>
  simp only[hr] at hh⊢
  cases n <;>simp only at hh⊢
  case value v=>exact h _ _ hh
  case skip=>exact h _ _ hh
  case enter f args=>exact Calls.mono hh fun e w' ⟨v,he,hk⟩=>⟨v,he,h _ _ hk⟩
theorem aug{P:Program}{o:Oper}{e:Env}{w:World}{K K':KV}(h: ∀v w,K v w->K' v w)(hh:opT P o e w K):opT P o e w K':=by
 have hs: ∀s,jt P s w K->jt P s w K':=fun s hs=>by
  unfold jt at *
  cases hr:s.run P w <;>simp only[hr] at hs⊢
  exact h _ _ hs
 have hu: ∀s,vo P s w K->vo P s w K':=fun s hs=>by
  unfold vo at *
  cases hr:s.run P w <;>simp only[hr] at hs⊢
  exact h _ _ hs
 obtain⟨dst,op,type,pos,after,guard⟩:=o
 cases op <;>simp only[opT] at hh⊢
 all_goals first|exact h _ _ hh|exact hs _ hh|exact hu _ hh|skip
 case pick c a b=>
  unfold jb at *
  generalize ev e c=x at *
  cases x <;>first|exact hh.elim|exact h _ _ hh
 case nilCheck x=>
  unfold iu at *
  generalize ev e x=y at *
  split at hh <;>first|exact hh.elim|exact h _ _ hh
 case call c=>
  obtain⟨callee,args,argTypes⟩:=c
  cases callee with
  | value f=>cases f <;>exact agy h hh
  | invoke r m=>exact agy h hh
  | builtin b=>exact agy h hh
theorem ara{P:Program}{o:Oper}{e:Env}{w:World}{K:KV}(h:opT P o e w K):lz P (execOp (ev e) o) w K:=by
 have hs: ∀s:Sem Value,jt P s w K->lz P (do pure (.value (<-s))) w K:=fun s hs=>by
  unfold jt at hs;unfold lz
  rw[Sem.run_bind]
  cases hr:s.run P w <;>simp_all[Result.andThen,Sem.run,pure]
 have hu: ∀s:Sem Unit,vo P s w K->lz P (do s;pure .skip) w K:=fun s hs=>by
  unfold vo at hs;unfold lz
  rw[Sem.run_bind]
  cases hr:s.run P w <;>simp_all[Result.andThen,Sem.run,pure]
 obtain⟨dst,op,type,pos,after,guard⟩:=o
 have pairs: ∀ps:Array (Nat×Operand),(ps.map fun(i,x)=>(i,ev e x))=(ps.toList.map fun p=>(p.1,ev e p.2)).toArray:=fun ps=>by
  apply Array.ext';simp
 have maps: ∀ps:Array Operand,ps.map (ev e)=(ps.toList.map (ev e)).toArray:=fun ps=>by
  apply Array.ext';simp
 cases op <;>simp only[opT] at h <;>simp only[execOp]
 all_goals first|exact h.elim|exact hs _ h|exact hu _ h| (simpa [lz,Sem.run,pure] using h)|skip
 case pick c a b=>
  unfold jb at h
  split at h
  ·rename_i t hc
   simp only[hc,asBool,lz]
   cases t <;>simpa [Sem.run,pure,bind,Sem.bind] using h
  ·exact h.elim
 case build t ps=>rw[pairs];exact hs _ h
 case buildSlice t n ps=>rw[pairs];exact hs _ h
 case makeFunc fn first captured=>rw[maps,maps];exact hs _ h
 case nilCheck x=>
  unfold iu at h
  split at h
  ·exact h.elim
  ·exact h.elim
  ·exact h.elim
  ·exact h.elim
  ·rename_i x' h1 h2 h3 h4
   split <;>simp_all[lz,Sem.run,pure]
 case call c=>
  obtain⟨callee,args,argTypes⟩:=c
  cases callee with
  | value f=>
   cases f with
   | func g=>
    change lz P (callFunc g (args.toList.map (ev e)).toArray) w K at h
    simp only[resolve,ev,Deferred.ofValue,maps,lz] at h⊢
    simp only[Sem.run_bind,Result.andThen,pure,bind,invoke,Sem.run_pure]
    simpa [Sem.run,Sem.bind] using h
   | tmp t=>simp only[resolve,aax,maps] at h⊢;exact h
   | const t=>simp only[resolve,aax,maps] at h⊢;exact h
   | global t=>simp only[resolve,aax,maps] at h⊢;exact h
  | invoke r m=>
   have hsz:(#[ev e r] ++ (args.toList.map (ev e)).toArray).size=args.size+1:=by simp
   have hx:(#[ev e r] ++ (args.toList.map (ev e)).toArray).extract 1 (#[ev e r] ++ (args.toList.map (ev e)).toArray).size=(args.toList.map (ev e)).toArray:=by
    rw[hsz];apply Array.ext';simpa using List.take_of_length_le (by simp)
   simp only[resolve,oc,maps,lz] at h⊢
   simp only[Sem.run_bind,Result.andThen,Sem.run,pure,bind,Sem.bind,invoke,Sem.run_pure,hx]
   simpa using h
  | builtin b=>
   have hc: ∀f:Operand->Bool,(∀x,f x=aho x)->args.map f=(args.toList.map aho).toArray:=fun f hf=>by
    apply Array.ext'
    simp only[Array.toList_map]
    exact List.map_congr_left fun x _=>hf x
   simp only[resolve,biT,maps,lz] at h⊢
   rw[hc _ fun x=>by cases x <;>rfl]
   simpa [Sem.run_bind,Result.andThen,Sem.run,pure,bind,Sem.bind,invoke] using h
def Rd(n:Nat)(S:List Nat)(a:Act)(e:Env):Prop:=a.tmps.size=n/\a.defers=[]/\∀t,S.contains t=true->a.tmps.getD t undef=e t
def gdE(ops:Array Oper)(e:Env)(j:Nat)(want:Bool):Bool:=match (ops[j]?).bind (·.dst) with
 | some d=>isB (e d) want
 | none=>false
def tu(P:Program)(ops:Array Oper)(o:Oper)(e:Env)(w:World)(K:KV):Prop:=match o.guard with
 | none=>opT P o e w K
 | some (j,want)=>ij (gdE ops e j want) (fun K=>opT P o e w K) w K
def bof(P:Program)(ops:Array Oper):List Nat->Env->World->KE->Prop
 | [],e,w,K=>K e w
 | i :: r,e,w,K=>match ops[i]? with
  | none=>bof P ops r e w K
  | some o=>tu P ops o e w fun v w'=>bof P ops r (zh e o.dst v) w' K
def okD(n:Nat):Option Nat->Bool
 | none=>true
 | some d=>Nat.blt d n
def api(d:Option Nat)(S:List Nat):List Nat:=match d with
 | none=>S
 | some d=>d :: S
def azn(l S:List Nat):Bool:=l.all fun t=>S.contains t
def ahb(n:Nat)(ops:Array Oper):List Nat->List Nat->Bool
 | _,[]=>true
 | S,i :: r=>match ops[i]? with
  | none=>ahb n ops S r
  | some o=>azn (o.looksAt ops) S && (okD n o.dst && ahb n ops (api o.dst S) r)
def xq(ops:Array Oper):List Nat->List Nat->List Nat
 | S,[]=>S
 | S,i :: r=>match ops[i]? with
  | none=>xq ops S r
  | some o=>xq ops (api o.dst S) r
theorem afa{l S:List Nat}(h:azn l S=true): ∀t,t∈l->S.contains t=true:=fun t ht=>by
 simp only[azn,List.all_eq_true] at h
 exact h t ht
theorem atu(e:Env)(d:Nat)(v:Value):upd e d v d=v:=by simp[upd]
theorem ajh(e:Env)(d:Nat)(v:Value)(t:Nat)(h:t≠d):upd e d v t=e t:=by
 have:Nat.beq t d=false:=by cases hb:Nat.beq t d <;>simp_all
 simp[upd,this]
theorem Rd.put{n:Nat}{S:List Nat}{a:Act}{e:Env}(h:Rd n S a e)(d:Option Nat)(v:Value)(hd:okD n d=true):Rd n (api d S) (a.put d v) (zh e d v):=by
 obtain⟨h1,h2,h3⟩:=h
 cases d with
 | none=>exact⟨h1,h2,h3⟩
 | some d=>
  have hdn:d < n:=by simpa [okD,Nat.blt_eq] using hd
  refine⟨by simpa [Act.put] using h1,h2,fun t ht=>?_⟩
  by_cases htd:t=d
  ·subst htd
   simp only[zh,atu,Act.put]
   simp[h1,hdn]
  ·simp only[zh,ajh _ _ _ _ htd,Act.put]
   have hS:S.contains t=true:=by
    simp only[api,List.contains_cons,Bool.or_eq_true,beq_iff_eq] at ht
    exact ht.resolve_left htd
   rw[<-h3 t hS]
   simp[Ne.symm htd]
theorem Rd.ev{n:Nat}{S:List Nat}{a:Act}{e:Env}(h:Rd n S a e)(x:Operand)(hx: ∀t,x= .tmp t->S.contains t=true):a.eval x=ev e x:=by
 cases x with
 | tmp t=>exact h.2.2 t (hx t rfl)
 | const v=>rfl
 | global g=>rfl
 | func f=>rfl
theorem Rd.gd{n:Nat}{S:List Nat}{a:Act}{e:Env}{ops:Array Oper}{o:Oper}(h:Rd n S a e)(hl: ∀t,t∈o.looksAt ops->S.contains t=true)(j:Nat)(want:Bool)(hg:o.guard=some (j,want)):
  (yielded ops a.tmps j == some want)=gdE ops e j want:=by
 unfold yielded gdE
 cases hd:(ops[j]?).bind (·.dst) with
 | none=>simp
 | some d=>
  have hS:=hl d (by simp[Oper.looksAt,hg,hd])
  have he:=h.2.2 d hS
  simp only[Option.bind_some]
  cases ht:a.tmps[d]? with
  | none=>
   have:e d=undef:=by rw[<-he];simp[ht]
   simp[this,undef,isB]
  | some x=>
   have:e d=x:=by rw[<-he];simp[ht]
   rw[this]
   cases x <;>simp[isB]
theorem aut{P:Program}{o:Oper}{e:Env}{w:World}{K:KV}(h:opT P o e w K): ∀cs b,o.op≠ .select cs b:=by
 intro cs b heq
 simp[opT,heq] at h
theorem alm{P:Program}{o:Oper}{n:Nat}{S:List Nat}{a:Act}{e:Env}{ops:Array Oper}{w:World}{K:KV}{next:Act->World->Prop}{Q:Exit->Act->World->Prop}
  (hR:Rd n S a e) (hl: ∀t,t∈o.looksAt ops->S.contains t=true) (h:opT P o e w K) (hn: ∀v w',K v w'->next (a.put o.dst v) w'):o.wp P a w next Q:=by
 have hs:=ara h
 have hc:execOp a.eval o=execOp (ev e) o:=execOp_congr o (aut h) fun x hx=>hR.ev x fun t ht=>hl t (by
  subst ht
  exact List.mem_append_left _ (List.mem_filterMap.2 ⟨.tmp t,by simpa using hx,rfl⟩))
 unfold Oper.wp
 rw[hc]
 unfold lz at hs
 cases hr:(execOp (ev e) o).run P w with
 | halt x w'=>simp only[hr] at hs
 | ok nx w'=>
  simp only[hr] at hs
  cases nx <;>simp only at hs
  case value v=>exact hn _ _ hs
  case skip=>exact hn _ _ hs
  case enter f args=>
   refine Calls.mono hs fun e' w'' ⟨v,he,hk⟩=>?_
   subst he
   exact hn _ _ hk
theorem aij{P:Program}{o:Oper}{n i:Nat}{S:List Nat}{a:Act}{e:Env}{ops:Array Oper}{w:World}{K:KV}{next:Act->World->Prop}{Q:Exit->Act->World->Prop}
  (hi:ops[i]? =some o) (hR:Rd n S a e) (hl: ∀t,t∈o.looksAt ops->S.contains t=true) (h:tu P ops o e w K) (hn: ∀v w',K v w'->next (a.put o.dst v) w'):wpOp P ops Q i next a w:=by
 unfold wpOp
 simp only[hi]
 unfold tu at h
 cases hg:o.guard with
 | none=>
  simp only[hg] at h
  simp only[Region.wanted,hg,if_true]
  exact .inl (alm hR hl h hn)
 | some gw=>
  obtain⟨j,want⟩:=gw
  simp only[hg] at h
  simp only[Region.wanted,hg,hR.gd hl j want hg]
  cases hgd:gdE ops e j want with
  | true=>
   simp only[hgd,ij] at h
   simp only[if_true]
   exact .inl (alm hR hl h hn)
  | false=>
   simp only[hgd,ij] at h
   exact hn _ _ h
def ui(ops:Array Oper):List Nat:=ops.toList.filterMap (·.dst)
def adu(P:Program)(s:Sem Next)(w:World)(K:KV):Prop:=match s.run P w with
 | .ok (.value v) w'=>K v w'
 | .ok .skip w'=>K undef w'
 | .ok (.enter f args) w'=>jy P f args.toList w' K
 | .ok (.round l f tmps assign body) w'=>RoundIn Fence.wide 0 P l f tmps assign body w' fun e w''=> ∃v,e= .returned v/\K v w''
 | _=>False
def lh(P:Program)(f:Value)(args:List Value)(w:World)(K:KV):Prop:=
 adu P (do let d<-Deferred.ofValue f args.toArray;invoke d.target d.args) w K
def opR(P:Program)(o:Oper)(e:Env)(w:World)(K:KV):Prop:=
 match o.op with
 | .call c=>match c.callee with
  | .value (.func f)=>ik P f (c.args.toList.map (ev e)) w K
  | .value f=>lh P (ev e f) (c.args.toList.map (ev e)) w K
  | .invoke r m=>oc P (ev e r) m (c.args.toList.map (ev e)) w K
  | .builtin b=>biT P b c.argTypes o.type (c.args.toList.map aho) (c.args.toList.map (ev e)) w K
 | _=>opT P o e w K
theorem bjg{P:Program}{s:Sem Next}{w:World}{K:KV}(h:lz P s w K):adu P s w K:=by
 unfold lz at h
 unfold adu
 cases hr:s.run P w with
 | halt x w'=>simp only[hr] at h
 | ok n w'=>
  simp only[hr] at h⊢
  cases n <;>simp only at h⊢ <;>exact h
theorem bew{P:Program}{o:Oper}{e:Env}{w:World}{K:KV}(h:opR P o e w K):adu P (execOp (ev e) o) w K:=by
 by_cases hc: ∃c f,o.op= .call c/\c.callee= .value f/\∀g,f≠ .func g
 ·obtain⟨dst,op,type,pos,after,guard⟩:=o
  obtain⟨⟨callee,args,argTypes⟩,f,ho,hv,hf⟩:=hc
  simp only at ho hv
  subst ho hv
  have maps: ∀ps:Array Operand,ps.map (ev e)=(ps.toList.map (ev e)).toArray:=fun ps=>by
   apply Array.ext';simp
  cases f with
  | func g=>exact absurd rfl (hf g)
  | tmp t=>simp only[opR,execOp,resolve,lh,maps] at h⊢;exact h
  | const t=>simp only[opR,execOp,resolve,lh,maps] at h⊢;exact h
  | global t=>simp only[opR,execOp,resolve,lh,maps] at h⊢;exact h
 ·refine bjg (ara ?_)
  obtain⟨dst,op,type,pos,after,guard⟩:=o
  cases op <;>simp only[opR,opT] at h⊢ <;>first|exact h|skip
  case call c=>
   obtain⟨callee,args,argTypes⟩:=c
   cases callee with
   | value f=>cases f with
    | func g=>exact h
    | tmp t=>exact absurd ⟨_,_,rfl,rfl,fun g h=>by cases h⟩ hc
    | const t=>exact absurd ⟨_,_,rfl,rfl,fun g h=>by cases h⟩ hc
    | global t=>exact absurd ⟨_,_,rfl,rfl,fun g h=>by cases h⟩ hc
   | invoke r m=>exact h
   | builtin b=>exact h
theorem awd{P:Program}{o:Oper}{e:Env}{w:World}{K:KV}(h:opR P o e w K):(∀cs b,o.op≠ .select cs b)/\∀c,o.op≠ .defer c:=by
 constructor
 ·intro cs b heq
  simp[opR,opT,heq] at h
 ·intro c heq
  simp[opR,opT,heq] at h
def bjt(P:Program)(ops:Array Oper)(o:Oper)(e:Env)(w:World)(K:KV):Prop:=match o.guard with
 | none=>opR P o e w K
 | some (j,want)=>ij (gdE ops e j want) (fun K=>opR P o e w K) w K
def aec(P:Program)(ops:Array Oper):List Nat->Env->World->KE->Prop
 | [],e,w,K=>K e w
 | i :: r,e,w,K=>match ops[i]? with
  | none=>aec P ops r e w K
  | some o=>bjt P ops o e w fun v w'=>aec P ops r (zh e o.dst v) w' K
def RdI(n:Nat)(S:List Nat)(ds:List Deferred)(a:Act)(e:Env):Prop:=a.tmps.size=n/\a.defers=ds/\∀t,S.contains t=true->a.tmps.getD t undef=e t
theorem RdI.rd{n:Nat}{S:List Nat}{ds:List Deferred}{a:Act}{e:Env}(h:RdI n S ds a e):Rd n S {a with defers:=[]} e:=⟨h.1,rfl,h.2.2⟩
theorem Act.awb(a:Act)(ds:List Deferred):({a with defers:=ds}:Act).eval=a.eval:=by
 funext x;cases x <;>rfl
theorem RdI.put{n:Nat}{S:List Nat}{ds:List Deferred}{a:Act}{e:Env}(h:RdI n S ds a e)(d:Option Nat)(v:Value)(hd:okD n d=true):RdI n (api d S) ds (a.put d v) (zh e d v):=by
 have:=h.rd.put d v hd
 obtain⟨h1,h2,h3⟩:=h
 obtain⟨g1,_,g3⟩:=this
 cases d with
 | none=>exact⟨h1,h2,h3⟩
 | some d=>exact⟨g1,h2,g3⟩
theorem RdI.ev{n:Nat}{S:List Nat}{ds:List Deferred}{a:Act}{e:Env}(h:RdI n S ds a e)(x:Operand)(hx: ∀t,x= .tmp t->S.contains t=true):a.eval x=ev e x:=by
 have:=h.rd.ev x hx
 rw[Act.awb] at this
 exact this
def vh(r:Option Nat):Fence:={Fence.wide with round:=r}
theorem adh{r:Option Nat}{n:Nat}{P:Program}{f:FuncId}{args:Array Value}{w:World}{R:Ending->World->Prop}(h:Calls P f args w R):CallsIn (vh r) n P f args w R:=(callsIn_wide (n:=n)).2 h
theorem arr{r:Option Nat}{n n':Nat}{P:Program}{l:Nat}{f:FuncId}{tmps:Array Value}{a b:Code}{w:World}{R:Ending->World->Prop}(h:RoundIn Fence.wide n' P l f tmps a b w R):RoundIn (vh r) n P l f tmps a b w R:=
 ⟨trivial,fun c cs _=>h.2 c cs (room_wide _)⟩
theorem aig{P:Program}{r:Option Nat}{m:Nat}{o:Oper}{n:Nat}{S:List Nat}{ds:List Deferred}{a:Act}{e:Env}{ops:Array Oper}{w:World}{K:KV}{next:Act->World->Prop}{Q:Exit->Act->World->Prop}
  (hR:RdI n S ds a e) (hl: ∀t,t∈o.looksAt ops->S.contains t=true) (h:opR P o e w K) (hn: ∀v w',K v w'->next (a.put o.dst v) w'):o.wpIn (vh r) m P a w next Q:=by
 have hs:=bew h
 obtain⟨h1,h2⟩:=awd h
 have hc:execOp a.eval o=execOp (ev e) o:=execOp_congr o h1 fun x hx=>hR.ev x fun t ht=>hl t (by
  subst ht
  exact List.mem_append_left _ (List.mem_filterMap.2 ⟨.tmp t,by simpa using hx,rfl⟩))
 refine⟨fun f _=>trivial,?_⟩
 rw[Oper.semAt_eq _ _ _ h2,hc]
 unfold adu at hs
 cases hr:(execOp (ev e) o).run P w with
 | halt x w'=>simp only[hr] at hs
 | ok nx w'=>
  simp only[hr] at hs
  cases nx <;>simp only at hs
  case value v=>exact hn _ _ hs
  case skip=>exact hn _ _ hs
  case enter f args=>
   refine⟨fun h=>by simp[vh,Fence.wide] at h,adh (Calls.mono hs fun e' w'' ⟨v,he,hk⟩=>?_)⟩
   subst he
   exact hn _ _ hk
  case round l f tmps assign body=>
   refine⟨fun h=>by simp[vh,Fence.wide] at h,arr (RoundIn.mono hs fun e' w'' ⟨v,he,hk⟩=>?_)⟩
   subst he
   exact hn _ _ hk
theorem RdI.gd{n:Nat}{S:List Nat}{ds:List Deferred}{a:Act}{e:Env}{ops:Array Oper}{o:Oper}(h:RdI n S ds a e)(hl: ∀t,t∈o.looksAt ops->S.contains t=true)(j:Nat)(want:Bool)(hg:o.guard=some (j,want)):
  (yielded ops a.tmps j == some want)=gdE ops e j want:=h.rd.gd hl j want hg
theorem xn{P:Program}{r:Option Nat}{m:Nat}{ops:Array Oper}{n:Nat}{ds:List Deferred}{Q:Exit->Act->World->Prop}{e0:Env}: ∀(l S:List Nat)(a:Act)(e:Env)(w:World)(K:KE),
  ahb n ops S l=true->RdI n S ds a e->(∀t,t∉ui ops->e t=e0 t)->aec P ops l e w K->
  (∀a' e' w',RdI n (xq ops S l) ds a' e'->(∀t,t∉ui ops->e' t=e0 t)->K e' w'->Q .normal a' w')->wpOpsIn (vh r) m P ops Q l a w:=by
 intro l
 induction l with
 | nil=>intro S a e w K _ hR he h hQ;exact hQ a e w hR he h
 | cons i rr ih=>
  intro S a e w K ho hR he h hQ
  unfold wpOpsIn
  cases hi:ops[i]? with
  | none=>
   simp only[aec,hi] at h
   simp only[ahb,hi] at ho
   simp only[xq,hi] at hQ
   exact ih S a e w K ho hR he h hQ
  | some o=>
   simp only[aec,hi] at h
   simp only[ahb,hi,Bool.and_eq_true] at ho
   simp only[xq,hi] at hQ
   have next: ∀v w',aec P ops rr (zh e o.dst v) w' K->wpOpsIn (vh r) m P ops Q rr (a.put o.dst v) w':=fun v w' hk=>ih _ _ _ _ _ ho.2.2 (hR.put o.dst v ho.2.1) (fun t ht=>by
    cases hd:o.dst with
    | none=>simpa [zh,hd] using he t ht
    | some d=>
     have hne:t≠d:=fun htd=>ht (by
      subst htd
      exact List.mem_filterMap.2 ⟨o,by simpa using Array.mem_of_getElem? hi,hd⟩)
     simp only[zh,ajh _ _ _ _ hne]
     exact he t ht) hk hQ
   simp only
   unfold bjt at h
   cases hg:o.guard with
   | none=>
    simp only[hg] at h
    simp only[Region.wanted,hg,if_true]
    exact aig hR (afa ho.1) h next
   | some gw=>
    obtain⟨j,want⟩:=gw
    simp only[hg] at h
    simp only[Region.wanted,hg,hR.gd (afa ho.1) j want hg]
    cases hgd:gdE ops e j want with
    | true=>
     simp only[hgd,ij] at h
     simp only[if_true]
     exact aig hR (afa ho.1) h next
    | false=>
     simp only[hgd,ij] at h
     simp only[Bool.false_eq_true,if_false]
     exact⟨fun f _=>trivial,next _ _ h⟩
inductive PT where
 | nil
 | iz
 | go (i:Nat) (r:PT)
 | eff (i:Nat) (r m:PT)
def aon:PT->Bool
 | .iz=>true
 | _=>false
def afp:PT->List Nat
 | .eff i _ m=>i :: afp m
 | _=>[]
structure pz where
 asp:PT
 eff:List Nat
 bpu:Bool
 msk:List Nat
def wd(o:Oper):List Nat:=o.after.toList.filterMap fun e=>cond (Region.binds .any e) (some e.on) none
def aio(acc:List Nat)(o:Oper):Nat:=(wd o).foldl (fun s i=>s ||| 2 ^ i ||| acc.getD i 0) 0
def akz:List Oper->List Nat->List Nat
 | [],acc=>acc
 | o :: os,acc=>akz os (acc ++ [aio acc o])
def yv(M:List Nat)(i j:Nat):Bool:=Nat.testBit (M.getD j 0) i
def arx(P:Program)(ops:Array Oper)(o:Oper)(e:Env)(w:World):Prop:=match o.dst with
 | some d=>ip (fun K=>tu P ops o e w K) w (e d)
 | none=>ii (fun K=>tu P ops o e w K) w fun _=>True
def aeh(P:Program)(ops:Array Oper)(e:Env)(w:World)(k:Prop):List Nat->Prop
 | []=>k
 | j :: js=>match ops[j]? with
  | some o=>arx P ops o e w/\aeh P ops e w k js
  | none=>aeh P ops e w k js
def zf(P:Program)(ops:Array Oper)(M:List Nat):PT->List Nat->Env->World->KE->Prop
 | .nil,_,e,w,K=>K e w
 | .iz,_,_,_,_=>True
 | .go i r,done,e,w,K=>match ops[i]? with
  | none=>False
  | some o=>ii (fun K=>tu P ops o e w K) w fun v=>zf P ops M r (i :: done) (zh e o.dst v) w K
 | .eff i r m,done,e,w,K=>match ops[i]? with
  | none=>False
  | some o=>match aon m with
   | true=>tu P ops o e w fun v w'=>aeh P ops e w' (zf P ops M r done (zh e o.dst v) w' K) (done.filter fun j=>!yv M j i)
   | false=>(tu P ops o e w fun v w'=>aeh P ops e w' (zf P ops M r done (zh e o.dst v) w' K) (done.filter fun j=>!yv M j i))/\zf P ops M m done e w K
def amm(o:Oper):Bool:=match o.op with
 | .call c=>match c.callee with
  | .builtin .len=>true
  | .builtin .cap=>true
  | .builtin .min=>true
  | .builtin .max=>true
  | _=>false
 | _=>true
def asf(ops:Array Oper)(done:List Nat)(i:Nat):Bool:=Nat.blt i ops.size && (!done.contains i && (match ops[i]? with
   | some o=>azn (wd o) done
   | none=>false))
def axw(ops:Array Oper)(done as:List Nat):Bool:=(List.range ops.size).all fun j=>done.contains j || (as.contains j || match ops[j]? with
   | some o=>(wd o).any fun d=>!done.contains d
   | none=>true)
def vf(ops:Array Oper)(eff:List Nat):Bool->List Nat->PT->Bool
 | top,done,.nil=>top && (List.range ops.size).all fun j=>done.contains j
 | top,_,.iz=>!top
 | top,done,.go i r=>top && (!eff.contains i && (asf ops done i && vf ops eff true (i :: done) r))
 | top,done,.eff i r m=>(!top || axw ops done (i :: afp m)) && (eff.contains i && (asf ops done i && (vf ops eff true (i :: done) r && vf ops eff false done m)))
def aoz(n:Nat)(S:List Nat)(ops:Array Oper)(M eff:List Nat):Bool:=
 (List.range ops.size).all fun x=>match ops[x]? with
  | none=>true
  | some ox=>((wd ox).all fun d=>Nat.blt d x) && (okD n ox.dst && ((eff.contains x || amm ox) && ((match ox.dst with
    | some d=>(!S.contains d || eff.contains x) && (List.range ops.size).all fun j=>j == x || match ops[j]? with
     | some oj=>oj.dst != some d && (!(oj.looksAt ops).contains d || (yv M x j || (yv M j x && eff.contains x)))
     | none=>true
    | none=>true) && ((match ox.dst with
    | some d=>!(ox.looksAt ops).contains d
    | none=>true) &&
   (ox.looksAt ops).all fun t=>S.contains t || (List.range ops.size).any fun j=>match ops[j]? with
    | some oj=>oj.dst == some t && yv M j x
    | none=>false))))
def ata(n:Nat)(S:List Nat)(ops:Array Oper)(pl:pz):Bool:=
 (akz ops.toList [] == pl.msk) && (vf ops pl.eff true [] pl.asp && aoz n S ops pl.msk pl.eff)
inductive Bef (ops:Array Oper):Nat->Nat->Prop
 | one {i j:Nat} {o:Oper} (h:ops[j]? =some o) (hd:i∈wd o):Bef ops i j
 | aud {i k j:Nat} {o:Oper} (h:ops[j]? =some o) (hd:k∈wd o) (hb:Bef ops i k):Bef ops i j
theorem avr{ops:Array Oper}{acc:List Nat}{o:Oper}{j:Nat}(hj:ops[j]? =some o)(ha: ∀k i,yv acc i k=true->Bef ops i k)(i:Nat)
  (h:Nat.testBit (aio acc o) i=true):Bef ops i j:=by
 unfold aio at h
 have key: ∀(l:List Nat)(s:Nat),(∀d,d∈l->d∈wd o)->(Nat.testBit s i=true->Bef ops i j)->
   Nat.testBit (l.foldl (fun s i=>s ||| 2 ^ i ||| acc.getD i 0) s) i=true->Bef ops i j:=by
  intro l
  induction l with
  | nil=>intro s _ hs h;exact hs h
  | cons d l ih=>
   intro s hl hs h
   simp only[List.foldl_cons] at h
   refine ih _ (fun x hx=>hl x (List.mem_cons_of_mem _ hx)) (fun hb=>?_) h
   rw[Nat.testBit_or,Nat.testBit_or,Bool.or_eq_true,Bool.or_eq_true] at hb
   rcases hb with (hb|hb)|hb
   ·exact hs hb
   ·have:d=i:=by
     rw[Nat.testBit_two_pow] at hb
     simpa using hb
    subst this
    exact .one hj (hl d (List.mem_cons_self ..))
   ·exact .aud hj (hl d (List.mem_cons_self ..)) (ha d i hb)
 exact key (wd o) 0 (fun _ h=>h) (by simp) h
theorem aoa{ops:Array Oper}: ∀(os:List Oper)(acc:List Nat),(∀k i,yv acc i k=true->Bef ops i k)->(∀k o,os[k]? =some o->ops[acc.length+k]? =some o)->
  ∀k i,yv (akz os acc) i k=true->Bef ops i k:=by
 intro os
 induction os with
 | nil=>intro acc ha _ k i h;exact ha k i h
 | cons o os ih=>
  intro acc ha hop
  have h0:ops[acc.length]? =some o:=by simpa using hop 0 o rfl
  refine ih _ (fun k i h=>?_) fun k o' hk=>?_
  ·unfold yv at h
   by_cases hk:k < acc.length
   ·refine ha k i ?_
    unfold yv
    simpa [List.getElem?_append_left hk] using h
   ·by_cases hk2:k=acc.length
    ·subst hk2
     refine avr h0 ha i ?_
     simpa using h
    ·have:(acc ++ [aio acc o]).getD k 0=0:=by
      rw[List.getD_eq_getElem?_getD,List.getElem?_eq_none (by simp;omega)];rfl
     rw[this] at h
     simp at h
  ·have:=hop (k+1) o' (by simpa using hk)
   rw[show (acc ++ [aio acc o]).length+k=acc.length+(k+1) from by simp;omega]
   exact this
structure atd(n:Nat)(S:List Nat)(ops:Array Oper)(M eff:List Nat):Prop where
 bho: ∀(j:Nat)(oj:Oper),ops[j]? =some oj->∀d,d∈wd oj->d < j
 boa: ∀(j:Nat)(oj:Oper),ops[j]? =some oj->okD n oj.dst=true
 det: ∀(j:Nat)(oj:Oper),ops[j]? =some oj->eff.contains j=false->amm oj=true
 bsi: ∀(j:Nat)(oj:Oper)(d:Nat),ops[j]? =some oj->oj.dst=some d->S.contains d=true->eff.contains j=true
 inj: ∀(i j:Nat)(oi oj:Oper)(d:Nat),ops[i]? =some oi->ops[j]? =some oj->i≠j->oi.dst=some d->oj.dst≠some d
 bjm: ∀(j x:Nat)(oj ox:Oper)(t:Nat),ops[j]? =some oj->ops[x]? =some ox->j≠x->oj.dst=some t->t∈ox.looksAt ops->Bef ops j x\/(Bef ops x j/\eff.contains j=true)
 ou: ∀(x:Nat)(ox:Oper)(t:Nat),ops[x]? =some ox->ox.dst=some t->t∉ox.looksAt ops
 bqp: ∀(x:Nat)(ox:Oper)(t:Nat),ops[x]? =some ox->t∈ox.looksAt ops->S.contains t=true\/∃(j:Nat)(oj:Oper),ops[j]? =some oj/\oj.dst=some t/\Bef ops j x
theorem bpe{n:Nat}{S:List Nat}{ops:Array Oper}{eff:List Nat}(h:aoz n S ops (akz ops.toList []) eff=true):atd n S ops (akz ops.toList []) eff:=by
 have hM: ∀k i,yv (akz ops.toList []) i k=true->Bef ops i k:=aoa ops.toList [] (fun k i h=>by simp[yv] at h) (fun k o hk=>by simpa using hk)
 unfold aoz at h
 rw[List.all_eq_true] at h
 have hx: ∀x ox,ops[x]? =some ox->_:=fun x ox hx=>by
  have:=h x (List.mem_range.2 (Array.getElem?_eq_some_iff.1 hx).1)
  simp only[hx,Bool.and_eq_true] at this
  exact this
 have hlt: ∀{x:Nat}{ox:Oper},ops[x]? =some ox->x∈List.range ops.size:=fun hx=>List.mem_range.2 (Array.getElem?_eq_some_iff.1 hx).1
 refine⟨fun j oj hj d hd=>?_,fun j oj hj=>(hx j oj hj).2.1,fun j oj hj he=>?_,fun j oj d hj hd hS=>?_,fun i j oi oj d hi hj hne hd=>?_,fun j x oj ox t hj hx' hne hd ht=>?_,fun x ox t hx' hd ht=>?_,fun x ox t hx' ht=>?_⟩
 ·have:=(hx j oj hj).1
  rw[List.all_eq_true] at this
  simpa [Nat.blt_eq] using this d hd
 ·have:=(hx j oj hj).2.2.1
  rw[he,Bool.false_or] at this
  exact this
 ·have:=(hx j oj hj).2.2.2.1
  simp only[hd,Bool.and_eq_true,hS,Bool.not_true,Bool.false_or] at this
  exact this.1
 ·have:=(hx i oi hi).2.2.2.1
  simp only[hd,Bool.and_eq_true,List.all_eq_true] at this
  have:=this.2 j (hlt hj)
  simp only[hj,Bool.or_eq_true,beq_iff_eq,Bool.and_eq_true] at this
  have:=this.resolve_left (Ne.symm hne)
  simpa using this.1
 ·have:=(hx j oj hj).2.2.2.1
  simp only[hd,Bool.and_eq_true,List.all_eq_true] at this
  have:=this.2 x (hlt hx')
  simp only[hx',Bool.or_eq_true,beq_iff_eq,Bool.and_eq_true] at this
  have h2:=(this.resolve_left (Ne.symm hne)).2
  rcases h2 with h2|h2|h2
  ·simp[ht] at h2
  ·exact .inl (hM _ _ h2)
  ·exact .inr ⟨hM _ _ h2.1,h2.2⟩
 ·have:=(hx x ox hx').2.2.2.2.1
  simp[hd,ht] at this
 ·have:=(hx x ox hx').2.2.2.2.2
  rw[List.all_eq_true] at this
  have:=this t ht
  rw[Bool.or_eq_true,List.any_eq_true] at this
  rcases this with h1| ⟨j,_,h1⟩
  ·exact .inl h1
  ·refine .inr ⟨j,?_⟩
   cases hj:ops[j]? with
   | none=>simp[hj] at h1
   | some oj=>
    simp only[hj,Bool.and_eq_true,beq_iff_eq] at h1
    exact⟨oj,rfl,h1.1,hM _ _ h1.2⟩
theorem avw{P:Program}{s:Sem Next}{s':Sem Value}(hs:s=(do pure (.value (<-s')))){w:World}{K:KV}(h:lz P s w K): ∃v w',K v w'/\∀K':KV,K' v w'->lz P s w K':=by
 subst hs
 unfold lz at *
 rw[Sem.run_bind] at *
 cases hr:s'.run P w with
 | halt x w'=>simp[hr,Result.andThen] at h
 | ok v w'=>
  simp only[hr,Result.andThen,Sem.run,pure] at h⊢
  exact⟨v,w',h,fun K' h'=>h'⟩
theorem atg{P:Program}{o:Oper}{e:Env}{w:World}{K:KV}(hd:amm o=true)(h:opT P o e w K): ∃v w',K v w'/\∀K':KV,K' v w'->opT P o e w K':=by
 have hs: ∀s:Sem Value,jt P s w K->∃v w',K v w'/\∀K':KV,K' v w'->jt P s w K':=fun s hs=>by
  unfold jt at *
  cases hr:s.run P w with
  | halt x w'=>simp only[hr] at hs
  | ok v w'=>simp only[hr] at hs⊢;exact⟨v,w',hs,fun _ h=>h⟩
 have hu: ∀s:Sem Unit,vo P s w K->∃v w',K v w'/\∀K':KV,K' v w'->vo P s w K':=fun s hs=>by
  unfold vo at *
  cases hr:s.run P w with
  | halt x w'=>simp only[hr] at hs
  | ok v w'=>simp only[hr] at hs⊢;exact⟨undef,w',hs,fun _ h=>h⟩
 obtain⟨dst,op,type,pos,after,guard⟩:=o
 cases op <;>simp only[opT] at h⊢
 all_goals first|exact h.elim|exact hs _ h|exact hu _ h|exact⟨_,_,h,fun _ h=>h⟩|skip
 case pick c a b=>
  unfold jb at *
  generalize ev e c=x at *
  cases x <;>first|exact h.elim|exact⟨_,_,h,fun _ h=>h⟩
 case nilCheck x=>
  unfold iu at *
  generalize ev e x=y at *
  split at h <;>first|exact h.elim|exact⟨_,_,h,fun _ h=>h⟩
 case call c=>
  obtain⟨callee,args,argTypes⟩:=c
  cases callee with
  | value f=>simp[amm] at hd
  | invoke r m=>simp[amm] at hd
  | builtin b=>cases b <;>first| (exact avw rfl h)|simp[amm] at hd
theorem azg{P:Program}{ops:Array Oper}{o:Oper}{e:Env}{w:World}{K:KV}(hd:amm o=true)(h:tu P ops o e w K): ∃v w',K v w'/\∀K':KV,K' v w'->tu P ops o e w K':=by
 unfold tu at *
 cases hg:o.guard with
 | none=>simp only[hg] at h⊢;exact atg hd h
 | some gw=>
  obtain⟨j,want⟩:=gw
  simp only[hg] at h⊢
  cases hgd:gdE ops e j want with
  | true=>simp only[hgd,ij] at h⊢;exact atg hd h
  | false=>simp only[hgd,ij] at h⊢;exact⟨_,_,h,fun _ h=>h⟩
theorem ado{P:Program}{ops:Array Oper}{o:Oper}{e:Env}{w:World}{K K':KV}(hk: ∀v w,K v w->K' v w)(h:tu P ops o e w K):tu P ops o e w K':=by
 unfold tu at *
 cases hg:o.guard with
 | none=>simp only[hg] at h⊢;exact aug hk h
 | some gw=>
  obtain⟨j,want⟩:=gw
  simp only[hg] at h⊢
  cases hgd:gdE ops e j want with
  | true=>simp only[hgd,ij] at h⊢;exact aug hk h
  | false=>simp only[hgd,ij] at h⊢;exact hk _ _ h
theorem aqo{P:Program}{o:Oper}{e e':Env}{w:World}{K:KV}(he: ∀x,x∈o.op.operands->ev e x=ev e' x)(h:opT P o e w K):opT P o e' w K:=by
 obtain⟨dst,op,type,pos,after,guard⟩:=o
 have pairs: ∀ps:Array (Nat×Operand),(∀x∈ps.toList.map (·.2),ev e x=ev e' x)->
   (ps.toList.map fun p=>(p.1,ev e p.2))=(ps.toList.map fun p=>(p.1,ev e' p.2)):=fun ps hp=>
  List.map_congr_left fun p hm=>by simp only[hp p.2 (List.mem_map.2 ⟨p,hm,rfl⟩)]
 have maps: ∀ps:Array Operand,(∀x∈ps,ev e x=ev e' x)->ps.toList.map (ev e)=ps.toList.map (ev e'):=fun ps hp=>
  List.map_congr_left fun x hx=>hp x (Array.mem_toList_iff.1 hx)
 have opt: ∀r:Option Operand,(∀x,r=some x->ev e x=ev e' x)->r.map (ev e)=r.map (ev e'):=fun r hr=>by
  cases r with
  | none=>rfl
  | some x=>simp[hr x rfl]
 cases op <;>simp only[Op.operands] at he <;>simp only[opT] at h⊢
 case build t ps=>rw[<-pairs ps fun x hx=>he x (by simpa using hx)];exact h
 case buildSlice t n ps=>rw[<-pairs ps fun x hx=>he x (by simpa using hx)];exact h
 case makeFunc fn first captured=>rw[<-maps first fun x hx=>he x (by simp[hx]),<-maps captured fun x hx=>he x (by simp[hx])];exact h
 case makeMap t r=>rw[<-opt r fun x hx=>he x (by simp[hx])];exact h
 case slice t x lo hi mx=>
  rw[<-he x (by simp),<-opt lo fun x hx=>he x (by simp[hx]),<-opt hi fun x hx=>he x (by simp[hx]),<-opt mx fun x hx=>he x (by simp[hx])]
  exact h
 case call c=>
  obtain⟨callee,args,argTypes⟩:=c
  cases callee with
  | value f=>
   have ha:=maps args fun x hx=>he x (by simp[Call.operands,hx])
   have hf:=he f (by simp[Call.operands])
   cases f <;>simp only at h⊢ <;>first| (rw[<-ha];exact h)| (rw[<-ha,<-hf];exact h)
  | invoke r m=>
   have ha:=maps args fun x hx=>he x (by simp[Call.operands,hx])
   have hf:=he r (by simp[Call.operands])
   simp only at h⊢
   rw[<-ha,<-hf];exact h
  | builtin b=>
   have ha:=maps args fun x hx=>he x (by simp[Call.operands,hx])
   simp only at h⊢
   rw[<-ha];exact h
 all_goals first|exact h| (simp_all;done)
theorem afs{P:Program}{ops:Array Oper}{o:Oper}{e e':Env}{w:World}{K:KV}(he: ∀t,t∈o.looksAt ops->e t=e' t)(h:tu P ops o e w K):tu P ops o e' w K:=by
 have hx: ∀x,x∈o.op.operands->ev e x=ev e' x:=fun x hx=>by
  cases x with
  | tmp t=>exact he t (List.mem_append_left _ (List.mem_filterMap.2 ⟨.tmp t,by simpa using hx,rfl⟩))
  | _=>rfl
 unfold tu at *
 cases hg:o.guard with
 | none=>simp only[hg] at h⊢;exact aqo hx h
 | some gw=>
  obtain⟨j,want⟩:=gw
  simp only[hg] at h⊢
  have hgd:gdE ops e' j want=gdE ops e j want:=by
   unfold gdE
   cases hd:(ops[j]?).bind (·.dst) with
   | none=>rfl
   | some d=>simp only[he d (by simp[Oper.looksAt,hg,hd])]
  rw[hgd]
  cases hb:gdE ops e j want with
  | true=>simp only[hb,ij] at h⊢;exact aqo hx h
  | false=>simp only[hb,ij] at h⊢;exact h
structure Inv(P:Program)(n:Nat)(S:List Nat)(ops:Array Oper)(eff:List Nat)(e0:Env)(listed:Array Bool)(done dq:List Nat)(po:PT)(a:Act)(e:Env)(w:World):Prop where
 sz:listed.size=ops.size
 ord:vf ops eff true done po=true
 sub: ∀j,listed.getD j false=true->done.contains j=true
 axq: ∀j,done.contains j=true->eff.contains j=true->listed.getD j false=true
 dqs: ∀j,done.contains j=true->eff.contains j=false->dq.contains j=true
 dqd: ∀j,dq.contains j=true->done.contains j=true
 vm: ∀(j:Nat)(oj:Oper),ops[j]? =some oj->listed.getD j false=true->∀d,d∈wd oj->listed.getD d false=true
 asz:a.tmps.size=n
 adf:a.defers=[]
 ahv: ∀t,(S.contains t=true\/∃(j:Nat)(oj:Oper),ops[j]? =some oj/\listed.getD j false=true/\oj.dst=some t)->a.tmps.getD t undef=e t
 bgp: ∀(j:Nat)(oj:Oper),ops[j]? =some oj->done.contains j=true->listed.getD j false=false->tu P ops oj e w fun v w'=>w'=w/\∀d,oj.dst=some d->v=e d
 lin: ∀(j:Nat)(oj:Oper),ops[j]? =some oj->done.contains j=true->∀d,d∈wd oj->done.contains d=true
 frame: ∀t,t∉ui ops->e t=e0 t
theorem uq{e:Env}{d:Option Nat}{v:Value}{t:Nat}(h:d≠some t):zh e d v t=e t:=by
 cases d with
 | none=>rfl
 | some d=>exact ajh _ _ _ _ fun he=>h (by rw[he])
theorem arb{e:Env}{d:Option Nat}{v:Value}{t:Nat}(h:d=some t):zh e d v t=v:=by
 subst h;exact atu ..
theorem Bef.aji{ops:Array Oper}{p:Nat->Prop}(hp: ∀(j:Nat)(oj:Oper),ops[j]? =some oj->p j->∀d,d∈wd oj->p d){i j:Nat}(h:Bef ops i j):p j->p i:=by
 induction h with
 | one h hd=>exact fun hj=>hp _ _ h hj _ hd
 | aud h hd _ ih=>exact fun hj=>ih (hp _ _ h hj _ hd)
theorem Bef.kx{ops:Array Oper}{i j:Nat}(h:Bef ops i j){p:Nat->Prop}(hp: ∀(j:Nat)(oj:Oper),ops[j]? =some oj->p j->∀d,d∈wd oj->p d)
  {oj:Oper} (hj:ops[j]? =some oj) (hr: ∀d,d∈wd oj->p d):p i:=by
 cases h with
 | one h hd=>rw[hj] at h;cases h;exact hr _ hd
 | aud h hd hb=>rw[hj] at h;cases h;exact hb.aji hp (hr _ hd)
theorem ahe{ops:Array Oper}{done:List Nat}{i:Nat}(h:asf ops done i=true):done.contains i=false/\∃oi,ops[i]? =some oi/\∀d,d∈wd oi->done.contains d=true:=by
 simp only[asf,Bool.and_eq_true] at h
 obtain⟨_,h2,h3⟩:=h
 refine⟨by simpa using h2,?_⟩
 cases hi:ops[i]? with
 | none=>simp[hi] at h3
 | some oi=>
  simp only[hi] at h3
  exact⟨oi,rfl,afa h3⟩
theorem ayp{ops:Array Oper}{done as:List Nat}(h:axw ops done as=true)(j:Nat)(oj:Oper)(hj:ops[j]? =some oj)(hd:done.contains j=false):j∈as\/∃d,d∈wd oj/\done.contains d=false:=by
 simp only[axw,List.all_eq_true] at h
 have:=h j (List.mem_range.2 (Array.getElem?_eq_some_iff.1 hj).1)
 rw[hd,Bool.false_or,Bool.or_eq_true,hj] at this
 rcases this with h1|h1
 ·exact .inl (by simpa using h1)
 ·simp only[List.any_eq_true] at h1
  obtain⟨d,hd1,hd2⟩:=h1
  exact .inr ⟨d,hd1,by simpa using hd2⟩
theorem bhe{ops:Array Oper}{eff done:List Nat}{i:Nat}{r:PT}(h:vf ops eff true done (.go i r)=true):
  eff.contains i=false/\done.contains i=false/\(∃oi,ops[i]? =some oi/\∀d,d∈wd oi->done.contains d=true)/\vf ops eff true (i :: done) r=true:=by
 simp only[vf,Bool.and_eq_true] at h
 obtain⟨_,h1,h2,h3⟩:=h
 obtain⟨h4,h5⟩:=ahe h2
 exact⟨by simpa using h1,h4,h5,h3⟩
theorem bax{ops:Array Oper}{eff done:List Nat}{i:Nat}{r m:PT}(h:vf ops eff true done (.eff i r m)=true):
  eff.contains i=true/\done.contains i=false/\∀(j:Nat)(oj:Oper),ops[j]? =some oj->done.contains j=false->j∈i :: afp m\/∃d,d∈wd oj/\done.contains d=false:=by
 simp only[vf,Bool.and_eq_true] at h
 obtain⟨h0,h1,h2,_,_⟩:=h
 exact⟨h1,(ahe h2).1,ayp (by simpa using h0)⟩
theorem ajs{ops:Array Oper}{eff done:List Nat}{i:Nat}{r m:PT}(h:vf ops eff true done (.eff i r m)=true):vf ops eff false done (.eff i r m)=true:=by
 simp only[vf,Bool.and_eq_true] at h⊢
 exact⟨by simp,h.2⟩
section
variable {P : Program} {n : Nat} {S : List Nat} {ops : Array Oper} {M eff : List Nat} {e0 : Env} {K : KE}
theorem oa{l:List Nat}{i j:Nat}(h:l.contains j=true):(i :: l).contains j=true:=by
 rw[List.contains_cons,h,Bool.or_true]
theorem amg{done dq:List Nat}{e:Env}{w:World}{x:Nat}: ∀(p:PT),vf ops eff false done p=true->zf P ops M p dq e w K->x∈afp p->
  ∃(r:PT)(ox:Oper),ops[x]? =some ox/\eff.contains x=true/\done.contains x=false/\(∀d,d∈wd ox->done.contains d=true)/\vf ops eff true (x :: done) r=true/\
   tu P ops ox e w fun v w'=>aeh P ops e w' (zf P ops M r dq (zh e ox.dst v) w' K) (dq.filter fun j=>!yv M j x):=by
 intro p
 induction p with
 | nil=>intro _ _ hx;simp[afp] at hx
 | iz=>intro _ _ hx;simp[afp] at hx
 | go i r ih=>intro _ _ hx;simp[afp] at hx
 | eff i r m _ ihm=>
  intro ho hc hx
  simp only[vf,Bool.and_eq_true] at ho
  obtain⟨_,h1,h2,h3,h4⟩:=ho
  obtain⟨h5,oi,h6,h7⟩:=ahe h2
  simp only[zf,h6] at hc
  rw[afp,List.mem_cons] at hx
  rcases hx with rfl|hx
  ·refine⟨r,oi,h6,h1,h5,h7,h3,?_⟩
   cases hs:aon m with
   | true=>simpa only[hs] using hc
   | false=>simp only[hs] at hc;exact hc.1
  ·cases hs:aon m with
   | true=>cases m <;>simp[aon] at hs;simp[afp] at hx
   | false=>simp only[hs] at hc;exact ihm h4 hc.2 hx
theorem Inv.aww(hp:atd n S ops M eff): ∀(po:PT){listed:Array Bool}{done dq:List Nat}{a:Act}{e:Env}{w:World},
  Inv P n S ops eff e0 listed done dq po a e w->zf P ops M po dq e w K->
  ∃done' dq' rest' e',Inv P n S ops eff e0 listed done' dq' rest' a e' w/\zf P ops M rest' dq' e' w K/\(rest'= .nil\/∃i r m,rest'= .eff i r m):=by
 intro po
 induction po with
 | nil=>intro listed done dq a e w hI hc;exact⟨done,dq,.nil,e,hI,hc,.inl rfl⟩
 | iz=>intro listed done dq a e w hI hc;have:=hI.ord;simp[vf] at this
 | eff i r m=>intro listed done dq a e w hI hc;exact⟨done,dq,.eff i r m,e,hI,hc,.inr ⟨i,r,m,rfl⟩⟩
 | go q r ih=>
  intro listed done dq a e w hI hc
  ·obtain⟨he,hq,⟨oq,hoq,hdeps⟩,hord⟩:=bhe hI.ord
   simp only[zf,hoq,ii] at hc
   obtain⟨v,w',⟨hw,hk⟩,hall⟩:=azg (hp.det q oq hoq he) hc
   subst hw
   have hql:listed.getD q false=false:=by
    cases h:listed.getD q false with
    | false=>rfl
    | true=>have:=hI.sub q h;rw[hq] at this;cases this
   have hne: ∀j,done.contains j=true->j≠q:=fun j hj hjq=>by subst hjq;rw[hq] at hj;cases hj
   refine ih ⟨hI.sz,hord,fun j hj=>oa (hI.sub j hj),fun j hj hje=>?_,fun j hj hje=>?_,fun j hj=>?_,hI.vm,hI.asz,hI.adf,fun t ht=>?_,fun j oj hoj hj hl=>?_,fun j oj hoj hj d hd=>?_,fun t ht=>?_⟩ hk
   ·rw[List.contains_cons,Bool.or_eq_true,beq_iff_eq] at hj
    rcases hj with rfl|hj
    ·rw[he] at hje;cases hje
    ·exact hI.axq j hj hje
   ·rw[List.contains_cons,Bool.or_eq_true,beq_iff_eq] at hj
    rcases hj with rfl|hj
    ·simp
    ·exact oa (hI.dqs j hj hje)
   ·rw[List.contains_cons,Bool.or_eq_true,beq_iff_eq] at hj
    rcases hj with rfl|hj
    ·simp
    ·exact oa (hI.dqd j hj)
   ·rw[hI.ahv t ht,uq]
    intro hd
    rcases ht with ht| ⟨j,oj,hoj,hj,hjd⟩
    ·have:=hp.bsi q oq t hoq hd ht
     rw[he] at this;cases this
    ·exact hp.inj q j oq oj t hoq hoj (Ne.symm (hne j (hI.sub j hj))) hd hjd
   ·rw[List.contains_cons,Bool.or_eq_true,beq_iff_eq] at hj
    rcases hj with rfl|hj
    ·rw[hoq] at hoj
     cases hoj
     refine afs (fun t ht=>?_) (hall _ ⟨rfl,fun d hd=>(arb hd).symm⟩)
     rw[uq]
     exact fun hd=>hp.ou j oq t hoq hd ht
    ·have hlook: ∀t,t∈oj.looksAt ops->oq.dst≠some t:=fun t ht hd=>by
      rcases hp.bjm q j oq oj t hoq hoj (Ne.symm (hne j hj)) hd ht with h| ⟨_,h⟩
      ·have:=h.aji (p:=fun j=>done.contains j=true) hI.lin hj
       rw[hq] at this;cases this
      ·rw[he] at h;cases h
     refine afs (fun t ht=>(uq (hlook t ht)).symm) (ado (fun v' w'' hv=>⟨hv.1,fun d hd=>?_⟩) (hI.bgp j oj hoj hj hl))
     rw[hv.2 d hd,uq]
     exact fun hd'=>hp.inj q j oq oj d hoq hoj (Ne.symm (hne j hj)) hd' hd
   ·rw[List.contains_cons,Bool.or_eq_true,beq_iff_eq] at hj
    rcases hj with rfl|hj
    ·rw[hoq] at hoj
     cases hoj
     exact oa (hdeps d hd)
    ·exact oa (hI.lin j oj hoj hj d hd)
   ·rw[uq,hI.frame t ht]
    exact fun hd=>ht (List.mem_filterMap.2 ⟨oq,by simpa using Array.mem_of_getElem? hoq,hd⟩)
theorem avy{e:Env}{w:World}{k:Prop}: ∀{js:List Nat},aeh P ops e w k js->k/\∀(j:Nat)(oj:Oper),j∈js->ops[j]? =some oj->arx P ops oj e w:=by
 intro js
 induction js with
 | nil=>exact fun h=>⟨h,fun _ _ h=>by cases h⟩
 | cons j js ih=>
  intro h
  simp only[aeh] at h
  cases hj:ops[j]? with
  | none=>
   simp only[hj] at h
   refine⟨(ih h).1,fun i oi hi hoi=>?_⟩
   rcases List.mem_cons.1 hi with rfl|hi
   ·rw[hj] at hoi;cases hoi
   ·exact (ih h).2 i oi hi hoi
  | some o=>
   simp only[hj] at h
   refine⟨(ih h.2).1,fun i oi hi hoi=>?_⟩
   rcases List.mem_cons.1 hi with rfl|hi
   ·rw[hj] at hoi;cases hoi;exact h.1
   ·exact (ih h.2).2 i oi hi hoi
theorem bal{o:Oper}{e:Env}{w:World}(h:arx P ops o e w):tu P ops o e w fun v w'=>w'=w/\∀d,o.dst=some d->v=e d:=by
 unfold arx at h
 cases hd:o.dst with
 | none=>
  simp only[hd,ii] at h
  exact ado (fun v w' hv=>⟨hv.1,fun d hd'=>by cases hd'⟩) h
 | some d=>
  simp only[hd,ip] at h
  exact ado (fun v w' hv=>⟨hv.1,fun d' hd'=>by cases hd';exact hv.2⟩) h
end
section
variable {P : Program} {n : Nat} {S : List Nat} {ops : Array Oper} {M eff : List Nat} {e0 : Env} {K : KE} {Q : Exit → Act → World → Prop}
theorem aro{listed:Array Bool}{i:Nat}(h:i < listed.size):(listed.setIfInBounds i true).getD i false=true:=by
 simp[h]
def unl(listed:Array Bool):Nat:=listed.toList.count false
theorem axd{listed:Array Bool}{i:Nat}(h:i < listed.size)(hi:listed.getD i false=false):unl (listed.setIfInBounds i true)+1=unl listed:=by
 unfold unl
 have hg:listed.toList[i]'(by simpa using h)=false:=by simpa [h] using hi
 have hm:0 < listed.toList.count false:=List.count_pos_iff.2 (by rw[<-hg];exact List.getElem_mem _)
 rw[Array.toList_setIfInBounds,List.count_set (by simpa using h),hg]
 simp
 have:listed.toList.count false=Array.count false listed:=by simp
 omega
theorem ail{listed:Array Bool}{i:Nat}(h:i < listed.size)(x y:Bool):listed.getD i x=listed.getD i y:=by simp[h]
theorem blg(hp:atd n S ops M eff)(hM: ∀k i,yv M i k=true->Bef ops i k)
  (hQ: ∀a' e' w',Rd n (ui ops ++ S) a' e'->(∀t,t∉ui ops->e' t=e0 t)->K e' w'->Q .normal a' w'):
  ∀(fuel:Nat){listed:Array Bool}{done dq:List Nat}{po:PT}{a:Act}{e:Env}{w:World},
   unl listed<=fuel->Inv P n S ops eff e0 listed done dq po a e w->zf P ops M po dq e w K->wpAny P .any ops Q fuel listed a w:=by
 intro fuel
 induction fuel with
 | zero=>
  intro listed done dq po a e w hu hI hc
  obtain⟨done,dq,po,e,hI,hc,hf⟩:=hI.aww hp po hc
  have hall: ∀j,j < ops.size->listed.getD j false=true:=fun j hj=>by
   cases h:listed.getD j false with
   | true=>rfl
   | false=>
    have h':=axd (by rw[hI.sz];exact hj) h
    omega
  have hr:Region.ready .any ops listed=[]:=by
   rw[List.eq_nil_iff_forall_not_mem]
   intro j hj
   obtain⟨h0,o,ho,_⟩:=mem_ready.1 hj
   have hjl:=(Array.getElem?_eq_some_iff.1 ho).1
   rw[ail (by rw[hI.sz];exact hjl) true false,hall j hjl] at h0
   cases h0
  refine⟨hr,?_⟩
  have hrest:po= .nil:=by
   rcases hf with h| ⟨i,r,m,rfl⟩
   ·exact h
   ·obtain⟨_,_,hoi,_,hi,_⟩:=amg _ (ajs hI.ord) hc (List.mem_cons_self ..)
    have:=hI.sub i (hall i (Array.getElem?_eq_some_iff.1 hoi).1)
    rw[hi] at this;cases this
  subst hrest
  refine hQ a e w ⟨hI.asz,hI.adf,fun t ht=>hI.ahv t ?_⟩ hI.frame (by simpa [zf] using hc)
  rw[List.contains_iff_mem,List.mem_append] at ht
  rcases ht with ht|ht
  ·obtain⟨oj,hoj,hd⟩:=List.mem_filterMap.1 ht
   obtain⟨j,hj,rfl⟩:=Array.mem_iff_getElem.1 (by simpa using hoj:oj∈ops)
   exact .inr ⟨j,_,Array.getElem?_eq_getElem hj,hall j hj,hd⟩
  ·exact .inl (by simpa using ht)
 | succ fuel ih=>
  intro listed done dq po a e w hu hI hc
  obtain⟨done,dq,po,e,hI,hc,hf⟩:=hI.aww hp po hc
  refine⟨fun hr=>?_,fun x hx=>?_⟩
  ·-- nothing may come up:all have come up
   have hall: ∀j,j < ops.size->listed.getD j false=true:=by
    intro j
    induction j using Nat.strongRecOn with
    | _ j ihj=>
     intro hj
     cases h:listed.getD j false with
     | true=>rfl
     | false=>
      exfalso
      have hoj:ops[j]? =some ops[j]:=Array.getElem?_eq_getElem hj
      have:j∈Region.ready .any ops listed:=mem_ready.2 ⟨by rw[ail (by rw[hI.sz];exact hj) true false];exact h,ops[j],hoj,fun ed hed hb=>by
       have hd:ed.on∈wd ops[j]:=List.mem_filterMap.2 ⟨ed,by simpa using hed,by simp[hb]⟩
       have hlt:=hp.bho j _ hoj _ hd
       exact ihj ed.on hlt (by omega)⟩
      rw[hr] at this;cases this
   have hrest:po= .nil:=by
    rcases hf with h| ⟨i,r,m,rfl⟩
    ·exact h
    ·obtain⟨_,_,hoi,_,hi,_⟩:=amg _ (ajs hI.ord) hc (List.mem_cons_self ..)
     have:=hI.sub i (hall i (Array.getElem?_eq_some_iff.1 hoi).1)
     rw[hi] at this;cases this
   subst hrest
   refine hQ a e w ⟨hI.asz,hI.adf,fun t ht=>hI.ahv t ?_⟩ hI.frame (by simpa [zf] using hc)
   rw[List.contains_iff_mem,List.mem_append] at ht
   rcases ht with ht|ht
   ·obtain⟨oj,hoj,hd⟩:=List.mem_filterMap.1 ht
    obtain⟨j,hj,rfl⟩:=Array.mem_iff_getElem.1 (by simpa using hoj:oj∈ops)
    exact .inr ⟨j,_,Array.getElem?_eq_getElem hj,hall j hj,hd⟩
   ·exact .inl (by simpa using ht)
  ·obtain⟨h0,ox,hox,hdl⟩:=mem_ready.1 hx
   have hxs:=(Array.getElem?_eq_some_iff.1 hox).1
   have hxl:x < listed.size:=by rw[hI.sz];exact hxs
   rw[ail hxl true false] at h0
   have hready: ∀d,d∈wd ox->listed.getD d false=true:=fun d hd=>by
    obtain⟨ed,hed,hb⟩:=List.mem_filterMap.1 hd
    cases hbb:Region.binds .any ed with
    | false=>simp[hbb] at hb
    | true=>
     simp only[hbb,cond_true,Option.some.injEq] at hb
     subst hb
     exact hdl ed (by simpa using hed) hbb
   have hbef: ∀i,Bef ops i x->listed.getD i false=true:=fun i h=>h.kx (p:=fun j=>listed.getD j false=true) hI.vm hox hready
   -- lr x looks at is there
   have hlooks: ∀t,t∈ox.looksAt ops->a.tmps.getD t undef=e t:=fun t ht=>by
    rcases hp.bqp x ox t hox ht with h| ⟨j,oj,hoj,hd,hb⟩
    ·exact hI.ahv t (.inl h)
    ·exact hI.ahv t (.inr ⟨j,oj,hoj,hbef j hb,hd⟩)
   have hR:Rd n (ox.looksAt ops) a e:=⟨hI.asz,hI.adf,fun t ht=>hlooks t (by simpa using ht)⟩
   have hu':unl (listed.setIfInBounds x true)<=fuel:=by have:=axd hxl h0;omega
   have hL: ∀j,(listed.setIfInBounds x true).getD j false=true↔j=x\/listed.getD j false=true:=fun j=>by
    by_cases hjx:j=x
    ·subst hjx;simp only[aro hxl,true_or]
    ·rw[getD_set_ne false (Ne.symm hjx)];simp[hjx]
   cases hxd:done.contains x with
   | true=>
    -- it was done first already:now it comes up
    have hpe:=hI.bgp x ox hox hxd h0
    refine aij hox hR (fun t ht=>by simpa using ht) hpe fun v w' hv=>?_
    obtain⟨hw,hv⟩:=hv
    subst hw
    have hput: ∀t,ox.dst≠some t->(a.put ox.dst v).tmps.getD t undef=a.tmps.getD t undef:=fun t ht=>by
     cases hd:ox.dst with
     | none=>rfl
     | some d=>simp[Act.put,show d≠t from fun h=>ht (by rw[hd,h])]
    refine ih hu' (po:=po) (done:=done) (dq:=dq) (e:=e) ⟨by simpa using hI.sz,hI.ord,fun j hj=>?_,fun j hj he=>(hL j).2 (.inr (hI.axq j hj he)),hI.dqs,hI.dqd,fun j oj hoj hj d hd=>?_,?_,?_,fun t ht=>?_,fun j oj hoj hj hl=>?_,hI.lin,hI.frame⟩ hc
    ·rcases (hL j).1 hj with rfl|hj
     ·exact hxd
     ·exact hI.sub j hj
    ·rcases (hL j).1 hj with rfl|hj
     ·rw[hox] at hoj;cases hoj
      exact (hL d).2 (.inr (hready d hd))
     ·exact (hL d).2 (.inr (hI.vm j oj hoj hj d hd))
    ·cases hd:ox.dst <;>simpa [Act.put] using hI.asz
    ·cases hd:ox.dst <;>simpa [Act.put] using hI.adf
    ·by_cases htd:ox.dst=some t
     ·have htn:t < a.tmps.size:=by
       have:=hp.boa x ox hox
       rw[htd] at this
       rw[hI.asz]
       simpa [okD,Nat.blt_eq] using this
      rw[<-hv t htd,htd]
      simp[Act.put,htn]
     ·rw[hput t htd]
      refine hI.ahv t ?_
      rcases ht with ht| ⟨j,oj,hoj,hj,hd⟩
      ·exact .inl ht
      ·rcases (hL j).1 hj with rfl|hj
       ·rw[hox] at hoj;cases hoj;exact absurd hd htd
       ·exact .inr ⟨j,oj,hoj,hj,hd⟩
    ·refine hI.bgp j oj hoj hj ?_
     cases h:listed.getD j false with
     | false=>rfl
     | true=>rw[(hL j).2 (.inr h)] at hl;cases hl
   | false=>
    -- it is the next one that turns the world
    rcases hf with rfl| ⟨i,r0,m,rfl⟩
    ·exfalso
     have:=hI.ord
     simp only[vf,Bool.true_and,List.all_eq_true] at this
     have:=this x (List.mem_range.2 hxs)
     rw[hxd] at this;cases this
    ·obtain⟨_,_,honly⟩:=bax hI.ord
     have hxi:x∈afp (.eff i r0 m):=by
      rcases honly x ox hox hxd with h| ⟨d,hd,hdd⟩
      ·exact h
      ·have:=hI.sub d (hready d hd)
       rw[hdd] at this;cases this
     obtain⟨r,oi,hoi,hei,hid,hideps,hord,hc⟩:=amg _ (ajs hI.ord) hc hxi
     rw[hox] at hoi;cases hoi
     refine aij hox hR (fun t ht=>by simpa using ht) hc fun v w' hv=>?_
     obtain⟨hk,hst⟩:=avy hv
     have hput: ∀t,ox.dst≠some t->(a.put ox.dst v).tmps.getD t undef=a.tmps.getD t undef:=fun t ht=>by
      cases hd:ox.dst with
      | none=>rfl
      | some d=>simp[Act.put,show d≠t from fun h=>ht (by rw[hd,h])]
     have hne: ∀j,done.contains j=true->j≠x:=fun j hj hjx=>by subst hjx;rw[hid] at hj;cases hj
     refine ih hu' (po:=r) (done:=x :: done) (dq:=dq) (e:=zh e ox.dst v) ⟨by simpa using hI.sz,hord,fun j hj=>?_,fun j hj he=>?_,fun j hj he=>?_,fun j hj=>oa (hI.dqd j hj),fun j oj hoj hj d hd=>?_,?_,?_,fun t ht=>?_,fun j oj hoj hj hl=>?_,fun j oj hoj hj d hd=>?_,fun t ht=>?_⟩ hk
     ·rcases (hL j).1 hj with rfl|hj
      ·simp
      ·exact oa (hI.sub j hj)
     ·rw[List.contains_cons,Bool.or_eq_true,beq_iff_eq] at hj
      rcases hj with rfl|hj
      ·exact (hL _).2 (.inl rfl)
      ·exact (hL _).2 (.inr (hI.axq j hj he))
     ·rw[List.contains_cons,Bool.or_eq_true,beq_iff_eq] at hj
      rcases hj with rfl|hj
      ·rw[hei] at he;cases he
      ·exact hI.dqs j hj he
     ·rcases (hL j).1 hj with rfl|hj
      ·rw[hox] at hoj;cases hoj
       exact (hL d).2 (.inr (hready d hd))
      ·exact (hL d).2 (.inr (hI.vm j oj hoj hj d hd))
     ·cases hd:ox.dst <;>simpa [Act.put] using hI.asz
     ·cases hd:ox.dst <;>simpa [Act.put] using hI.adf
     ·by_cases htd:ox.dst=some t
      ·have htn:t < a.tmps.size:=by
        have:=hp.boa x ox hox
        rw[htd] at this
        rw[hI.asz]
        simpa [okD,Nat.blt_eq] using this
       rw[arb htd,htd]
       simp[Act.put,htn]
      ·rw[hput t htd,uq htd]
       refine hI.ahv t ?_
       rcases ht with ht| ⟨j,oj,hoj,hj,hd⟩
       ·exact .inl ht
       ·rcases (hL j).1 hj with rfl|hj
        ·rw[hox] at hoj;cases hoj;exact absurd hd htd
        ·exact .inr ⟨j,oj,hoj,hj,hd⟩
     ·have hlj:listed.getD j false=false:=by
       cases h:listed.getD j false with
       | false=>rfl
       | true=>rw[(hL j).2 (.inr h)] at hl;cases hl
      rw[List.contains_cons,Bool.or_eq_true,beq_iff_eq] at hj
      rcases hj with rfl|hj
      ·rw[(hL _).2 (.inl rfl)] at hl;cases hl
      ·have hje:eff.contains j=false:=by
        cases h:eff.contains j with
        | false=>rfl
        | true=>rw[hI.axq j hj h] at hlj;cases hlj
       have hnb: ¬Bef ops j x:=fun h=>by rw[hbef j h] at hlj;cases hlj
       have hjq:j∈dq.filter fun k=>!yv M k x:=by
        rw[List.mem_filter]
        refine⟨by simpa using hI.dqs j hj hje,?_⟩
        cases hb:yv M j x with
        | false=>rfl
        | true=>exact absurd (hM _ _ hb) hnb
       have hs:=bal (hst j oj hjq hoj)
       have hlook: ∀t,t∈oj.looksAt ops->ox.dst≠some t:=fun t ht hd=>by
        rcases hp.bjm x j ox oj t hox hoj (Ne.symm (hne j hj)) hd ht with h| ⟨h,_⟩
        ·have:=h.aji (p:=fun j=>done.contains j=true) hI.lin hj
         rw[hid] at this;cases this
        ·exact hnb h
       refine afs (fun t ht=>(uq (hlook t ht)).symm) (ado (fun v' w'' hv=>⟨hv.1,fun d hd=>?_⟩) hs)
       rw[hv.2 d hd,uq]
       exact fun hd'=>hp.inj x j ox oj d hox hoj (Ne.symm (hne j hj)) hd' hd
     ·rw[List.contains_cons,Bool.or_eq_true,beq_iff_eq] at hj
      rcases hj with rfl|hj
      ·rw[hox] at hoj;cases hoj
       exact oa (hideps d hd)
      ·exact oa (hI.lin j oj hoj hj d hd)
     ·rw[uq,hI.frame t ht]
      exact fun hd=>ht (List.mem_filterMap.2 ⟨ox,by simpa using Array.mem_of_getElem? hox,hd⟩)
theorem agd{id:Nat}{pl:pz}{a:Act}{e:Env}{w:World}(hm:P.follows .mixedOrders=true)(hok:ata n S ops pl=true)(hR:Rd n S a e)(he: ∀t,t∉ui ops->e t=e0 t)
  (h:zf P ops pl.msk pl.asp [] e {w with drawn:=w.drawn+1} K)
  (hQ: ∀a' e' w',Rd n (ui ops ++ S) a' e'->(∀t,t∉ui ops->e' t=e0 t)->K e' w'->Q .normal a' w'):(Code.region id ops true).wp P Q a w:=by
 simp only[ata,Bool.and_eq_true,beq_iff_eq] at hok
 obtain⟨hmk,hok⟩:=hok
 rw[<-hmk] at h hok
 refine wp_region_any hm (blg (bpe hok.2) (aoa ops.toList [] (fun k i h=>by simp[yv] at h) (fun k o hk=>by simpa using hk)) hQ ops.size (done:=[]) (dq:=[]) (po:=pl.asp) (e:=e) ?_ ?_ h)
 ·simp[unl,List.count_replicate]
 ·have hno: ∀j,(Array.replicate ops.size false).getD j false=false:=fun j=>by
   by_cases hj:j < ops.size <;>simp[hj]
  refine⟨by simp,hok.1,fun j hj=>?_,fun j hj=>?_,fun j hj=>?_,fun j hj=>?_,fun j oj _ hj=>?_,hR.1,hR.2.1,fun t ht=>?_,fun j oj _ hj=>?_,fun j oj _ hj=>?_,he⟩
  ·rw[hno] at hj;cases hj
  ·simp at hj
  ·simp at hj
  ·simp at hj
  ·rw[hno] at hj;cases hj
  ·rcases ht with ht| ⟨j,oj,_,hj,_⟩
   ·exact hR.2.2 t ht
   ·rw[hno] at hj;cases hj
  ·simp at hj
  ·simp at hj
end
def gv:List Value->Nat->Value
 | [],_=>undef
 | v :: _,0=>v
 | _ :: vs,k+1=>gv vs k
def ovl(vs:List Value)(e:Env):Nat->List Nat->Env
 | _,[]=>e
 | k,d :: D=>fun t=>cond (Nat.beq t d) (gv vs k) (ovl vs e (k+1) D t)
def wr:Code->List Nat
 | .region _ ops _=>ui ops
 | .seq x y=>wr x ++ wr y
 | .cond _ x y=>wr x ++ wr y
 | .block _ c=>wr c
 | .loop c=>wr c
 | .scope c=>wr c
 | _=>[]
def phi(L:List Nat)(c:Code):List Nat:=((wr c).filter fun t=>L.contains t).eraseDups
def plain:Code->Bool
 | .skip=>true
 | .label _=>true
 | .region _ _ _=>true
 | _=>false
def agw(next:KE)(Q:Exit->KE):Exit->KE
 | .normal=>next
 | x=>Q x
def abz(id:Nat)(Q:Exit->KE):Exit->KE
 | .exit id'=>cond (Nat.beq id' id) (Q .normal) (Q (.exit id'))
 | x=>Q x
def den(P:Program)(L:List Nat)(pl:Nat->pz):Code->Env->World->(Exit->KE)->Prop
 | .skip,e,w,Q=>Q .normal e w
 | .label _,e,w,Q=>Q .normal e w
 | .region id ops draw,e,w,Q=>match draw with
  | false=>aec P ops (List.range ops.size) e w (Q .normal)
  | true=>match (pl id).bpu with
   | false=>je w fun w=>zf P ops (pl id).msk (pl id).asp [] e w (Q .normal)
   | true=>je w fun w=>im (fun K=>zf P ops (pl id).msk (pl id).asp [] e w fun e1 w=>K ((ui ops).map e1) w) fun vs w=>Q .normal (ovl vs e 0 (ui ops)) w
 | .seq x y,e,w,Q=>match plain x with
  | true=>den P L pl x e w (agw (fun e w=>den P L pl y e w Q) Q)
  | false=>im (fun K=>den P L pl x e w (agw (fun e1 w=>K ((phi L x).map e1) w) Q)) fun vs w=>den P L pl y (ovl vs e 0 (phi L x)) w Q
 | .cond c x y,e,w,Q=>il (ev e c) (den P L pl x e w Q) (den P L pl y e w Q)
 | .block id c,e,w,Q=>den P L pl c e w (abz id Q)
 | .loop c,e,w,Q=>jo ((phi L c).map e) w fun K vs w=>den P L pl c (ovl vs e 0 (phi L c)) w (agw (fun e1 w=>K ((phi L c).map e1) w) Q)
 | .exit id,e,w,Q=>Q (.exit id) e w
 | .scope c,e,w,Q=>den P L pl c e w Q
 | .ret,e,w,Q=>Q .ret e w
 | _,_,_,_=>False
def aft(L S:List Nat):Code->List Nat
 | .region _ ops _=>ui ops ++ S
 | .skip=>S
 | .label _=>S
 | _=>L
def okO(S:List Nat):Operand->Bool
 | .tmp t=>S.contains t
 | _=>true
def okC(n:Nat)(L:List Nat)(pl:Nat->pz):List Nat->Code->Bool
 | _,.skip=>true
 | _,.label _=>true
 | S,.region id ops draw=>match draw with
  | false=>ahb n ops S (List.range ops.size)
  | true=>ata n S ops (pl id)
 | S,.seq x y=>okC n L pl S x && okC n L pl (aft L S x) y
 | S,.cond c x y=>okO S c && (okC n L pl S x && okC n L pl S y)
 | S,.block _ c=>okC n L pl S c
 | _,.loop c=>okC n L pl L c
 | _,.exit _=>true
 | S,.scope c=>okC n L pl S c
 | _,.ret=>true
 | _,_=>false
theorem anf(vs:List Value)(e:Env)(t:Nat): ∀(D:List Nat)(k:Nat),(t∉D->ovl vs e k D t=e t):=by
 intro D
 induction D with
 | nil=>intro k _;rfl
 | cons d D ih=>
  intro k h
  have hne:t≠d:=fun h'=>h (by subst h';exact List.mem_cons_self ..)
  have hb:Nat.beq t d=false:=by cases hb:Nat.beq t d <;>simp_all
  simp only[ovl,hb,cond_false]
  exact ih (k+1) fun h'=>h (List.mem_cons_of_mem _ h')
theorem bnr(e:Env): ∀(D:List Nat)(k d:Nat),D[k]? =some d->gv (D.map e) k=e d:=by
 intro D
 induction D with
 | nil=>intro k d h;simp at h
 | cons x D ih=>
  intro k d h
  cases k with
  | zero=>simp at h;subst h;rfl
  | succ k=>exact ih k d (by simpa using h)
theorem awt(D0:List Nat)(e e1:Env)(t:Nat): ∀(D:List Nat)(k:Nat),(∀i d,D[i]? =some d->D0[k+i]? =some d)->t∈D->ovl (D0.map e1) e k D t=e1 t:=by
 intro D
 induction D with
 | nil=>intro k _ h;cases h
 | cons d D ih=>
  intro k hD h
  simp only[ovl]
  by_cases htd:t=d
  ·subst htd
   have:Nat.beq t t=true:=by simp
   simp only[this,cond_true]
   exact bnr e1 D0 k t (hD 0 t rfl)
  ·have hb:Nat.beq t d=false:=by cases hb:Nat.beq t d <;>simp_all
   simp only[hb,cond_false]
   refine ih (k+1) (fun i d' hi=>?_) ((List.mem_cons.1 h).resolve_left htd)
   have:=hD (i+1) d' (by simpa using hi)
   rw[show k+1+i=k+(i+1) from by omega]
   exact this
theorem aou{L:List Nat}{c:Code}{e e1:Env}(h: ∀t,t∉wr c->e1 t=e t){t:Nat}(hL:L.contains t=true):ovl ((phi L c).map e1) e 0 (phi L c) t=e1 t:=by
 by_cases ht:t∈phi L c
 ·exact awt _ e e1 t _ 0 (fun i d hi=>by rw[Nat.zero_add];exact hi) ht
 ·rw[anf _ _ _ _ _ ht]
  refine (h t fun hw=>ht ?_).symm
  unfold phi
  rw[List.mem_eraseDups]
  exact List.mem_filter.2 ⟨hw,hL⟩
theorem Rd.sub{n:Nat}{S S':List Nat}{a:Act}{e:Env}(h:Rd n S a e)(hs: ∀t,S'.contains t=true->S.contains t=true):Rd n S' a e:=⟨h.1,h.2.1,fun t ht=>h.2.2 t (hs t ht)⟩
theorem ahs(ops:Array Oper): ∀(l S:List Nat),∀t,S.contains t=true->(xq ops S l).contains t=true:=by
 intro l
 induction l with
 | nil=>exact fun S t h=>h
 | cons i r ih=>
  intro S t h
  simp only[xq]
  cases ops[i]? with
  | none=>exact ih S t h
  | some o=>
   refine ih _ t ?_
   cases hd:o.dst with
   | none=>exact h
   | some d=>exact oa h
theorem azt(ops:Array Oper)(j:Nat)(oj:Oper)(d:Nat)(hj:ops[j]? =some oj)(hd:oj.dst=some d): ∀(l S:List Nat),j∈l->(xq ops S l).contains d=true:=by
 intro l
 induction l with
 | nil=>intro S h;cases h
 | cons i r ih=>
  intro S h
  simp only[xq]
  rcases List.mem_cons.1 h with rfl|h
  ·rw[hj]
   refine ahs ops r _ d ?_
   simp[hd,api]
  ·cases ops[i]? with
   | none=>exact ih S h
   | some o=>exact ih _ h
theorem azm(ops:Array Oper)(S:List Nat)(t:Nat)(h:(ui ops ++ S).contains t=true):(xq ops S (List.range ops.size)).contains t=true:=by
 rw[List.contains_iff_mem,List.mem_append] at h
 rcases h with h|h
 ·obtain⟨oj,hoj,hd⟩:=List.mem_filterMap.1 h
  obtain⟨j,hj,rfl⟩:=Array.mem_iff_getElem.1 (by simpa using hoj:oj∈ops)
  exact azt ops j _ t (Array.getElem?_eq_getElem hj) hd _ _ (List.mem_range.2 hj)
 ·exact ahs ops _ S t (by simpa using h)
section
variable {P : Program} {n : Nat} {L : List Nat} {pl : Nat → pz}
theorem aav{S:List Nat}(h: ∀t,L.contains t=true->S.contains t=true)(c:Code): ∀t,L.contains t=true->(aft L S c).contains t=true:=by
 intro t ht
 cases c <;>simp only[aft] <;>first|exact ht|exact h t ht|skip
 rw[List.contains_iff_mem,List.mem_append]
 exact .inr (by simpa using h t ht)
def Out(n:Nat)(L S:List Nat)(c:Code)(e:Env)(Q:Exit->KE):Exit->Act->World->Prop:=fun x a' w'=>
 (x= .normal\/(∃id,x= .exit id)\/x= .ret)/\∃e',Rd n (match x with| .normal=>aft L S c|_=>L) a' e'/\Q x e' w'/\∀t,t∉wr c->e' t=e t
theorem bcf(hm:P.follows .mixedOrders=true): ∀(c:Code)(S:List Nat)(e:Env)(w:World)(Q:Exit->KE)(a:Act),(∀t,L.contains t=true->S.contains t=true)->
  okC n L pl S c=true->Rd n S a e->den P L pl c e w Q->c.wp P (Out n L S c e Q) a w:=by
 intro c
 induction c with
 | skip=>intro S e w Q a hLS _ hR h;exact wp_skip ⟨.inl rfl,e,hR,h,fun _ _=>rfl⟩
 | label l=>intro S e w Q a hLS _ hR h;exact wp_label ⟨.inl rfl,e,hR,h,fun _ _=>rfl⟩
 | region id ops draw=>
  intro S e w Q a hLS hok hR h
  cases draw with
  | false=>
   simp only[den,okC] at h hok
   exact (wpIn_wide (n:=0)).1 (wpIn_region (F:=vh none) (xn (n:=n) (ds:=[]) (e0:=e) _ S a e w _ hok hR (fun _ _=>rfl) h fun a' e' w' hR' he' hk=>⟨.inl rfl,e',Rd.sub hR' (azm ops S),hk,he'⟩))
  | true=>
   simp only[den,okC] at h hok
   cases hj:(pl id).bpu with
   | false=>
    simp only[hj,je] at h
    exact agd hm hok hR (e0:=e) (fun _ _=>rfl) h fun a' e' w' hR' he' hk=>⟨.inl rfl,e',hR',hk,he'⟩
   | true=>
    simp only[hj,je,im] at h
    refine agd hm hok hR (e0:=e) (fun _ _=>rfl) h fun a' e' w' hR' he' hk=>⟨.inl rfl,e',hR',?_,he'⟩
    have:ovl ((ui ops).map e') e 0 (ui ops)=e':=by
     funext t
     by_cases ht:t∈ui ops
     ·exact awt _ e e' t _ 0 (fun i d hi=>by rw[Nat.zero_add];exact hi) ht
     ·rw[anf _ _ _ _ _ ht];exact (he' t ht).symm
    rw[this] at hk
    exact hk
 | seq x y ihx ihy=>
  intro S e w Q a hLS hok hR h
  simp only[okC,Bool.and_eq_true] at hok
  have hSx: ∀t,L.contains t=true->(aft L S x).contains t=true:=aav hLS x
  simp only[den] at h
  cases hp:plain x with
  | true=>
   simp only[hp] at h
   refine wp_seq (wp_mono (ihx S e w _ a hLS hok.1 hR h) fun ex a1 w1 ho=>?_)
   obtain⟨hx,e1,hR1,hq,hfr⟩:=ho
   rcases hx with rfl| ⟨id,rfl⟩|rfl
   ·simp only[agw] at hq
    refine wp_mono (ihy _ e1 w1 Q a1 hSx hok.2 hR1 hq) fun ex2 a2 w2 ho2=>?_
    obtain⟨hx2,e2,hR2,hq2,hfr2⟩:=ho2
    refine⟨hx2,e2,?_,hq2,fun t ht=>?_⟩
    ·rcases hx2 with rfl| ⟨id,rfl⟩|rfl
     ·exact hR2.sub (aav hSx y)
     ·exact hR2
     ·exact hR2
    ·rw[wr,List.mem_append,not_or] at ht
     rw[hfr2 t ht.2,hfr t ht.1]
   ·exact⟨.inr (.inl ⟨id,rfl⟩),e1,hR1,hq,fun t ht=>hfr t fun h=>ht (by rw[wr,List.mem_append];exact .inl h)⟩
   ·exact⟨.inr (.inr rfl),e1,hR1,hq,fun t ht=>hfr t fun h=>ht (by rw[wr,List.mem_append];exact .inl h)⟩
  | false=>
   simp only[hp,im] at h
   refine wp_seq (wp_mono (ihx S e w _ a hLS hok.1 hR h) fun ex a1 w1 ho=>?_)
   obtain⟨hx,e1,hR1,hq,hfr⟩:=ho
   rcases hx with rfl| ⟨id,rfl⟩|rfl
   ·simp only[agw] at hq
    have ha:aft L S x=L:=by cases x <;>simp[plain] at hp <;>rfl
    simp only[ha] at hR1 hok hSx
    have hR1':Rd n L a1 (ovl ((phi L x).map e1) e 0 (phi L x)):=⟨hR1.1,hR1.2.1,fun t ht=>by rw[aou hfr ht];exact hR1.2.2 t ht⟩
    refine wp_mono (ihy _ _ w1 Q a1 hSx hok.2 hR1' hq) fun ex2 a2 w2 ho2=>?_
    obtain⟨hx2,e2,hR2,hq2,hfr2⟩:=ho2
    refine⟨hx2,e2,?_,hq2,fun t ht=>?_⟩
    ·rcases hx2 with rfl| ⟨id,rfl⟩|rfl
     ·exact hR2.sub (aav (fun _ h=>h) y)
     ·exact hR2
     ·exact hR2
    ·rw[wr,List.mem_append,not_or] at ht
     rw[hfr2 t ht.2,anf]
     intro hph
     unfold phi at hph
     rw[List.mem_eraseDups] at hph
     exact ht.1 (List.mem_filter.1 hph).1
   ·exact⟨.inr (.inl ⟨id,rfl⟩),e1,hR1,hq,fun t ht=>hfr t fun h=>ht (by rw[wr,List.mem_append];exact .inl h)⟩
   ·exact⟨.inr (.inr rfl),e1,hR1,hq,fun t ht=>hfr t fun h=>ht (by rw[wr,List.mem_append];exact .inl h)⟩
 | cond c x y ihx ihy=>
  intro S e w Q a hLS hok hR h
  simp only[okC,Bool.and_eq_true] at hok
  simp only[den] at h
  have hc:a.eval c=ev e c:=hR.ev c fun t ht=>by subst ht;exact hok.1
  have hout: ∀(z:Code),(∀t,t∈wr z->t∈wr x ++ wr y)->∀ex a' w',Out n L S z e Q ex a' w'->Out n L S (.cond c x y) e Q ex a' w':=by
   intro z hz ex a' w' ho
   obtain⟨hx,e1,hR1,hq,hfr⟩:=ho
   refine⟨hx,e1,?_,hq,fun t ht=>hfr t fun h=>ht (hz t h)⟩
   rcases hx with rfl| ⟨id,rfl⟩|rfl
   ·exact hR1.sub (aav hLS z)
   ·exact hR1
   ·exact hR1
  unfold il at h
  split at h
  ·rename_i hb
   exact wp_cond_true (hc.trans hb) (wp_mono (ihx S e w Q a hLS hok.2.1 hR h) (hout x fun t ht=>List.mem_append_left _ ht))
  ·rename_i hb
   exact wp_cond_false (hc.trans hb) (wp_mono (ihy S e w Q a hLS hok.2.2 hR h) (hout y fun t ht=>List.mem_append_right _ ht))
  ·exact h.elim
 | block id c ih=>
  intro S e w Q a hLS hok hR h
  simp only[den] at h
  simp only[okC] at hok
  refine wp_block (wp_mono (ih S e w _ a hLS hok hR h) fun ex a' w' ho=>?_)
  obtain⟨hx,e1,hR1,hq,hfr⟩:=ho
  have hsub: ∀t,L.contains t=true->(aft L S c).contains t=true:=aav hLS c
  rcases hx with rfl| ⟨id',rfl⟩|rfl
  ·exact⟨.inl rfl,e1,hR1.sub hsub,hq,hfr⟩
  ·simp only[abz] at hq
   simp only[Exit.inBlock]
   by_cases hid:id'=id
   ·subst hid
    have:Nat.beq id' id'=true:=by simp
    simp only[this,cond_true] at hq
    simp only[if_true]
    exact⟨.inl rfl,e1,hR1,hq,hfr⟩
   ·have:Nat.beq id' id=false:=by cases hb:Nat.beq id' id <;>simp_all
    simp only[this,cond_false] at hq
    simp only[hid,if_false]
    exact⟨.inr (.inl ⟨id',rfl⟩),e1,hR1,hq,hfr⟩
  ·exact⟨.inr (.inr rfl),e1,hR1,hq,hfr⟩
 | loop c ih=>
  intro S e w Q a hLS hok hR h
  simp only[den,jo] at h
  simp only[okC] at hok
  obtain⟨I,μ,h0,hround⟩:=h
  refine wp_loop (fun a' w'=> ∃vs,Rd n L a' (ovl vs e 0 (phi L c))/\vs=(phi L c).map (asc a')/\I vs w') (fun a' w'=>μ ((phi L c).map (asc a')) w') ?_ ?_
  ·have hv:(phi L c).map e=(phi L c).map (asc a):=List.map_congr_left fun t ht=>by
    unfold phi at ht
    rw[List.mem_eraseDups] at ht
    have:=(List.mem_filter.1 ht).2
    exact (hR.2.2 t (hLS t this)).symm
   refine⟨_,⟨hR.1,hR.2.1,fun t ht=>?_⟩,hv,h0⟩
   rw[aou (fun _ _=>rfl) ht]
   exact hR.2.2 t (hLS t ht)
  ·rintro a1 w1 ⟨vs,hR1,hvs,hI⟩
   refine wp_mono (ih L _ w1 _ a1 (fun _ h=>h) hok hR1 (hround vs w1 hI)) fun ex a2 w2 ho=>?_
   obtain⟨hx,e2,hR2,hq,hfr⟩:=ho
   have hfr': ∀t,t∉wr c->e2 t=e t:=fun t ht=>by
    rw[hfr t ht,anf]
    intro hph
    unfold phi at hph
    rw[List.mem_eraseDups] at hph
    exact ht (List.mem_filter.1 hph).1
   rcases hx with rfl| ⟨id',rfl⟩|rfl
   ·simp only[agw] at hq
    have hsub: ∀t,L.contains t=true->(aft L L c).contains t=true:=aav (fun _ h=>h) c
    have hR2':Rd n L a2 e2:=hR2.sub hsub
    have hv:(phi L c).map e2=(phi L c).map (asc a2):=List.map_congr_left fun t ht=>by
     unfold phi at ht
     rw[List.mem_eraseDups] at ht
     exact (hR2'.2.2 t (List.mem_filter.1 ht).2).symm
    refine⟨⟨_,⟨hR2'.1,hR2'.2.1,fun t ht=>?_⟩,hv,hq.1⟩,?_⟩
    ·rw[aou hfr' ht]
     exact hR2'.2.2 t ht
    ·rw[<-hv,<-hvs]
     exact hq.2
   ·exact⟨.inr (.inl ⟨id',rfl⟩),e2,hR2,hq,hfr'⟩
   ·exact⟨.inr (.inr rfl),e2,hR2,hq,hfr'⟩
 | scope c ih=>
  intro S e w Q a hLS hok hR h
  simp only[den] at h
  simp only[okC] at hok
  refine wp_scope_straight (wp_mono (ih S e w Q a hLS hok hR h) fun ex a' w' ho=>?_)
  obtain⟨hx,e1,hR1,hq,hfr⟩:=ho
  have hsub: ∀t,L.contains t=true->(aft L S c).contains t=true:=aav hLS c
  rcases hx with rfl| ⟨id',rfl⟩|rfl
  ·exact⟨.inl rfl,e1,hR1.sub hsub,hq,hfr⟩
  ·exact⟨.inr (.inl ⟨id',rfl⟩),e1,hR1,hq,hfr⟩
  ·exact⟨.inr (.inr rfl),e1,hR1,hq,hfr⟩
 | exit id=>intro S e w Q a hLS _ hR h;exact wp_exit ⟨.inr (.inl ⟨id,rfl⟩),e,hR.sub hLS,h,fun _ _=>rfl⟩
 | ret=>intro S e w Q a hLS _ hR h;exact wp_ret ⟨.inr (.inr rfl),e,hR.sub hLS,h,fun _ _=>rfl⟩
 | rangeFunc f ps x y _ _=>intro S e w Q a _ hok;simp[okC] at hok
 | goto l=>intro S e w Q a _ hok;simp[okC] at hok
 | refuse why=>intro S e w Q a _ hok;simp[okC] at hok
end
def apt(t:TypeId)(a:Value):Sem Value:=do loadVar t (<-asAddr a)
def ajk(P:Program):List ResultVar->Env->World->(List Value->Prop)->Prop
 | [],_,_,k=>k []
 | .tmp t :: r,e,w,k=>ajk P r e w fun vs=>k (e t :: vs)
 | .cell a t :: r,e,w,k=>ii (fun K=>jt P (apt t (e a)) w K) w fun v=>ajk P r e w fun vs=>k (v :: vs)
def ahz:List Value->Value
 | [x]=>x
 | xs=> .tuple xs.toArray
def adv(P:Program)(rs:List ResultVar)(K:KV):Exit->KE
 | .normal=>fun e w=>ajk P rs e w fun vs=>K (ahz vs) w
 | .ret=>fun e w=>ajk P rs e w fun vs=>K (ahz vs) w
 | _=>fun _ _=>False
def ace:List Value->Env
 | []=>fun _=>undef
 | v :: vs=>fun t=>match t with
  | 0=>v
  | t+1=>ace vs t
def ahh(L:List Nat):List ResultVar->Bool
 | []=>true
 | .tmp t :: r=>L.contains t && ahh L r
 | .cell a _ :: r=>L.contains a && ahh L r
def afy(L:List Nat)(pl:Nat->pz)(fn:Func)(c:Code)(k:Nat):Bool:=Nat.ble k fn.ntmps && (okC fn.ntmps L pl L c && ahh L fn.results.toList)
theorem bby(args:List Value): ∀t,ace args t=args.getD t undef:=by
 induction args with
 | nil=>intro t;rfl
 | cons v vs ih=>intro t;cases t with
  | zero=>rfl
  | succ t=>simp only[ace,ih];simp
def aso(tmps:Array Value):ResultVar->Sem Value
 | .tmp t=>pure (tmps.getD t undef)
 | .cell a t=>do loadVar t (<-asAddr (tmps.getD a undef))
theorem anl{P:Program}{L:List Nat}{n:Nat}{e:Env}{a:Act}{w:World}(hR:Rd n L a e): ∀(rs:List ResultVar)(k:List Value->Prop),ahh L rs=true->ajk P rs e w k->
  ∃vs,k vs/\(rs.mapM (aso a.tmps)).run P w= .ok vs w:=by
 intro rs
 induction rs with
 | nil=>intro k _ h;exact⟨[],h,by simp[Sem.run,pure]⟩
 | cons r rs ih=>
  intro k hok h
  cases r with
  | tmp t=>
   simp only[ahh,Bool.and_eq_true] at hok
   obtain⟨vs,hk,hr⟩:=ih _ hok.2 h
   refine⟨_,hk,?_⟩
   rw[List.mapM_cons,Sem.run_bind]
   simp only[aso,Sem.run_pure,Result.andThen]
   rw[Sem.run_bind,hr]
   have:=hR.2.2 t hok.1
   simp only[Result.andThen,Sem.run_pure,this]
  | cell x t=>
   simp only[ahh,Bool.and_eq_true] at hok
   simp only[ajk,ii,jt,apt] at h
   cases hc:(do loadVar t (<-asAddr (e x)):Sem Value).run P w with
   | halt y w'=>simp only[hc] at h
   | ok v w'=>
    simp only[hc] at h
    obtain⟨hw,h⟩:=h
    subst hw
    obtain⟨vs,hk,hr⟩:=ih _ hok.2 h
    refine⟨_,hk,?_⟩
    rw[List.mapM_cons,Sem.run_bind]
    simp only[aso,hR.2.2 x hok.1]
    rw[hc]
    simp only[Result.andThen]
    rw[Sem.run_bind,hr]
    simp only[Result.andThen,Sem.run_pure]
theorem tg{P:Program}{f:FuncId}{fn:Func}{c:Code}{L:List Nat}{pl:Nat->pz}{args:List Value}{w:World}{K:KV}(hm:P.follows .mixedOrders=true)
  (hf:P.funcs[f]? =some fn) (hb:fn.body=some c) (hok:afy L pl fn c args.length=true) (h:den P L pl c (ace args) w (adv P fn.results.toList K)):jy P f args w K:=by
 simp only[afy,Bool.and_eq_true] at hok
 obtain⟨h1,h2,h3⟩:=hok
 have hle:args.length<=fn.ntmps:=Nat.le_of_ble_eq_true h1
 refine calls_of_wp hf hb (wp_mono (bcf hm c L (ace args) w _ _ (fun _ h=>h) h2 ⟨by simp;omega,rfl,fun t _=>?_⟩ h) fun ex a' w' ho=>?_)
 ·rw[bby]
  simp only[Array.getD_eq_getD_getElem?,List.getD_eq_getElem?_getD,Array.getElem?_append,List.size_toArray,List.getElem?_toArray]
  split
  ·rfl
  ·rename_i hlt
   rw[List.getElem?_eq_none (by omega),Array.getElem?_replicate]
   split <;>rfl
 ·obtain⟨hx,e',hR,hq,_⟩:=ho
  have key: ∀(R:Rd fn.ntmps L a' e')(hq:ajk P fn.results.toList e' w' fun vs=>K (ahz vs) w'),a'.defers=[]/\∃v,(results fn a'.tmps).run P w'= .ok v w'/\∃v',Ending.returned v= .returned v'/\K v' w':=by
   intro R hq
   obtain⟨vs,hk,hr⟩:=anl R _ _ h3 hq
   refine⟨R.2.1,ahz vs,?_,_,rfl,hk⟩
   have hfun:results fn a'.tmps=(do let vs<-fn.results.mapM (aso a'.tmps);pure (if h:vs.size=1 then vs[0] else .tuple vs)):=by
    unfold results
    congr 1
   rw[hfun,Array.mapM_eq_mapM_toList,Sem.run_bind,map_eq_pure_bind,Sem.run_bind,hr]
   simp only[Result.andThen,Sem.run_pure]
   cases vs with
   | nil=>simp[ahz]
   | cons v vs=>cases vs <;>simp[ahz]
  have hsub: ∀t,L.contains t=true->(aft L L c).contains t=true:=aav (fun _ h=>h) c
  rcases hx with rfl| ⟨id,rfl⟩|rfl
  ·exact key (hR.sub hsub) hq
  ·exact hq.elim
  ·exact key hR hq
section
variable {P : Program}
theorem ait {f:FuncId} {fn:Func} (hf:P.funcs[f]? =some fn) (hn:(fn.name == "runtime.NumGoroutine")=false) (hb:fn.body.isNone=false) (args:List Value) (w:World) (K:KV):
  ik P f args w K=jy P f args w K:=by
 unfold ik lz callFunc
 simp only[Sem.run_bind,program]
 rw[show Sem.run P (Sem.program Sem.pure) w=Result.ok P w from rfl]
 simp only[Result.andThen,hf,hn,hb,Bool.false_eq_true,if_false,Sem.run_pure]
theorem amo {f:FuncId} {fn:Func} (hf:P.funcs[f]? =some fn) (hn:(fn.name == "runtime.NumGoroutine")=false) (hb:fn.body.isNone=false) (a c:List Value) (args:List Value) (w:World) (K:KV):
  lh P (.func (.func f) a.toArray c.toArray) args w K=jy P f (a ++ args ++ c) w K:=by
 have e1:lh P (.func (.func f) a.toArray c.toArray) args w K=adu P (callFunc f (a ++ args ++ c).toArray) w K:=by
  simp[lh,Deferred.ofValue,invoke]
 rw[e1]
 unfold adu callFunc
 simp only[Sem.run_bind,program]
 rw[show Sem.run P (Sem.program Sem.pure) w=Result.ok P w from rfl]
 simp only[Result.andThen,hf,hn,hb,Bool.false_eq_true,if_false,Sem.run_pure]
theorem anz{t:TypeId}{v r:Value}{name:String}{f:FuncId}{w:World}(h:(method (P.types.size+Made.depth) t v name).run P w= .ok (f,r) w)(args:List Value)(K:KV):
  oc P (.iface t v) name args w K=ik P f (r :: args) w K:=by
 unfold oc ik lz callMethod
 simp only[Sem.run_bind,program,Result.andThen]
 rw[show Sem.run P (Sem.program Sem.pure) w=Result.ok P w from rfl]
 simp only[h]
 rw[show #[r] ++ args.toArray=(r :: args).toArray from by simp]
end
section
variable (P : Program)
def alT(t:TypeId)(w:World)(K:KV):Prop:=jt P (Instr.alloc t true (.tuple #[])) w K
def lk(t:TypeId)(v:Value)(w:World)(K:KV):Prop:=jt P (Instr.box t v) w K
def jq(t:TypeId)(ps:Array (Nat×Value))(w:World)(K:KV):Prop:=jt P (Instr.build t ps) w K
def bsT(t:TypeId)(n:Nat)(ps:Array (Nat×Value))(w:World)(K:KV):Prop:=jt P (Instr.buildSlice t n ps) w K
def ldT(t:TypeId)(a:Value)(w:World)(K:KV):Prop:=jt P (Instr.loadAt t a) w K
def stT(t:TypeId)(a v:Value)(w:World)(K:KV):Prop:=vo P (Instr.storeAt t a v) w K
def iy(op:BinOp)(t:TypeId)(rx ry:Operand)(x y:Value)(w:World)(K:KV):Prop:=jt P (do eqGuard op t rx ry x y;binOp op t x y) w K
def unT(op:UnOp)(x:Value)(w:World)(K:KV):Prop:=jt P (Op.unary op x) w K
def cvT(s d:TypeId)(x:Value)(w:World)(K:KV):Prop:=jt P (convert s d x) w K
def th(t:TypeId)(x:Value)(w:World)(K:KV):Prop:=jt P (Instr.makeInterface t x) w K
def aah(fn:Fn)(f c:List Value)(w:World)(K:KV):Prop:=jt P (Instr.makeFunc fn f.toArray c.toArray) w K
def abt(t:TypeId)(r:Option Value)(w:World)(K:KV):Prop:=jt P (Instr.makeMap t r) w K
def atr(t:TypeId)(l c:Value)(w:World)(K:KV):Prop:=jt P (Instr.makeSlice t l c) w K
def slT(t:TypeId)(x:Value)(lo hi mx:Option Value)(w:World)(K:KV):Prop:=jt P (Instr.sliceAt t x lo hi mx) w K
def faT(t:TypeId)(x:Value)(f:Nat)(w:World)(K:KV):Prop:=jt P (Instr.fieldAt t x f) w K
def fdT(t:TypeId)(x:Value)(f:Nat)(w:World)(K:KV):Prop:=jt P (Instr.field t x f) w K
def iaT(t:TypeId)(x i:Value)(w:World)(K:KV):Prop:=jt P (Instr.indexAt t x i) w K
def ixT(t:TypeId)(x i:Value)(w:World)(K:KV):Prop:=jt P (Instr.index t x i) w K
def luT(t:TypeId)(x i:Value)(ok:Bool)(w:World)(K:KV):Prop:=jt P (Instr.lookup t x i ok) w K
def muT(t:TypeId)(m k x:Value)(w:World)(K:KV):Prop:=vo P (Instr.mapUpdate t m k x) w K
def meT(t:TypeId)(m k:Value)(w:World)(K:KV):Prop:=jt P (Instr.mapEntry t m k) w K
def esT(t:TypeId)(m s x:Value)(w:World)(K:KV):Prop:=vo P (Instr.entryStore t m s x) w K
def rgT(t:TypeId)(x:Value)(w:World)(K:KV):Prop:=jt P (Instr.range t x) w K
def nxT(it:Value)(s:Bool)(t:TypeId)(w:World)(K:KV):Prop:=jt P (Instr.next it s t) w K
def enT(it:Value)(w:World)(K:KV):Prop:=jt P (Instr.entry it) w K
def taT(x:Value)(t a:TypeId)(ok:Bool)(w:World)(K:KV):Prop:=jt P (Instr.typeAssert x t a ok) w K
def exT(x:Value)(i:Nat)(w:World)(K:KV):Prop:=jt P (Instr.extract x i) w K
def oy(t:TypeId)(a:Value)(w:World)(K:KV):Prop:=jt P (apt t a) w K
end
def amw(_:World)(_:KV):Prop:=False
def iq(w:World)(b i:Nat):Option Value:=match w.heap[b]? with
 | some (.cells c _ _)=>c[i]?
 | _=>none
def qy(w:World)(b i:Nat):Bool:=match w.heap[b]? with
 | some (.cells _ _ f)=>decide (f.1<=i) && decide (i < f.2)
 | _=>false
theorem aag(w:World)(b i:Nat):w.cell? ⟨b,i,none⟩=iq w b i:=by
 unfold World.cell? iq;cases h:w.heap[b]? with
 | none=>rfl
 | some o=>cases o <;>rfl
theorem aoh(w:World)(b i:Nat):w.frozen? ⟨b,i,none⟩=qy w b i:=by
 unfold World.frozen? qy;cases h:w.heap[b]? with
 | none=>rfl
 | some o=>cases o <;>rfl
def Obj.put(i:Nat)(v:Value):Obj->Obj
 | .cells c e f=> .cells (c.setIfInBounds i v) e f
 | o=>o
theorem tj(w:World)(b i:Nat)(v:Value)(b':Nat):(w.setCell ⟨b,i,none⟩ v).heap[b']? =if b=b' then (w.heap[b']?).map (Obj.put i v) else w.heap[b']? :=by
 unfold World.setCell
 simp only[Array.getElem?_modify]
 split
 ·cases h:w.heap[b']? with
  | none=>rfl
  | some o=>cases o <;>simp[Obj.put]
 ·rfl
theorem yp(w:World)(a:Addr)(v:Value):(w.setCell a v).heap.size=w.heap.size:=by simp[World.setCell]
theorem ja(w:World)(o:Obj)(b:Nat):(w.alloc o).heap[b]? =if b=w.heap.size then some o else w.heap[b]? :=by
 unfold World.alloc
 simp only[Array.getElem?_push]
theorem jg(w:World)(o:Obj):(w.alloc o).heap.size=w.heap.size+1:=by unfold World.alloc;exact Array.size_push ..
def World.setObj(w:World)(b:Nat)(o:Obj):World:={w with heap:=w.heap.setIfInBounds b o}
theorem afv(w:World)(b:Nat)(o:Obj):(World.setObj w b o).heap.size=w.heap.size:=by simp[World.setObj]
theorem qj(w:World)(b:Nat)(o:Obj)(b':Nat)(h:b < w.heap.size):(World.setObj w b o).heap[b']? =if b=b' then some o else w.heap[b']? :=by
 unfold World.setObj
 simp only[Array.getElem?_setIfInBounds,h,if_true]
def dr(w:World)(n:Nat):World:={w with drawn:=w.drawn+n}
theorem agq(w:World)(n:Nat):(dr w n).heap=w.heap:=Eq.trans rfl rfl
theorem qr(w:World)(K:World->Prop):je w K=K (dr w 1):=Eq.trans rfl rfl
section
variable (P : Program)
def ld1(b i:Nat)(w:World)(K:KV):Prop:=jt P (load ⟨b,i,none⟩) w K
def st1(b i:Nat)(v:Value)(w:World)(K:KV):Prop:=vo P (storeCells ⟨b,i,none⟩ [v]) w K
def ldN(n b i:Nat)(w:World)(K:KV):Prop:=jt P (do pure (.agg (<-loadCells ⟨b,i,none⟩ n))) w K
def stN(b i:Nat)(vs:List Value)(w:World)(K:KV):Prop:=vo P (storeCells ⟨b,i,none⟩ vs) w K
end
section
variable {P : Program}
theorem aoc{w:World}{b i:Nat}{v:Value}(h:iq w b i=some v)(K:KV):ld1 P b i w K=K v w:=by
 unfold ld1 jt load
 rw[<-aag] at h
 simp only[Sem.run,h]
theorem bop{w:World}{b i:Nat}(h:(iq w b i).isSome=true)(K:KV):ld1 P b i w K=K ((iq w b i).getD undef) w:=by
 cases hc:iq w b i with
 | none=>rw[hc] at h;cases h
 | some v=>exact aoc hc K
def lc:Value->Bool
 | .agg _=>false
 | .tuple _=>false
 | _=>true
theorem anx{w:World}{b i:Nat}{v:Value}(h:(iq w b i).isSome=true)(hf:qy w b i=false)(h1:lc v=true)(k:Sem Unit):
  (Sem.store .plain ⟨b,i,none⟩ v k).run P w=k.run P (w.setCell ⟨b,i,none⟩ v):=by
 rw[<-aag] at h
 rw[<-aoh] at hf
 cases hc:w.cell? ⟨b,i,none⟩ with
 | none=>rw[hc] at h;cases h
 | some u=>cases v <;>first| (simp only[Sem.run,hc,hf];rfl)|cases h1
theorem ael{w:World}{b i:Nat}{v:Value}(h:(iq w b i).isSome=true)(hf:qy w b i=false)(h1:lc v=true)(K:KV):
  st1 P b i v w K=K undef (w.setCell ⟨b,i,none⟩ v):=by
 unfold st1 vo
 have:(storeCells ⟨b,i,none⟩ [v]:Sem Unit)= .store .plain ⟨b,i,none⟩ v (.pure ()):=by
  simp[storeCells,store,Addr.add,bind,Sem.bind,pure]
 rw[this,anx h hf h1]
 rfl
theorem aaf(b i j:Nat):(⟨b,i,none⟩:Addr).add j=⟨b,i+j,none⟩:=by
 unfold Addr.add
 split
 ·next h=>subst h;rfl
 ·rfl
theorem aif{w:World}{b i:Nat}: ∀(vs:List Value)(j:Nat)(acc:Array Value),(∀k v,vs[k]? =some v->iq w b (i+(j+k))=some v)->
  (loadCellsFrom ⟨b,i,none⟩ j vs.length acc).run P w= .ok (acc ++ vs.toArray) w:=by
 intro vs
 induction vs with
 | nil=>intro j acc _;simp[loadCellsFrom,Sem.run,pure]
 | cons v vs ih=>
  intro j acc h
  have h0:=h 0 v rfl
  rw[<-aag] at h0
  simp only[List.length_cons,loadCellsFrom]
  rw[Sem.run_bind,aaf]
  have:(load ⟨b,i+j,none⟩:Sem Value).run P w= .ok v w:=by simp only[load,Sem.run,Nat.add_zero] at h0⊢;rw[h0]
  rw[this]
  simp only[Result.andThen]
  rw[ih (j+1) (acc.push v) fun k u hk=>by rw[show j+1+k=j+(k+1) from by omega];exact h (k+1) u (by simpa using hk)]
  simp
theorem tk{w:World}{b i:Nat}(vs:List Value)(n:Nat)(hn:vs.length=n)(h: ∀k v,vs[k]? =some v->iq w b (i+k)=some v)(K:KV):ldN P n b i w K=K (.agg vs.toArray) w:=by
 unfold ldN jt loadCells
 subst hn
 rw[Sem.run_bind,aif vs 0 #[] fun k v hk=>by rw[Nat.zero_add];exact h k v hk]
 simp[Result.andThen,Sem.run,pure]
def aco(w:World)(b i:Nat):List Value->World
 | []=>w
 | v :: vs=>aco (w.setCell ⟨b,i,none⟩ v) b (i+1) vs
theorem kp(w:World)(b i:Nat)(v:Value)(b' i':Nat):iq (w.setCell ⟨b,i,none⟩ v) b' i'=if b=b'/\i=i' then (iq w b' i').map fun _=>v else iq w b' i':=by
 unfold iq
 rw[tj]
 by_cases hb:b=b'
 ·subst hb
  simp only[if_true,true_and]
  cases h:w.heap[b]? with
  | none=>simp
  | some o=>
   cases o <;>simp[Obj.put]
   rename_i c e f
   rw[Array.getElem?_setIfInBounds]
   split
   ·rename_i hi
    subst hi
    by_cases hlt:i < c.size <;>simp[hlt]
   ·rfl
 ·simp[hb]
theorem me(w:World)(a:Addr)(v:Value)(b' i':Nat)(ha:a.spot=none):qy (w.setCell a v) b' i'=qy w b' i':=by
 obtain⟨b,i,s⟩:=a
 simp only at ha
 subst ha
 unfold qy
 rw[tj]
 by_cases hb:b=b'
 ·rw[if_pos hb]
  cases h:w.heap[b']? with
  | none=>rfl
  | some o=>cases o <;>rfl
 ·rw[if_neg hb]
theorem aoo: ∀(vs:List Value)(w:World)(b i j:Nat),(∀k v,vs[k]? =some v->(iq w b (i+(j+k))).isSome=true/\qy w b (i+(j+k))=false/\lc v=true)->
  (storeCells ⟨b,i,none⟩ vs j).run P w= .ok () (aco w b (i+j) vs):=by
 intro vs
 induction vs with
 | nil=>intro w b i j _;simp[storeCells,Sem.run,pure,aco]
 | cons v vs ih=>
  intro w b i j h
  obtain⟨h1,h2,h3⟩:=h 0 v rfl
  simp only[Nat.add_zero] at h1 h2
  have:(storeCells ⟨b,i,none⟩ (v :: vs) j:Sem Unit)= .store .plain ⟨b,i+j,none⟩ v (storeCells ⟨b,i,none⟩ vs (j+1)):=by
   simp[storeCells,store,aaf,bind,Sem.bind]
  rw[this,anx h1 h2 h3,ih _ b i (j+1) fun k u hk=>?_]
  ·rfl
  ·obtain⟨g1,g2,g3⟩:=h (k+1) u (by simpa using hk)
   rw[show j+1+k=j+(k+1) from by omega]
   refine⟨?_,?_,g3⟩
   ·rw[kp]
    split
    ·simpa using g1
    ·exact g1
   ·rw[me _ _ _ _ _ rfl];exact g2
theorem atl{w:World}{b i:Nat}(vs:List Value)(h: ∀k v,vs[k]? =some v->(iq w b (i+k)).isSome=true/\qy w b (i+k)=false/\lc v=true)(K:KV):
  stN P b i vs w K=K undef (aco w b i vs):=by
 unfold stN vo
 rw[aoo vs w b i 0 fun k v hk=>by rw[Nat.zero_add];exact h k v hk]
 rfl
theorem vd(t:TypeId)(v:Value)(w:World)(K:KV):lk P t v w K=K (.pointer (some ⟨w.heap.size,0,none⟩)) (w.alloc (.cells v.cells t)):=Eq.trans rfl rfl
theorem aba(x y:Value)(w:World)(K:KV):exT P (.tuple #[x,y]) 0 w K=K x w:=Eq.trans rfl rfl
theorem abc(x y:Value)(w:World)(K:KV):exT P (.tuple #[x,y]) 1 w K=K y w:=Eq.trans rfl rfl
theorem bnv(x y z:Value)(w:World)(K:KV):exT P (.tuple #[x,y,z]) 0 w K=K x w:=Eq.trans rfl rfl
theorem bon(x y z:Value)(w:World)(K:KV):exT P (.tuple #[x,y,z]) 1 w K=K y w:=Eq.trans rfl rfl
theorem bny(x y z:Value)(w:World)(K:KV):exT P (.tuple #[x,y,z]) 2 w K=K z w:=Eq.trans rfl rfl
theorem biu(a:Addr)(w:World)(K:KV):iu (.pointer (some a)) w K=K (.pointer (some a)) w:=Eq.trans rfl rfl
theorem bcl(b:Bool)(w:World)(K:KV):unT P .not (.bool b) w K=K (.bool (!b)) w:=Eq.trans rfl rfl
theorem apk(t:Bool)(a b:Value)(w:World)(K:KV):jb (.bool t) a b w K=K (cond t a b) w:=Eq.trans rfl rfl
theorem cond_true(A B:Prop):il (.bool true) A B=A:=Eq.trans rfl rfl
theorem cond_false(A B:Prop):il (.bool false) A B=B:=Eq.trans rfl rfl
theorem adr(f:KV->Prop)(w:World)(K:KV):ij true f w K=f K:=Eq.trans rfl rfl
theorem avn(f:KV->Prop)(w:World)(K:KV):ij false f w K=K undef w:=Eq.trans rfl rfl
theorem abx(b t:Bool):isB (.bool b) t=(b == t):=Eq.trans rfl rfl
theorem brz(x:Value)(l:List Value):gv (x :: l) 0=x:=Eq.trans rfl rfl
theorem bru(x:Value)(l:List Value)(k:Nat):gv (x :: l) (k+1)=gv l k:=Eq.trans rfl rfl
section ints
variable (t : TypeId) (rx ry : Operand) (k : IntKind) (x y : Int) (w : World) (K : KV)
theorem na:iy P .lss t rx ry (.int k x) (.int k y) w K=K (.bool (decide (x < y))) w:=by simp[iy,jt,eqGuard,binOp,Op.intCmp,Sem.run_bind,Result.andThen,Sem.run,pure]
theorem agj:iy P .leq t rx ry (.int k x) (.int k y) w K=K (.bool (decide (x<=y))) w:=by simp[iy,jt,eqGuard,binOp,Op.intCmp,Sem.run_bind,Result.andThen,Sem.run,pure]
theorem wu:iy P .gtr t rx ry (.int k x) (.int k y) w K=K (.bool (decide (y < x))) w:=by simp[iy,jt,eqGuard,binOp,Op.intCmp,Sem.run_bind,Result.andThen,Sem.run,pure]
theorem su:iy P .geq t rx ry (.int k x) (.int k y) w K=K (.bool (decide (y<=x))) w:=by simp[iy,jt,eqGuard,binOp,Op.intCmp,Sem.run_bind,Result.andThen,Sem.run,pure]
theorem aby:iy P .eql t rx ry (.int k x) (.int k y) w K=K (.bool (decide (x=y))) w:=by
 have:(x == y)=decide (x=y):=rfl
 simp[iy,jt,eqGuard,binOp,Op.intCmp,Sem.run_bind,Result.andThen,Sem.run,pure,this]
theorem bkz:iy P .neq t rx ry (.int k x) (.int k y) w K=K (.bool (decide (x≠y))) w:=by
 have:(x != y)=decide (x≠y):=by by_cases h:x=y <;>simp[h]
 simp[iy,jt,eqGuard,binOp,Op.intCmp,Sem.run_bind,Result.andThen,Sem.run,pure,this]
theorem mm:iy P .add t rx ry (.int k x) (.int k y) w K=K (.int k (k.wrap (x+y))) w:=by simp[iy,jt,eqGuard,binOp,Op.intArith,Sem.run_bind,Result.andThen,Sem.run,pure]
theorem ol:iy P .sub t rx ry (.int k x) (.int k y) w K=K (.int k (k.wrap (x - y))) w:=by simp[iy,jt,eqGuard,binOp,Op.intArith,Sem.run_bind,Result.andThen,Sem.run,pure]
theorem xy:iy P .mul t rx ry (.int k x) (.int k y) w K=K (.int k (k.wrap (x * y))) w:=by simp[iy,jt,eqGuard,binOp,Op.intArith,Sem.run_bind,Result.andThen,Sem.run,pure]
end ints
end
abbrev MP:=List (Int×Value)
def kh:MP->Int->Option Value
 | [],_=>none
 | (y,u) :: m,x=>if y=x then some u else kh m x
def tz:MP->Int->Value->MP
 | [],x,v=>[(x,v)]
 | (y,u) :: m,x,v=>if y=x then (x,v) :: m else (y,u) :: tz m x v
def xp:MP->Int->MP
 | [],_=>[]
 | (y,u) :: m,x=>if y=x then m else (y,u) :: xp m x
def te:MP->Int->Option Nat
 | [],_=>none
 | (y,_) :: m,x=>if y=x then some 0 else (te m x).map (· +1)
inductive qq (k:IntKind):List MapEntry->MP->Prop
 | nil:qq k [] []
 | cons {x:Int} {v:Value} {b:Nat} {es:List MapEntry} {m:MP} (h:qq k es m):qq k (⟨.int k x,v,b⟩ :: es) ((x,v) :: m)
def abn(es:List MapEntry)(clk:Nat):Prop:=(es.map (·.born)).Nodup/\∀e∈es,e.born < clk
theorem abn.push{es:List MapEntry}{clk:Nat}(h:abn es clk)(k v:Value):abn (es ++ [⟨k,v,clk⟩]) (clk+1):=by
 refine⟨?_,fun e he=>?_⟩
 ·rw[List.map_append,List.nodup_append]
  refine⟨h.1,by simp,fun a ha b hb=>?_⟩
  simp at hb;subst hb
  obtain⟨e,he,rfl⟩:=List.mem_map.1 ha
  have:=h.2 e he;omega
 ·rcases List.mem_append.1 he with he|he
  ·have:=h.2 e he;omega
  ·simp at he;subst he;exact Nat.lt_succ_self _
theorem abn.modify{es:List MapEntry}{clk:Nat}(h:abn es clk)(k v:Value)(j:Nat):abn (es.modify j fun e=>{e with key:=k,val:=v}) clk:=by
 have hm:(es.modify j fun e=>{e with key:=k,val:=v}).map (·.born)=es.map (·.born):=by
  apply List.ext_getElem?
  intro i
  simp only[List.getElem?_map,List.getElem?_modify]
  cases es[i]? with
  | none=>rfl
  | some e=>simp only[Option.map_some];split <;>rfl
 refine⟨by rw[hm];exact h.1,fun e he=>?_⟩
 have:e.born∈es.map (·.born):=by rw[<-hm];exact List.mem_map_of_mem he
 obtain⟨e',he',hb⟩:=List.mem_map.1 this
 rw[<-hb];exact h.2 e' he'
theorem abn.sub{es es':List MapEntry}{clk:Nat}(h:abn es clk)(hs:es'.Sublist es):abn es' clk:=⟨(hs.map _).nodup h.1,fun e he=>h.2 e (hs.subset he)⟩
def lj(w:World)(r:Nat)(k:IntKind)(m:MP):Prop:= ∃es clk,w.heap[r]? =some (.map es clk)/\qq k es.toList m/\abn es.toList clk
theorem qq.length{k:IntKind}{es:List MapEntry}{m:MP}(h:qq k es m):es.length=m.length:=by
 induction h with
 | nil=>rfl
 | cons _ ih=>simp[ih]
theorem aix{k kk:IntKind}{es:List MapEntry}{m:MP}(h:qq k es m)(x:Int): ∀i,Instr.findNow (.int kk) (.int k x) es i=some ((te m x).bind fun j=>(kh m x).map fun v=>(i+j,v)):=by
 induction h with
 | nil=>intro i;rfl
 | @cons y v b es m h ih=>
  intro i
  simp only[Instr.findNow,Instr.sameNow,if_true,te,kh]
  by_cases hxy:y=x
  ·subst hxy;simp
  ·have:(x == y)=false:=by simp;exact fun h=>hxy h.symm
   simp only[this,if_neg hxy,ih (i+1)]
   cases hm:te m x with
   | none=>simp
   | some j=>
    cases hg:kh m x with
    | none=>simp
    | some u=>simp;omega
theorem aqm(m:MP)(x:Int):(te m x).isSome=(kh m x).isSome:=by
 induction m with
 | nil=>rfl
 | cons p m ih=>
  obtain⟨y,u⟩:=p
  simp only[te,kh]
  split <;>simp_all
theorem auj{k kk:IntKind}{es:List MapEntry}{m:MP}(h:qq k es m)(x:Int){v:Value}(hg:kh m x=some v): ∃j,te m x=some j/\Instr.findNow (.int kk) (.int k x) es 0=some (some (j,v)):=by
 have hi:=aqm m x
 rw[hg] at hi
 cases hj:te m x with
 | none=>rw[hj] at hi;cases hi
 | some j=>exact⟨j,rfl,by rw[aix h,hj,hg];simp⟩
theorem asy{k kk:IntKind}{es:List MapEntry}{m:MP}(h:qq k es m)(x:Int)(hg:kh m x=none):Instr.findNow (.int kk) (.int k x) es 0=some none:=by
 have hi:=aqm m x
 rw[hg] at hi
 cases hj:te m x with
 | some j=>rw[hj] at hi;cases hi
 | none=>rw[aix h,hj];rfl
theorem qq.modify{k:IntKind}{es:List MapEntry}{m:MP}(h:qq k es m)(x:Int)(v:Value): ∀{j:Nat},te m x=some j->qq k (es.modify j fun e=>{e with key:= .int k x,val:=v}) (tz m x v):=by
 induction h with
 | nil=>intro j hj;simp[te] at hj
 | @cons y u b es m h ih=>
  intro j hj
  simp only[te,tz] at hj⊢
  by_cases hxy:y=x
  ·rw[if_pos hxy] at hj⊢
   cases hj
   exact .cons h
  ·rw[if_neg hxy] at hj⊢
   cases hm:te m x with
   | none=>simp[hm] at hj
   | some i=>
    simp only[hm,Option.map_some,Option.some.injEq] at hj
    subst hj
    simpa using qq.cons (ih hm)
theorem qq.push{k:IntKind}{es:List MapEntry}{m:MP}(h:qq k es m)(x:Int)(v:Value)(b:Nat)(hg:kh m x=none):qq k (es ++ [⟨.int k x,v,b⟩]) (tz m x v):=by
 induction h with
 | nil=>exact .cons .nil
 | @cons y u b es m h ih=>
  simp only[kh] at hg
  by_cases hxy:y=x
  ·simp[hxy] at hg
  ·rw[if_neg hxy] at hg
   simp only[tz,if_neg hxy]
   exact .cons (ih hg)
theorem qq.erase{k:IntKind}{es:List MapEntry}{m:MP}(h:qq k es m)(x:Int): ∀{j:Nat},te m x=some j->qq k (es.eraseIdx j) (xp m x):=by
 induction h with
 | nil=>intro j hj;simp[te] at hj
 | @cons y u b es m h ih=>
  intro j hj
  simp only[te,xp] at hj⊢
  by_cases hxy:y=x
  ·rw[if_pos hxy] at hj⊢
   cases hj
   exact h
  ·rw[if_neg hxy] at hj⊢
   cases hm:te m x with
   | none=>simp[hm] at hj
   | some i=>
    simp only[hm,Option.map_some,Option.some.injEq] at hj
    subst hj
    simpa using qq.cons (ih hm)
theorem bni{m:MP}{x:Int}{j:Nat}(h:te m x=some j):j < m.length:=by
 induction m generalizing j with
 | nil=>simp[te] at h
 | cons p m ih=>
  obtain⟨y,u⟩:=p
  simp only[te] at h
  split at h
  ·cases h;simp
  ·cases hm:te m x with
   | none=>simp[hm] at h
   | some i=>simp[hm] at h;subst h;simpa using ih hm
section
variable {P : Program}
structure ot(P:Program)(t:TypeId)(k:IntKind)(elem:TypeId)(zero:Value):Prop where
 ty: ∃key,P.underlying t=some (.map key elem)/\P.underlying key=some (.int k)
 ze: ∃i,P.info? elem=some i/\i.zero=some zero
theorem ot.mk'{P:Program}{t:TypeId}{k:IntKind}{elem key:TypeId}{zero:Value}(h1:P.underlying t=some (.map key elem))(h2:P.underlying key=some (.int k))(h3:(P.info? elem).bind (·.zero)=some zero):ot P t k elem zero:=by
 refine⟨⟨key,h1,h2⟩,?_⟩
 cases hi:P.info? elem with
 | none=>simp[hi] at h3
 | some i=>exact⟨i,rfl,by simpa [hi] using h3⟩
theorem ji{t:TypeId}{d:TypeDesc}(h:P.underlying t=some d)(w:World):(underlying t).run P w= .ok d w:=by
 unfold underlying program
 rw[Sem.run_bind,show Sem.run P (Sem.program Sem.pure) w=Result.ok P w from rfl]
 simp only[Result.andThen,h,Sem.run_pure]
theorem afd{t:TypeId}{i:TypeInfo}{z:Value}(h:P.info? t=some i)(hz:i.zero=some z)(w:World):(zeroValue t).run P w= .ok z w:=by
 unfold zeroValue typeInfo program
 rw[Sem.run_bind,Sem.run_bind,show Sem.run P (Sem.program Sem.pure) w=Result.ok P w from rfl]
 simp only[Result.andThen,h,Sem.run_pure,hz]
theorem ri{w:World}{r:Nat}{es:Array MapEntry}{clk:Nat}(h:w.heap[r]? =some (.map es clk)):(getObj r).run P w= .ok (.map es clk) w:=by
 unfold getObj
 simp only[Sem.run,h]
theorem xj{w:World}{r:Nat}{es:Array MapEntry}{clk:Nat}(h:w.heap[r]? =some (.map es clk))(o:Obj):(setObj r o).run P w= .ok () (World.setObj w r o):=by
 unfold Go.setObj World.setObj
 simp only[Sem.run,h]
theorem tl{key:TypeId}{k kk:IntKind}(h:P.underlying key=some (.int kk))(e:Bool)(x:Int)(w:World):(Instr.checkKey e 10000 key (.int k x)).run P w= .ok () w:=by
 unfold Instr.checkKey
 rw[Sem.run_bind,ji h]
 simp only[Result.andThen,Sem.run_pure]
theorem xl{key:TypeId}{k kk:IntKind}(h:P.underlying key=some (.int kk)){es:Array MapEntry}{m:MP}(he:qq k es.toList m)(x:Int)(hg:kh m x=none)(w:World):
  (Instr.findKey key (.int k x) es.toList).run P w= .ok none w:=by
 unfold Instr.findKey
 rw[Sem.run_bind,ji h]
 simp only[Result.andThen,asy he x hg,Sem.run_pure]
theorem aai{key:TypeId}{k kk:IntKind}(h:P.underlying key=some (.int kk)){es:Array MapEntry}{m:MP}(he:qq k es.toList m)(x:Int){v:Value}(hg:kh m x=some v)(w:World):
  ∃j,te m x=some j/\(Instr.findKey key (.int k x) es.toList).run P w= .ok (some (j,v)) w:=by
 obtain⟨j,hj,hf⟩:=auj (kk:=kk) he x hg
 refine⟨j,hj,?_⟩
 unfold Instr.findKey
 rw[Sem.run_bind,ji h]
 simp only[Result.andThen,hf,Sem.run_pure]
theorem ank{t elem r:Nat}{k:IntKind}{zero:Value}{w:World}{m:MP}(ht:ot P t k elem zero)(hm:lj w r k m)(x:Int)(ok:Bool)(K:KV):
  luT P t (.map (some r)) (.int k x) ok w K=K (cond ok (.tuple #[(kh m x).getD zero,.bool (kh m x).isSome]) ((kh m x).getD zero)) w:=by
 obtain⟨⟨key,h1,h2⟩,i,h3,h4⟩:=ht
 obtain⟨es,clk,hr,he,hbn⟩:=hm
 cases hg:kh m x with
 | none=>
  have hf:=fun w=>xl h2 he x hg w
  cases ok <;>simp[luT,jt,Instr.lookup,Sem.run_bind,ji h1,Result.andThen,ri hr,Sem.run_pure,tl h2,hf,afd h3 h4]
 | some v=>
  obtain⟨j,_,hf⟩:=aai h2 he x hg w
  cases ok <;>simp[luT,jt,Instr.lookup,Sem.run_bind,ji h1,Result.andThen,ri hr,Sem.run_pure,tl h2,hf]
theorem tp{t elem r:Nat}{k:IntKind}{zero:Value}{w:World}{m:MP}(ht:ot P t k elem zero)(hm:lj w r k m)(x:Int)(K:KV):
  luT P t (.map (some r)) (.int k x) false w K=K ((kh m x).getD zero) w:=ank ht hm x false K
theorem akp{t elem r:Nat}{k:IntKind}{zero:Value}{w:World}{m:MP}(ht:ot P t k elem zero)(hm:lj w r k m)(x:Int)(K:KV):
  luT P t (.map (some r)) (.int k x) true w K=K (.tuple #[(kh m x).getD zero,.bool (kh m x).isSome]) w:=ank ht hm x true K
theorem bnu{t elem:Nat}{k:IntKind}{zero:Value}{w:World}(ht:ot P t k elem zero)(x:Int)(K:KV):
  luT P t (.map none) (.int k x) false w K=K zero w:=by
 obtain⟨⟨key,h1,h2⟩,i,h3,h4⟩:=ht
 have hf: ∀w,(Instr.findKey key (.int k x) []).run P w= .ok none w:=fun w=>by
  unfold Instr.findKey
  rw[Sem.run_bind,ji h2]
  simp only[Result.andThen,Instr.findNow,Sem.run_pure]
 simp[luT,jt,Instr.lookup,Sem.run_bind,ji h1,Result.andThen,Sem.run_pure,tl h2,hf,afd h3 h4]
theorem aul(k:IntKind)(x:Int):Instr.sameBits 10000 (.int k x) (.int k x)=true:=by simp[Instr.sameBits]
theorem aey{t elem r:Nat}{k:IntKind}{zero:Value}{w:World}{m:MP}(ht:ot P t k elem zero)(hm:lj w r k m)(x:Int)(v:Value)(K:KV)
  (h: ∀o,lj (World.setObj w r o) r k (tz m x v)->K undef (World.setObj w r o)):muT P t (.map (some r)) (.int k x) v w K:=by
 obtain⟨⟨key,h1,h2⟩,i,h3,h4⟩:=ht
 obtain⟨es,clk,hr,he,hbn⟩:=hm
 have hlt:r < w.heap.size:=(Array.getElem?_eq_some_iff.1 hr).1
 cases hg:kh m x with
 | none=>
  have hf:=fun w=>xl h2 he x hg w
  simp only[muT,vo,Instr.mapUpdate,Sem.run_bind,ji h1,Result.andThen,ri hr,tl h2,hf,xj hr]
  refine h _ ⟨es.push ⟨.int k x,v,clk⟩,clk+1,?_,?_,?_⟩
  ·rw[qj _ _ _ _ hlt,if_pos rfl]
  ·rw[Array.toList_push];exact he.push x v clk hg
  ·rw[Array.toList_push];exact hbn.push _ _
 | some u=>
  obtain⟨j,hj,hf⟩:=aai h2 he x hg w
  have hkey:((es[j]?).map (·.key)).getD (.int k x)= .int k x:=by
   have: ∀{l:List MapEntry}{m:MP},qq k l m->∀{j:Nat},te m x=some j->(l[j]?).map (·.key)=some (.int k x):=by
    intro l m hl
    induction hl with
    | nil=>intro j hj;simp[te] at hj
    | @cons y u b es m h ih=>
     intro j hj
     simp only[te] at hj
     by_cases hxy:y=x
     ·rw[if_pos hxy] at hj;cases hj;simp[hxy]
     ·rw[if_neg hxy] at hj
      cases hm:te m x with
      | none=>simp[hm] at hj
      | some i=>simp[hm] at hj;subst hj;simpa using ih hm
   have h':=this he hj
   simp only[Array.getElem?_toList] at h'
   rw[h'];rfl
  simp only[muT,vo,Instr.mapUpdate,Sem.run_bind,ji h1,Result.andThen,ri hr,tl h2,hf,hkey,Instr.keyThatStays,aul,if_true,Sem.run_pure,xj hr]
  refine h _ ⟨es.modify j fun e=>{e with key:= .int k x,val:=v},clk,?_,?_,?_⟩
  ·rw[qj _ _ _ _ hlt,if_pos rfl]
  ·rw[Array.toList_modify];exact he.modify x v hj
  ·rw[Array.toList_modify];exact hbn.modify _ _ _
theorem aui{t elem r ty:Nat}{k:IntKind}{zero:Value}{w:World}{m:MP}(ht:ot P t k elem zero)(hm:lj w r k m)(x:Int)(ats:TypeId)(cs:List Bool)(K:KV)
  (h: ∀o,lj (World.setObj w r o) r k (xp m x)->K (.tuple #[]) (World.setObj w r o)):biT P .delete #[t,ats] ty cs [.map (some r),.int k x] w K:=by
 obtain⟨⟨key,h1,h2⟩,i,h3,h4⟩:=ht
 obtain⟨es,clk,hr,he,hbn⟩:=hm
 have hlt:r < w.heap.size:=(Array.getElem?_eq_some_iff.1 hr).1
 cases hg:kh m x with
 | none=>
  have hf:=fun w=>xl h2 he x hg w
  simp only[biT,lz,builtin,Builtin.delete_,List.getElem?_toArray,List.getElem?_cons_zero,List.getElem?_cons_succ,Sem.run_bind,ji h1,Result.andThen,ri hr,tl h2,hf,xj hr,Sem.run_pure]
  refine h _ ⟨es,clk,?_,?_,hbn⟩
  ·rw[qj _ _ _ _ hlt,if_pos rfl]
  ·have: ∀m:MP,kh m x=none->xp m x=m:=by
    intro m
    induction m with
    | nil=>intro _;rfl
    | cons p m ih=>
     obtain⟨y,u⟩:=p
     intro h
     simp only[kh] at h
     split at h
     ·cases h
     ·rename_i hne
      simp only[xp,if_neg hne,ih h]
   rw[this m hg];exact he
 | some u=>
  obtain⟨j,hj,hf⟩:=aai h2 he x hg w
  simp only[biT,lz,builtin,Builtin.delete_,List.getElem?_toArray,List.getElem?_cons_zero,List.getElem?_cons_succ,Sem.run_bind,ji h1,Result.andThen,ri hr,tl h2,hf,xj hr,Sem.run_pure]
  have hjl:j < es.size:=by
   have:=bni hj
   rw[<-he.length] at this
   simpa using this
  refine h _ ⟨es.eraseIdxIfInBounds j,clk,?_,?_,?_⟩
  ·rw[qj _ _ _ _ hlt,if_pos rfl]
  ·rw[Array.eraseIdxIfInBounds,dif_pos hjl,Array.toList_eraseIdx]
   exact he.erase x hj
  ·rw[Array.eraseIdxIfInBounds,dif_pos hjl,Array.toList_eraseIdx]
   exact hbn.sub (List.eraseIdx_sublist ..)
theorem ack{t elem r ty:Nat}{k:IntKind}{zero:Value}{w:World}{m:MP}(ht:ot P t k elem zero)(hm:lj w r k m)(cs:List Bool)(K:KV):
  biT P .len #[t] ty cs [.map (some r)] w K=K (.int .i64 m.length) w:=by
 obtain⟨⟨key,h1,h2⟩,i,h3,h4⟩:=ht
 obtain⟨es,clk,hr,he,hbn⟩:=hm
 simp[biT,lz,builtin,Builtin.len_,Sem.run_bind,ji h1,Result.andThen,ri hr,Sem.run_pure,goInt,<-he.length]
theorem zu(t:TypeId)(w:World)(K:KV):abt P t none w K=K (.map (some w.heap.size)) (w.alloc (.map #[] 0)):=Eq.trans rfl rfl
theorem yi(w:World)(k:IntKind):lj (w.alloc (.map #[] 0)) w.heap.size k []:=⟨#[],0,by rw[ja,if_pos rfl],.nil,by simp[abn]⟩
theorem lj.of_heap{w w':World}{r:Nat}{k:IntKind}{m:MP}(h:lj w r k m)(he:w'.heap[r]? =w.heap[r]?):lj w' r k m:=by
 obtain⟨es,clk,hr,hE⟩:=h
 exact⟨es,clk,he.trans hr,hE⟩
theorem lj.lt{w:World}{r:Nat}{k:IntKind}{m:MP}(h:lj w r k m):r < w.heap.size:=by
 obtain⟨es,clk,hr,_,_⟩:=h
 exact (Array.getElem?_eq_some_iff.1 hr).1
end
theorem aau(m:MP)(x:Int)(v:Value)(y:Int):kh (tz m x v) y=if x=y then some v else kh m y:=by
 induction m with
 | nil=>simp[tz,kh]
 | cons p m ih=>
  obtain⟨z,u⟩:=p
  simp only[tz]
  by_cases hz:z=x
  ·subst hz;simp only[if_true,kh];split <;>rfl
  ·simp only[if_neg hz,kh,ih]
   by_cases hzy:z=y
   ·subst hzy;simp[Ne.symm hz]
   ·simp[hzy]
theorem abb(m:MP)(x y:Int)(h:x≠y):kh (xp m x) y=kh m y:=by
 induction m with
 | nil=>rfl
 | cons p m ih=>
  obtain⟨z,u⟩:=p
  simp only[xp]
  by_cases hz:z=x
  ·subst hz;simp only[if_true,kh,if_neg h]
  ·simp only[if_neg hz,kh,ih]
def jp(m:MP):List Int:=m.map (·.1)
theorem ql(m:MP)(x:Int):kh m x=none↔x∉jp m:=by
 induction m with
 | nil=>simp[kh,jp]
 | cons p m ih=>
  obtain⟨z,u⟩:=p
  simp only[kh,jp,List.map_cons,List.mem_cons,not_or] at ih⊢
  by_cases hz:z=x
  ·simp[hz]
  ·simp[hz,ih,Ne.symm hz]
theorem adq(m:MP)(x:Int)(v:Value):jp (tz m x v)=if x∈jp m then jp m else jp m ++ [x]:=by
 induction m with
 | nil=>simp[tz,jp]
 | cons p m ih=>
  obtain⟨z,u⟩:=p
  simp only[tz]
  by_cases hz:z=x
  ·subst hz;simp[jp]
  ·simp only[if_neg hz,jp,List.map_cons,List.mem_cons] at ih⊢
   rw[ih]
   by_cases hx:x∈List.map (fun x=>x.fst) m
   ·simp[hx]
   ·simp[hx,Ne.symm hz]
theorem aaz(m:MP)(x:Int):jp (xp m x)=(jp m).erase x:=by
 induction m with
 | nil=>rfl
 | cons p m ih=>
  obtain⟨z,u⟩:=p
  simp only[xp]
  by_cases hz:z=x
  ·subst hz;simp[jp]
  ·simp only[if_neg hz,jp,List.map_cons] at ih⊢
   rw[List.erase_cons_tail (by simpa using hz),ih]
theorem aga(m:MP)(x:Int)(h:(jp m).Nodup):kh (xp m x) x=none:=by
 rw[ql,aaz]
 exact List.Nodup.not_mem_erase h
structure Fr(S:Nat->Prop)(w w':World):Prop where
 size:w.heap.size<=w'.heap.size
 jl: ∀b,b < w.heap.size->¬S b->w'.heap[b]? =w.heap[b]?
 tape:w'.tape=w.tape
 os:w'.os=w.os
 output:w'.output=w.output
abbrev Fz:World->World->Prop:=Fr (fun _=>False)
section
variable {S S' : Nat → Prop} {w w' w'' : World}
theorem Fr.refl(S:Nat->Prop)(w:World):Fr S w w:=⟨Nat.le_refl _,fun _ _ _=>rfl,rfl,rfl,rfl⟩
theorem Fr.mono(h:Fr S w w')(hs: ∀b,b < w.heap.size->S b->S' b):Fr S' w w':=⟨h.size,fun b hb hn=>h.jl b hb fun h'=>hn (hs b hb h'),h.tape,h.os,h.output⟩
theorem Fr.jw(h:Fr S w w')(h':Fr S' w' w'')(hs: ∀b,b < w.heap.size->S' b->S b):Fr S w w'':=
 ⟨Nat.le_trans h.size h'.size,fun b hb hn=>(h'.jl b (Nat.lt_of_lt_of_le hb h.size) fun h''=>hn (hs b hb h'')).trans (h.jl b hb hn),h'.tape.trans h.tape,h'.os.trans h.os,h'.output.trans h.output⟩
theorem Fr.trans(h:Fr S w w')(h':Fr S w' w''):Fr S w w'':=h.jw h' fun _ _ h=>h
theorem Fr.dr(h:Fr S w w')(n:Nat):Fr S w (dr w' n):=⟨h.size,h.jl,h.tape,h.os,h.output⟩
theorem Fr.alloc(h:Fr S w w')(o:Obj):Fr S w (w'.alloc o):=
 ⟨by rw[jg];exact Nat.le_succ_of_le h.size,fun b hb hn=>by rw[ja,if_neg (by have:=h.size;omega)];exact h.jl b hb hn,h.tape,h.os,h.output⟩
theorem Fr.setCell(h:Fr S w w'){b:Nat}(hb:S b\/w.heap.size<=b)(i:Nat)(v:Value):Fr S w (w'.setCell ⟨b,i,none⟩ v):=
 ⟨by rw[yp];exact h.size,fun b' hb' hn=>by
  rw[tj,if_neg]
  ·exact h.jl b' hb' hn
  ·intro hbb;subst hbb
   rcases hb with hb|hb
   ·exact hn hb
   ·omega,h.tape,h.os,h.output⟩
theorem Fr.setObj(h:Fr S w w'){b:Nat}(hb:S b\/w.heap.size<=b)(o:Obj):Fr S w (World.setObj w' b o):=
 ⟨by rw[afv];exact h.size,fun b' hb' hn=>by
  unfold World.setObj
  simp only[Array.getElem?_setIfInBounds]
  rw[if_neg]
  ·exact h.jl b' hb' hn
  ·intro hbb;subst hbb
   rcases hb with hb|hb
   ·exact hn hb
   ·omega,h.tape,h.os,h.output⟩
theorem Fr.bjo{row:Option Nat}(h:World.grownBy w w' row):Fr (fun b=>row=some b) w w':=⟨h.size,fun b hb hn=>h.block b hb fun he=>hn he.symm,h.tape,h.os,h.output⟩
theorem Fr.heap(h:Fr S w w'){b:Nat}{o:Obj}(ho:w.heap[b]? =some o)(hn: ¬S b):w'.heap[b]? =some o:=(h.jl b (Array.getElem?_eq_some_iff.1 ho).1 hn).trans ho
end
theorem mh{w:World}{b:Nat}{o:Obj}(h:w.heap[b]? =some o):b < w.heap.size:=(Array.getElem?_eq_some_iff.1 h).1
theorem iw{w:World}{b:Nat}{c:Array Value}{e:TypeId}{f:Nat×Nat}(h:w.heap[b]? =some (.cells c e f))(i:Nat):iq w b i=c[i]? :=by simp[iq,h]
theorem mi{w:World}{b:Nat}{c:Array Value}{e:TypeId}(h:w.heap[b]? =some (.cells c e (0,0)))(i:Nat):qy w b i=false:=by simp[qy,h]
theorem xv{w w':World}{b:Nat}(h:w'.heap[b]? =w.heap[b]?)(i:Nat):iq w' b i=iq w b i:=by simp[iq,h]
theorem ly{w:World}{b b':Nat}{c c':Array Value}{e e':TypeId}{f f':Nat×Nat}(h:w.heap[b]? =some (.cells c e f))(h':w.heap[b']? =some (.cells c' e' f'))(hne:e≠e'):b≠b':=by
 rintro rfl
 rw[h] at h'
 injection h' with h';injection h' with _ h' _;exact hne h'
theorem ajd{w:World}{b b':Nat}{c:Array Value}{e:TypeId}{f:Nat×Nat}{es:Array MapEntry}{n:Nat}(h:w.heap[b]? =some (.cells c e f))(h':w.heap[b']? =some (.map es n)):b≠b':=by
 rintro rfl
 rw[h] at h'
 injection h' with h';cases h'
theorem afn(w:World)(n b i:Nat):iq (dr w n) b i=iq w b i:=Eq.trans rfl rfl
theorem bfw(w:World)(n b i:Nat):qy (dr w n) b i=qy w b i:=Eq.trans rfl rfl
theorem ads{w:World}{c:Array Value}{e:TypeId}{f:Nat×Nat}{n:Nat}(h:n=w.heap.size)(i:Nat):iq (w.alloc (.cells c e f)) n i=c[i]? :=by
 subst h;unfold iq;rw[ja,if_pos rfl]
theorem zr{w:World}{b:Nat}{x y z:Value}{e:TypeId}{f:Nat×Nat}(h:w.heap[b]? =some (.cells #[x,y,z] e f)):iq w b 0=some x/\iq w b 1=some y/\iq w b 2=some z:=by
 simp[iq,h]
theorem aeo{w:World}{b:Nat}{x y:Value}{e:TypeId}{f:Nat×Nat}(h:w.heap[b]? =some (.cells #[x,y] e f)):iq w b 0=some x/\iq w b 1=some y:=by
 simp[iq,h]
def nq(P:Program)(t:TypeId):Bool:=match P.underlying t with
 | some (.slice e)=>(P.info? e).isSome
 | _=>false
def elE(P:Program)(t:TypeId):TypeId:=match P.underlying t with
 | some (.slice e)=>e
 | _=>0
def szE(P:Program)(t:TypeId):Nat:=((P.info? (elE P t)).map (·.size)).getD 0
def adb(P:Program)(t:TypeId):Bool:=match P.underlying t with
 | some (.struct _)=>true
 | some (.array _ _)=>true
 | some _=>false
 | none=>true
section
variable {P : Program}
theorem yx{t:TypeId}(h:nq P t=true):P.underlying t=some (.slice (elE P t))/\∃i,P.info? (elE P t)=some i/\i.size=szE P t:=by
 unfold nq at h
 split at h
 ·rename_i e he
  have hE:elE P t=e:=by simp[elE,he]
  obtain⟨i,hi⟩:=Option.isSome_iff_exists.1 h
  exact⟨by rw[hE];exact he,i,by rw[hE];exact hi,by simp[szE,hE,hi]⟩
 ·cases h
theorem acp{e:TypeId}{i:TypeInfo}(h:P.info? e=some i)(w:World):(sizeOf e).run P w= .ok i.size w:=by
 unfold sizeOf typeInfo program
 rw[Sem.run_bind,Sem.run_bind,show Sem.run P (Sem.program Sem.pure) w=Result.ok P w from rfl]
 simp only[Result.andThen,h,Sem.run_pure]
theorem ash{t:TypeId}(h:nq P t=true){k:IntKind}{b o len cap:Nat}{i:Int}(h0:0<=i)(h1:i < len)(w:World)(K:KV):
  iaT P t (.slice (some ⟨b,o,none⟩) len cap) (.int k i) w K=K (.pointer (some ⟨b,o+i.toNat * szE P t,none⟩)) w:=by
 obtain⟨hu,inf,hi,hs⟩:=yx h
 simp[iaT,jt,Instr.indexAt,asIntOf,Sem.run_bind,ji hu,Result.andThen,Sem.run_pure,h0,h1,acp hi,aaf,hs]
theorem vq{t ty:TypeId}(h:nq P t=true)(cs:List Bool)(a:Option Addr)(n c:Nat)(w:World)(K:KV):
  biT P .len #[t] ty cs [.slice a n c] w K=K (.int .i64 n) w:=by
 obtain⟨hu,inf,hi,hs⟩:=yx h
 simp[biT,lz,builtin,Builtin.len_,Sem.run_bind,ji hu,Result.andThen,Sem.run_pure,goInt]
theorem baj{t:TypeId}(h:nq P t=true){k:IntKind}{a:Option Addr}{len cap:Nat}{i:Int}(h0:0<=i)(h1:i<=cap)(w:World)(K:KV):
  slT P t (.slice a len cap) none (some (.int k i)) none w K=K (.slice a i.toNat cap) w:=by
 obtain⟨hu,inf,hi,hs⟩:=yx h
 have ha:(if cap=0 then a else a.map (·.add (0 * inf.size)))=a:=by
  cases a with
  | none=>simp
  | some a=>simp[Addr.add]
 simp[slT,jt,Instr.sliceAt,Instr.slice,Instr.sliceBounds,Instr.sliceBound,asIntOf,Sem.run_bind,ji hu,Result.andThen,Sem.run_pure,h0,h1,acp hi]
 cases a <;>simp[Addr.add]
theorem bqo{t:TypeId}(h:nq P t=true){k:IntKind}{b o len cap:Nat}{i:Int}(h0:0<=i)(h1:i<=len)(w:World)(K:KV):
  slT P t (.slice (some ⟨b,o,none⟩) len cap) (some (.int k i)) none none w K=K (.slice (some ⟨b,if cap=i.toNat then o else o+i.toNat * szE P t,none⟩) (len - i.toNat) (cap - i.toNat)) w:=by
 obtain⟨hu,inf,hi,hs⟩:=yx h
 simp[slT,jt,Instr.sliceAt,Instr.slice,Instr.sliceBounds,Instr.sliceBound,asIntOf,Sem.run_bind,ji hu,Result.andThen,Sem.run_pure,h0,h1,acp hi,aaf,hs]
 split <;>rfl
structure nj(P:Program)(t e:TypeId)(sz by':Nat):Prop where
 ty:P.underlying t=some (.slice e)
 inf: ∃i z,P.info? e=some i/\i.zero=some z/\i.size=sz/\i.bytes=by'/\z.cells.size=sz
 pos:0 < sz
theorem nj.mk'{P:Program}{t e:TypeId}{sz by':Nat}(h1:P.underlying t=some (.slice e))(h2:((P.info? e).bind fun i=>i.zero.map fun z=>(i.size,i.bytes,z.cells.size))=some (sz,by',sz))(h3:Nat.blt 0 sz=true):nj P t e sz by':=by
 refine⟨h1,?_,by simpa [Nat.blt_eq] using h3⟩
 cases hi:P.info? e with
 | none=>simp[hi] at h2
 | some i=>
  cases hz:i.zero with
  | none=>simp[hi,hz] at h2
  | some z=>
   simp only[hi,hz,Option.bind_some,Option.map_some,Option.some.injEq,Prod.mk.injEq] at h2
   exact⟨i,z,rfl,hz,h2.1,h2.2.1,h2.2.2⟩
theorem awo(u:Value):lc u=u.oneCell':=by cases u <;>rfl
theorem apc{t e ty:TypeId}{sz by':Nat}(ht:nj P t e sz by'){w:World}{base n:Nat}{v:Value}{xs:List Value}(hown:w.ownsRow base e sz v n xs){b o m c:Nat}{news:List Value}
  (hl:news.length=m * sz) (hnews: ∀j u,news[j]? =some u->iq w b (o+j)=some u) (h1: ∀u∈news,lc u=true) (h63:n+m<=140737488355328) (hby:(n+m) * by'<=140737488355328) (hbase:base<=w.heap.size) (cs:List Bool) (K:KV)
  (h: ∀v' w',w'.ownsRow base e sz v' (n+m) (xs ++ news)->w.grownBy w' v.ownBlock->(v'= .slice none 0 0↔v= .slice none 0 0/\m=0)->(v'.ownBlock=v.ownBlock\/∃g,v'.ownBlock=some g/\w.heap.size<=g)->K v' w'):biT P .append #[t,t] ty cs [v,.slice (some ⟨b,o,none⟩) m c] w K:=by
 obtain⟨i,z,hi,hz,hs,hb,hzs⟩:=ht.inf
 have hnews': ∀j u,news[j]? =some u->w.cell? ((⟨b,o,none⟩:Addr).add j)=some u:=fun j u hu=>by rw[aaf,aag];exact hnews j u hu
 have h1': ∀u∈news,u.oneCell'=true:=fun u hu=>by rw[<-awo];exact h1 u hu
 have key: ∃v' w',(Builtin.append_ #[t,t] ty #[v,.slice (some ⟨b,o,none⟩) m c]).run P w= .ok v' w'/\w'.ownsRow base e sz v' (n+m) (xs ++ news)/\w.grownBy w' v.ownBlock/\
   (v'= .slice none 0 0↔v= .slice none 0 0/\m=0)/\(v'.ownBlock=v.ownBlock\/∃g,v'.ownBlock=some g/\w.heap.size<=g):=by
  obtain⟨v',w',hr,g1,g2,g3⟩:=run_append_own (P:=P) w base t ty e i z sz by' ht.ty hi hz hs hb hzs ht.pos v n xs hown ⟨b,o,none⟩ m c news hl hnews' h1' (by unfold maxLen;omega) hby hbase
  refine⟨v',w',hr,g1,g2,g3,?_⟩
  rcases hown.2 with⟨hv,hn0⟩|⟨g,cap,cur,hv,hbg,hg,hnc,hcm,hcs,htake⟩
  ·subst hv
   subst hn0
   obtain⟨v2,w2,hr2,k1,_,_⟩:=run_append_own (P:=P) w w.heap.size t ty e i z sz by' ht.ty hi hz hs hb hzs ht.pos (.slice none 0 0) 0 xs ⟨hown.1,.inl ⟨rfl,rfl⟩⟩ ⟨b,o,none⟩ m c news hl hnews' h1' (by unfold maxLen;omega) hby (Nat.le_refl _)
   rw[hr] at hr2
   injection hr2 with e1 e2
   subst e1
   rcases k1.2 with⟨h0,_⟩|⟨g,_,_,h0,hge,_⟩
   ·exact .inl (by rw[h0])
   ·exact .inr ⟨g,by rw[h0];rfl,hge⟩
  ·subst hv
   by_cases hroom:n+m<=cap
   ·have hfit:n * i.size+news.length<=cur.size:=by rw[hl,hcs,hs,<-Nat.add_mul];exact Nat.mul_le_mul_right _ hroom
    have hr2:=run_append_room (P:=P) w t ty e i ht.ty hi g n cap cur hg ⟨b,o,none⟩ m c news (by rw[hs];exact hl) hnews' h1' hroom hfit
    rw[hr] at hr2
    injection hr2 with e1 e2
    exact .inl (by rw[e1];rfl)
   ·have holds: ∀j u,xs[j]? =some u->w.cell? ((⟨g,0,none⟩:Addr).add j)=some u:=hown.cells (g:=g) rfl
    have hr2:=run_append_grow (P:=P) w t ty e i z ht.ty hi hz ⟨g,0,none⟩ n cap xs (by rw[hs];exact hown.1) holds ⟨b,o,none⟩ m c news (by rw[hs];exact hl) hnews' (by omega) (by omega) (growslice_fits (by omega) (by rw[hb];exact hby))
    rw[hr] at hr2
    injection hr2 with e1 e2
    exact .inr ⟨w.heap.size,by rw[e1];rfl,Nat.le_refl _⟩
 obtain⟨v',w',hr,g1,g2,g3,g4⟩:=key
 unfold biT lz builtin
 simp only
 rw[Sem.run_bind]
 have:(#[v,.slice (some ⟨b,o,none⟩) m c]:Array Value)=[v,.slice (some ⟨b,o,none⟩) m c].toArray:=rfl
 rw[<-this,hr]
 simp only[Result.andThen,Sem.run_pure]
 exact h v' w' g1 g2 g3 g4
def aeu(P:Program)(t:TypeId)(name:String)(f:FuncId)(ptr:Bool):Bool:=match P.info? t with
 | some i=>match i.methods.find? (·.name == name) with
  | some m=>m.path.isEmpty && (m.func == some (f,ptr) && match P.underlying t with
   | some (.pointer e)=>(ptr || !adb P e)
   | _=>false)
  | none=>false
 | none=>false
theorem aqs{t:TypeId}(h:adb P t=false)(w:World):(isAgg t).run P w= .ok false w:=by
 unfold adb at h
 unfold isAgg
 rw[Sem.run_bind]
 cases hu:P.underlying t with
 | none=>simp[hu] at h
 | some d=>
  rw[ji hu]
  simp only[Result.andThen]
  rw[hu] at h
  cases d <;>simp_all[Sem.run_pure]
theorem aii{t:TypeId}{i:TypeInfo}(h:P.info? t=some i)(w:World):(typeInfo t).run P w= .ok i w:=by
 unfold typeInfo program
 rw[Sem.run_bind,show Sem.run P (Sem.program Sem.pure) w=Result.ok P w from rfl]
 simp only[Result.andThen,h,Sem.run_pure]
theorem atb{t:TypeId}(h:adb P t=false){w:World}{b o:Nat}{v:Value}(hc:iq w b o=some v):(loadVar t ⟨b,o,none⟩).run P w= .ok v w:=by
 unfold loadVar
 rw[Sem.run_bind,aqs h]
 simp only[Result.andThen,load]
 rw[<-aag] at hc
 simp[Sem.run,hc]
theorem aot{t:TypeId}{name:String}{f:FuncId}(h:aeu P t name f false=true)(n:Nat){w:World}{b o:Nat}{v:Value}(hc:iq w b o=some v):
  (method (n+1) t (.pointer (some ⟨b,o,none⟩)) name).run P w= .ok (f,v) w:=by
 unfold aeu at h
 cases hi:P.info? t with
 | none=>simp[hi] at h
 | some i=>
  simp only[hi] at h
  cases hm:i.methods.find? (·.name == name) with
  | none=>simp[hm] at h
  | some m=>
   simp only[hm,Bool.and_eq_true,beq_iff_eq] at h
   obtain⟨h1,h2,h3⟩:=h
   cases hu:P.underlying t with
   | none=>simp[hu] at h3
   | some d=>
    cases d <;>simp[hu] at h3
    rename_i e
    have hp:m.path= #[]:=by simpa using h1
    have hw: ∀x y,Builtin.ssaWrapNilChk_ #[t] t #[.pointer (some ⟨b,o,none⟩),strVal x,strVal y]=pure (.pointer (some ⟨b,o,none⟩)):=fun _ _=>rfl
    simp[method,Sem.run_bind,aii hi,Result.andThen,hm,hp,follow,Sem.run_pure,h2,receiverAt,ji hu,Place.get,hw,asAddr,atb h3 hc]
theorem apw{t:TypeId}{name:String}{f:FuncId}(h:aeu P t name f true=true)(n:Nat)(a:Addr)(w:World):
  (method (n+1) t (.pointer (some a)) name).run P w= .ok (f,.pointer (some a)) w:=by
 unfold aeu at h
 cases hi:P.info? t with
 | none=>simp[hi] at h
 | some i=>
  simp only[hi] at h
  cases hm:i.methods.find? (·.name == name) with
  | none=>simp[hm] at h
  | some m=>
   simp only[hm,Bool.and_eq_true,beq_iff_eq] at h
   obtain⟨h1,h2,h3⟩:=h
   cases hu:P.underlying t with
   | none=>simp[hu] at h3
   | some d=>
    cases d <;>simp[hu] at h3
    have hp:m.path= #[]:=by simpa using h1
    simp[method,Sem.run_bind,aii hi,Result.andThen,hm,hp,follow,Sem.run_pure,h2,receiverAt,ji hu,Place.get]
theorem aox{t:TypeId}{name:String}{f:FuncId}(h:aeu P t name f false=true){w:World}{b o:Nat}{v:Value}(hc:iq w b o=some v)(args:List Value)(K:KV):
  oc P (.iface t (.pointer (some ⟨b,o,none⟩))) name args w K=ik P f (v :: args) w K:=
 anz (by rw[show P.types.size+Made.depth=(P.types.size+Made.depth - 1)+1 from by simp[Made.depth]];exact aot h _ hc) args K
theorem awi{t:TypeId}{name:String}{f:FuncId}(h:aeu P t name f true=true)(a:Addr)(w:World)(args:List Value)(K:KV):
  oc P (.iface t (.pointer (some a))) name args w K=ik P f (.pointer (some a) :: args) w K:=
 anz (by rw[show P.types.size+Made.depth=(P.types.size+Made.depth - 1)+1 from by simp[Made.depth]];exact apw h _ a w) args K
end
theorem baw(t:Bool):isB undef t=false:=Eq.trans rfl rfl
theorem yf(f:KV->Prop)(w:World)(K:Value->Prop):ii f w K=f fun v w'=>w'=w/\K v:=Eq.trans rfl rfl
theorem aml(f:KV->Prop)(w:World)(v:Value):ip f w v=f fun v' w'=>w'=w/\v'=v:=Eq.trans rfl rfl
theorem ir(F:KL->Prop)(K:KL):im F K=F K:=Eq.trans rfl rfl
attribute [simp] yf aml qr bop ash baj vq biu bcl apk cond_true cond_false adr avn abx baw
 na agj wu su aby bkz mm ol xy afn bfw agq brz bru ir aba abc bnv bon bny vd yp jg
@[simp] theorem bra (k : IntKind) (x : Int) : lc (.int k x) = true := Eq.trans rfl rfl
@[simp] theorem bqs (b : Bool) : lc (.bool b) = true := Eq.trans rfl rfl
@[simp] theorem bnk (p : Option Addr) : (Value.pointer p).cells = #[.pointer p] := Eq.trans rfl rfl
@[simp] theorem bqm (p : Option Addr) (l c : Nat) : lc (.slice p l c) = true := Eq.trans rfl rfl
@[simp] theorem bat (c : Array Value) : (Value.agg c).cells = c := Eq.trans rfl rfl
@[simp] theorem bxr {P : Program} {w : World} {b i : Nat} (k : IntKind) (x : Int) (h : (iq w b i).isSome = true) (hf : qy w b i = false) (K : KV) : st1 P b i (.int k x) w K = K undef (w.setCell ⟨b, i, none⟩ (.int k x)) := ael h hf rfl K
@[simp] theorem brl {P : Program} {w : World} {b i : Nat} (b' : Bool) (h : (iq w b i).isSome = true) (hf : qy w b i = false) (K : KV) : st1 P b i (.bool b') w K = K undef (w.setCell ⟨b, i, none⟩ (.bool b')) := ael h hf rfl K
@[simp] theorem bpy {P : Program} {w : World} {b i : Nat} (p : Option Addr) (h : (iq w b i).isSome = true) (hf : qy w b i = false) (K : KV) : st1 P b i (.pointer p) w K = K undef (w.setCell ⟨b, i, none⟩ (.pointer p)) := ael h hf rfl K
@[simp] theorem bqt {P : Program} {w : World} {b i : Nat} (p : Option Addr) (l c : Nat) (h : (iq w b i).isSome = true) (hf : qy w b i = false) (K : KV) : st1 P b i (.slice p l c) w K = K undef (w.setCell ⟨b, i, none⟩ (.slice p l c)) := ael h hf rfl K
@[simp] theorem bue {P : Program} {w : World} {b i : Nat} (r : Option Nat) (h : (iq w b i).isSome = true) (hf : qy w b i = false) (K : KV) : st1 P b i (.map r) w K = K undef (w.setCell ⟨b, i, none⟩ (.map r)) := ael h hf rfl K
section
variable {w w' : World} {base : Nat} {e : TypeId} {sz n : Nat} {v : Value} {xs : List Value}
theorem yn(h:w.ownsRow base e sz v n xs)(hn:0 < n): ∃g cap cur,v= .slice (some ⟨g,0,none⟩) n cap/\base<=g/\w.heap[g]? =some (.cells cur e (0,0))/\n<=cap/\cap<=maxLen/\cur.size=cap * sz/\cur.toList.take (n * sz)=xs:=by
 rcases h.2 with⟨_,h0⟩|⟨g,cap,cur,hv,h⟩
 ·omega
 ·exact⟨g,cap,cur,hv,h⟩
theorem bnb(h:w.ownsRow base e sz v n xs):xs.length=n * sz:=h.1
theorem oe(h:w.ownsRow base e sz v n xs){g:Nat}(hg:v.ownBlock=some g): ∃cap cur,v= .slice (some ⟨g,0,none⟩) n cap/\base<=g/\w.heap[g]? =some (.cells cur e (0,0))/\n<=cap/\cap<=maxLen/\cur.size=cap * sz/\cur.toList.take (n * sz)=xs:=by
 rcases h.2 with⟨rfl,_⟩|⟨g',cap,cur,rfl,h'⟩
 ·simp[Value.ownBlock] at hg
 ·simp only[Value.ownBlock,Option.some.injEq] at hg
  subst hg
  exact⟨cap,cur,rfl,h'.1,h'.2⟩
theorem yr(h:w.ownsRow base e sz v n xs){g:Nat}(hg:v.ownBlock=some g){i:Nat}{x:Value}(hx:xs[i]? =some x):iq w g i=some x:=by
 obtain⟨cap,cur,_,_,hb,_,_,_,ht⟩:=oe h hg
 rw[iw hb]
 rw[<-ht,List.getElem?_take] at hx
 split at hx
 ·simpa using hx
 ·cases hx
theorem bmk(h:w.ownsRow base e sz v n xs){g:Nat}(hg:v.ownBlock=some g)(i:Nat):qy w g i=false:=by
 obtain⟨cap,cur,_,_,hb,_⟩:=oe h hg
 exact mi hb i
theorem awz(h:w.ownsRow base e sz v n xs){g:Nat}(hg:v.ownBlock=some g)(i:Nat)(x:Value):(w.setCell ⟨g,i,none⟩ x).ownsRow base e sz v n (xs.set i x):=by
 obtain⟨cap,cur,hv,hb0,hb,h1,h2,h3,ht⟩:=oe h hg
 refine⟨by rw[List.length_set];exact h.1,.inr ⟨g,cap,cur.setIfInBounds i x,hv,hb0,?_,h1,h2,by simpa using h3,?_⟩⟩
 ·rw[tj,if_pos rfl,hb];rfl
 ·rw[Array.toList_setIfInBounds,List.take_set,ht]
theorem sy(h:w.ownsRow base e sz v n xs)(hk: ∀g,v.ownBlock=some g->w'.heap[g]? =w.heap[g]?):w'.ownsRow base e sz v n xs:=by
 refine⟨h.1,?_⟩
 rcases h.2 with hn| ⟨g,cap,cur,rfl,hb,hg,po⟩
 ·exact .inl hn
 ·exact .inr ⟨g,cap,cur,rfl,hb,(hk g rfl).trans hg,po⟩
theorem bhs{g cap:Nat}(h:w.ownsRow base e sz (.slice (some ⟨g,0,none⟩) n cap) n xs){m:Nat}(hm:m<=n):w.ownsRow base e sz (.slice (some ⟨g,0,none⟩) m cap) m (xs.take (m * sz)):=by
 obtain⟨cap',cur,hv,hb0,hb,h1,h2,h3,ht⟩:=oe h rfl
 injection hv with _ _ hc
 subst hc
 have hms:m * sz<=n * sz:=Nat.mul_le_mul_right _ hm
 refine⟨?_,.inr ⟨g,cap,cur,rfl,hb0,hb,Nat.le_trans hm h1,h2,h3,?_⟩⟩
 ·rw[List.length_take,h.1];omega
 ·rw[<-ht,List.take_take];congr 1;omega
end
theorem ke{w:World}{b i:Nat}{v:Value}{b':Nat}(h:b≠b'):(w.setCell ⟨b,i,none⟩ v).heap[b']? =w.heap[b']? :=by rw[tj,if_neg h]
theorem nl{w:World}{b i:Nat}{v:Value}{c:Array Value}{e:TypeId}{f:Nat×Nat}(h:w.heap[b]? =some (.cells c e f)):(w.setCell ⟨b,i,none⟩ v).heap[b]? =some (.cells (c.setIfInBounds i v) e f):=by
 rw[tj,if_pos rfl,h];rfl
theorem jc{x:Int}(h0: -9223372036854775808<=x:=by omega)(h1:x < 9223372036854775808:=by omega):IntKind.i64.wrap x=x:=by
 show (if (true && decide (x % 18446744073709551616≥9223372036854775808))=true then x % 18446744073709551616 - 18446744073709551616 else x % 18446744073709551616)=x
 split <;>rename_i h <;>simp at h <;>omega
theorem mu{x:Int}(h0:0<=x)(h1:x < 18446744073709551616):IntKind.u64.wrap x=x:=by
 show (if (false && decide (x % 18446744073709551616≥9223372036854775808))=true then x % 18446744073709551616 - 18446744073709551616 else x % 18446744073709551616)=x
 simp;omega
theorem ati{P:Program}(t:TypeId)(rx ry:Operand)(k:IntKind)(x:Int)(w:World)(K:KV):iy P .quo t rx ry (.int k x) (.int k 2) w K=K (.int k (k.wrap (x.tdiv 2))) w:=by
 simp[iy,jt,eqGuard,binOp,Op.intDiv,Sem.run_bind,Result.andThen,Sem.run,pure]
attribute [simp] ati
def ms(x:List Value)(i:Nat):Nat:=match gv x i with
 | .int _ k=>k.toNat
 | _=>0
section
variable {P : Program} {w : World}
def TV(P:Program)(w:World):Nat->TypeId->List Value->Prop
 | 0,_,_=>False
 | n+1,t,cs=>match P.underlying t with
  | some (.int k)=> ∃x,cs=[.int k x]/\(Lit.int k x).wf=true
  | some .bool=> ∃b,cs=[.bool b]
  | some .string=> ∃s,cs=[.string s]/\s.size<=maxLen
  | some (.slice e)=>cs=[.slice none 0 0]\/∃a len cap,cs=[.slice (some a) len cap]/\len<=cap/\cap<=maxLen/\∀i,i < len->∃cs',w.cells? 0 (a.add (i * P.cellsOf e)) (P.cellsOf e)=some cs'/\TV P w n e cs'
  | some (.struct fs)=>cs.length=P.cellsOf t/\∀(i:Nat)(f:Field),fs[i]? =some f->TV P w n f.type ((cs.drop f.offset).take (P.cellsOf f.type))
  | _=>True
theorem avh{b:Nat}{a:Addr}{n:Nat}{cs:List Value}(h:w.cells? b a n=some cs):w.cells? 0 a n=some cs:=by
 unfold World.cells? at h⊢
 split at h
 ·simpa using h
 ·cases h
theorem aym{H:Type}{enc:TypeId×Value->H}{base:Nat}{spare:Nat->Bool}{held:Bool}: ∀(fuel:Nat){t:TypeId}{cs:List Value}{x:DataW H×List MemPlace},DataW.trod enc P w base spare held fuel t cs=some x->TV P w fuel t cs:=by
 intro fuel
 induction fuel with
 | zero=>intro t cs x h;simp[DataW.trod] at h
 | succ n ih=>
  intro t cs x h
  unfold TV
  cases hu:P.underlying t with
  | none=>trivial
  | some d=>
   cases d <;>simp only
   case int k=>obtain⟨x,hx,_,hw⟩:=DataW.trod_int hu h;exact⟨x,hx,hw⟩
   case bool=>obtain⟨b,hb,_⟩:=DataW.trod_bool hu h;exact⟨b,hb⟩
   case string=>obtain⟨s,hs,_,hl⟩:=DataW.trod_string hu h;exact⟨s,hs,hl⟩
   case slice e=>
    rcases DataW.trod_slice hu h with⟨h0,_⟩|⟨a,len,cap,elems,po,m,hm,hcs,_,_,hl,hc,hlen,hel,_⟩
    ·exact .inl h0
    ·refine .inr ⟨a,len,cap,hcs,hl,hc,fun i hi=>?_⟩
     have hme:m=n:=by omega
     subst hme
     have h1:=hel i hi
     rw[List.getElem?_eq_getElem (by omega)] at h1
     cases hcs':w.cells? base (a.add (i * P.cellsOf e)) (P.cellsOf e) with
     | none=>simp[hcs'] at h1
     | some cs'=>
      simp only[hcs',Option.bind_some] at h1
      exact⟨cs',avh hcs',ih h1⟩
   case struct fs=>
    obtain⟨xs,m,hm,_,hl,hlen,hf⟩:=DataW.trod_struct hu h
    have hme:m=n:=by omega
    subst hme
    refine⟨hl,fun i f hif=>?_⟩
    have h1:=hf i f hif
    have hi:i < fs.size:=(Array.getElem?_eq_some_iff.1 hif).1
    rw[List.getElem?_eq_getElem (by omega)] at h1
    exact ih h1
def ajf{α:Type}(w:World)(sz:Nat)(rd:World->Nat->Nat->α->Prop)(v:Value)(l:List α):Prop:=
 ∃a cap,v= .slice a l.length cap/\l.length<=cap/\cap<=maxLen/\∀i x,l[i]? =some x->∃b o,a=some ⟨b,o,none⟩/\b < w.heap.size/\rd w b (o+i * sz) x
theorem bay{a:Addr}{v:Value}(h:w.cell? a=some v):a.spot=none:=World.cell?_spot h
theorem asl{α:Type}{n:Nat}{t e:TypeId}{v:Value}{sz:Nat}{rd:World->Nat->Nat->α->Prop}(hu:P.underlying t=some (.slice e))(hs:P.cellsOf e=sz)(hpos:0 < sz)
  (hrd: ∀n b o cs,TV P w n e cs->cs.length=sz->(∀j u,cs[j]? =some u->iq w b (o+j)=some u)->∃x,rd w b o x) (h:TV P w n t [v]): ∃l,ajf w sz rd v l:=by
 cases n with
 | zero=>exact h.elim
 | succ n=>
  unfold TV at h
  simp only[hu] at h
  rcases h with h| ⟨a,len,cap,hv,hl,hc,hx⟩
  ·simp only[List.cons.injEq,and_true] at h
   exact⟨[],none,0,h,Nat.le_refl _,Nat.zero_le _,fun i x hi=>by simp at hi⟩
  ·simp only[List.cons.injEq,and_true] at hv
   subst hs
   -- sj element's place
   have key: ∀i,i < len->∃x,∃b o,a=⟨b,o,none⟩/\b < w.heap.size/\rd w b (o+i * P.cellsOf e) x:=fun i hi=>by
    obtain⟨cs',h1,h2⟩:=hx i hi
    obtain⟨_,h3,h4⟩:=World.cells?_some h1
    have hc0: ∃u,w.cell? ((a.add (i * P.cellsOf e)).add 0)=some u:=by
     have:=h4 0 (by omega)
     rw[this]
     exact⟨_,List.getElem?_eq_getElem (by omega)⟩
    obtain⟨u,hu0⟩:=hc0
    obtain⟨b,o,s⟩:=a
    have hall: ∀j,(((⟨b,o,s⟩:Addr).add (i * P.cellsOf e)).add j).block=b:=fun j=>by unfold Addr.add;split <;>split <;>rfl
    have hblt:b < w.heap.size:=by
     have:=World.block_lt_of_cell? w _ hu0
     rw[hall 0] at this;exact this
    by_cases hsn:s=none
    ·subst hsn
     obtain⟨x,hxr⟩:=hrd n b (o+i * P.cellsOf e) cs' h2 h3 (fun j u' hj=>by
      have:=h4 j (by have:=(List.getElem?_eq_some_iff.1 hj).1;omega)
      rw[aaf,aaf,aag] at this
      rw[this];exact hj)
     exact⟨x,b,o,rfl,hblt,hxr⟩
    ·-- an address into the middle of a cell leads to no element 0:the first element would have no cell
     exfalso
     obtain⟨cs0,k1,k2⟩:=hx 0 (by omega)
     obtain⟨_,k3,k4⟩:=World.cells?_some k1
     have:=k4 0 (by omega)
     rw[List.getElem?_eq_getElem (by omega)] at this
     have hsp:=bay this
     simp[Addr.add] at hsp
     exact hsn hsp
   have key': ∀i,∃x:Option α,i < len->∃y,x=some y/\∃b o,a=⟨b,o,none⟩/\b < w.heap.size/\rd w b (o+i * P.cellsOf e) y:=fun i=>by
    by_cases hi:i < len
    ·obtain⟨y,hy⟩:=key i hi
     exact⟨some y,fun _=>⟨y,rfl,hy⟩⟩
    ·exact⟨none,fun h=>absurd h hi⟩
   obtain⟨f,hf⟩:=Classical.axiomOfChoice key'
   have hlist: ∀m,m<=len->∃l:List α,l.length=m/\∀i x,l[i]? =some x->f i=some x:=by
    intro m
    induction m with
    | zero=>intro _;exact⟨[],rfl,fun i x h=>by simp at h⟩
    | succ m ih=>
     intro hm
     obtain⟨l,h1,h2⟩:=ih (by omega)
     obtain⟨y,hy,_⟩:=hf m (by omega)
     refine⟨l ++ [y],by simp[h1],fun i x hi=>?_⟩
     rw[List.getElem?_append] at hi
     split at hi
     ·exact h2 i x hi
     ·rename_i hlt
      have:i=m:=by
       have:=(List.getElem?_eq_some_iff.1 hi).1
       simp at this;omega
      subst this
      rw[h1,Nat.sub_self] at hi
      simp at hi;subst hi;exact hy
   obtain⟨l,h1,h2⟩:=hlist len (Nat.le_refl _)
   refine⟨l,some a,cap,by rw[h1];exact hv,by omega,hc,fun i x hi=>?_⟩
   have hil:i < len:=by have:=(List.getElem?_eq_some_iff.1 hi).1;omega
   obtain⟨y,hy,b,o,ha,hb,hr⟩:=hf i hil
   rw[h2 i x hi] at hy
   cases hy
   exact⟨b,o,by rw[ha],hb,hr⟩
theorem boz{n:Nat}{t:TypeId}{k:IntKind}{cs:List Value}(hu:P.underlying t=some (.int k))(h:TV P w n t cs): ∃x,cs=[.int k x]/\(Lit.int k x).wf=true:=by
 cases n with
 | zero=>exact h.elim
 | succ n=>unfold TV at h;simpa only[hu] using h
end
end Go.Eng
