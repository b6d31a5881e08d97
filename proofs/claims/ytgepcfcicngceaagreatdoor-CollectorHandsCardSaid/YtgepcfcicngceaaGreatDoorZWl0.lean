/-
  Sums of bytes, numbers as bytes. No condition.
-/
import Derived.Test.YtgepcfcicngceaaGreatDoorZTim0
import Derived.Test.YtgepcfcicngceaaGreatDoorZEngSl
import Derived.Test.YtgepcfcicngceaaGreatDoorZSpn0
import Derived.Test.YtgepcfcicngceaaGreatDoorZSgE
import Derived.Test.YtgepcfcicngceaaGreatDoorM
import Derived.Test.YtgepcfcicngceaaGreatDoorFacts
set_option maxRecDepth 100000
namespace Go.Eng
section
variable {P : Program} {x : Int} {w : World} {K : KV}
end
end Go.Eng
namespace Go.Proofs.YtgepcfcicngceaaGreatDoor
open Go.Eng Go.Proofs.YtgepcfcicngceaaGreatDoor.Sint
def orE(a b:Int):Int:=IntKind.u32.wrap (BitVec.ofInt IntKind.u32.bits a ||| BitVec.ofInt IntKind.u32.bits b).toNat
def orL(a b:Int):Int:=IntKind.u64.wrap (BitVec.ofInt IntKind.u64.bits a ||| BitVec.ofInt IntKind.u64.bits b).toNat
theorem biw{t:TypeId}{rx ry:Operand}{x y:Int}{w:World}{K:KV}:iy P .or t rx ry (.int .u64 x) (.int .u64 y) w K=K (.int .u64 (orL x y)) w:=bdv
def b8(x:Int):Int:=IntKind.u8.wrap x
section
variable {w0 w : World} {R : List Asn} {v : Value} {l : List Int}
theorem bgz(S:St w0 w R)(x:Int):St w0 (w.alloc (.cells #[.int .u8 x] T.be)) (aaw (.slice (some ⟨w.heap.size,0,none⟩) 1 1) [x] :: R):=St.uh (l:=[x]) S pe rfl (by unfold maxLen;simp)
def shE(c:Int)(i:Nat):Int:=IntKind.u32.wrap (IntKind.u32.wrap c * 2 ^ min (8 * i) IntKind.u32.bits)
def brm(l:List Int):Nat->Int
 | 0=>0
 | i+1=>orE (brm l i) (shE (l.getD i 0) i)
def og(n:Int):List Int:=(List.range 8).map fun k=>b8 (n.fdiv (2 ^ min (56 - 8 * k) IntKind.u64.bits))
theorem ur(n:Int):(og n).length=8:=by simp[og]
theorem axu(n:Int){k:Nat}(hk:k < 8):(og n).take (k+1)=(og n).take k ++ [b8 (n.fdiv (2 ^ min (56 - 8 * k) IntKind.u64.bits))]:=by
 rw[List.take_succ_eq_append_getElem (by rw[ur];exact hk)]
 simp[og]
def bns(x:List Value):Nat:=match gv x 1 with
 | .int _ k=>(k+8).toNat
 | _=>0
def aak(l:List Int):Nat->Int
 | 0=>0
 | i+1=>orL (IntKind.u64.wrap (aak l i * 2 ^ min (8:Int).toNat IntKind.u64.bits)) (IntKind.u64.wrap (l.getD i 0))
def adc(l:List Int):Int:=aak l 8
def U6I(w:World)(l:List Int):KL:=fun x w1=> ∃(u0:Value)(i:Nat),x=[u0,.int .u64 (aak l i),.int .i64 (i:Nat)]/\w1=w/\i<=8
theorem bcn(hs:SlB w v l)(hl:8<=l.length){K:KV}(h:K (.int .u64 (adc l)) w):ik P F.hg [v] w K:=by
 rw[M.gb.fcall]
 apply M.gb.calls
 unfold M.gb
 obtain⟨v',s',_,hsub⟩:=hs.sub (P:=P) (t:=T.t) (lo:=none) (hi:=some (.int .i64 (8:Nat))) (i:=0) (j:=8) (by kernel_rfl) (by kernel_rfl) (.inl ⟨rfl,rfl⟩) (.inr ⟨_,rfl⟩) (Nat.zero_le _) hl
 have e4:(List.take (8 - 0) (List.drop 0 l))=l.take 8:=by simp
 rw[e4] at s'
 have hsub': ∀w1 K,slT P T.t v none (some (.int .i64 8)) none w1 K=K v' w1:=hsub
 have hl4:(l.take 8).length=8:=by simp;omega
 rw[ir,hsub',s'.jv (by kernel_rfl),hl4]
 refine⟨U6I w l,fun x _=>8 - ms x 2,⟨_,0,rfl,rfl,by omega⟩,?_⟩
 rintro x w1 ⟨u0,i,rfl,rfl,hi⟩
 have q1:gv [u0,.int .u64 (aak l i),.int .i64 (i:Nat)] 1= .int .u64 (aak l i):=rfl
 have q2:gv [u0,.int .u64 (aak l i),.int .i64 (i:Nat)] 2= .int .i64 (i:Nat):=rfl
 have q0:gv [u0,.int .u64 (aak l i),.int .i64 (i:Nat)] 0=u0:=rfl
 simp only[q2,ir]
 by_cases hil:i < 8
 ·have hil':(i:Int) < ((8:Nat):Int):=by omega
  have hwi:IntKind.i64.wrap ((i:Int)+1)=((i+1:Nat):Int):=by rw[jc];rfl
  obtain⟨b,o,cap,hv,_,_,hc⟩:=s'.at (i:=i) (by omega)
  have c0:=hc 0 _ rfl
  simp only[Nat.mul_one,Nat.add_zero] at c0
  have hgd:l.getD i 0=(l.take 8)[i]'(by omega):=by
   rw[List.getD_eq_getElem?_getD,List.getElem?_eq_getElem (by omega),List.getElem_take];rfl
  rw[<-hgd] at c0
  rw[hl4] at hv
  have e:aak l (i+1)=orL (IntKind.u64.wrap (aak l i * 2 ^ min (8:Int).toNat IntKind.u64.bits)) (IntKind.u64.wrap (l.getD i 0)):=rfl
  generalize l.getD i 0=c at *
  simp only[na]
  rw[decide_eq_true hil',Eng.cond_true]
  unfold M.gb.j2
  simp only[q0,q1,q2,ir]
  rw[hv]
  rw[ash (by kernel_rfl) (by omega) (by omega)]
  have hz:szE P T.t=1:=by kernel_rfl
  rw[hz]
  simp[c0]
  rw[agi (by omega),pw (ks:= .u8) (kd:= .u64) (by kernel_rfl) (by kernel_rfl),biw,hwi]
  exact⟨⟨_,i+1,by rw[e],rfl,by omega⟩,by simp[ms,gv];omega⟩
 ·have hil': ¬(i:Int) < 8:=by omega
  have he:i=8:=by omega
  subst he
  simp
  exact h
theorem bmb{a c:Nat}(ha:a < 256)(hc:256 * c+a < 18446744073709551616):orL ((256 * c:Nat):Int) (a:Int)=((256 * c+a:Nat):Int):=by
 have:=Nat.two_pow_add_eq_or_of_lt (i:=8) (b:=a) ha c
 unfold orL
 rw[BitVec.toNat_or]
 have h1:(BitVec.ofInt IntKind.u64.bits ((256 * c:Nat):Int)).toNat=256 * c:=acx (by omega)
 have h2:(BitVec.ofInt IntKind.u64.bits (a:Int)).toNat=a:=acx (by omega)
 rw[h1,h2,<-this,za hc]
theorem bom{n:Nat}:b8 (n:Int)=((n % 256:Nat):Int):=by
 unfold b8
 show (if (false && decide ((n:Int) % 256≥128))=true then (n:Int) % 256 - 256 else (n:Int) % 256)=_
 simp
theorem bdh{n:Nat}(hn:n < 18446744073709551616)(r:List Int):adc (og (n:Int) ++ r)=n:=by
 have hb: ∀k,k < 8->(og (n:Int) ++ r).getD k 0=((n / 2 ^ (56 - 8 * k) % 256:Nat):Int):=fun k hk=>by
  rw[List.getD_eq_getElem?_getD,List.getElem?_append_left (by rw[ur];exact hk)]
  unfold og
  rw[List.getElem?_map,List.getElem?_range hk]
  show b8 ((n:Int).fdiv (2 ^ min (56 - 8 * k) IntKind.u64.bits))=_
  have hm:min (56 - 8 * k) IntKind.u64.bits=56 - 8 * k:=Nat.min_eq_left (by show 56 - 8 * k<=64;omega)
  rw[hm,apb,bom]
 have key: ∀i,i<=8->aak (og (n:Int) ++ r) i=((n / 2 ^ (64 - 8 * i):Nat):Int):=by
  intro i
  induction i with
  | zero=>intro _;show (0:Int)=_;simp;omega
  | succ i ih=>
   intro hi
   show orL (IntKind.u64.wrap (aak (og (n:Int) ++ r) i * 2 ^ 8)) (IntKind.u64.wrap ((og (n:Int) ++ r).getD i 0))=_
   rw[ih (by omega),hb i (by omega)]
   have e1:n / 2 ^ (64 - 8 * i)=n / 2 ^ (56 - 8 * i) / 256:=by
    rw[Nat.div_div_eq_div_mul]
    congr 1
    rw[show (256:Nat)=2 ^ 8 from rfl,<-Nat.pow_add]
    congr 1;omega
   have e2:64 - 8 * (i+1)=56 - 8 * i:=by omega
   rw[e1,e2]
   have hlt:n / 2 ^ (56 - 8 * i)<=n:=Nat.div_le_self _ _
   generalize n / 2 ^ (56 - 8 * i)=m at *
   have e3:((m / 256:Nat):Int) * 2 ^ 8=((256 * (m / 256):Nat):Int):=by rw[Int.mul_comm];simp
   rw[e3,za (by omega),za (by omega),bmb (by omega) (by omega)]
   congr 1;omega
 show aak _ 8=_
 rw[key 8 (by omega)];simp
end
end Go.Proofs.YtgepcfcicngceaaGreatDoor
set_option maxRecDepth 100000
namespace Go.Eng
section
variable {P : Program}
end
end Go.Eng
namespace Go.Proofs.YtgepcfcicngceaaGreatDoor
open Go.Eng Go.Proofs.YtgepcfcicngceaaGreatDoor.Sint
section
variable {w0 w : World} {R : List Asn} {v : Value} {l : List Int}
theorem arc(S:St w0 w R)(hs:SlB w v l)(hlen:l.length<=100000000){K:KV}(h: ∀w' v',St w0 w' (aaw v' l :: R)->K v' w'):ik P F.cx [v] w K:=by
 rw[M.dh.fcall]
 apply M.dh.calls
 unfold M.dh
 simp only[ir]
 have hs':=hs
 obtain⟨a,cap,rfl,_⟩:=hs'
 cases a with
 | none=>
  simp
  have hz:l=[]:=by
   obtain⟨a',cap',hv,_,_,h3⟩:=hs
   cases l with
   | nil=>rfl
   | cons x l=>
    obtain⟨b,o,ha,_⟩:=h3 0 x rfl
    injection hv with h1 _ _
    rw[<-h1] at ha;cases ha
  subst hz
  exact h w _ (Eng.ye S)
 | some a=>
  simp
  have S1:St w0 (w.alloc (.cells #[] T.be)) (aaw (.slice (some ⟨w.heap.size,0,none⟩) 0 0) [] :: R):=St.uh (l:=([]:List Int)) S pe rfl (by simp)
  refine Go.Eng.wt et.t pe abw S1 (hs.fr ((Fr.refl (fun _=>False) w).alloc _) fun _ _ _ h=>h) (by simp;omega) (by decide) fun w2 v2 S2=>?_
  exact h w2 v2 S2
end
set_option maxRecDepth 100000
open Go.Eng
structure Bal where
 n:Int
 jr:Int
deriving DecidableEq
def jf:Bal:=⟨0,0⟩
def Bal.avb(a b:Bal):Bool:=decide (a.n < b.n\/(a.n=b.n/\a.jr < b.jr))
def yw(v:Int):Bool:=decide (1<=v/\v<=3)
def aao(x:Int):Prop:=0<=x/\x < 18446744073709551616
def Bal.rng(b:Bal):Prop:=aao b.n/\aao b.jr
theorem bib{x:Int}(h:aao x)(r:List Int):adc (og x ++ r)=x:=by
 obtain⟨h0,h1⟩:=h
 obtain⟨n,rfl⟩: ∃n:Nat,x=n:=⟨x.toNat,by omega⟩
 exact bdh (by omega) r
structure Pk where
 jh:Int
 tr:Int
 b:Bal
 ka:Bal
 v:Int
 ok:Bool
 sv:Value
 mv:Value
 iv:Value
def pkC(p:Pk):List Value:=[.int .i64 p.jh,.int .u64 p.tr,.int .u64 p.b.n,.int .u64 p.b.jr,.int .u64 p.ka.n,.int .u64 p.ka.jr,.int .i64 p.v,.bool p.ok,p.sv,p.mv,p.iv]
def pkA(p:Pk):Value:= .agg (pkC p).toArray
def bil(tr:Int)(b:Bal)(v:Int):Value:= .agg #[.int .u64 tr,.int .u64 b.n,.int .u64 b.jr,.int .i64 v]
def apx(tr:Int)(b:Bal)(v:Int):Value:= .iface T.aj (bil tr b v)
theorem ame{w:World}{v:Int}{K:KV}(h:K (.bool (yw v)) w):ik P F.eo [.int .i64 v] w K:=by
 rw[M.fn.fcall]
 apply M.fn.calls
 unfold M.fn
 unfold yw at h
 by_cases h1:1<=v
 ·by_cases h2:v<=3
  ·rw[decide_eq_true ⟨h1,h2⟩] at h
   simp[h1,h2];exact h
  ·rw[decide_eq_false (fun hh=>h2 hh.2)] at h
   simp[h1,h2];exact h
 ·rw[decide_eq_false (fun hh=>h1 hh.1)] at h
  simp[h1];exact h
theorem acg{w:World}{b:Nat}{p:Pk}{f:Nat×Nat}(h:w.heap[b]? =some (.cells (pkC p).toArray T.c f)): ∀(j:Nat)(u:Value),(pkC p)[j]? =some u->iq w b j=some u:=fun j u hj=>by
 rw[iw h];simpa using hj
theorem avd{w:World}{p:Pk}(hk:p.jh=4\/p.jh=6){K:KV}(h: ∀w',Fz w w'->K (apx p.tr p.b p.v) w'):ik P F.cr [pkA p] w K:=by
 rw[M.q.fcall]
 apply M.q.calls
 unfold M.q pkA
 have hb:(w.alloc (.cells (pkC p).toArray T.c)).heap[w.heap.size]? =some (.cells (pkC p).toArray T.c (0,0)):=by rw[ja,if_pos rfl]
 have f1:Fz w (w.alloc (.cells (pkC p).toArray T.c)):=(Fr.refl _ w).alloc _
 have c0:=acg hb 0 _ rfl
 have c1:=acg hb 1 _ rfl
 have c2:=acg hb 2 _ rfl
 have c3:=acg hb 3 _ rfl
 have c6:=acg hb 6 _ rfl
 simp
 generalize w.alloc (.cells (pkC p).toArray T.c)=w1 at *
 have hl2: ∀K,ldN P 2 w.heap.size 2 w1 K=K (.agg #[.int .u64 p.b.n,.int .u64 p.b.jr]) w1:=fun K=>abf c2 c3 K
 have n1: ¬p.jh=1:=by omega
 have n2: ¬p.jh=2:=by omega
 have n3: ¬p.jh=3:=by omega
 simp[c0,n1,n2]
 unfold M.q.j1
 simp[n3]
 rcases hk with hk|hk
 ·simp[hk]
  unfold M.q.j2
  simp[c1,hl2,c6]
  exact h w1 f1
 ·simp[hk]
  unfold M.q.j2
  simp[c1,hl2,c6]
  exact h w1 f1
def asx(tr:Int)(b:Bal)(v:Int):Bool:=decide (0 < tr) && decide (0 < b.n) && (decide (v=0) || yw v)
theorem avg{w:World}{tr v:Int}{b:Bal}{K:KV}(h: ∀w',Fz w w'->K (.bool (asx tr b v)) w'):ik P F.bm [apx tr b v] w K:=by
 rw[M.ad.fcall]
 apply M.ad.calls
 unfold M.ad apx bil
 simp[ajb,agc]
 have hb1:(w.alloc (.cells #[.int .u64 0,.int .u64 0] T.e)).heap[w.heap.size]? =some (.cells #[.int .u64 0,.int .u64 0] T.e (0,0)):=by rw[ja,if_pos rfl]
 have f1:Fz w (w.alloc (.cells #[.int .u64 0,.int .u64 0] T.e)):=(Fr.refl _ w).alloc _
 refine kg (vs:=[.int .u64 0,.int .u64 0]) hb1 rfl (by simp[lc]) fun w2 b2 f2=>?_
 have f12:Fz w w2:=f1.jw f2 fun g hg he=>by omega
 have hb3:(w2.alloc (.cells #[.int .u64 0,.int .u64 0,.int .u64 0,.int .i64 0] T.aj)).heap[w2.heap.size]? =some (.cells #[.int .u64 0,.int .u64 0,.int .u64 0,.int .i64 0] T.aj (0,0)):=by rw[ja,if_pos rfl]
 have f3:Fz w (w2.alloc (.cells #[.int .u64 0,.int .u64 0,.int .u64 0,.int .i64 0] T.aj)):=f12.alloc _
 have hsz:=f12.size
 refine kg (vs:=[.int .u64 tr,.int .u64 b.n,.int .u64 b.jr,.int .i64 v]) hb3 rfl (by simp[lc]) fun w4 b4 f4=>?_
 have f14:Fz w w4:=f3.jw f4 fun g hg he=>by omega
 generalize w2.heap.size=ob at *
 have c0:iq w4 ob 0=some (.int .u64 tr):=by rw[iw b4];rfl
 have c1:iq w4 ob 1=some (.int .u64 b.n):=by rw[iw b4];rfl
 have c3:iq w4 ob 3=some (.int .i64 v):=by rw[iw b4];rfl
 have fin:=h w4 f14
 unfold asx at fin
 by_cases h1:0 < tr
 ·by_cases h2:0 < b.n
  ·by_cases h3:v=0
   ·simp[c0,c1,c3,h1,h2,h3]
    simpa [h1,h2,h3] using fin
   ·simp[c0,c1,c3,h1,h2,h3]
    refine ame ?_
    simpa [h1,h2,h3] using fin
  ·simp[c0,c1,c3,h1,h2]
   simpa [h1,h2] using fin
 ·simp[c0,c1,c3,h1]
  simpa [h1] using fin
def aju(k tr:Int)(b:Bal)(v:Int):Pk:=⟨k,tr,b,jf,v,false,.slice none 0 0,.slice none 0 0,.slice none 0 0⟩
def bie(tr:Int)(b:Bal)(v:Int):Pk:=⟨if v=0 then 4 else 6,tr,b,jf,v,false,.slice none 0 0,.slice none 0 0,.slice none 0 0⟩
theorem atp{w:World}{tr v:Int}{b:Bal}{K:KV}(h: ∀w',Fz w w'->K (pkA (bie tr b v)) w'):ik P F.bh [apx tr b v] w K:=by
 rw[M.af.fcall]
 apply M.af.calls
 unfold M.af apx bil
 simp[ajb,agc]
 have S0:St w (w.alloc (.cells #[.int .i64 0,.int .u64 0,.int .u64 0,.int .u64 0,.int .u64 0,.int .u64 0,.int .i64 0,.bool false,.slice none 0 0,.slice none 0 0,.slice none 0 0] T.c)) (jd w.heap.size #[.int .i64 0,.int .u64 0,.int .u64 0,.int .u64 0,.int .u64 0,.int .u64 0,.int .i64 0,.bool false,.slice none 0 0,.slice none 0 0,.slice none 0 0] T.c :: []):=(St.km w).add ((Fr.refl _ w).alloc _) (B:=fun x=>x=w.heap.size) ⟨by rw[ja,if_pos rfl],rfl⟩ fun x hx=>by subst hx;rw[jg];omega
 have z0:(w.alloc (.cells #[.int .i64 0,.int .u64 0,.int .u64 0,.int .u64 0,.int .u64 0,.int .u64 0,.int .i64 0,.bool false,.slice none 0 0,.slice none 0 0,.slice none 0 0] T.c)).heap.size=w.heap.size+1:=jg _ _
 generalize w.alloc (.cells #[.int .i64 0,.int .u64 0,.int .u64 0,.int .u64 0,.int .u64 0,.int .u64 0,.int .i64 0,.bool false,.slice none 0 0,.slice none 0 0,.slice none 0 0] T.c)=w1 at *
 have S1:St w (w1.alloc (.cells #[.int .u64 0,.int .u64 0,.int .u64 0,.int .i64 0] T.aj)) (jd w1.heap.size #[.int .u64 0,.int .u64 0,.int .u64 0,.int .i64 0] T.aj :: _):=S0.add ((Fr.refl _ w1).alloc _) (B:=fun x=>x=w1.heap.size) ⟨by rw[ja,if_pos rfl],rfl⟩ fun x hx=>by subst hx;rw[jg];omega
 rw[z0] at S1
 generalize w.heap.size=pb at *
 generalize pb+1=ob at *
 refine kg (vs:=[.int .u64 tr,.int .u64 b.n,.int .u64 b.jr,.int .i64 v]) S1.blk rfl (by simp[lc]) fun w2 b2 f2=>?_
 have S2:=S1.oz f2 b2
 have askC: ∀{W:World}{R:List Asn},St w W (jd ob [Value.int .u64 tr,.int .u64 b.n,.int .u64 b.jr,.int .i64 v].toArray T.aj :: R)->iq W ob 0=some (.int .u64 tr)/\iq W ob 3=some (.int .i64 v)/\∀K,ldN P 2 ob 1 W K=K (.agg #[.int .u64 b.n,.int .u64 b.jr]) W:=fun{W R} S'=>by
  have hh:=S'.blk
  exact⟨by rw[iw hh];rfl,by rw[iw hh];rfl,fun K=>abf (by rw[iw hh];rfl) (by rw[iw hh];rfl) K⟩
 obtain⟨c0,c3,cl⟩:=askC S2
 simp[c0,c3,cl]
 have pkL: ∀{W:World}{R:List Asn}{q:Pk},St w W (jd pb (pkC q).toArray T.c :: R)->∀K,ldN P 11 pb 0 W K=K (pkA q) W:=fun{W R q} S' K=>tk (pkC q) 11 rfl (fun k u hk=>by rw[Nat.zero_add];exact acg S'.blk k u hk) K
 have pkO: ∀(k:Int),∀u∈pkC (aju k tr b v),lc u=true:=fun k u hu=>by
  simp only[pkC,aju,List.mem_cons,List.not_mem_nil,or_false] at hu
  rcases hu with rfl|rfl|rfl|rfl|rfl|rfl|rfl|rfl|rfl|rfl|rfl <;>rfl
 have hres: ∀{W:World}{R:List Asn}{q:Pk},St w W (jd pb (pkC q).toArray T.c :: R)->∀K,oy P T.c (.pointer (some ⟨pb,0,none⟩)) W K=K (pkA q) W:=fun{W R q} S' K=>by rw[alb];exact pkL S' K
 refine kg (vs:=pkC (aju 4 tr b v)) S2.swap.blk rfl (pkO 4) fun w3 b3 f3=>?_
 have S3:=S2.swap.oz f3 b3
 obtain⟨_,d3,_⟩:=askC S3.swap
 by_cases hv:v=0
 ·simp[d3,hv]
  subst hv
  rw[pkL S3]
  have e:pkA (aju 4 tr b 0)= .agg #[.int .i64 4,.int .u64 tr,.int .u64 b.n,.int .u64 b.jr,.int .u64 0,.int .u64 0,.int .i64 0,.bool false,.slice none 0 0,.slice none 0 0,.slice none 0 0]:=rfl
  rw[e]
  simp
  refine kg (vs:=pkC (aju 4 tr b 0)) S3.blk rfl (pkO 4) fun w5 b5 f5=>?_
  have S5:=S3.oz f5 b5
  rw[hres S5]
  exact⟨rfl,h w5 S5.fr⟩
 ·have e0:=acg S3.blk 0 _ rfl
  have ez:=mi S3.blk
  simp[d3,hv,e0,ez]
  have S4:St w (w3.setCell ⟨pb,0,none⟩ (.int .i64 6)) (jd pb (pkC (aju 6 tr b v)).toArray T.c :: _):=S3.oz ((Fr.refl (fun x=>x=pb) w3).setCell (.inl rfl) _ _) ((nl S3.blk).trans rfl)
  rw[pkL S4]
  have e:pkA (aju 6 tr b v)= .agg #[.int .i64 6,.int .u64 tr,.int .u64 b.n,.int .u64 b.jr,.int .u64 0,.int .u64 0,.int .i64 v,.bool false,.slice none 0 0,.slice none 0 0,.slice none 0 0]:=rfl
  rw[e]
  simp
  refine kg (vs:=pkC (aju 6 tr b v)) S4.blk rfl (pkO 6) fun w5 b5 f5=>?_
  have S5:=S4.oz f5 b5
  rw[hres S5]
  have fin:=h w5 S5.fr
  unfold bie at fin
  rw[if_neg hv] at fin
  exact⟨rfl,fin⟩
def la(b:Bal):Value:= .agg #[.int .u64 b.n,.int .u64 b.jr]
theorem arf(x y:Bal)(w:World):(Op.equalIn 10000 T.e (la x) (la y)).run P w= .ok (x.n == y.n && (x.jr == y.jr)) w:=by
 have hS:P.underlying T.e=some (.struct (P.fieldsOf T.e)):=by kernel_rfl
 have hp:P.stoodInHeld T.e=false:=by kernel_rfl
 unfold la
 rw[show (10000:Nat)=9999+1 from rfl,run_equalIn_agg w 9999 T.e _ _ hS hp]
 simp only[Program.fieldsOf,show P.underlying T.e=_ from Tryz.underlying25]
 have u22:P.underlying T.a=some (.int .u64):=by kernel_rfl
 have a22:adb P T.a=false:=by kernel_rfl
 refine eqF (by decide) a22 rfl rfl (run_equalIn_int w 9998 T.a _ _ _ _ u22) ?_
 have:=eqF (fs:=[]) (d:=9999) (xs:= #[.int .u64 x.n,.int .u64 x.jr]) (ys:= #[.int .u64 y.n,.int .u64 y.jr]) (f:={name:= "Node",type:=T.a,offset:=1,embedded:=false,tag:= "",pkgPath:= "",byteOffset:=8}) (w:=w) (c:=true) (by decide) a22 rfl rfl (run_equalIn_int w 9998 T.a _ _ _ _ u22) rfl
 simpa using this
theorem bjk(x y:Bal):(x.n == y.n && (x.jr == y.jr))=decide (x=y):=by
 obtain⟨a,b⟩:=x
 obtain⟨a',b'⟩:=y
 simp only[Bal.mk.injEq]
 by_cases h1:a=a' <;>by_cases h2:b=b' <;>simp[h1,h2]
theorem acv(rx ry:Operand)(x y:Bal)(w:World)(K:KV):iy P .eql T.e rx ry (la x) (la y) w K=K (.bool (decide (x=y))) w:=by
 have hm:P.eqGuardType P.depth T.e=false:=by kernel_rfl
 have hg:=run_eqGuard_agg (P:=P) w .eql T.e rx ry #[.int .u64 x.n,.int .u64 x.jr] #[.int .u64 y.n,.int .u64 y.jr] hm
 have he:=arf x y w
 rw[bjk] at he
 unfold iy jt
 unfold la at he⊢
 rw[Sem.run_bind,hg]
 simp only[Result.andThen]
 rw[run_eql_struct,he]
 rfl
theorem atf(rx ry:Operand)(x y:Bal)(w:World)(K:KV):iy P .neq T.e rx ry (la x) (la y) w K=K (.bool !(decide (x=y))) w:=by
 have hm:P.eqGuardType P.depth T.e=false:=by kernel_rfl
 have hg:=run_eqGuard_agg (P:=P) w .neq T.e rx ry #[.int .u64 x.n,.int .u64 x.jr] #[.int .u64 y.n,.int .u64 y.jr] hm
 have he:=arf x y w
 rw[bjk] at he
 unfold iy jt
 unfold la at he⊢
 rw[Sem.run_bind,hg]
 simp only[Result.andThen]
 rw[run_neq_struct,he]
 rfl
structure zd(w:World)(p:Pk)(ls:List Spn)(lm:List Mem)(lu:List Int):Prop where
 s:SlS w p.sv ls
 m:SlM w p.mv lm
 u:SlU w p.iv lu
 ls:ls.length<=1000000
 lm:lm.length<=1000000
 lu:lu.length<=1000000
theorem zd.fr{w w':World}{p:Pk}{ls:List Spn}{lm:List Mem}{lu:List Int}(h:zd w p ls lm lu)(hf:Fz w w'):zd w' p ls lm lu:=
 ⟨h.s.fr hf fun _ _ _ h=>h,h.m.fr hf fun _ _ _ h=>h,h.u.fr hf fun _ _ _ h=>h,h.ls,h.lm,h.lu⟩
theorem zd.one{w:World}{p:Pk}{ls:List Spn}{lm:List Mem}{lu:List Int}(h:zd w p ls lm lu):(∃a c,p.sv= .slice a ls.length c)/\(∃a c,p.mv= .slice a lm.length c)/\∃a c,p.iv= .slice a lu.length c:=by
 obtain⟨a1,c1,h1,_⟩:=h.s
 obtain⟨a2,c2,h2,_⟩:=h.m
 obtain⟨a3,c3,h3,_⟩:=h.u
 exact⟨⟨a1,c1,h1⟩,⟨a2,c2,h2⟩,a3,c3,h3⟩
theorem ano{w:World}{p:Pk}{ls:List Spn}{lm:List Mem}{lu:List Int}(h:zd w p ls lm lu)(K:KV):lk P T.c (pkA p) w K=K (.pointer (some ⟨w.heap.size,0,none⟩)) (w.alloc (.cells (pkC p).toArray T.c)):=by
 rw[vd];rfl
theorem rp{W w:World}{pb:Nat}{p:Pk}{R:List Asn}(S:St W w (jd pb (pkC p).toArray T.c :: R)):iq w pb 0=some (.int .i64 p.jh)/\iq w pb 1=some (.int .u64 p.tr)/\(∀K,ldN P 2 pb 2 w K=K (la p.b) w)/\(∀K,ldN P 2 pb 4 w K=K (la p.ka) w)/\iq w pb 6=some (.int .i64 p.v)/\iq w pb 7=some (.bool p.ok)/\iq w pb 8=some p.sv/\iq w pb 9=some p.mv/\iq w pb 10=some p.iv/\∀K,ldN P 11 pb 0 w K=K (pkA p) w:=by
 have hh:=S.blk
 have hc:=fun j u hj=>acg hh j u hj
 exact⟨hc 0 _ rfl,hc 1 _ rfl,fun K=>abf (hc 2 _ rfl) (hc 3 _ rfl) K,fun K=>abf (hc 4 _ rfl) (hc 5 _ rfl) K,hc 6 _ rfl,hc 7 _ rfl,hc 8 _ rfl,hc 9 _ rfl,hc 10 _ rfl,fun K=>tk (pkC p) 11 rfl (fun k u hk=>by rw[Nat.zero_add];exact hc k u hk) K⟩
def zv(tr:Int):List Int->List Spn->Bool
 | _,[]=>true
 | met,s :: r=>(decide (ll s=0) && (decide (s.jj=tr) && !(decide (s.id∈met)))) && zv tr (met ++ [s.id]) r
def zn(tr:Int)(l:List Spn):Bool:=zv tr [] l && (decide (0 < l.length) && decide (l.length<=16))
theorem atj{tr:Int}{met:List Int}{s:Spn}{r:List Spn}(h: ¬(ll s=0/\s.jj=tr/\s.id∉met)):zv tr met (s :: r)=false:=by
 rw[zv]
 by_cases h1:ll s=0 <;>by_cases h2:s.jj=tr <;>by_cases h3:s.id∈met <;>simp_all
theorem avz{tr:Int}{met:List Int}{s:Spn}{r:List Spn}(h1:ll s=0)(h2:s.jj=tr)(h3:s.id∉met):zv tr met (s :: r)=zv tr (met ++ [s.id]) r:=by
 rw[zv];simp[h1,h2,h3]
def MsI(W:World)(mb:Nat)(tr:Int)(l:List Spn):KL:=fun x w1=> ∃(u0 u1:Value)(i:Nat)(m:MP),x=[u0,u1,.int .i64 (i:Nat)]/\i<=l.length/\St W w1 (jm mb .u64 m :: [])/\(∀k,kh m k=if k∈(l.take i).map Spn.id then some (.bool true) else none)/\zv tr [] l=zv tr ((l.take i).map Spn.id) (l.drop i)
theorem aqd{w:World}{v:Value}{l:List Spn}{tr:Int}(hs:SlS w v l)(hlen:l.length<=1000000){K:KV}(h: ∀w',Fz w w'->K (.bool (zn tr l)) w'):ik P F.fd [.int .u64 tr,v] w K:=by
 rw[M.cz.fcall]
 apply M.cz.calls
 unfold M.cz
 rw[zu]
 have hlv: ∀w' K,biT P .len #[T.h] T.d [false] [v] w' K=K (.int .i64 l.length) w':=fun w' K=>hs.jv (by kernel_rfl) [false]
 have S0:St w (w.alloc (.map #[] 0)) (jm w.heap.size .u64 [] :: []):=(St.km w).add ((Fr.refl _ w).alloc _) (B:=fun x=>x=w.heap.size) ⟨⟨yi w .u64,by simp[jp]⟩,rfl⟩ fun x hx=>by subst hx;rw[jg];omega
 generalize w.alloc (.map #[] 0)=w1 at *
 generalize w.heap.size=mb at *
 simp[hlv]
 refine⟨MsI w mb tr l,fun x _=>l.length - ms x 2,⟨_,_,0,[],rfl,Nat.zero_le _,S0,fun k=>by simp[kh],rfl⟩,?_⟩
 rintro x w2 ⟨u0,u1,i,m,rfl,hi,S2,hm,hg⟩
 by_cases hil:i < l.length
 ·have hili:(i:Int) < (l.length:Int):=by omega
  simp[hil]
  unfold M.cz.j2
  have hs2:SlS w2 v l:=hs.fr S2.fr fun _ _ _ h=>h
  obtain⟨b,o,cap,hv,_,_,hc⟩:=hs2.at hil
  have hia: ∀w' K,iaT P T.h v (.int .i64 (i:Nat)) w' K=K (.pointer (some ⟨b,o+i * 8,none⟩)) w':=fun w' K=>by rw[hv];simp[hil]
  have hld: ∀K,ldN P 8 b (o+i * 8) w2 K=K (lw l[i]) w2:=fun K=>ldS (fun k u hk=>hc k u hk) K
  have hdrop:l.drop i=l[i] :: l.drop (i+1):=List.drop_eq_getElem_cons hil
  rw[hdrop] at hg
  have htk:(l.take (i+1)).map Spn.id=(l.take i).map Spn.id ++ [l[i].id]:=by rw[List.take_succ_eq_append_getElem hil,List.map_append];rfl
  generalize l[i]=s at *
  simp[hia,hld]
  unfold lw
  simp
  have S3:St w (w2.alloc (.cells #[.int .u64 0,.int .u64 0,.int .u64 0,.int .u64 0,.int .u64 0,.string ⟨#[]⟩,.string ⟨#[]⟩,.bool false] T.j)) (jd w2.heap.size #[.int .u64 0,.int .u64 0,.int .u64 0,.int .u64 0,.int .u64 0,.string ⟨#[]⟩,.string ⟨#[]⟩,.bool false] T.j :: jm mb .u64 m :: []):=S2.add ((Fr.refl _ w2).alloc _) (B:=fun x=>x=w2.heap.size) ⟨by rw[ja,if_pos rfl],rfl⟩ fun x hx=>by subst hx;rw[jg];omega
  generalize w2.heap.size=sb at *
  refine kg (vs:=jz s) S3.blk rfl (qn s) fun w4 b4 f4=>?_
  have S4:St w w4 (jd sb (jz s).toArray T.j :: jm mb .u64 m :: []):=S3.oz f4 b4
  have spC: ∀{W:World},St w W (jd sb (jz s).toArray T.j :: jm mb .u64 m :: [])->iq W sb 0=some (.int .u64 s.jj)/\iq W sb 1=some (.int .u64 s.id)/\∀K,ldN P 8 sb 0 W K=K (lw s) W:=fun{W} S'=>by
   have hh:acb W sb s:=S'.blk
   exact⟨si hh 0 _ rfl,si hh 1 _ rfl,fun K=>ldS (fun k v hk=>by rw[Nat.zero_add];exact si hh k v hk) K⟩
  obtain⟨_,_,sl⟩:=spC S4
  simp[sl]
  rw[M.dw.fcall]
  refine aha s fun w5 f5=>?_
  have S5:=S4.ju f5
  obtain⟨s0,s1,_⟩:=spC S5
  have bad: ¬(ll s=0/\s.jj=tr/\s.id∉(l.take i).map Spn.id)->K (.bool false) w5:=fun hb=>by
   have:=h w5 S5.fr
   unfold zn at this
   rw[hg,atj hb] at this
   simpa using this
  have hmap:=(wg S5.swap).1
  have hw:IntKind.i64.wrap ((i:Int)+1)=((i+1:Nat):Int):=by rw[jc];omega
  by_cases h1:ll s=0
  case neg=>
   simp[h1]
   exact bad fun hh=>h1 hh.1
  by_cases h2:s.jj=tr
  case neg=>
   simp[h1,s0,h2]
   exact bad fun hh=>h2 hh.2.1
  have hmk:=hm s.id
  by_cases h3:s.id∈(l.take i).map Spn.id
  ·rw[if_pos h3] at hmk
   simp[h1,s0,h2,s1,tp mt.am hmap,hmk]
   exact bad fun hh=>hh.2.2 h3
  ·rw[if_neg h3] at hmk
   simp[h1,s0,h2,s1,tp mt.am hmap,hmk]
   refine aey mt.am hmap s.id _ _ fun ob hob=>?_
   have S6:=ana S5.swap hob
   rw[hw]
   refine⟨⟨_,_,i+1,_,rfl,hil,(S6.swap).drop,fun k=>?_,?_⟩,by simp[ms,gv];omega⟩
   ·rw[aau,hm k,htk]
    by_cases hk:s.id=k
    ·subst hk;simp
    ·have hk': ¬k=s.id:=fun e=>hk e.symm
     simp[hk,hk']
   ·rw[hg,avz h1 h2 h3,htk]
 ·have hili: ¬(i:Int) < (l.length:Int):=by omega
  simp[hil]
  unfold M.cz.j0
  rw[List.drop_of_length_le (by omega)] at hg
  have fin:=h w2 S2.fr
  unfold zn at fin
  rw[hg,zv] at fin
  by_cases h1:0 < l.length
  ·have h1i:(0:Int) < (l.length:Int):=by omega
   by_cases h2:l.length<=16
   ·have h2i:(l.length:Int)<=16:=by omega
    simp[hlv,h1]
    try rw[hlv]
    simp[h2i]
    simpa [h1,h2] using fin
   ·have h2i: ¬(l.length:Int)<=16:=by omega
    simp[hlv,h1]
    try rw[hlv]
    simp[h2i]
    simpa [h1,h2] using fin
  ·have h1i: ¬(0:Int) < (l.length:Int):=by omega
   simp[hlv,h1i]
   simpa [h1] using fin
theorem acq{w:World}{v:Value}{l:List Int}(hs:SlU w v l)(hlen:l.length<=1000000){K:KV}(h: ∀w' v',SlU w' v' l->(∀x,v'.ownBlock=some x->w.heap.size<=x)->Fz w w'->K v' w'):ik P F.x [v] w K:=by
 rw[M.cn.fcall]
 apply M.cn.calls
 unfold M.cn
 simp only[ir]
 have hs':=hs
 obtain⟨a,cap,rfl,_⟩:=hs'
 cases a with
 | none=>
  simp
  have hz:l=[]:=by
   obtain⟨a',cap',hv,_,_,h3⟩:=hs
   cases l with
   | nil=>rfl
   | cons x l=>
    obtain⟨b,o,ha,_⟩:=h3 0 x rfl
    injection hv with h1 _ _
    rw[<-h1] at ha;cases ha
  subst hz
  exact h w _ Sl.nil (fun x hx=>by simp[Value.ownBlock] at hx) (Fr.refl _ _)
 | some a=>
  simp
  have f0:Fz w (w.alloc (.cells #[] T.a)):=(Fr.refl _ w).alloc _
  refine yo et.g amc bip (base:=w.heap.size) (Ow.empty (by rw[ja,if_pos rfl]) (Nat.le_refl _)) (hs.fr f0 fun _ _ _ h=>h) (by simp;omega) (by decide) (by simp) _ fun v3 w3 o3 f3 g3=>?_
  rw[List.nil_append] at o3
  exact h w3 v3 (o3.sl amc) (fun x hx=>(o3.lt hx).1) (f0.jw f3 fun b hb hv=>by simp[Value.ownBlock] at hv;omega)
inductive ThR (w:World) (p:Pk) (ls:List Spn) (lm:List Mem) (lu:List Int):Value->Prop
 | kt (v:Value):(p.jh=1\/p.jh=2)->SlS w v ls->ThR w p ls lm lu (.iface T.z (.agg #[.int .u64 p.tr,.bool (decide (p.jh=2)),v]))
 | amf (v:Value):p.jh=3->SlM w v lm->ThR w p ls lm lu (.iface T.s (.agg #[v]))
 | ask:(p.jh=4\/p.jh=6)->ThR w p ls lm lu (apx p.tr p.b p.v)
 | acj:(p.jh=5\/p.jh=7)->ThR w p ls lm lu (.iface T.m (.agg #[.int .u64 p.tr,.int .u64 p.b.n,.int .u64 p.b.jr,.bool p.ok,.int .u64 p.ka.n,.int .u64 p.ka.jr,.int .i64 p.v,.bool (decide (p.jh=7))]))
 | ud:p.jh=8->ThR w p ls lm lu (.iface T.ag (.agg #[.int .u64 p.tr,.int .i64 p.v]))
 | zp (v:Value):p.jh=9->SlS w v ls->ThR w p ls lm lu (.iface T.w (.agg #[.int .u64 p.tr,.int .u64 p.b.n,.int .u64 p.b.jr,v]))
 | aci (v:Value):p.jh=10->SlU w v lu->ThR w p ls lm lu (.iface T.ab (.agg #[.int .u64 p.tr,v]))
 | none: ¬(1<=p.jh/\p.jh<=10)->ThR w p ls lm lu .nilIface
def alr(w:World)(t:Value):Prop:= ∀a b c v,t= .iface T.w (.agg #[a,b,c,v])->∀g,v.ownBlock=some g->w.heap.size<=g
theorem alr.mono{w w':World}{t:Value}(h:alr w' t)(hs:w.heap.size<=w'.heap.size):alr w t:=fun a b c v he g hg=>Nat.le_trans hs (h a b c v he g hg)
theorem adz{w:World}{e:TypeId}{x:Value}(h:e≠T.w):alr w (.iface e x):=fun a b c v he=>by
 injection he with h1 _
 exact absurd h1 h
theorem arl{w:World}{p:Pk}{ls:List Spn}{lm:List Mem}{lu:List Int}(hp:zd w p ls lm lu){K:KV}(h: ∀w' t,ThR w' p ls lm lu t->alr w t->Fz w w'->K t w'):ik P F.cr [pkA p] w K:=by
 by_cases ha:p.jh=4\/p.jh=6
 ·exact avd ha fun w' f=>h w' _ (.ask ha) (adz (by decide)) f
 rw[M.q.fcall]
 apply M.q.calls
 unfold M.q
 rw[ano hp]
 have S1:St w (w.alloc (.cells (pkC p).toArray T.c)) (jd w.heap.size (pkC p).toArray T.c :: []):=(St.km w).add ((Fr.refl _ w).alloc _) (B:=fun x=>x=w.heap.size) ⟨by rw[ja,if_pos rfl],rfl⟩ fun x hx=>by subst hx;rw[jg];omega
 generalize w.alloc (.cells (pkC p).toArray T.c)=w1 at *
 generalize w.heap.size=pb at *
 have f1:=S1.fr
 have hp1:=hp.fr f1
 have fd:Fz w1 (dr w1 1):=(Fr.refl _ w1).dr 1
 have hpd:=hp1.fr fd
 have Sd:=S1.ju fd
 obtain⟨_,_,e2,_⟩:=rp Sd
 obtain⟨c0,c1,c2,c4,c6,c7,c8,c9,c10,_⟩:=rp S1
 obtain⟨⟨a1,k1,h1⟩,⟨a2,k2,h2⟩,a3,k3,h3⟩:=hp.one
 have n4: ¬p.jh=4:=fun h=>ha (.inl h)
 have n6: ¬p.jh=6:=fun h=>ha (.inr h)
 by_cases q1:p.jh=1\/p.jh=2
 ·have fin: ∀d:Bool,d=decide (p.jh=2)->∀w2 v2,SlS w2 v2 ls->Fz (dr w1 1) w2->K (.iface T.z (.agg #[.int .u64 p.tr,.bool d,v2])) w2:=fun d hd w2 v2 s2 f2=>by
   subst hd
   exact h w2 _ (.kt v2 q1 s2) (adz (by decide)) (f1.trans (fd.trans f2))
  have c8':=c8
  rw[h1] at c8'
  rcases q1 with q|q
  ·simp[c0,q]
   unfold M.q.j1
   simp[c1,c0,q,c8']
   rw[<-h1,M.y.fcall]
   refine aal hpd.s hpd.ls fun w2 v2 s2 _ f2=>?_
   obtain⟨a,c,hv,_⟩:=id s2
   have fin':=fin false (by simp[q]) w2 v2 s2 f2
   have S2:=Sd.ju f2
   obtain⟨d0,d1,_⟩:=rp S2
   rw[hv] at fin'⊢
   simp[d0,d1,q]
   exact fin'
  ·simp[c0,q]
   unfold M.q.j1
   simp[c1,c0,q,c8']
   rw[<-h1,M.y.fcall]
   refine aal hpd.s hpd.ls fun w2 v2 s2 _ f2=>?_
   obtain⟨a,c,hv,_⟩:=id s2
   have fin':=fin true (by simp[q]) w2 v2 s2 f2
   have S2:=Sd.ju f2
   obtain⟨d0,d1,_⟩:=rp S2
   rw[hv] at fin'⊢
   simp[d0,d1,q]
   exact fin'
 have n1: ¬p.jh=1:=fun h=>q1 (.inl h)
 have n2: ¬p.jh=2:=fun h=>q1 (.inr h)
 simp[c0,n1,n2]
 unfold M.q.j1
 by_cases q3:p.jh=3
 ·have c9':=c9
  rw[h2] at c9'
  simp[q3,c9']
  rw[<-h2]
  refine acr hp1.m hp1.lm fun w2 v2 s2 _ f2=>?_
  obtain⟨a,c,hv,_⟩:=id s2
  have fin:=h w2 _ (.amf v2 q3 s2) (adz (by decide)) (f1.trans f2)
  rw[hv] at fin⊢
  simp
  exact fin
 simp[q3,n4,n6]
 unfold M.q.j2
 by_cases q5:p.jh=5\/p.jh=7
 ·have fin:=h w1 _ (.acj (ls:=ls) (lm:=lm) (lu:=lu) q5) (adz (by decide)) f1
  unfold la at c2 c4
  rcases q5 with q|q
  ·simp[q]
   unfold M.q.j3
   simp[c0,c1,c2,c4,c6,c7,q]
   simp[q] at fin
   exact fin
  ·simp[q]
   unfold M.q.j3
   simp[c0,c1,c2,c4,c6,c7,q]
   simp[q] at fin
   exact fin
 have n5: ¬p.jh=5:=fun h=>q5 (.inl h)
 have n7: ¬p.jh=7:=fun h=>q5 (.inr h)
 simp[n5,n7]
 unfold M.q.j3
 by_cases q8:p.jh=8
 ·simp[q8,c1,c6]
  exact h w1 _ (.ud q8) (adz (by decide)) f1
 by_cases q9:p.jh=9
 ·have c8':=c8
  rw[h1] at c8'
  unfold la at c2 e2
  simp[q9,c1,c2,e2,c8']
  rw[<-h1,M.y.fcall]
  refine aal hpd.s hpd.ls fun w2 v2 s2 n2 f2=>?_
  obtain⟨a,c,hv,_⟩:=id s2
  have hown:alr w (.iface T.w (.agg #[.int .u64 p.tr,.int .u64 p.b.n,.int .u64 p.b.jr,v2])):=fun a b c v he g hg=>by
   injection he with _ h2
   injection h2 with h2
   have h3:=congrArg (fun x:Array Value=>x[3]?) h2
   simp at h3
   rw[<-h3] at hg
   have:=(n2 g hg).1
   have:=(f1.trans fd).size
   omega
  have fin:=h w2 _ (.zp v2 q9 s2) hown (f1.trans (fd.trans f2))
  have S2:=Sd.ju f2
  obtain⟨_,d1,d2,_⟩:=rp S2
  unfold la at d2
  rw[hv] at fin⊢
  simp[d1,d2]
  exact fin
 by_cases q10:p.jh=10
 ·have c10':=c10
  rw[h3] at c10'
  simp[q10,c1,c10']
  rw[<-h3]
  refine acq hpd.u hpd.lu fun w2 v2 s2 _ f2=>?_
  obtain⟨a,c,hv,_⟩:=id s2
  have fin:=h w2 _ (.aci v2 q10 s2) (adz (by decide)) (f1.trans (fd.trans f2))
  have S2:=Sd.ju f2
  obtain⟨_,d1,_⟩:=rp S2
  rw[hv] at fin⊢
  simp[d1]
  exact fin
 simp[q8,q9,q10]
 exact h w1 _ (.none (by omega)) (fun a b c v e=>by cases e) f1
def aja(tr:Int)(l:List Spn):Bool:=decide (0 < tr) && zn tr l
theorem arq{w:World}{tr:Int}{d:Bool}{v:Value}{l:List Spn}(hs:SlS w v l)(hlen:l.length<=1000000){K:KV}(h: ∀w',Fz w w'->K (.bool (aja tr l)) w'):ik P F.bm [.iface T.z (.agg #[.int .u64 tr,.bool d,v])] w K:=by
 rw[M.ad.fcall]
 apply M.ad.calls
 unfold M.ad
 obtain⟨a,c,hv,_⟩:=id hs
 rw[hv]
 simp
 have S0:St w (w.alloc (.cells #[.int .u64 0,.int .u64 0] T.e)) (jd w.heap.size #[.int .u64 0,.int .u64 0] T.e :: []):=(St.km w).add ((Fr.refl _ w).alloc _) (B:=fun x=>x=w.heap.size) ⟨by rw[ja,if_pos rfl],rfl⟩ fun x hx=>by subst hx;rw[jg];omega
 refine kg (vs:=[.int .u64 0,.int .u64 0]) S0.blk rfl (by simp[lc]) fun w2 b2 f2=>?_
 have S2:=S0.oz f2 b2
 have S3:St w (w2.alloc (.cells #[.int .u64 0,.bool false,.slice none 0 0] T.z)) (jd w2.heap.size #[.int .u64 0,.bool false,.slice none 0 0] T.z :: _):=S2.add ((Fr.refl _ w2).alloc _) (B:=fun x=>x=w2.heap.size) ⟨by rw[ja,if_pos rfl],rfl⟩ fun x hx=>by subst hx;rw[jg];omega
 refine kg (vs:=[.int .u64 tr,.bool d,.slice a l.length c]) S3.blk rfl (by simp[lc]) fun w4 b4 f4=>?_
 have S4:=S3.oz f4 b4
 generalize w2.heap.size=ob at *
 have c0:iq w4 ob 0=some (.int .u64 tr):=by rw[iw b4];rfl
 have c2:iq w4 ob 2=some (.slice a l.length c):=by rw[iw b4];rfl
 unfold aja at h
 by_cases h1:0 < tr
 ·simp[c0,c2,h1]
  rw[<-hv]
  refine aqd (hs.fr S4.fr fun _ _ _ h=>h) hlen fun w5 f5=>?_
  have fin:=h w5 (S4.fr.trans f5)
  simpa [h1] using fin
 ·have fin:=h w4 S4.fr
  simp[c0,h1]
  simpa [h1] using fin
def ala(tr:Int)(b:Bal)(l:List Spn):Bool:=decide (0 < tr) && decide (0 < b.n) && zn tr l
theorem apa{w:World}{tr:Int}{b:Bal}{v:Value}{l:List Spn}(hs:SlS w v l)(hlen:l.length<=1000000){K:KV}(h: ∀w',Fz w w'->K (.bool (ala tr b l)) w'):ik P F.bm [.iface T.w (.agg #[.int .u64 tr,.int .u64 b.n,.int .u64 b.jr,v])] w K:=by
 rw[M.ad.fcall]
 apply M.ad.calls
 unfold M.ad
 obtain⟨a,c,hv,_⟩:=id hs
 rw[hv]
 simp[afm,adk,aic,afe,agu]
 have S0:St w (w.alloc (.cells #[.int .u64 0,.int .u64 0] T.e)) (jd w.heap.size #[.int .u64 0,.int .u64 0] T.e :: []):=(St.km w).add ((Fr.refl _ w).alloc _) (B:=fun x=>x=w.heap.size) ⟨by rw[ja,if_pos rfl],rfl⟩ fun x hx=>by subst hx;rw[jg];omega
 refine kg (vs:=[.int .u64 0,.int .u64 0]) S0.blk rfl (by simp[lc]) fun w2 b2 f2=>?_
 have S2:=S0.oz f2 b2
 have S3:St w (w2.alloc (.cells #[.int .u64 0,.int .u64 0,.int .u64 0,.slice none 0 0] T.w)) (jd w2.heap.size #[.int .u64 0,.int .u64 0,.int .u64 0,.slice none 0 0] T.w :: _):=S2.add ((Fr.refl _ w2).alloc _) (B:=fun x=>x=w2.heap.size) ⟨by rw[ja,if_pos rfl],rfl⟩ fun x hx=>by subst hx;rw[jg];omega
 refine kg (vs:=[.int .u64 tr,.int .u64 b.n,.int .u64 b.jr,.slice a l.length c]) S3.blk rfl (by simp[lc]) fun w4 b4 f4=>?_
 have S4:=S3.oz f4 b4
 generalize w2.heap.size=ob at *
 have c0:iq w4 ob 0=some (.int .u64 tr):=by rw[iw b4];rfl
 have c1:iq w4 ob 1=some (.int .u64 b.n):=by rw[iw b4];rfl
 have c3:iq w4 ob 3=some (.slice a l.length c):=by rw[iw b4];rfl
 unfold ala at h
 by_cases h1:0 < tr
 ·by_cases h2:0 < b.n
  ·simp[c0,c1,c3,h1,h2]
   rw[<-hv]
   refine aqd (hs.fr S4.fr fun _ _ _ h=>h) hlen fun w5 f5=>?_
   have fin:=h w5 (S4.fr.trans f5)
   simpa [h1,h2] using fin
  ·have fin:=h w4 S4.fr
   simp[c0,c1,h1,h2]
   simpa [h1,h2] using fin
 ·have fin:=h w4 S4.fr
  simp[c0,h1]
  simpa [h1] using fin
def asb(tr v:Int):Bool:=decide (0 < tr) && yw v
theorem aty{w:World}{tr v:Int}{K:KV}(h: ∀w',Fz w w'->K (.bool (asb tr v)) w'):ik P F.bm [.iface T.ag (.agg #[.int .u64 tr,.int .i64 v])] w K:=by
 rw[M.ad.fcall]
 apply M.ad.calls
 unfold M.ad
 simp[aid,afc,alh,aie]
 have S0:St w (w.alloc (.cells #[.int .u64 0,.int .u64 0] T.e)) (jd w.heap.size #[.int .u64 0,.int .u64 0] T.e :: []):=(St.km w).add ((Fr.refl _ w).alloc _) (B:=fun x=>x=w.heap.size) ⟨by rw[ja,if_pos rfl],rfl⟩ fun x hx=>by subst hx;rw[jg];omega
 refine kg (vs:=[.int .u64 0,.int .u64 0]) S0.blk rfl (by simp[lc]) fun w2 b2 f2=>?_
 have S2:=S0.oz f2 b2
 have S3:St w (w2.alloc (.cells #[.int .u64 0,.int .i64 0] T.ag)) (jd w2.heap.size #[.int .u64 0,.int .i64 0] T.ag :: _):=S2.add ((Fr.refl _ w2).alloc _) (B:=fun x=>x=w2.heap.size) ⟨by rw[ja,if_pos rfl],rfl⟩ fun x hx=>by subst hx;rw[jg];omega
 refine kg (vs:=[.int .u64 tr,.int .i64 v]) S3.blk rfl (by simp[lc]) fun w4 b4 f4=>?_
 have S4:=S3.oz f4 b4
 generalize w2.heap.size=ob at *
 have c0:iq w4 ob 0=some (.int .u64 tr):=by rw[iw b4];rfl
 have c1:iq w4 ob 1=some (.int .i64 v):=by rw[iw b4];rfl
 have fin:=h w4 S4.fr
 unfold asb at fin
 by_cases h1:0 < tr
 ·simp[c0,c1,h1]
  refine ame ?_
  simpa [h1] using fin
 ·simp[c0,h1]
  simpa [h1] using fin
def abj:Int->List Int->Bool
 | _,[]=>true
 | kx,m :: l=>decide (kx < m) && abj m l
def RuI(W:World)(l:List Int):KL:=fun x w1=> ∃(u0 u1:Value)(kx:Int)(i:Nat),x=[u0,u1,.int .u64 kx,.int .i64 (i:Nat)]/\i<=l.length/\abj 0 l=abj kx (l.drop i)/\Fz W w1
theorem awn{w:World}(m:Int){K:KV}(h:K (.int .u64 m) w):lh P (.func (.func F.eb) #[] #[]) [.int .u64 m] w K:=by
 rw[M.fc.rcall]
 apply M.fc.calls
 unfold M.fc
 exact h
theorem bgv{w:World}{v:Value}{l:List Int}(hs:SlU w v l)(hlen:l.length<=1000000){K:KV}(h: ∀w',Fz w w'->K (.bool (abj 0 l && (decide (0 < l.length) && decide (l.length<=16)))) w'):
  ik P F.dp [v,.int .i64 16,.func (.func F.eb) #[] #[]] w K:=by
 rw[M.bk.fcall]
 apply M.bk.calls
 unfold M.bk
 simp only[ir]
 rw[hs.jv (by kernel_rfl)]
 refine⟨RuI w l,fun x _=>l.length - ms x 3,⟨_,_,0,0,rfl,Nat.zero_le _,rfl,Fr.refl _ _⟩,?_⟩
 rintro x w1 ⟨u0,u1,kx,i,rfl,hi,hr,f1⟩
 have q2:gv [u0,u1,.int .u64 kx,.int .i64 (i:Nat)] 2= .int .u64 kx:=rfl
 have q3:gv [u0,u1,.int .u64 kx,.int .i64 (i:Nat)] 3= .int .i64 (i:Nat):=rfl
 have hs1:=hs.fr f1 fun _ _ _ h=>h
 simp only[q3]
 by_cases hil:i < l.length
 ·have hil':(i:Int) < l.length:=by omega
  simp[hil']
  unfold M.bk.j2
  obtain⟨b,o,cap,hv,hb,_,hc⟩:=hs1.at hil
  have hld:=hc 0 _ rfl
  have hwi:IntKind.i64.wrap ((i:Int)+1)=((i+1:Nat):Int):=by rw[jc];rfl
  have hdrop:l.drop i=l[i] :: l.drop (i+1):=List.drop_eq_getElem_cons hil
  rw[hdrop] at hr
  generalize l[i]=m at *
  subst hv
  have hld':iq w1 b (o+i)=some (.int .u64 m):=by simpa using hld
  simp[q2,q3,hil,hld']
  refine awn m ?_
  simp
  by_cases hle:m<=kx
  ·have hlt: ¬kx < m:=by omega
   simp[hle]
   have hf:abj 0 l=false:=by rw[hr];unfold abj;simp[hlt]
   rw[hf] at h
   exact h w1 f1
  ·have hlt:kx < m:=by omega
   simp[hle]
   refine awn m ?_
   simp[hwi]
   refine⟨⟨_,_,m,i+1,rfl,by omega,?_,f1⟩,by simp[ms,gv];omega⟩
   rw[hr]
   show (decide (kx < m) && abj m (l.drop (i+1)))=_
   simp[hlt]
 ·have hil': ¬(i:Int) < l.length:=by omega
  have hr1:abj 0 l=true:=by rw[hr,List.drop_of_length_le (by omega)];rfl
  simp[hil']
  unfold M.bk.j0
  rw[hs1.jv (by kernel_rfl)]
  rw[hr1] at h
  by_cases h0:0 < l.length
  ·have h0':(0:Int) < l.length:=by omega
   have hx:decide ((l.length:Int)<=16)=decide (l.length<=16):=by
    by_cases h16:l.length<=16
    ·rw[decide_eq_true h16,decide_eq_true (by omega)]
    ·rw[decide_eq_false h16,decide_eq_false (by omega)]
   simp[h0]
   rw[hs1.jv (by kernel_rfl)]
   simp
   rw[hx]
   have:=h w1 f1
   simpa [h0] using this
  ·simp[h0]
   have:=h w1 f1
   simpa [h0] using this
def aog(tr:Int)(l:List Int):Bool:=decide (0 < tr) && (abj 0 l && (decide (0 < l.length) && decide (l.length<=16)))
theorem arw{w:World}{tr:Int}{v:Value}{l:List Int}(hs:SlU w v l)(hlen:l.length<=1000000){K:KV}(h: ∀w',Fz w w'->K (.bool (aog tr l)) w'):ik P F.bm [.iface T.ab (.agg #[.int .u64 tr,v])] w K:=by
 rw[M.ad.fcall]
 apply M.ad.calls
 unfold M.ad
 obtain⟨a,c,hv,_⟩:=id hs
 rw[hv]
 simp[ags,aes,air,agf,aih,aex]
 have S0:St w (w.alloc (.cells #[.int .u64 0,.int .u64 0] T.e)) (jd w.heap.size #[.int .u64 0,.int .u64 0] T.e :: []):=(St.km w).add ((Fr.refl _ w).alloc _) (B:=fun x=>x=w.heap.size) ⟨by rw[ja,if_pos rfl],rfl⟩ fun x hx=>by subst hx;rw[jg];omega
 refine kg (vs:=[.int .u64 0,.int .u64 0]) S0.blk rfl (by simp[lc]) fun w2 b2 f2=>?_
 have S2:=S0.oz f2 b2
 have S3:St w (w2.alloc (.cells #[.int .u64 0,.slice none 0 0] T.ab)) (jd w2.heap.size #[.int .u64 0,.slice none 0 0] T.ab :: _):=S2.add ((Fr.refl _ w2).alloc _) (B:=fun x=>x=w2.heap.size) ⟨by rw[ja,if_pos rfl],rfl⟩ fun x hx=>by subst hx;rw[jg];omega
 refine kg (vs:=[.int .u64 tr,.slice a l.length c]) S3.blk rfl (by simp[lc]) fun w4 b4 f4=>?_
 have S4:=S3.oz f4 b4
 generalize w2.heap.size=ob at *
 have c0:iq w4 ob 0=some (.int .u64 tr):=by rw[iw b4];rfl
 have c1:iq w4 ob 1=some (.slice a l.length c):=by rw[iw b4];rfl
 unfold aog at h
 by_cases h1:0 < tr
 ·simp[c0,c1,h1]
  rw[<-hv]
  refine bgv (hs.fr S4.fr fun _ _ _ h=>h) hlen fun w5 f5=>?_
  have fin:=h w5 (S4.fr.trans f5)
  simpa [h1] using fin
 ·have fin:=h w4 S4.fr
  simp[c0,h1]
  simpa [h1] using fin
def ais(tr:Int)(b:Bal)(ok:Bool)(ka:Bal)(v:Int)(vm:Bool):Bool:=
 if tr=0\/b.n=0 then false else if ok=false then decide (v=0) && !(decide (ka=jf)) else if vm=true then decide (v=0) && decide (ka=jf) else (yw v && !(decide (ka=jf))) || (decide (v=0) && decide (ka=jf))
theorem aru{w:World}{tr v:Int}{b ka:Bal}{ok vm:Bool}{K:KV}(h: ∀w',Fz w w'->K (.bool (ais tr b ok ka v vm)) w'):ik P F.bm [.iface T.m (.agg #[.int .u64 tr,.int .u64 b.n,.int .u64 b.jr,.bool ok,.int .u64 ka.n,.int .u64 ka.jr,.int .i64 v,.bool vm])] w K:=by
 rw[M.ad.fcall]
 apply M.ad.calls
 unfold M.ad
 simp[abv,aaj,aka]
 have S0:St w (w.alloc (.cells #[.int .u64 0,.int .u64 0] T.e)) (jd w.heap.size #[.int .u64 0,.int .u64 0] T.e :: []):=(St.km w).add ((Fr.refl _ w).alloc _) (B:=fun x=>x=w.heap.size) ⟨by rw[ja,if_pos rfl],rfl⟩ fun x hx=>by subst hx;rw[jg];omega
 refine kg (vs:=[.int .u64 0,.int .u64 0]) S0.blk rfl (by simp[lc]) fun w2 b2 f2=>?_
 have S2:=S0.oz f2 b2
 have S3:St w (w2.alloc (.cells #[.int .u64 0,.int .u64 0,.int .u64 0,.bool false,.int .u64 0,.int .u64 0,.int .i64 0,.bool false] T.m)) (jd w2.heap.size #[.int .u64 0,.int .u64 0,.int .u64 0,.bool false,.int .u64 0,.int .u64 0,.int .i64 0,.bool false] T.m :: _):=S2.add ((Fr.refl _ w2).alloc _) (B:=fun x=>x=w2.heap.size) ⟨by rw[ja,if_pos rfl],rfl⟩ fun x hx=>by subst hx;rw[jg];omega
 refine kg (vs:=[.int .u64 tr,.int .u64 b.n,.int .u64 b.jr,.bool ok,.int .u64 ka.n,.int .u64 ka.jr,.int .i64 v,.bool vm]) S3.blk rfl (by simp[lc]) fun w4 b4 f4=>?_
 have S4:=S3.oz f4 b4
 have fin:=h w4 S4.fr
 have z0: ∀K,ldN P 2 w.heap.size 0 w4 K=K (la jf) w4:=fun K=>by
  have hh:=S4.swap.blk
  exact abf (by rw[iw hh];rfl) (by rw[iw hh];rfl) K
 generalize w2.heap.size=ob at *
 generalize w.heap.size=zb at *
 have c0:iq w4 ob 0=some (.int .u64 tr):=by rw[iw b4];rfl
 have c1:iq w4 ob 1=some (.int .u64 b.n):=by rw[iw b4];rfl
 have c3:iq w4 ob 3=some (.bool ok):=by rw[iw b4];rfl
 have c4: ∀K,ldN P 2 ob 4 w4 K=K (la ka) w4:=fun K=>abf (by rw[iw b4];rfl) (by rw[iw b4];rfl) K
 have c6:iq w4 ob 6=some (.int .i64 v):=by rw[iw b4];rfl
 have c7:iq w4 ob 7=some (.bool vm):=by rw[iw b4];rfl
 unfold ais at fin
 by_cases h1:tr=0
 ·simp[c0,h1]
  simpa [h1] using fin
 by_cases h2:b.n=0
 ·simp[c0,c1,h1,h2]
  simpa [h2] using fin
 cases ok with
 | false=>
  by_cases h3:v=0
  ·simp[c0,c1,c3,c6,c4,z0,h1,h2,h3,atf]
   simpa [h1,h2,h3] using fin
  ·simp[c0,c1,c3,c6,h1,h2,h3]
   simpa [h1,h2,h3] using fin
 | true=>
 cases vm with
 | true=>
  by_cases h3:v=0
  ·simp[c0,c1,c3,c6,c7,c4,z0,h1,h2,h3,acv]
   simpa [h1,h2,h3] using fin
  ·simp[c0,c1,c3,c6,c7,h1,h2,h3]
   simpa [h1,h2,h3] using fin
 | false=>
 simp[c0,c1,c3,c7,h1,h2]
 unfold M.ad.j1
 simp[c6]
 refine ame ?_
 by_cases h4:yw v=true
 ·have hv0: ¬v=0:=fun hh=>by subst hh;exact absurd h4 (by decide)
  by_cases h5:ka=jf
  ·simp[h4,c4,z0,atf,h5,c6,hv0]
   simpa [h1,h2,h4,h5,hv0] using fin
  ·simp[h4,c4,z0,atf,h5]
   simpa [h1,h2,h4,h5] using fin
 ·by_cases h3:v=0
  ·subst h3
   have ht:yw 0=false:=by decide
   simp[ht,c6,c4,z0,acv]
   simpa [h1,h2,ht] using fin
  ·simp[h4,c6,h3]
   simpa [h1,h2,h4,h3] using fin
abbrev kq:Value:= .slice none 0 0
theorem aas{w W:World}{pb:Nat}{R:List Asn}{q:Pk}(S:St w W (jd pb (pkC q).toArray T.c :: R))(K:KV):ldN P 11 pb 0 W K=K (pkA q) W:=(rp S).2.2.2.2.2.2.2.2.2 K
theorem aeq{w W:World}{pb:Nat}{R:List Asn}{q:Pk}(S:St w W (jd pb (pkC q).toArray T.c :: R))(K:KV):oy P T.c (.pointer (some ⟨pb,0,none⟩)) W K=K (pkA q) W:=by rw[alb];exact aas S K
theorem xr{k tr v:Int}{b s:Bal}{ok:Bool}{a1 a2 a3:Option Addr}{l1 l2 l3 c1 c2 c3:Nat}: ∀u∈pkC ⟨k,tr,b,s,v,ok,.slice a1 l1 c1,.slice a2 l2 c2,.slice a3 l3 c3⟩,lc u=true:=fun u hu=>by
 simp only[pkC,List.mem_cons,List.not_mem_nil,or_false] at hu
 rcases hu with rfl|rfl|rfl|rfl|rfl|rfl|rfl|rfl|rfl|rfl|rfl <;>rfl
theorem ajc(w:World):St w (w.alloc (.cells #[.int .i64 0,.int .u64 0,.int .u64 0,.int .u64 0,.int .u64 0,.int .u64 0,.int .i64 0,.bool false,.slice none 0 0,.slice none 0 0,.slice none 0 0] T.c)) (jd w.heap.size #[.int .i64 0,.int .u64 0,.int .u64 0,.int .u64 0,.int .u64 0,.int .u64 0,.int .i64 0,.bool false,.slice none 0 0,.slice none 0 0,.slice none 0 0] T.c :: []):=(St.km w).add ((Fr.refl _ w).alloc _) (B:=fun x=>x=w.heap.size) ⟨by rw[ja,if_pos rfl],rfl⟩ fun x hx=>by subst hx;rw[jg];omega
theorem agn{w0 w:World}{R:List Asn}(S:St w0 w R)(cs:Array Value)(t:TypeId):St w0 (w.alloc (.cells cs t)) (jd w.heap.size cs t :: R):=S.add ((Fr.refl _ w).alloc _) (B:=fun x=>x=w.heap.size) ⟨by rw[ja,if_pos rfl],rfl⟩ fun x hx=>by subst hx;rw[jg];omega
theorem ars{w:World}{tr v:Int}{K:KV}(h: ∀w',Fz w w'->K (pkA ⟨8,tr,jf,jf,v,false,kq,kq,kq⟩) w'):ik P F.bh [.iface T.ag (.agg #[.int .u64 tr,.int .i64 v])] w K:=by
 rw[M.af.fcall]
 apply M.af.calls
 unfold M.af
 simp[aid,afc,alh,aie]
 have S0:=ajc w
 have z0:(w.alloc (.cells #[.int .i64 0,.int .u64 0,.int .u64 0,.int .u64 0,.int .u64 0,.int .u64 0,.int .i64 0,.bool false,.slice none 0 0,.slice none 0 0,.slice none 0 0] T.c)).heap.size=w.heap.size+1:=jg _ _
 generalize w.alloc (.cells #[.int .i64 0,.int .u64 0,.int .u64 0,.int .u64 0,.int .u64 0,.int .u64 0,.int .i64 0,.bool false,.slice none 0 0,.slice none 0 0,.slice none 0 0] T.c)=w1 at *
 have S1:=agn S0 #[.int .u64 0,.int .i64 0] T.ag
 rw[z0] at S1
 generalize w.heap.size=pb at *
 generalize pb+1=ob at *
 refine kg (vs:=[.int .u64 tr,.int .i64 v]) S1.blk rfl (by simp[lc]) fun w2 b2 f2=>?_
 have S2:=S1.oz f2 b2
 have c0:iq w2 ob 0=some (.int .u64 tr):=by rw[iw b2];rfl
 have c1:iq w2 ob 1=some (.int .i64 v):=by rw[iw b2];rfl
 simp[c0,c1]
 refine kg (vs:=pkC ⟨8,tr,jf,jf,v,false,kq,kq,kq⟩) S2.swap.blk rfl xr fun w3 b3 f3=>?_
 have S3:=S2.swap.oz f3 b3
 rw[aas S3]
 have e:pkA ⟨8,tr,jf,jf,v,false,kq,kq,kq⟩= .agg #[.int .i64 8,.int .u64 tr,.int .u64 0,.int .u64 0,.int .u64 0,.int .u64 0,.int .i64 v,.bool false,.slice none 0 0,.slice none 0 0,.slice none 0 0]:=rfl
 rw[e]
 simp
 refine kg (vs:=pkC ⟨8,tr,jf,jf,v,false,kq,kq,kq⟩) S3.blk rfl xr fun w5 b5 f5=>?_
 have S5:=S3.oz f5 b5
 rw[aeq S5]
 exact⟨rfl,h w5 S5.fr⟩
theorem apj{w:World}{tr v:Int}{b ka:Bal}{ok vm:Bool}{K:KV}(h: ∀w',Fz w w'->K (pkA ⟨if vm=true then 7 else 5,tr,b,ka,v,ok,kq,kq,kq⟩) w'):ik P F.bh [.iface T.m (.agg #[.int .u64 tr,.int .u64 b.n,.int .u64 b.jr,.bool ok,.int .u64 ka.n,.int .u64 ka.jr,.int .i64 v,.bool vm])] w K:=by
 rw[M.af.fcall]
 apply M.af.calls
 unfold M.af
 simp[abv,aaj,aka]
 have S0:=ajc w
 have z0:(w.alloc (.cells #[.int .i64 0,.int .u64 0,.int .u64 0,.int .u64 0,.int .u64 0,.int .u64 0,.int .i64 0,.bool false,.slice none 0 0,.slice none 0 0,.slice none 0 0] T.c)).heap.size=w.heap.size+1:=jg _ _
 generalize w.alloc (.cells #[.int .i64 0,.int .u64 0,.int .u64 0,.int .u64 0,.int .u64 0,.int .u64 0,.int .i64 0,.bool false,.slice none 0 0,.slice none 0 0,.slice none 0 0] T.c)=w1 at *
 have S1:=agn S0 #[.int .u64 0,.int .u64 0,.int .u64 0,.bool false,.int .u64 0,.int .u64 0,.int .i64 0,.bool false] T.m
 rw[z0] at S1
 generalize w.heap.size=pb at *
 generalize pb+1=ob at *
 refine kg (vs:=[.int .u64 tr,.int .u64 b.n,.int .u64 b.jr,.bool ok,.int .u64 ka.n,.int .u64 ka.jr,.int .i64 v,.bool vm]) S1.blk rfl (by simp[lc]) fun w2 b2 f2=>?_
 have S2:=S1.oz f2 b2
 have reC: ∀{W:World}{R:List Asn},St w W (jd ob [.int .u64 tr,.int .u64 b.n,.int .u64 b.jr,.bool ok,.int .u64 ka.n,.int .u64 ka.jr,.int .i64 v,.bool vm].toArray T.m :: R)->iq W ob 0=some (.int .u64 tr)/\(∀K,ldN P 2 ob 1 W K=K (.agg #[.int .u64 b.n,.int .u64 b.jr]) W)/\iq W ob 3=some (.bool ok)/\(∀K,ldN P 2 ob 4 W K=K (.agg #[.int .u64 ka.n,.int .u64 ka.jr]) W)/\iq W ob 6=some (.int .i64 v)/\iq W ob 7=some (.bool vm):=fun{W R} S'=>by
  have hh:=S'.blk
  exact⟨by rw[iw hh];rfl,fun K=>abf (by rw[iw hh];rfl) (by rw[iw hh];rfl) K,by rw[iw hh];rfl,fun K=>abf (by rw[iw hh];rfl) (by rw[iw hh];rfl) K,by rw[iw hh];rfl,by rw[iw hh];rfl⟩
 obtain⟨c0,c1,c3,c4,c6,_⟩:=reC S2
 simp[c0,c1,c3,c4,c6]
 refine kg (vs:=pkC ⟨5,tr,b,ka,v,ok,kq,kq,kq⟩) S2.swap.blk rfl xr fun w3 b3 f3=>?_
 have S3:=S2.swap.oz f3 b3
 obtain⟨_,_,_,_,_,d7⟩:=reC S3.swap
 cases vm with
 | false=>
  simp[d7]
  rw[aas S3]
  have e:pkA ⟨5,tr,b,ka,v,ok,kq,kq,kq⟩= .agg #[.int .i64 5,.int .u64 tr,.int .u64 b.n,.int .u64 b.jr,.int .u64 ka.n,.int .u64 ka.jr,.int .i64 v,.bool ok,.slice none 0 0,.slice none 0 0,.slice none 0 0]:=rfl
  rw[e]
  simp
  refine kg (vs:=pkC ⟨5,tr,b,ka,v,ok,kq,kq,kq⟩) S3.blk rfl xr fun w5 b5 f5=>?_
  have S5:=S3.oz f5 b5
  rw[aeq S5]
  exact⟨rfl,h w5 S5.fr⟩
 | true=>
  have e0:=acg S3.blk 0 _ rfl
  have ez:=mi S3.blk
  simp[d7,e0,ez]
  have S4:St w (w3.setCell ⟨pb,0,none⟩ (.int .i64 7)) (jd pb (pkC ⟨7,tr,b,ka,v,ok,kq,kq,kq⟩).toArray T.c :: _):=S3.oz ((Fr.refl (fun x=>x=pb) w3).setCell (.inl rfl) _ _) ((nl S3.blk).trans rfl)
  rw[aas S4]
  have e:pkA ⟨7,tr,b,ka,v,ok,kq,kq,kq⟩= .agg #[.int .i64 7,.int .u64 tr,.int .u64 b.n,.int .u64 b.jr,.int .u64 ka.n,.int .u64 ka.jr,.int .i64 v,.bool ok,.slice none 0 0,.slice none 0 0,.slice none 0 0]:=rfl
  rw[e]
  simp
  refine kg (vs:=pkC ⟨7,tr,b,ka,v,ok,kq,kq,kq⟩) S4.blk rfl xr fun w5 b5 f5=>?_
  have S5:=S4.oz f5 b5
  rw[aeq S5]
  exact⟨rfl,h w5 S5.fr⟩
theorem apd{w:World}{tr:Int}{d:Bool}{v:Value}{l:List Spn}(hs:SlS w v l)(hlen:l.length<=1000000){K:KV}(h: ∀w' v',SlS w' v' l->Fz w w'->K (pkA ⟨if d=true then 2 else 1,tr,jf,jf,0,false,v',kq,kq⟩) w'):ik P F.bh [.iface T.z (.agg #[.int .u64 tr,.bool d,v])] w K:=by
 rw[M.af.fcall]
 apply M.af.calls
 unfold M.af
 obtain⟨a,c,hv,_⟩:=id hs
 rw[hv]
 simp
 have S0:=ajc w
 have z0:(w.alloc (.cells #[.int .i64 0,.int .u64 0,.int .u64 0,.int .u64 0,.int .u64 0,.int .u64 0,.int .i64 0,.bool false,.slice none 0 0,.slice none 0 0,.slice none 0 0] T.c)).heap.size=w.heap.size+1:=jg _ _
 generalize w.alloc (.cells #[.int .i64 0,.int .u64 0,.int .u64 0,.int .u64 0,.int .u64 0,.int .u64 0,.int .i64 0,.bool false,.slice none 0 0,.slice none 0 0,.slice none 0 0] T.c)=w1 at *
 have S1:=agn S0 #[.int .u64 0,.bool false,.slice none 0 0] T.z
 rw[z0] at S1
 generalize w.heap.size=pb at *
 generalize pb+1=ob at *
 refine kg (vs:=[Value.int .u64 tr,.bool d,.slice a l.length c]) S1.blk rfl (by simp[lc]) fun w2 b2 f2=>?_
 have S2:=S1.oz f2 b2
 have thC: ∀{W:World}{R:List Asn},St w W (jd ob [Value.int .u64 tr,.bool d,.slice a l.length c].toArray T.z :: R)->iq W ob 0=some (.int .u64 tr)/\iq W ob 1=some (.bool d)/\iq W ob 2=some (.slice a l.length c):=fun{W R} S'=>by
  have hh:=S'.blk
  exact⟨by rw[iw hh];rfl,by rw[iw hh];rfl,by rw[iw hh];rfl⟩
 have hpl:pb < w2.heap.size:=(Array.getElem?_eq_some_iff.1 S2.swap.blk).1
 have fd:Fz w2 (dr w2 1):=(Fr.refl _ w2).dr 1
 have Sd:=S2.ju fd
 obtain⟨c0,c1,c2⟩:=thC S2
 obtain⟨e0,e1,e2⟩:=thC Sd
 simp[c0,c2,e0,e2]
 rw[<-hv]
 rw[M.y.fcall]
 refine aal ((hs.fr Sd.fr fun _ _ _ h=>h)) hlen fun w3 v3 s3 n3 f3=>?_
 obtain⟨a3,c3,hv3,_⟩:=id s3
 have S3:=Sd.ju f3
 obtain⟨g0,g1,g2⟩:=thC S3
 have hnn: ∀b,v3.ownBlock=some b->b≠pb:=fun b hb=>by
  have:=n3 b hb
  have:=fd.size
  omega
 rw[hv3] at s3 hnn⊢
 simp[g0,g2]
 refine kg (vs:=pkC ⟨1,tr,jf,jf,0,false,.slice a3 l.length c3,kq,kq⟩) S3.swap.blk rfl xr fun w4 b4 f4=>?_
 have S4:=S3.swap.oz f4 b4
 have s4:SlS w4 (.slice a3 l.length c3) l:=s3.fr f4 fun b hb _=>hnn b hb
 obtain⟨i0,i1,i2⟩:=thC S4.swap
 cases d with
 | false=>
  simp[i0,i2,i1]
  rw[aas S4]
  have e:pkA ⟨1,tr,jf,jf,0,false,.slice a3 l.length c3,kq,kq⟩= .agg #[.int .i64 1,.int .u64 tr,.int .u64 0,.int .u64 0,.int .u64 0,.int .u64 0,.int .i64 0,.bool false,.slice a3 l.length c3,.slice none 0 0,.slice none 0 0]:=rfl
  rw[e]
  simp
  refine kg (vs:=pkC ⟨1,tr,jf,jf,0,false,.slice a3 l.length c3,kq,kq⟩) S4.blk rfl xr fun w5 b5 f5=>?_
  have S5:=S4.oz f5 b5
  rw[aeq S5]
  exact⟨rfl,h w5 _ (s4.fr f5 fun b hb _=>hnn b hb) S5.fr⟩
 | true=>
  have e0:=acg S4.blk 0 _ rfl
  have ez:=mi S4.blk
  simp[i0,i2,i1,e0,ez]
  have f6:Fr (fun x=>x=pb) w4 (w4.setCell ⟨pb,0,none⟩ (.int .i64 2)):=(Fr.refl (fun x=>x=pb) w4).setCell (.inl rfl) _ _
  have S6:St w (w4.setCell ⟨pb,0,none⟩ (.int .i64 2)) (jd pb (pkC ⟨2,tr,jf,jf,0,false,.slice a3 l.length c3,kq,kq⟩).toArray T.c :: _):=S4.oz f6 ((nl S4.blk).trans rfl)
  have s6:SlS (w4.setCell ⟨pb,0,none⟩ (.int .i64 2)) (.slice a3 l.length c3) l:=s4.fr f6 fun b hb _=>hnn b hb
  rw[aas S6]
  have e:pkA ⟨2,tr,jf,jf,0,false,.slice a3 l.length c3,kq,kq⟩= .agg #[.int .i64 2,.int .u64 tr,.int .u64 0,.int .u64 0,.int .u64 0,.int .u64 0,.int .i64 0,.bool false,.slice a3 l.length c3,.slice none 0 0,.slice none 0 0]:=rfl
  rw[e]
  simp
  refine kg (vs:=pkC ⟨2,tr,jf,jf,0,false,.slice a3 l.length c3,kq,kq⟩) S6.blk rfl xr fun w5 b5 f5=>?_
  have S5:=S6.oz f5 b5
  rw[aeq S5]
  exact⟨rfl,h w5 _ (s6.fr f5 fun b hb _=>hnn b hb) S5.fr⟩
theorem anu{w:World}{tr:Int}{b:Bal}{v:Value}{l:List Spn}(hs:SlS w v l)(hlen:l.length<=1000000){K:KV}(h: ∀w' v',SlS w' v' l->Fz w w'->K (pkA ⟨9,tr,b,jf,0,false,v',kq,kq⟩) w'):ik P F.bh [.iface T.w (.agg #[.int .u64 tr,.int .u64 b.n,.int .u64 b.jr,v])] w K:=by
 rw[M.af.fcall]
 apply M.af.calls
 unfold M.af
 obtain⟨a,c,hv,_⟩:=id hs
 rw[hv]
 simp[afm,adk,aic,afe,agu]
 have S0:=ajc w
 have z0:(w.alloc (.cells #[.int .i64 0,.int .u64 0,.int .u64 0,.int .u64 0,.int .u64 0,.int .u64 0,.int .i64 0,.bool false,.slice none 0 0,.slice none 0 0,.slice none 0 0] T.c)).heap.size=w.heap.size+1:=jg _ _
 generalize w.alloc (.cells #[.int .i64 0,.int .u64 0,.int .u64 0,.int .u64 0,.int .u64 0,.int .u64 0,.int .i64 0,.bool false,.slice none 0 0,.slice none 0 0,.slice none 0 0] T.c)=w1 at *
 have S1:=agn S0 #[.int .u64 0,.int .u64 0,.int .u64 0,.slice none 0 0] T.w
 rw[z0] at S1
 generalize w.heap.size=pb at *
 generalize pb+1=ob at *
 refine kg (vs:=[Value.int .u64 tr,.int .u64 b.n,.int .u64 b.jr,.slice a l.length c]) S1.blk rfl (by simp[lc]) fun w2 b2 f2=>?_
 have S2:=S1.oz f2 b2
 have thC: ∀{W:World}{R:List Asn},St w W (jd ob [Value.int .u64 tr,.int .u64 b.n,.int .u64 b.jr,.slice a l.length c].toArray T.w :: R)->iq W ob 0=some (.int .u64 tr)/\(∀K,ldN P 2 ob 1 W K=K (.agg #[.int .u64 b.n,.int .u64 b.jr]) W)/\iq W ob 3=some (.slice a l.length c):=fun{W R} S'=>by
  have hh:=S'.blk
  exact⟨by rw[iw hh];rfl,fun K=>abf (by rw[iw hh];rfl) (by rw[iw hh];rfl) K,by rw[iw hh];rfl⟩
 have hpl:pb < w2.heap.size:=(Array.getElem?_eq_some_iff.1 S2.swap.blk).1
 have fd:Fz w2 (dr w2 1):=(Fr.refl _ w2).dr 1
 have Sd:=S2.ju fd
 obtain⟨c0,c1,c2⟩:=thC S2
 obtain⟨e0,e1,e2⟩:=thC Sd
 simp[c0,c1,c2,e0,e1,e2]
 rw[<-hv]
 rw[M.y.fcall]
 refine aal ((hs.fr Sd.fr fun _ _ _ h=>h)) hlen fun w3 v3 s3 n3 f3=>?_
 obtain⟨a3,c3,hv3,_⟩:=id s3
 have S3:=Sd.ju f3
 obtain⟨g0,g1,g2⟩:=thC S3
 have hnn: ∀b,v3.ownBlock=some b->b≠pb:=fun b hb=>by
  have:=n3 b hb
  have:=fd.size
  omega
 rw[hv3] at s3 hnn⊢
 simp[g0,g1,g2]
 refine kg (vs:=pkC ⟨9,tr,b,jf,0,false,.slice a3 l.length c3,kq,kq⟩) S3.swap.blk rfl xr fun w4 b4 f4=>?_
 have S4:=S3.swap.oz f4 b4
 have s4:SlS w4 (.slice a3 l.length c3) l:=s3.fr f4 fun b hb _=>hnn b hb
 rw[aas S4]
 have e:pkA ⟨9,tr,b,jf,0,false,.slice a3 l.length c3,kq,kq⟩= .agg #[.int .i64 9,.int .u64 tr,.int .u64 b.n,.int .u64 b.jr,.int .u64 0,.int .u64 0,.int .i64 0,.bool false,.slice a3 l.length c3,.slice none 0 0,.slice none 0 0]:=rfl
 rw[e]
 simp
 refine kg (vs:=pkC ⟨9,tr,b,jf,0,false,.slice a3 l.length c3,kq,kq⟩) S4.blk rfl xr fun w5 b5 f5=>?_
 have S5:=S4.oz f5 b5
 rw[aeq S5]
 exact⟨rfl,h w5 _ (s4.fr f5 fun b hb _=>hnn b hb) S5.fr⟩
theorem aph{w:World}{tr:Int}{v:Value}{l:List Int}(hs:SlU w v l)(hlen:l.length<=1000000){K:KV}(h: ∀w' v',SlU w' v' l->Fz w w'->K (pkA ⟨10,tr,jf,jf,0,false,kq,kq,v'⟩) w'):ik P F.bh [.iface T.ab (.agg #[.int .u64 tr,v])] w K:=by
 rw[M.af.fcall]
 apply M.af.calls
 unfold M.af
 obtain⟨a,c,hv,_⟩:=id hs
 rw[hv]
 simp[ags,aes,air,agf,aih,aex]
 have S0:=ajc w
 have z0:(w.alloc (.cells #[.int .i64 0,.int .u64 0,.int .u64 0,.int .u64 0,.int .u64 0,.int .u64 0,.int .i64 0,.bool false,.slice none 0 0,.slice none 0 0,.slice none 0 0] T.c)).heap.size=w.heap.size+1:=jg _ _
 generalize w.alloc (.cells #[.int .i64 0,.int .u64 0,.int .u64 0,.int .u64 0,.int .u64 0,.int .u64 0,.int .i64 0,.bool false,.slice none 0 0,.slice none 0 0,.slice none 0 0] T.c)=w1 at *
 have S1:=agn S0 #[.int .u64 0,.slice none 0 0] T.ab
 rw[z0] at S1
 generalize w.heap.size=pb at *
 generalize pb+1=ob at *
 refine kg (vs:=[Value.int .u64 tr,.slice a l.length c]) S1.blk rfl (by simp[lc]) fun w2 b2 f2=>?_
 have S2:=S1.oz f2 b2
 have thC: ∀{W:World}{R:List Asn},St w W (jd ob [Value.int .u64 tr,.slice a l.length c].toArray T.ab :: R)->iq W ob 0=some (.int .u64 tr)/\iq W ob 1=some (.slice a l.length c):=fun{W R} S'=>by
  have hh:=S'.blk
  exact⟨by rw[iw hh];rfl,by rw[iw hh];rfl⟩
 have hpl:pb < w2.heap.size:=(Array.getElem?_eq_some_iff.1 S2.swap.blk).1
 have fd:Fz w2 (dr w2 1):=(Fr.refl _ w2).dr 1
 have Sd:=S2.ju fd
 obtain⟨c0,c1⟩:=thC S2
 obtain⟨e0,e1⟩:=thC Sd
 simp[c0,c1,e0,e1]
 rw[<-hv]
 refine acq ((hs.fr Sd.fr fun _ _ _ h=>h)) hlen fun w3 v3 s3 n3 f3=>?_
 obtain⟨a3,c3,hv3,_⟩:=id s3
 have S3:=Sd.ju f3
 obtain⟨g0,g1⟩:=thC S3
 have hnn: ∀b,v3.ownBlock=some b->b≠pb:=fun b hb=>by
  have:=n3 b hb
  have:=fd.size
  omega
 rw[hv3] at s3 hnn⊢
 simp[g0,g1]
 refine kg (vs:=pkC ⟨10,tr,jf,jf,0,false,kq,kq,.slice a3 l.length c3⟩) S3.swap.blk rfl xr fun w4 b4 f4=>?_
 have S4:=S3.swap.oz f4 b4
 have s4:SlU w4 (.slice a3 l.length c3) l:=s3.fr f4 fun b hb _=>hnn b hb
 rw[aas S4]
 have e:pkA ⟨10,tr,jf,jf,0,false,kq,kq,.slice a3 l.length c3⟩= .agg #[.int .i64 10,.int .u64 tr,.int .u64 0,.int .u64 0,.int .u64 0,.int .u64 0,.int .i64 0,.bool false,.slice none 0 0,.slice none 0 0,.slice a3 l.length c3]:=rfl
 rw[e]
 simp
 refine kg (vs:=pkC ⟨10,tr,jf,jf,0,false,kq,kq,.slice a3 l.length c3⟩) S4.blk rfl xr fun w5 b5 f5=>?_
 have S5:=S4.oz f5 b5
 rw[aeq S5]
 exact⟨rfl,h w5 _ (s4.fr f5 fun b hb _=>hnn b hb) S5.fr⟩
def ux(p:Pk)(ls:List Spn)(lm:List Mem)(lu:List Int):Bool:=
 if p.jh=1\/p.jh=2 then aja p.tr ls else if p.jh=3 then qu lm else if p.jh=4\/p.jh=6 then asx p.tr p.b p.v else if p.jh=5\/p.jh=7 then ais p.tr p.b p.ok p.ka p.v (decide (p.jh=7)) else if p.jh=8 then asb p.tr p.v else if p.jh=9 then ala p.tr p.b ls else if p.jh=10 then aog p.tr lu else false
theorem ThR.fr{w w':World}{p:Pk}{ls:List Spn}{lm:List Mem}{lu:List Int}{t:Value}(h:ThR w p ls lm lu t)(hf:Fz w w'):ThR w' p ls lm lu t:=by
 cases h with
 | kt v hk hs=>exact .kt v hk (hs.fr hf fun _ _ _ h=>h)
 | amf v hk hs=>exact .amf v hk (hs.fr hf fun _ _ _ h=>h)
 | ask hk=>exact .ask hk
 | acj hk=>exact .acj hk
 | ud hk=>exact .ud hk
 | zp v hk hs=>exact .zp v hk (hs.fr hf fun _ _ _ h=>h)
 | aci v hk hs=>exact .aci v hk (hs.fr hf fun _ _ _ h=>h)
 | none hk=>exact .none hk
theorem blb(n:Nat)(w:World)(K:KV):iy P .eql T.bh (.tmp n) (.const .nilIface) .nilIface .nilIface w K=K (.bool true) w:=kr
theorem ThR.eqn{w:World}{p:Pk}{ls:List Spn}{lm:List Mem}{lu:List Int}{t:Value}(h:ThR w p ls lm lu t)(hk:1<=p.jh/\p.jh<=10)(rx ry:Operand)(w1:World)(K:KV):iy P .eql T.bh rx ry t .nilIface w1 K=K (.bool false) w1:=by
 cases h with
 | kt v hk hs=>exact bfg _ _ _ _ _
 | amf v hk hs=>exact ave _ _ _ _ _
 | ask hk=>exact bks _ _ _ _ _
 | acj hk=>exact bcc _ _ _ _ _
 | ud hk=>exact bio _ _ _ _ _
 | zp v hk hs=>exact bar _ _ _ _ _
 | aci v hk hs=>exact bcm _ _ _ _ _
 | none hn=>exact absurd hk hn
theorem ThR.bqn{w:World}{p:Pk}{ls:List Spn}{lm:List Mem}{lu:List Int}{t:Value}(h:ThR w p ls lm lu t)(hk: ¬(1<=p.jh/\p.jh<=10)):t= .nilIface:=by
 cases h with
 | none hn=>rfl
 | _=>omega
theorem blf{w:World}{p:Pk}{ls:List Spn}{lm:List Mem}{lu:List Int}{t:Value}(ht:ThR w p ls lm lu t)(hk:1<=p.jh/\p.jh<=10)(l1:ls.length<=1000000)(l2:lm.length<=1000000)(l3:lu.length<=1000000){K:KV}
  (h: ∀w',Fz w w'->K (.bool (ux p ls lm lu)) w'):ik P F.bm [t] w K:=by
 unfold ux at h
 cases ht with
 | kt v q hs=>simp only[if_pos q] at h;exact arq hs l1 h
 | amf v q hs=>simp only[q,show¬((3:Int)=1\/(3:Int)=2) by omega,if_false,if_true] at h;exact aqg hs l2 h
 | ask q=>rw[if_neg (by omega),if_neg (by omega),if_pos q] at h;exact avg h
 | acj q=>rw[if_neg (by omega),if_neg (by omega),if_neg (by omega),if_pos q] at h;exact aru h
 | ud q=>rw[if_neg (by omega),if_neg (by omega),if_neg (by omega),if_neg (by omega),if_pos q] at h;exact aty h
 | zp v q hs=>rw[if_neg (by omega),if_neg (by omega),if_neg (by omega),if_neg (by omega),if_neg (by omega),if_pos q] at h;exact apa hs l1 h
 | aci v q hs=>rw[if_neg (by omega),if_neg (by omega),if_neg (by omega),if_neg (by omega),if_neg (by omega),if_neg (by omega),if_pos q] at h;exact arw hs l3 h
 | none q=>exact absurd hk q
structure ahl(p:Pk):Prop where
 tr:aao p.tr
 b:p.b.rng
 ka:p.ka.rng
structure ahx(s:Spn):Prop where
 tr:aao s.jj
 id:aao s.id
 par:aao s.nn
 st:aao s.km
 ln:aao s.len
def bft(p:Nat):Value:= .pointer (some ⟨p,0,none⟩)
theorem atn{w0 w:World}{R:List Asn}(S:St w0 w R)(cs:Array Value)(e:TypeId):St w0 (w.alloc (.cells cs e)) (jd w.heap.size cs e :: R):=S.add ((Fr.refl _ w).alloc _) (B:=fun x=>x=w.heap.size) ⟨by rw[ja,if_pos rfl],rfl⟩ fun x hx=>by subst hx;rw[jg];omega
def aam(a b:Int):Int:=if a < b then -1 else if b < a then 1 else 0
theorem ali{w:World}(a b:Int){K:KV}(h:K (.int .i64 (aam a b)) w):ik P F.av [.int .u64 a,.int .u64 b] w K:=by
 have nan: ∀(z:Int){K:KV},K (.bool false) w->ik P F.ah [.int .u64 z] w K:=fun z K hK=>by
  rw[M.dg.fcall]
  apply M.dg.calls
  unfold M.dg
  simpa using hK
 rw[M.bh.fcall]
 apply M.bh.calls
 unfold M.bh
 refine nan a ?_
 refine nan b ?_
 simp
 unfold M.bh.j2
 unfold aam at h
 by_cases h1:a < b
 ·simp[h1] at h⊢;exact h
 ·by_cases h2:b < a
  ·simp[h1,h2] at h⊢;exact h
  ·simp[h1,h2] at h⊢;exact h
theorem bno{w:World}{v:Value}{l:List Int}(hs:Sl w 1 zk v l)(hlen:l.length<=1000){K:KV}(h:K (.int .i64 (orK l)) w):jy P F.ev [v] w K:=by
 apply M.du.calls
 unfold M.du
 simp only[ir]
 rw[hs.jv (by simp)]
 refine⟨OrI w l,fun x _=>l.length - ms x 2,⟨_,_,0,rfl,rfl,Nat.zero_le _,fun j k _ h=>by omega⟩,?_⟩
 rintro x w1 ⟨a,b,i,rfl,rfl,hi,hz⟩
 have gv2:gv [a,b,.int .i64 (i:Int)] 2= .int .i64 (i:Int):=rfl
 simp only[gv2]
 by_cases hil:i < l.length
 ·obtain⟨bb,o,cap,rfl,hb,_,hr⟩:=hs.at hil
  have e0:=hr 0 _ rfl
  simp only[Nat.mul_one,Nat.add_zero] at e0
  have hw:IntKind.i64.wrap ((i:Int)+1)=((i+1:Nat):Int):=by rw[jc];rfl
  simp[hil]
  unfold M.du.j2
  simp only[ir,gv2]
  by_cases hk:l[i]=0
  ·simp[hil,e0,hk,hw]
   refine⟨⟨_,_,i+1,rfl,rfl,by omega,fun j k hj hlt=>?_⟩,by simp[ms,gv];omega⟩
   by_cases hji:j=i
   ·subst hji
    rw[List.getElem?_eq_getElem hil] at hj
    cases hj;exact hk
   ·exact hz j k hj (by omega)
  ·simp[hil,e0,hk]
   have:orK l=l[i]:=by
    unfold orK
    have:l.find? (fun k=>!decide (k=0))=some l[i]:=by
     rw[List.find?_eq_some_iff_getElem]
     refine⟨by simpa using hk,i,hil,rfl,fun j hj=>?_⟩
     have:=hz j _ (List.getElem?_eq_getElem (by omega)) hj
     simp[this]
    rw[this];rfl
   rw[this] at h;exact h
 ·simp[hil]
  have:orK l=0:=by
   unfold orK
   have:l.find? (fun k=>!decide (k=0))=none:=by
    rw[List.find?_eq_none]
    intro k hk
    obtain⟨j,hj,rfl⟩:=List.mem_iff_getElem.1 hk
    have:=hz j _ (List.getElem?_eq_getElem hj) (by omega)
    simp[this]
   rw[this];rfl
  rw[this] at h;exact h
theorem or2(a b:Int):orK [a,b]=if a=0 then b else a:=by
 unfold orK
 by_cases ha:a=0 <;>by_cases hb:b=0 <;>simp[ha,hb]
theorem bgg{a b:Bal}:decide ((orK [aam a.n b.n,aam a.jr b.jr]) < 0)=a.avb b:=by
 rw[or2]
 unfold aam Bal.avb
 apply decide_eq_decide.2
 repeat' split
 all_goals omega
theorem aqw{w:World}{b:Nat}{x:Bal}{f:Nat×Nat}(h:w.heap[b]? =some (.cells #[.int .u64 x.n,.int .u64 x.jr] T.e f)):iq w b 0=some (.int .u64 x.n)/\iq w b 1=some (.int .u64 x.jr)/\∀K,ldN P 2 b 0 w K=K (la x) w:=
 ⟨by rw[iw h];rfl,by rw[iw h];rfl,fun K=>abf (by rw[iw h];rfl) (by rw[iw h];rfl) K⟩
theorem bqw(x y:Bal){w:World}{Q:Value->Value->World->Prop}(h: ∀w1 b1 b2,St w w1 (jd b2 #[.int .u64 y.n,.int .u64 y.jr] T.e :: jd b1 #[.int .u64 x.n,.int .u64 x.jr] T.e :: [])->Q (bft b1) (bft b2) w1):
  lk P T.e (la x) w fun v1 w1=>lk P T.e (la y) w1 fun v2 w2=>Q v1 v2 w2:=by
 rw[vd,vd]
 exact h _ _ _ (atn (atn (St.km w) #[.int .u64 x.n,.int .u64 x.jr] T.e) #[.int .u64 y.n,.int .u64 y.jr] T.e)
theorem bbv{w:World}(x y:Bal){K:KV}(h: ∀w',Fz w w'->K (.int .i64 (orK [aam x.n y.n,aam x.jr y.jr])) w'):ik P F.gk [la x,la y] w K:=by
 rw[M.fm.fcall]
 apply M.fm.calls
 unfold M.fm
 refine bqw x y fun w1 b1 b2 S1=>?_
 have S2:=S1.ju ((Fr.refl _ w1).dr 1)
 obtain⟨y0,y1,_⟩:=aqw S2.blk
 obtain⟨x0,x1,_⟩:=aqw S2.swap.blk
 simp only[bft]
 rw[qr]
 simp only[afn] at x0 x1 y0 y1
 simp[x0,x1,y0,y1]
 refine ali _ _ ?_
 simp[x1,y1]
 refine ali _ _ ?_
 simp
 have S3:St w ((dr w1 1).alloc (.cells #[.int .i64 (aam x.n y.n),.int .i64 (aam x.jr y.jr)] T.d)) _:=atn S2 #[.int .i64 (aam x.n y.n),.int .i64 (aam x.jr y.jr)] T.d
 have hsl:Sl ((dr w1 1).alloc (.cells #[.int .i64 (aam x.n y.n),.int .i64 (aam x.jr y.jr)] T.d)) 1 zk (.slice (some ⟨w1.heap.size,0,none⟩) 2 2) [aam x.n y.n,aam x.jr y.jr]:=by
  have hh:=S3.blk
  rw[show (dr w1 1).heap.size=w1.heap.size from rfl] at hh
  refine⟨some ⟨w1.heap.size,0,none⟩,2,rfl,by simp,by simp[maxLen],fun i z hz=>⟨w1.heap.size,0,rfl,mh hh,fun j u hj=>?_⟩⟩
  rw[iw hh]
  match i,j with
  | 0,0=>simp[zk] at hz hj⊢;rw[hz];exact hj
  | 1,0=>simp[zk] at hz hj⊢;rw[hz];exact hj
  | i+2,_=>simp at hz
  | _,j+1=>simp[zk] at hj
 rw[M.du.fcall]
 exact bno hsl (by simp) (h _ S3.fr)
section
variable {w0 w : World} {b : Nat} {t : TypeId} {R : List Asn}
theorem aad{x:Bal}(S:St w0 w (jd b #[.int .u64 x.n,.int .u64 x.jr] t :: R)):iq w b 0=some (.int .u64 x.n)/\iq w b 1=some (.int .u64 x.jr)/\∀K,ldN P 2 b 0 w K=K (la x) w:=
 ⟨by rw[S.cell];rfl,by rw[S.cell];rfl,fun K=>S.ldA [.int .u64 x.n,.int .u64 x.jr] rfl rfl K⟩
end
def pk0(k tr:Int)(x s:Bal)(v:Int)(ok:Bool):Pk:=⟨k,tr,x,s,v,ok,.slice none 0 0,.slice none 0 0,.slice none 0 0⟩
theorem awy(k tr:Int)(x s:Bal)(v:Int)(ok:Bool): ∀u∈pkC (pk0 k tr x s v ok),lc u=true:=fun u hu=>by
 simp only[pkC,pk0,List.mem_cons,List.not_mem_nil,or_false] at hu
 rcases hu with rfl|rfl|rfl|rfl|rfl|rfl|rfl|rfl|rfl|rfl|rfl <;>rfl
theorem bdf(w:World)(k tr:Int)(x s:Bal)(v:Int)(ok:Bool):zd w (pk0 k tr x s v ok) [] [] []:=⟨Sl.nil,Sl.nil,Sl.nil,by simp,by simp,by simp⟩
def pkZ:Pk:=pk0 0 0 jf jf 0 false
section
variable {w0 w : World} {b : Nat} {R : List Asn}
theorem ayh{cs:Array Value}{q:Pk}(S:St w0 w (jd b cs T.c :: R))(hs:cs.size=11)(h1: ∀u∈pkC q,lc u=true){K:KV}(h: ∀w',St w0 w' (jd b (pkC q).toArray T.c :: R)->K undef w'):stN P b 0 (pkC q) w K:=
 S.put h1 (by simp[pkC,hs]) (by
  have hl:cs.toList.length=11:=by simpa using hs
  have h2:(pkC q).length=11:=rfl
  rw[h2,List.take_zero,List.nil_append,List.drop_eq_nil_of_le (by omega),List.append_nil]) h
theorem axv(S:St w0 w R):St w0 (w.alloc (.cells #[.int .i64 0,.int .u64 0,.int .u64 0,.int .u64 0,.int .u64 0,.int .u64 0,.int .i64 0,.bool false,.slice none 0 0,.slice none 0 0,.slice none 0 0] T.c)) (jd w.heap.size (pkC pkZ).toArray T.c :: R):=S.mkB (pkC pkZ).toArray T.c
theorem vw{q:Pk}(S:St w0 w (jd b (pkC q).toArray T.c :: R))(K:KV):ldN P 11 b 0 w K=K (pkA q) w:=S.ldA (pkC q) rfl rfl K
theorem bqd{q:Pk}(S:St w0 w (jd b (pkC q).toArray T.c :: R))(K:KV):oy P T.c (.pointer (some ⟨b,0,none⟩)) w K=K (pkA q) w:=by rw[alb];exact vw S K
theorem bpr{cs:Array Value}{q:Pk}(S:St w0 w (jd b cs T.c :: R))(hs:cs.size=11)(h1: ∀u∈pkC q,lc u=true){K:KV}(h: ∀w',St w0 w' (jd b (pkC q).toArray T.c :: R)->K (pkA q) w'):
  stN P b 0 (pkC q) w fun _ w=>oy P T.c (.pointer (some ⟨b,0,none⟩)) w fun r0 w'=>w'=w/\K r0 w:=
 ayh S hs h1 fun w' S'=>by rw[bqd S'];exact⟨rfl,h w' S'⟩
end
def xt(l1 l2:List Spn):Bool:=decide (l1.length=l2.length) && (List.zipWith sq l1 l2).all id
theorem bfa{l1 l2:List Spn}{i:Nat}(h1:i < l1.length)(h2:i < l2.length)(h:sq l1[i] l2[i]=false):xt l1 l2=false:=by
 unfold xt
 have:(List.zipWith sq l1 l2).all id=false:=by
  rw[List.all_eq_false]
  refine⟨sq l1[i] l2[i],?_,by simp[h]⟩
  rw[List.mem_iff_getElem]
  exact⟨i,by simp;omega,by simp⟩
 rw[this,Bool.and_false]
theorem amt{l1 l2:List Spn}(hl:l1.length=l2.length)(h: ∀j (h1:j < l1.length) (h2:j < l2.length),sq l1[j] l2[j]=true):xt l1 l2=true:=by
 unfold xt
 rw[decide_eq_true hl,Bool.true_and,List.all_eq_true]
 intro x hx
 obtain⟨j,hj,rfl⟩:=List.getElem_of_mem hx
 simp only[List.length_zipWith] at hj
 rw[List.getElem_zipWith]
 exact h j (by omega) (by omega)
theorem aln(l:List Spn):xt l l=true:=amt rfl fun j _ _=>ans _
def mj(p q:Pk):Bool:=decide (p.jh=q.jh) && (decide (p.tr=q.tr) && (decide (p.b=q.b) && (decide (p.ka=q.ka) && (decide (p.v=q.v) && (p.ok == q.ok)))))
def aab(p q:Pk)(ls ls':List Spn)(lm lm':List Mem)(lu lu':List Int):Bool:=decide (lm=lm') && (decide (lu=lu') && (xt ls ls' && mj p q))
theorem bnw{α:Type}{l1 l2:List α}(hl:l1.length=l2.length)(h: ∀j (h1:j < l1.length) (h2:j < l2.length),l1[j]=l2[j]):l1=l2:=List.ext_getElem hl h
def td(p:Pk):Pk:=⟨p.jh,if p.jh=3 then 0 else p.tr,if p.jh=4\/p.jh=5\/p.jh=6\/p.jh=7\/p.jh=9 then p.b else jf,if p.jh=5\/p.jh=7 then p.ka else jf,if p.jh=5\/p.jh=6\/p.jh=8 then p.v else 0,if p.jh=5\/p.jh=7 then p.ok else false,
 if p.jh=1\/p.jh=2\/p.jh=9 then p.sv else .slice none 0 0,if p.jh=3 then p.mv else .slice none 0 0,if p.jh=10 then p.iv else .slice none 0 0⟩
def qw(p:Pk)(l:List Spn):List Spn:=if p.jh=1\/p.jh=2\/p.jh=9 then l else []
def re(p:Pk)(l:List Mem):List Mem:=if p.jh=3 then l else []
def qx(p:Pk)(l:List Int):List Int:=if p.jh=10 then l else []
theorem bpp(b:Nat)(q:Pk)(w:World)(K:KV):stT P T.c (.pointer (some ⟨b,0,none⟩)) (pkA q) w K=stN P b 0 (pkC q) w K:=by simp[pkA,pkC]
def brb(W:World)(l1 l2:List Spn):KL:=fun x w1=> ∃(u0 u1:Value)(i:Nat),x=[u0,u1,.int .i64 (i:Nat)]/\i<=l1.length/\(∀j (h1:j < l1.length) (h2:j < l2.length),j < i->sq l1[j] l2[j]=true)/\Fz W w1
def bsd(W:World)(l1 l2:List Int):KL:=fun x w1=> ∃(u0 u1:Value)(i:Nat),x=[u0,u1,.int .i64 (i:Nat)]/\i<=l1.length/\(∀j (h1:j < l1.length) (h2:j < l2.length),j < i->l1[j]=l2[j])/\Fz W w1
theorem bde{w:World}{v1 v2:Value}{l1 l2:List Spn}(s1:SlS w v1 l1)(s2:SlS w v2 l2)(hlen:l1.length<=1000000){K:KV}(h: ∀w',Fz w w'->K (.bool (xt l1 l2)) w'):ik P F.bd [v1,v2] w K:=by
 rw[M.k.fcall]
 apply M.k.calls
 unfold M.k
 simp only[ir]
 rw[s1.jv (by kernel_rfl),s2.jv (by kernel_rfl)]
 by_cases hne:l1.length=l2.length
 ·simp[hne]
  unfold M.k.j0
  simp only[ir]
  rw[s1.jv (by kernel_rfl)]
  refine⟨brb w l1 l2,fun x _=>l1.length - ms x 2,⟨_,_,0,rfl,Nat.zero_le _,fun j _ _ h=>by omega,Fr.refl _ _⟩,?_⟩
  rintro x w1 ⟨u0,u1,i,rfl,hi,hpre,f1⟩
  by_cases hil:i < l1.length
  ·have hili:(i:Int) < (l1.length:Int):=by omega
   obtain⟨b1,o1,cap1,hv1,_,_,e1⟩:=(s1.fr f1 fun _ _ _ h=>h:SlS w1 v1 l1).at hil
   obtain⟨b2,o2,cap2,hv2,_,_,e2⟩:=(s2.fr f1 fun _ _ _ h=>h:SlS w1 v2 l2).at (show i < l2.length by omega)
   have hl2i:i < l2.length:=by omega
   have q1: ∀w' K,iaT P T.h v1 (.int .i64 (i:Nat)) w' K=K (.pointer (some ⟨b1,o1+i * 8,none⟩)) w':=fun w' K=>by rw[hv1];simp[hil]
   have q2: ∀w' K,iaT P T.h v2 (.int .i64 (i:Nat)) w' K=K (.pointer (some ⟨b2,o2+i * 8,none⟩)) w':=fun w' K=>by rw[hv2];simp[hl2i]
   have g1: ∀K,ldN P 8 b1 (o1+i * 8) (dr w1 1) K=K (lw l1[i]) (dr w1 1):=fun K=>ldS (fun k v hk=>by rw[afn];exact e1 k v hk) K
   have g2: ∀K,ldN P 8 b2 (o2+i * 8) (dr w1 1) K=K (lw l2[i]) (dr w1 1):=fun K=>ldS (fun k v hk=>by rw[afn];exact e2 k v hk) K
   have hw:IntKind.i64.wrap ((i:Int)+1)=((i+1:Nat):Int):=by rw[jc];omega
   simp[hili]
   unfold M.k.j3
   simp[q1,q2,g1,g2,bmu]
   cases hs:sq l1[i] l2[i] with
   | true=>
    simp
    rw[hw]
    refine⟨⟨_,_,i+1,rfl,hil,fun j a1 a2 hj=>?_,f1.dr 1⟩,by simp[ms,gv];omega⟩
    by_cases hji:j=i
    ·subst hji;exact hs
    ·exact hpre j a1 a2 (by omega)
   | false=>
    simp
    have:=h _ (f1.dr 1)
    rw[bfa hil hl2i hs] at this
    exact this
  ·have hili: ¬(i:Int) < (l1.length:Int):=by omega
   simp[hili]
   have:=h w1 f1
   rw[amt hne fun j a1 a2=>hpre j a1 a2 (by omega)] at this
   exact this
 ·have hni: ¬(l1.length:Int)=(l2.length:Int):=by omega
  simp[hni]
  have:=h w (Fr.refl _ _)
  have hz:xt l1 l2=false:=by unfold xt;simp[hne]
  rw[hz] at this
  exact this
theorem bcb{w:World}{v1 v2:Value}{l1 l2:List Int}(s1:SlU w v1 l1)(s2:SlU w v2 l2)(hlen:l1.length<=1000000){K:KV}(h: ∀w',Fz w w'->K (.bool (decide (l1=l2))) w'):ik P F.bn [v1,v2] w K:=by
 rw[M.s.fcall]
 apply M.s.calls
 unfold M.s
 simp only[ir]
 rw[s1.jv (by kernel_rfl),s2.jv (by kernel_rfl)]
 by_cases hne:l1.length=l2.length
 ·simp[hne]
  unfold M.s.j0
  simp only[ir]
  rw[s1.jv (by kernel_rfl)]
  refine⟨bsd w l1 l2,fun x _=>l1.length - ms x 2,⟨_,_,0,rfl,Nat.zero_le _,fun j _ _ h=>by omega,Fr.refl _ _⟩,?_⟩
  rintro x w1 ⟨u0,u1,i,rfl,hi,hpre,f1⟩
  by_cases hil:i < l1.length
  ·have hili:(i:Int) < (l1.length:Int):=by omega
   have hl2i:i < l2.length:=by omega
   obtain⟨b1,o1,cap1,hv1,_,e1⟩:=bey (s1.fr f1 fun _ _ _ h=>h:SlU w1 v1 l1) hil
   obtain⟨b2,o2,cap2,hv2,_,e2⟩:=bey (s2.fr f1 fun _ _ _ h=>h:SlU w1 v2 l2) hl2i
   have q1: ∀w' K,iaT P T.g v1 (.int .i64 (i:Nat)) w' K=K (.pointer (some ⟨b1,o1+i,none⟩)) w':=fun w' K=>by rw[hv1];simp[hil]
   have q2: ∀w' K,iaT P T.g v2 (.int .i64 (i:Nat)) w' K=K (.pointer (some ⟨b2,o2+i,none⟩)) w':=fun w' K=>by rw[hv2];simp[hl2i]
   have hw:IntKind.i64.wrap ((i:Int)+1)=((i+1:Nat):Int):=by rw[jc];omega
   simp[hili]
   unfold M.s.j3
   simp[q1,q2,e1,e2]
   by_cases hs:l1[i]=l2[i]
   ·simp[hs]
    rw[hw]
    refine⟨⟨_,_,i+1,rfl,hil,fun j a1 a2 hj=>?_,f1.dr 1⟩,by simp[ms,gv];omega⟩
    by_cases hji:j=i
    ·subst hji;exact hs
    ·exact hpre j a1 a2 (by omega)
   ·simp[hs]
    have:=h _ (f1.dr 1)
    rw[decide_eq_false fun he=>hs (by simp[he])] at this
    exact this
  ·have hili: ¬(i:Int) < (l1.length:Int):=by omega
   simp[hili]
   have:=h w1 f1
   rw[decide_eq_true (bnw hne fun j a1 a2=>hpre j a1 a2 (by omega))] at this
   exact this
 ·have hni: ¬(l1.length:Int)=(l2.length:Int):=by omega
  simp[hni]
  have:=h w (Fr.refl _ _)
  rw[decide_eq_false fun he=>hne (congrArg List.length he)] at this
  exact this
theorem bgr{w:World}{p q:Pk}{ls ls':List Spn}{lm lm':List Mem}{lu lu':List Int}(hp:zd w p ls lm lu)(hq:zd w q ls' lm' lu'){K:KV}
  (h: ∀w',Fz w w'->K (.bool (aab p q ls ls' lm lm' lu lu')) w'):ik P F.fc [pkA p,pkA q] w K:=by
 rw[M.dy.fcall]
 apply M.dy.calls
 unfold M.dy
 rw[ano hp,ano (hq.fr ((Fr.refl _ w).alloc _))]
 have S1:St w (w.alloc (.cells (pkC p).toArray T.c)) (jd w.heap.size (pkC p).toArray T.c :: []):=(St.km w).add ((Fr.refl _ w).alloc _) (B:=fun x=>x=w.heap.size) ⟨by rw[ja,if_pos rfl],rfl⟩ fun x hx=>by subst hx;rw[jg];omega
 generalize w.alloc (.cells (pkC p).toArray T.c)=w1 at *
 have S2:St w (w1.alloc (.cells (pkC q).toArray T.c)) (jd w1.heap.size (pkC q).toArray T.c :: _):=S1.add ((Fr.refl _ w1).alloc _) (B:=fun x=>x=w1.heap.size) ⟨by rw[ja,if_pos rfl],rfl⟩ fun x hx=>by subst hx;rw[jg];omega
 generalize w1.alloc (.cells (pkC q).toArray T.c)=w2 at *
 generalize w.heap.size=pb at *
 generalize w1.heap.size=qb at *
 obtain⟨q0,q1,q2,q4,q6,q7,q8,q9,q10,_⟩:=rp S2
 obtain⟨p0,p1,p2,p4,p6,p7,p8,p9,p10,_⟩:=rp S2.swap
 have hbo:akq P T.bs=true:=by kernel_rfl
 have no: ∀bb:Bool,bb=false->(mj p q=false)->K (.bool bb) w2:=fun bb hb hl=>by
  subst hb
  have:=h w2 S2.fr
  unfold aab at this
  rw[hl,Bool.and_false,Bool.and_false,Bool.and_false] at this
  exact this
 by_cases a0:p.jh=q.jh
 case neg=>
  simp[p0,q0,a0]
  exact no false rfl (by simp[mj,a0])
 by_cases a1:p.tr=q.tr
 case neg=>
  simp[p0,q0,a0,p1,q1,a1]
  exact no false rfl (by simp[mj,a1])
 by_cases a2:p.b=q.b
 case neg=>
  simp[p0,q0,a0,p1,q1,a1,p2,q2,acv,a2]
  exact no false rfl (by simp[mj,a2])
 by_cases a3:p.ka=q.ka
 case neg=>
  simp[p0,q0,a0,p1,q1,a1,p2,q2,acv,a2,p4,q4,a3]
  exact no false rfl (by simp[mj,a3])
 by_cases a4:p.v=q.v
 case neg=>
  simp[p0,q0,a0,p1,q1,a1,p2,q2,acv,a2,p4,q4,a3,p6,q6,a4]
  exact no false rfl (by simp[mj,a4])
 by_cases a5:p.ok=q.ok
 case neg=>
  have a5':(p.ok == q.ok)=false:=by simpa using a5
  simp[p0,q0,a0,p1,q1,a1,p2,q2,acv,a2,p4,q4,a3,p6,q6,a4,p7,q7,aia hbo,a5']
  exact no false rfl (by simp[mj,a5])
 obtain⟨⟨sa,sc,es⟩,⟨ma,mc,em⟩,ua,uc,eu⟩:=hp.one
 obtain⟨⟨sa',sc',es'⟩,⟨ma',mc',em'⟩,ua',uc',eu'⟩:=hq.one
 simp[p0,q0,a0,p1,q1,a1,p2,q2,acv,a2,p4,q4,a3,p6,q6,a4,p7,q7,aia hbo,a5,p8,q8]
 have hp2:=hp.fr S2.fr
 have hq2:=hq.fr S2.fr
 have fb:mj p q=true:=by simp[mj,a0,a1,a2,a3,a4,a5]
 have fin:=h
 unfold aab at fin
 rw[fb] at fin
 refine bde hp2.s hq2.s hp.ls fun w3 f3=>?_
 have S3:=S2.ju f3
 obtain⟨_,_,_,_,_,_,_,q9,_,_⟩:=rp S3
 obtain⟨_,_,_,_,_,_,_,p9,_,_⟩:=rp S3.swap
 have hp3:=hp.fr S3.fr
 have hq3:=hq.fr S3.fr
 cases hb1:xt ls ls' with
 | false=>
  simp
  have:=fin w3 S3.fr
  rw[hb1] at this
  simpa using this
 | true=>
 rw[hb1] at fin
 simp[p9,q9]
 refine arn hp3.m hq3.m hp.lm fun w4 f4=>?_
 have S4:=S3.ju f4
 obtain⟨_,_,_,_,_,_,_,_,q10,_⟩:=rp S4
 obtain⟨_,_,_,_,_,_,_,_,p10,_⟩:=rp S4.swap
 have hp4:=hp.fr S4.fr
 have hq4:=hq.fr S4.fr
 by_cases hm:lm=lm'
 case neg=>
  simp[hm]
  have:=fin w4 S4.fr
  simpa [hm] using this
 simp[hm,p10,q10]
 refine bcb hp4.u hq4.u hp.lu fun w5 f5=>?_
 have:=fin w5 (S4.ju f5).fr
 simpa [hm] using this
def byt(s:ByteArray)(k:Nat):Nat:=(s.get! k).toNat
theorem asn(s:ByteArray){i:Nat}(h:i < s.size){k:IntKind}(w:World)(K:KV):ixT P T.n (.string s) (.int k (i:Int)) w K=K (.int .u8 (byt s i)) w:=by
 have hu:P.underlying T.n=some .string:=xw aoq
 have hg:s[i]? =some (s.get! i):=by
  rw[getElem?_pos s i h]
  have e:s.get! i=s[i]'h:=by
   simp[ByteArray.get!,getElem!_pos,h]
   rfl
  rw[e]
 simp[ixT,jt,Instr.index,asIntOf,Sem.run_bind,ji hu,Result.andThen,Sem.run_pure,hg,byt]
theorem bnp{s d:TypeId}{ks k2:IntKind}(hs:P.underlying s=some (.int ks))(hd:P.underlying d=some (.int k2))(k:IntKind)(x:Int)(w:World)(K:KV):cvT P s d (.int k x) w K=K (.int k2 (k2.wrap x)) w:=by
 simp[cvT,jt,convert,Sem.run_bind,ji hs,ji hd,Result.andThen,Conv.intToInt,Sem.run_pure]
def kw(t:ByteArray)(r:Nat):Nat->Nat
 | 0=>r
 | k+1=>kw t r k * 64+byt t (k+1) - 128
def vu(t:ByteArray)(k:Nat):Bool:=decide (128<=byt t k) && decide (byt t k<=191)
def om(b0:Nat):Nat×Nat×Nat:=if 194<=b0/\b0<=223 then (2,128,b0 - 192) else if 224<=b0/\b0<=239 then (3,2048,b0 - 224) else if 240<=b0/\b0<=244 then (4,65536,b0 - 240) else (0,0,0)
def vg(t:ByteArray):Nat->Bool
 | 0=>true
 | k+1=>vg t k && vu t (k+1)
def rr(t:ByteArray):Nat×Nat:=
 if t.size=0 then (0,0) else if byt t 0 < 128 then (byt t 0,1) else
 if (om (byt t 0)).1=0\/t.size < (om (byt t 0)).1 then (0,0) else
 if vg t ((om (byt t 0)).1 - 1)=false then (0,0) else
 if kw t (om (byt t 0)).2.2 ((om (byt t 0)).1 - 1) < (om (byt t 0)).2.1\/1114111 < kw t (om (byt t 0)).2.2 ((om (byt t 0)).1 - 1)\/(55296<=kw t (om (byt t 0)).2.2 ((om (byt t 0)).1 - 1)/\kw t (om (byt t 0)).2.2 ((om (byt t 0)).1 - 1)<=57343) then (0,0) else (kw t (om (byt t 0)).2.2 ((om (byt t 0)).1 - 1),(om (byt t 0)).1)
theorem aim(t:ByteArray)(k:Nat):byt t k < 256:=UInt8.toNat_lt _
theorem aub(t:ByteArray){r:Nat}(hr:r<=31): ∀k,vg t k=true->kw t r k+1<=32 * 64 ^ k
 | 0,_=>by simp[kw];omega
 | k+1,h=>by
  simp only[vg,Bool.and_eq_true,vu,decide_eq_true_eq] at h
  have:=aub t hr k h.1
  simp only[kw,Nat.pow_succ]
  omega
theorem akt(x:Int)(w:World)(K:KV):cvT P T.be T.bk (.int .u8 x) w K=K (.int .i32 (IntKind.i32.wrap x)) w:=bnp (ks:= .u8) (by kernel_rfl) (by kernel_rfl) .u8 x w K
theorem yh{x:Int}(h0: -2147483648<=x)(h1:x < 2147483648):IntKind.i32.wrap x=x:=by
 show (if (true && decide (x % 4294967296≥2147483648))=true then x % 4294967296 - 4294967296 else x % 4294967296)=x
 by_cases h:x % 4294967296≥2147483648
 ·simp[h];omega
 ·simp[h];omega
theorem amn{t:ByteArray}{k:Nat}(h:vu t (k+1)=false): ∀{n:Nat},k+1 < n->vg t (n - 1)=false
 | 0,hn=>by omega
 | n+1,hn=>by
  rw[Nat.add_sub_cancel]
  by_cases hk:k+1=n
  ·subst hk;simp[vg,h]
  ·have:=amn h (n:=n) (by omega)
   cases n with
   | zero=>omega
   | succ n=>rw[Nat.add_sub_cancel] at this;simp[vg,this]
def bqq(w:World)(t:ByteArray)(r n:Nat):KL:=fun x w1=> ∃(a b:Value)(k:Nat),x=[a,b,.int .i32 (kw t r k:Nat),.int .i64 ((k+1:Nat):Int)]/\w1=w/\k+1<=n/\vg t k=true
theorem bbq{w:World}{t:ByteArray}{n least r:Nat}(hn:2<=n)(hn4:n<=4)(hr:r<=31)(hl:least<=65536)(hsz:n<=t.size){x3 x2:List Value}(e1:gv x2 1= .int .i64 (n:Nat))(e2:gv x2 2= .int .i32 (least:Nat))(e3:gv x2 3= .int .i32 (r:Nat)){K:KV}
  (h:K (.tuple #[.int .i32 ((if vg t (n - 1)=false then 0 else if kw t r (n - 1) < least\/1114111 < kw t r (n - 1)\/(55296<=kw t r (n - 1)/\kw t r (n - 1)<=57343) then 0 else kw t r (n - 1):Nat):Int),.int .i64 ((if vg t (n - 1)=false then 0 else if kw t r (n - 1) < least\/1114111 < kw t r (n - 1)\/(55296<=kw t r (n - 1)/\kw t r (n - 1)<=57343) then 0 else n:Nat):Int)]) w):
  M.j.j3 x3 x2 (.string t) w K:=by
 unfold M.j.j3
 simp only[ir,e3]
 refine⟨bqq w t r n,fun x _=>n - ms x 3,⟨_,_,0,rfl,rfl,by omega,rfl⟩,?_⟩
 rintro x w1 ⟨a,b,k,rfl,rfl,hk,hc⟩
 have g2:gv [a,b,.int .i32 (kw t r k:Nat),.int .i64 ((k+1:Nat):Int)] 2= .int .i32 (kw t r k:Nat):=rfl
 have g3:gv [a,b,.int .i32 (kw t r k:Nat),.int .i64 ((k+1:Nat):Int)] 3= .int .i64 ((k+1:Nat):Int):=rfl
 simp only[e1,g3]
 have hb:=aub t hr k hc
 have hp:(64:Nat) ^ k<=64 ^ 3:=Nat.pow_le_pow_right (by omega) (by omega)
 by_cases hlt:k+1 < n
 ·have hlt':((k+1:Nat):Int) < n:=by omega
  have hix: ∀K,ixT P T.n (.string t) (.int .i64 ((k+1:Nat):Int)) w1 K=K (.int .u8 (byt t (k+1))) w1:=fun K=>asn t (by omega) w1 K
  simp only[na,hlt',decide_true,Eng.cond_true]
  unfold M.j.j6
  have hix':=hix
  push_cast at hix'
  have hbl:=aim t (k+1)
  have hw:IntKind.i64.wrap (((k+1:Nat):Int)+1)=((k+1+1:Nat):Int):=by rw[jc];rfl
  simp only[ir,g2,g3,hix]
  by_cases h1:byt t (k+1) < 128
  ·have h1':(byt t (k+1):Int) < 128:=by omega
   have hcf:vg t (n - 1)=false:=amn (by simp[vu];omega) hlt
   simp[h1']
   rw[hcf] at h
   simpa using h
  ·have h1': ¬(byt t (k+1):Int) < 128:=by omega
   by_cases h2:191 < byt t (k+1)
   ·have h2':(191:Int) < byt t (k+1):=by omega
    have hcf:vg t (n - 1)=false:=amn (by simp[vu];omega) hlt
    simp[h1',hix',h2']
    rw[hcf] at h
    simpa using h
   ·have h2': ¬(191:Int) < byt t (k+1):=by omega
    simp[h1',hix',h2']
    unfold M.j.j8
    have hm1:IntKind.i32.wrap ((kw t r k:Int) * 64)=(kw t r k:Int) * 64:=yh (by omega) (by omega)
    have hm2:IntKind.i32.wrap (byt t (k+1):Int)=byt t (k+1):=yh (by omega) (by omega)
    have hm3:IntKind.i32.wrap ((kw t r k:Int) * 64+byt t (k+1))=(kw t r k:Int) * 64+byt t (k+1):=yh (by omega) (by omega)
    have hm4:IntKind.i32.wrap ((kw t r k:Int) * 64+byt t (k+1) - 128)=((kw t r (k+1):Nat):Int):=by
     rw[yh (by omega) (by omega)]
     simp only[kw];omega
    push_cast at g2 g3 hw
    simp only[g2,g3,hix',akt,xy,mm,ol,hm1,hm2,hm3,hm4,hw]
    refine⟨⟨_,_,k+1,rfl,rfl,by omega,by simp[vg,hc,vu];omega⟩,?_⟩
    simp[ms,gv];omega
 ·have hke:n - 1=k:=by omega
  have hlt': ¬((k+1:Nat):Int) < n:=by omega
  rw[hke,hc] at h
  simp only[na,hlt',decide_false,Eng.cond_false]
  unfold M.j.j4
  have q3: ∀p q s u:Value,gv [p,q,s,u] 3=u:=fun _ _ _ _=>rfl
  simp only[ir,q3,g2,e1,e2]
  generalize kw t r k=v at *
  simp only[Bool.true_eq_false,if_false] at h
  by_cases a1:v < least
  ·have a1':(v:Int) < least:=by omega
   simp[a1,a1'] at h⊢
   exact h
  by_cases a2:1114111 < v
  ·have a1': ¬(v:Int) < least:=by omega
   have a2':(1114111:Int) < v:=by omega
   simp[a1,a1',a2,a2'] at h⊢
   exact h
  by_cases a3:55296<=v
  ·by_cases a4:v<=57343
   ·have a1': ¬(v:Int) < least:=by omega
    have a2': ¬(1114111:Int) < v:=by omega
    have a3':(55296:Int)<=v:=by omega
    have a4':(v:Int)<=57343:=by omega
    simp[a1,a1',a2,a2',a3,a3',a4,a4'] at h⊢
    exact h
   ·have a1': ¬(v:Int) < least:=by omega
    have a2': ¬(1114111:Int) < v:=by omega
    have a3':(55296:Int)<=v:=by omega
    have a4': ¬(v:Int)<=57343:=by omega
    simp[a1,a1',a2,a2',a3,a3',a4,a4'] at h⊢
    exact h
  ·have a1': ¬(v:Int) < least:=by omega
   have a2': ¬(1114111:Int) < v:=by omega
   have a3': ¬(55296:Int)<=v:=by omega
   simp[a1,a1',a2,a2',a3,a3'] at h⊢
   exact h
theorem bmx{w:World}(t:ByteArray){K:KV}(h:K (.tuple #[.int .i32 ((rr t).1:Nat),.int .i64 ((rr t).2:Nat)]) w):jy P F.ex [.string t] w K:=by
 apply M.j.calls
 unfold M.j
 simp only[ir]
 unfold rr at h
 by_cases h0:t.size=0
 ·simp[h0] at h⊢
  exact h
 have hsz:0 < t.size:=by omega
 have hix: ∀K,ixT P T.n (.string t) (.int .i64 0) w K=K (.int .u8 (byt t 0)) w:=fun K=>asn t hsz w K
 have hbl:=aim t 0
 have hw0:IntKind.i32.wrap (byt t 0:Int)=byt t 0:=yh (by omega) (by omega)
 simp[h0] at h⊢
 unfold M.j.j0
 simp only[ir,hix]
 by_cases h1:byt t 0 < 128
 ·have h1':(byt t 0:Int) < 128:=by omega
  simp[h1,h1',akt,hw0] at h⊢
  exact h
 have h1': ¬(byt t 0:Int) < 128:=by omega
 simp[h1,h1'] at h⊢
 unfold M.j.j1
 simp only[ir]
 have fin: ∀(n least r:Nat)(x2:List Value),om (byt t 0)=(n,least,r)->n≠0->2<=n->n<=4->r<=31->least<=65536->gv x2 1= .int .i64 (n:Nat)->gv x2 2= .int .i32 (least:Nat)->gv x2 3= .int .i32 (r:Nat)->M.j.j2 x2 (.string t) [.int .i32 0,.int .i64 0] w K:=by
  intro n least r x2 hc hn0 hn hn4 hr hl e1 e2 e3
  rw[hc] at h
  unfold M.j.j2
  have hn0': ¬(n:Int)=0:=by omega
  by_cases hs:t.size < n
  ·have hs':(t.size:Int) < n:=by omega
   simp[e1,hn0,hn0',hs,hs'] at h⊢
   exact h
  ·have hs': ¬(t.size:Int) < n:=by omega
   simp only[ir]
   simp[e1,hn0,hn0',hs,hs'] at h⊢
   refine bbq hn hn4 hr hl (by omega) e1 e2 e3 ?_
   by_cases hcs:vg t (n - 1)=false
   ·simp[hcs] at h⊢;exact h
   ·by_cases hv:kw t r (n - 1) < least\/1114111 < kw t r (n - 1)\/(55296<=kw t r (n - 1)/\kw t r (n - 1)<=57343)
    ·simp[hcs,hv] at h⊢;exact h
    ·simp[hcs,hv] at h⊢;exact h
 generalize hb0:byt t 0=b0 at *
 have hsub: ∀(y:Int),0<=y->y < 300->(b0:Int) - y=(((b0:Int) - y)):=fun _ _ _=>rfl
 by_cases c1:194<=b0/\b0<=223
 ·have p1:(194:Int)<=b0:=by omega
  have p2:(b0:Int)<=223:=by omega
  have hw1:IntKind.i32.wrap ((b0:Int) - 192)=((b0 - 192:Nat):Int):=by rw[yh (by omega) (by omega)];omega
  simp[p1,p2,akt,hw0,hw1]
  refine fin 2 128 (b0 - 192) _ (by simp[om,c1]) (by decide) (by decide) (by decide) (by omega) (by decide) rfl rfl rfl
 have hz: ∀x2,gv x2 1= .int .i64 0->om b0=(0,0,0)->M.j.j2 x2 (.string t) [.int .i32 0,.int .i64 0] w K:=by
  intro x2 e1 hc
  rw[hc] at h
  unfold M.j.j2
  simp only[ir]
  simp[e1] at h⊢
  exact h
 by_cases d1:224<=b0
 ·have p1:(194:Int)<=b0:=by omega
  have p2: ¬(b0:Int)<=223:=by omega
  have p3:(224:Int)<=b0:=by omega
  by_cases d2:b0<=239
  ·have p4:(b0:Int)<=239:=by omega
   have hw1:IntKind.i32.wrap ((b0:Int) - 224)=((b0 - 224:Nat):Int):=by rw[yh (by omega) (by omega)];omega
   simp[p1,p2,p3,p4,akt,hw0,hw1]
   exact fin 3 2048 (b0 - 224) _ (by simp[om,c1,d1,d2]) (by decide) (by decide) (by decide) (by omega) (by decide) rfl rfl rfl
  ·have p4: ¬(b0:Int)<=239:=by omega
   have p5:(240:Int)<=b0:=by omega
   by_cases d3:b0<=244
   ·have p6:(b0:Int)<=244:=by omega
    have hw1:IntKind.i32.wrap ((b0:Int) - 240)=((b0 - 240:Nat):Int):=by rw[yh (by omega) (by omega)];omega
    simp[p1,p2,p3,p4,p5,p6,akt,hw0,hw1]
    exact fin 4 65536 (b0 - 240) _ (by unfold om;rw[if_neg c1,if_neg (by omega),if_pos (by omega)]) (by decide) (by decide) (by decide) (by omega) (by decide) rfl rfl rfl
   ·have p6: ¬(b0:Int)<=244:=by omega
    simp[p1,p2,p3,p4,p5,p6,akt,hw0]
    exact hz _ rfl (by unfold om;rw[if_neg c1,if_neg (by omega),if_neg (by omega)])
 ·have p1: ¬(194:Int)<=b0:=by omega
  have p3: ¬(224:Int)<=b0:=by omega
  have p5: ¬(240:Int)<=b0:=by omega
  simp[p1,p3,p5]
  exact hz _ rfl (by unfold om;rw[if_neg c1,if_neg (by omega),if_neg (by omega)])
theorem anq{t:ByteArray}(h0:0 < t.size)(h1: ¬byt t 0 < 128){n least r:Nat}(hc:om (byt t 0)=(n,least,r)):
  rr t=if n=0\/t.size < n then (0,0) else if vg t (n - 1)=false then (0,0) else if kw t r (n - 1) < least\/1114111 < kw t r (n - 1)\/(55296<=kw t r (n - 1)/\kw t r (n - 1)<=57343) then (0,0) else (kw t r (n - 1),n):=by
 unfold rr
 rw[if_neg (by omega),if_neg h1,hc]
theorem bit(v:Nat):Utf8.valid (v:Int)=decide (¬(1114111 < v\/(55296<=v/\v<=57343))):=by
 unfold Utf8.valid
 rw[Bool.eq_iff_iff]
 simp only[Bool.or_eq_true,Bool.and_eq_true,decide_eq_true_eq]
 omega
def ph(t:ByteArray)(k:Nat):Bool:=decide (k < t.size) && vu t k
def amd(least n v:Nat):Nat×Nat:=if least<=v/\¬(1114111 < v\/(55296<=v/\v<=57343)) then (v,n) else (65533,1)
theorem acu(t:ByteArray):Utf8.decode t 0=if byt t 0 < 128 then (byt t 0,1) else if byt t 0 / 32=6/\ph t 1=true then (if 128<=byt t 0 % 32 * 64+byt t 1 % 64 then (byt t 0 % 32 * 64+byt t 1 % 64,2) else (65533,1))
  else if byt t 0 / 16=14/\ph t 1=true/\ph t 2=true then amd 2048 3 (byt t 0 % 16 * 4096+byt t 1 % 64 * 64+byt t 2 % 64)
  else if byt t 0 / 8=30/\ph t 1=true/\ph t 2=true/\ph t 3=true then amd 65536 4 (byt t 0 % 8 * 262144+byt t 1 % 64 * 4096+byt t 2 % 64 * 64+byt t 3 % 64) else (65533,1):=by
 have e: ∀k,(t.get! (0+k)).toNat=byt t k:=fun k=>by rw[Nat.zero_add];rfl
 have c0: ∀k,(decide (0+k < t.size) && byt t k / 64 == 2)=ph t k:=fun k=>by
  have:=aim t k
  have:(byt t k / 64 == 2)=vu t k:=by
   unfold vu
   by_cases h:128<=byt t k <;>by_cases h':byt t k<=191
   ·have:byt t k / 64=2:=by omega
    simp[h,h',this]
   ·have: ¬byt t k / 64=2:=by omega
    simp[h,h',this]
   ·have: ¬byt t k / 64=2:=by omega
    simp[h,h',this]
   ·omega
  rw[this,Nat.zero_add];rfl
 unfold Utf8.decode amd
 simp only[e,c0,bit,Bool.and_eq_true,beq_iff_eq,and_assoc,decide_eq_true_eq,ge_iff_le,Utf8.runeError]
theorem aaa{t:ByteArray}{k:Nat}(h:ph t k=true):k < t.size/\vu t k=true/\128<=byt t k/\byt t k<=191:=by
 unfold ph vu at h
 simp only[Bool.and_eq_true,decide_eq_true_eq] at h
 exact⟨h.1,by unfold vu;simp[h.2],h.2.1,h.2.2⟩
def afw(c:Nat×Nat):Nat×Nat:=if c.2=0 then (65533,1) else c
theorem aov{least n v:Nat}(hn:n≠0):amd least n v=afw (if v < least\/1114111 < v\/(55296<=v/\v<=57343) then (0,0) else (v,n)):=by
 unfold amd afw
 by_cases g:v < least\/1114111 < v\/(55296<=v/\v<=57343)
 ·rw[if_pos g,if_neg (by omega)];rfl
 ·rw[if_neg g,if_pos (by omega)];simp[hn]
theorem ajj{t:ByteArray}: ∀{n:Nat},vg t n=true↔∀k,1<=k->k<=n->vu t k=true
 | 0=>⟨fun _ k h1 h2=>by omega,fun _=>rfl⟩
 | n+1=>by
  simp only[vg,Bool.and_eq_true,ajj (n:=n)]
  constructor
  ·rintro⟨h1,h2⟩ k hk1 hk2
   by_cases hk:k=n+1
   ·subst hk;exact h2
   ·exact h1 k hk1 (by omega)
  ·intro h
   exact⟨fun k h1 h2=>h k h1 (by omega),h (n+1) (by omega) (by omega)⟩
theorem agk{t:ByteArray}(h0:0 < t.size)(h1: ¬byt t 0 < 128){n least r:Nat}(hc:om (byt t 0)=(n,least,r))(hn:2<=n)(h: ∀k,1<=k->k<=n - 1->ph t k=true):
  rr t=if kw t r (n - 1) < least\/1114111 < kw t r (n - 1)\/(55296<=kw t r (n - 1)/\kw t r (n - 1)<=57343) then (0,0) else (kw t r (n - 1),n):=by
 rw[anq h0 h1 hc]
 have:=(aaa (h (n - 1) (by omega) (by omega))).1
 rw[if_neg (by omega),if_neg]
 rw[ajj.2 fun k h1 h2=>(aaa (h k h1 h2)).2.1];simp
theorem ako{t:ByteArray}(h0:0 < t.size)(h1: ¬byt t 0 < 128){n least r:Nat}(hc:om (byt t 0)=(n,least,r))(hn:2<=n)(h: ¬∀k,1<=k->k<=n - 1->ph t k=true):rr t=(0,0):=by
 rw[anq h0 h1 hc]
 by_cases hs:t.size < n
 ·rw[if_pos (.inr hs)]
 ·rw[if_neg (by omega),if_pos]
  cases hcs:vg t (n - 1) with
  | false=>rfl
  | true=>
   refine absurd (fun k h1 h2=>?_) h
   unfold ph
   rw[ajj.1 hcs k h1 h2]
   simp;omega
theorem ayc{p:Nat->Prop}:(∀k,1<=k->k<=2 - 1->p k)↔p 1:=⟨fun h=>h 1 (by omega) (by omega),fun h k h1 h2=>by
 obtain rfl:k=1:=by omega
 exact h⟩
theorem azc{p:Nat->Prop}:(∀k,1<=k->k<=3 - 1->p k)↔p 1/\p 2:=⟨fun h=>⟨h 1 (by omega) (by omega),h 2 (by omega) (by omega)⟩,fun h k h1 h2=>by
 have:k=1\/k=2:=by omega
 rcases this with rfl|rfl
 ·exact h.1
 ·exact h.2⟩
theorem azz{p:Nat->Prop}:(∀k,1<=k->k<=4 - 1->p k)↔p 1/\p 2/\p 3:=⟨fun h=>⟨h 1 (by omega) (by omega),h 2 (by omega) (by omega),h 3 (by omega) (by omega)⟩,fun h k h1 h2=>by
 have:k=1\/k=2\/k=3:=by omega
 rcases this with rfl|rfl|rfl
 ·exact h.1
 ·exact h.2.1
 ·exact h.2.2⟩
theorem aks{x:Nat}(h1:128<=x)(h2:x<=191):x % 64=x - 128:=by omega
theorem rf1(t:ByteArray)(r:Nat):kw t r 1=r * 64+byt t 1 - 128:=rfl
theorem rf2(t:ByteArray)(r:Nat):kw t r 2=(r * 64+byt t 1 - 128) * 64+byt t 2 - 128:=rfl
theorem rf3(t:ByteArray)(r:Nat):kw t r 3=((r * 64+byt t 1 - 128) * 64+byt t 2 - 128) * 64+byt t 3 - 128:=rfl
theorem brx{t:ByteArray}(h0:0 < t.size)(c1:194<=byt t 0/\byt t 0<=223):Utf8.decode t 0=afw (rr t):=by
 have h1: ¬byt t 0 < 128:=by omega
 have hc:om (byt t 0)=(2,128,byt t 0 - 192):=by unfold om;rw[if_pos c1]
 rw[acu,if_neg h1]
 by_cases hd:ph t 1=true
 ·rw[agk h0 h1 hc (by decide) (ayc.2 hd),if_pos ⟨by omega,hd⟩,<-aov (by decide)]
  obtain⟨_,_,g1,g2⟩:=aaa hd
  have hv:kw t (byt t 0 - 192) (2 - 1)=byt t 0 % 32 * 64+byt t 1 % 64:=by
   show kw t (byt t 0 - 192) 1=_
   rw[rf1,aks g1 g2];omega
  rw[hv]
  have hle:byt t 0 % 32 * 64+byt t 1 % 64 < 55296:=by omega
  unfold amd
  by_cases hg:128<=byt t 0 % 32 * 64+byt t 1 % 64
  ·rw[if_pos hg,if_pos ⟨hg,by omega⟩]
  ·rw[if_neg hg,if_neg fun h=>hg h.1]
 ·rw[if_neg fun h=>hd h.2,if_neg (by omega),if_neg (by omega),ako h0 h1 hc (by decide) fun h=>hd (ayc.1 h)];rfl
theorem brp{t:ByteArray}(h0:0 < t.size)(c1:224<=byt t 0/\byt t 0<=239):Utf8.decode t 0=afw (rr t):=by
 have h1: ¬byt t 0 < 128:=by omega
 have hc:om (byt t 0)=(3,2048,byt t 0 - 224):=by unfold om;rw[if_neg (by omega),if_pos c1]
 rw[acu,if_neg h1,if_neg (by omega)]
 by_cases hd:ph t 1=true/\ph t 2=true
 ·rw[agk h0 h1 hc (by decide) (azc.2 hd),if_pos ⟨by omega,hd⟩,<-aov (by decide)]
  obtain⟨_,_,g1,g2⟩:=aaa hd.1
  obtain⟨_,_,g3,g4⟩:=aaa hd.2
  have hv:kw t (byt t 0 - 224) (3 - 1)=byt t 0 % 16 * 4096+byt t 1 % 64 * 64+byt t 2 % 64:=by
   show kw t (byt t 0 - 224) 2=_
   rw[rf2,aks g1 g2,aks g3 g4];omega
  rw[hv]
 ·rw[if_neg fun h=>hd h.2,if_neg (by omega),ako h0 h1 hc (by decide) fun h=>hd (azc.1 h)];rfl
theorem brk{t:ByteArray}(h0:0 < t.size)(c1:240<=byt t 0/\byt t 0<=244):Utf8.decode t 0=afw (rr t):=by
 have h1: ¬byt t 0 < 128:=by omega
 have hc:om (byt t 0)=(4,65536,byt t 0 - 240):=by unfold om;rw[if_neg (by omega),if_neg (by omega),if_pos c1]
 rw[acu,if_neg h1,if_neg (by omega),if_neg (by omega)]
 by_cases hd:ph t 1=true/\ph t 2=true/\ph t 3=true
 ·rw[agk h0 h1 hc (by decide) (azz.2 hd),if_pos ⟨by omega,hd⟩,<-aov (by decide)]
  obtain⟨_,_,g1,g2⟩:=aaa hd.1
  obtain⟨_,_,g3,g4⟩:=aaa hd.2.1
  obtain⟨_,_,g5,g6⟩:=aaa hd.2.2
  have hv:kw t (byt t 0 - 240) (4 - 1)=byt t 0 % 8 * 262144+byt t 1 % 64 * 4096+byt t 2 % 64 * 64+byt t 3 % 64:=by
   show kw t (byt t 0 - 240) 3=_
   rw[rf3,aks g1 g2,aks g3 g4,aks g5 g6];omega
  rw[hv]
 ·rw[if_neg fun h=>hd h.2,ako h0 h1 hc (by decide) fun h=>hd (azz.1 h)];rfl
theorem bdy(t:ByteArray)(h0:0 < t.size):Utf8.decode t 0=afw (rr t):=by
 by_cases h1:byt t 0 < 128
 ·have hr:rr t=(byt t 0,1):=by unfold rr;rw[if_neg (by omega),if_pos h1]
  rw[acu,if_pos h1,hr];rfl
 by_cases c1:194<=byt t 0/\byt t 0<=223
 ·exact brx h0 c1
 by_cases c2:224<=byt t 0/\byt t 0<=239
 ·exact brp h0 c2
 by_cases c3:240<=byt t 0/\byt t 0<=244
 ·exact brk h0 c3
 have hc:om (byt t 0)=(0,0,0):=by unfold om;rw[if_neg c1,if_neg c2,if_neg c3]
 have hr:rr t=(0,0):=by rw[anq h0 h1 hc];simp
 have hb:=aim t 0
 rw[hr,acu,if_neg h1]
 show _=(65533,1)
 by_cases d1:byt t 0 / 32=6/\ph t 1=true
 ·obtain⟨_,_,g1,g2⟩:=aaa d1.2
  rw[if_pos d1,if_neg (by omega)]
 ·rw[if_neg d1,if_neg (by omega)]
  by_cases d3:byt t 0 / 8=30/\ph t 1=true/\ph t 2=true/\ph t 3=true
  ·rw[if_pos d3]
   unfold amd
   rw[if_neg (by omega)]
  ·rw[if_neg d3]
def lf(s:ByteArray)(i:Nat):ByteArray:=s.extract i s.size
theorem ake(s:ByteArray)(i:Nat):(lf s i).size=s.size - i:=by simp[lf]
theorem atx(s:ByteArray)(k:Nat):s.get! k=s.data[k]! :=by cases s;rfl
theorem bgj(s:ByteArray)(i k:Nat):byt (lf s i) k=byt s (i+k):=by
 unfold byt
 rw[atx,atx]
 have h:(lf s i).data=s.data.extract i s.size:=by simp[lf]
 rw[h,getElem!_def,getElem!_def,Array.getElem?_extract]
 have hs:s.size=s.data.size:=rfl
 by_cases hk:k < min s.size s.data.size - i
 ·rw[if_pos (by omega)]
 ·rw[if_neg (by omega),Array.getElem?_eq_none (by omega)]
theorem bcz(s:ByteArray)(i n:Nat):lf (lf s i) n=lf s (i+n):=by
 unfold lf
 rw[ByteArray.extract_extract]
 congr 1
 simp;omega
theorem avu(s:ByteArray)(i:Nat):Utf8.decode s i=Utf8.decode (lf s i) 0:=by
 have e: ∀k,(s.get! (i+k)).toNat=byt (lf s i) k:=fun k=>by rw[bgj];rfl
 have e': ∀k,((lf s i).get! (0+k)).toNat=byt (lf s i) k:=fun k=>by rw[Nat.zero_add];rfl
 have c: ∀k,decide (i+k < s.size)=decide (0+k < (lf s i).size):=fun k=>by
  rw[ake,decide_eq_decide];omega
 unfold Utf8.decode
 simp only[e,e',c]
theorem blr(t:ByteArray):yg t yz=true↔3<=t.size/\byt t 0=239/\byt t 1=191/\byt t 2=189:=by
 have hs:t.size=t.data.toList.length:=Array.length_toList.symm
 have hr:yz.toList=[239,191,189]:=by decide+kernel
 have hz:yz.size=3:=rfl
 unfold yg
 rw[hr,hz,Bool.and_eq_true,decide_eq_true_eq,beq_iff_eq]
 have he:(t.extract 0 3).toList=t.data.toList.take 3:=by
  rw[ByteArray.toList_eq]
  simp
 rw[he]
 have b: ∀k,byt t k=(t.data.toList[k]?.getD default).toNat:=fun k=>by
  unfold byt
  rw[atx,getElem!_def]
  simp only[Array.getElem?_toList]
  cases t.data[k]? <;>rfl
 rw[b,b,b,hs]
 have u: ∀(x:UInt8)(n:Nat)(h:n < 256),x.toNat=n↔x=UInt8.ofNat n:=fun x n h=>by
  constructor
  ·intro hx;rw[<-hx];simp
  ·rintro rfl;simp;omega
 match t.data.toList with
 | []=>simp
 | [x]=>simp
 | [x,y]=>simp
 | x :: y :: z :: r=>
  simp[u x 239 (by decide),u y 191 (by decide),u z 189 (by decide)]
theorem bnl(t:ByteArray)(h0:0 < t.size):((rr t).2≠0/\(rr t).1=65533)↔(3<=t.size/\byt t 0=239/\byt t 1=191/\byt t 2=189):=by
 have hb:=aim t 0
 by_cases h1:byt t 0 < 128
 ·have hr:rr t=(byt t 0,1):=by unfold rr;rw[if_neg (by omega),if_pos h1]
  rw[hr];simp;omega
 by_cases c1:194<=byt t 0/\byt t 0<=223
 ·have hc:om (byt t 0)=(2,128,byt t 0 - 192):=by unfold om;rw[if_pos c1]
  by_cases hd:ph t 1=true
  ·rw[agk h0 h1 hc (by decide) (ayc.2 hd)]
   obtain⟨_,_,g1,g2⟩:=aaa hd
   have hv:kw t (byt t 0 - 192) (2 - 1)=(byt t 0 - 192) * 64+byt t 1 - 128:=rfl
   rw[hv]
   split <;>simp <;>omega
  ·rw[ako h0 h1 hc (by decide) fun h=>hd (ayc.1 h)];simp;omega
 by_cases c2:224<=byt t 0/\byt t 0<=239
 ·have hc:om (byt t 0)=(3,2048,byt t 0 - 224):=by unfold om;rw[if_neg (by omega),if_pos c2]
  by_cases hd:ph t 1=true/\ph t 2=true
  ·rw[agk h0 h1 hc (by decide) (azc.2 hd)]
   obtain⟨_,_,g1,g2⟩:=aaa hd.1
   obtain⟨g5,_,g3,g4⟩:=aaa hd.2
   have hv:kw t (byt t 0 - 224) (3 - 1)=((byt t 0 - 224) * 64+byt t 1 - 128) * 64+byt t 2 - 128:=rfl
   rw[hv]
   split <;>simp <;>omega
  ·rw[ako h0 h1 hc (by decide) fun h=>hd (azc.1 h)]
   simp only[ne_eq,not_true_eq_false,false_and,false_iff]
   rintro⟨k0,k1,k2,k3⟩
   apply hd
   unfold ph vu
   simp[k2,k3];omega
 by_cases c3:240<=byt t 0/\byt t 0<=244
 ·have hc:om (byt t 0)=(4,65536,byt t 0 - 240):=by unfold om;rw[if_neg (by omega),if_neg (by omega),if_pos c3]
  by_cases hd:ph t 1=true/\ph t 2=true/\ph t 3=true
  ·rw[agk h0 h1 hc (by decide) (azz.2 hd)]
   generalize kw t (byt t 0 - 240) (4 - 1)=v
   split <;>simp <;>omega
  ·rw[ako h0 h1 hc (by decide) fun h=>hd (azz.1 h)];simp;omega
 have hc:om (byt t 0)=(0,0,0):=by unfold om;rw[if_neg c1,if_neg c2,if_neg c3]
 have hr:rr t=(0,0):=by rw[anq h0 h1 hc];simp
 rw[hr];simp;omega
theorem bha(t:ByteArray):(rr t).2<=t.size:=by
 unfold rr
 by_cases h0:t.size=0
 ·rw[if_pos h0];omega
 rw[if_neg h0]
 split
 ·simp;omega
 split
 ·simp
 split
 ·simp
 split
 ·simp
 ·simp;omega
def rrs(s:ByteArray)(i:Nat):Option (List Nat):=
 if h:i < s.size then (if h2:(rr (lf s i)).2=0 then none else (rrs s (i+(rr (lf s i)).2)).map ((rr (lf s i)).1 :: ·)) else some []
termination_by s.size - i
decreasing_by omega
def ctl(c:Nat):Bool:=decide (c < 32) || (decide (127<=c) && decide (c<=159))
theorem bga(s:ByteArray): ∀(m i:Nat),s.size - i<=m->vp s i=match rrs s i with
  | none=>false
  | some l=>l.all fun c=>!ctl c:=by
 intro m
 induction m with
 | zero=>
  intro i hm
  unfold vp rrs
  rw[dif_neg (by omega),dif_neg (by omega)];rfl
 | succ m ih=>
  intro i hm
  unfold vp rrs
  by_cases hi:i < s.size
  ·rw[dif_pos hi,dif_pos hi]
   have ht:0 < (lf s i).size:=by rw[ake];omega
   have hd:Utf8.decode s i=afw (rr (lf s i)):=by rw[avu,bdy _ ht]
   have he:=bnl (lf s i) ht
   rw[<-blr] at he
   unfold adw
   have hrest:s.extract i s.size=lf s i:=rfl
   rw[hrest,hd]
   by_cases h2:(rr (lf s i)).2=0
   ·rw[dif_pos h2]
    have hp:yg (lf s i) yz=false:=by
     cases hq:yg (lf s i) yz with
     | false=>rfl
     | true=>exact absurd h2 (he.2 hq).1
    simp[afw,h2,hp]
   ·rw[dif_neg h2]
    have hf:afw (rr (lf s i))=rr (lf s i):=by simp[afw,h2]
    rw[hf,ih (i+(rr (lf s i)).2) (by omega)]
    have hb:(decide ((rr (lf s i)).1 < 32) || (decide (127<=(rr (lf s i)).1) && decide ((rr (lf s i)).1<=159) || decide ((rr (lf s i)).1=65533) && !yg (lf s i) yz))=ctl (rr (lf s i)).1:=by
     unfold ctl
     by_cases hc:(rr (lf s i)).1=65533
     ·rw[he.1 ⟨h2,hc⟩,hc];decide
     ·simp[hc]
    rw[hb]
    cases rrs s (i+(rr (lf s i)).2) with
    | none=>simp
    | some l=>simp
  ·rw[dif_neg hi,dif_neg hi];rfl
def bhp(c:Nat):List Value:=[.int .i32 (c:Nat)]
abbrev OwR(w:World)(base:Nat)(v:Value)(l:List Nat):Prop:=Ow w base T.bk 1 bhp v l
def ann(v:Value):Nat:=match v with
 | .string s=>s.size
 | _=>0
def bri(w:World)(s:ByteArray):KL:=fun x w1=> ∃(i:Nat)(l:List Nat),x.length=6/\gv x 5= .string (lf s i)/\OwR w1 w.heap.size (gv x 4) l/\Fz w w1/\i<=s.size/\l.length<=i/\rrs s 0=(rrs s i).map (l ++ ·)
theorem bjc{w:World}{s:ByteArray}(hs:s.size < 100000){K:KV}(h0:rrs s 0=none->∀w',Fz w w'->K (.tuple #[.slice none 0 0,.bool false]) w')
  (h1: ∀l,rrs s 0=some l->l.length<=s.size->∀w' v,OwR w' w.heap.size v l->Fz w w'->K (.tuple #[v,.bool true]) w'):jy P F.ek [.string s] w K:=by
 apply M.ay.calls
 unfold M.ay
 rw[ir]
 refine⟨bri w s,fun x _=>ann (gv x 5),⟨0,[],rfl,?_,Ow.none,Fr.refl _ _,Nat.zero_le _,Nat.le_refl _,by simp⟩,?_⟩
 ·show Value.string s=_
  unfold lf;simp
 rintro x w1 ⟨i,l,hx,e5,o1,f1,hi,hl,hR⟩
 unfold M.ay.j1
 simp only[ir,e5,bph]
 have hsz:=ake s i
 by_cases hlt:i < s.size
 ·have hlt':(0:Int) < ((lf s i).size:Int):=by omega
  simp only[wu,hlt',decide_true,Eng.cond_true]
  unfold M.ay.j2
  rw[e5,M.j.fcall]
  refine bmx _ ?_
  simp only[aba,abc,ir,aby]
  rw[show rrs s i=_ from rrs.eq_1 s i,dif_pos hlt] at hR
  by_cases h2:(rr (lf s i)).2=0
  ·have h2':(((rr (lf s i)).2:Nat):Int)=0:=by omega
   simp only[h2',decide_true,Eng.cond_true]
   rw[dif_pos h2] at hR
   exact h0 hR w1 f1
  ·have h2': ¬(((rr (lf s i)).2:Nat):Int)=0:=by omega
   simp only[h2',decide_false,Eng.cond_false]
   rw[dif_neg h2] at hR
   have hwd:=bha (lf s i)
   unfold M.ay.j3
   simp[e5]
   have fa:Fz w1 (w1.alloc (.cells #[.int .i32 ((rr (lf s i)).1:Nat)] T.bk)):=(Fr.refl _ w1).alloc _
   have hge:=f1.size
   refine yo et.bt (fun _=>rfl) (fun x u hu=>by simp[bhp] at hu;subst hu;rfl) (o1.fr fa fun _ _ h=>h) (Sl.one (x:=(rr (lf s i)).1) rfl rfl) (by simp;omega) (by decide) (by simp;omega) _ fun v' w2 o2 f2 g2=>?_
   rw[aiv (i:=(rr (lf s i)).2) aoq (.inr ⟨_,rfl⟩) (.inl ⟨rfl,rfl⟩) hwd (Nat.le_refl _)]
   refine⟨⟨i+(rr (lf s i)).2,l ++ [(rr (lf s i)).1],rfl,?_,o2,?_,by omega,by simp;omega,?_⟩,?_⟩
   ·show Value.string _=_
    rw[<-bcz];rfl
   ·refine f1.jw ((fa.mono fun _ _ h=>h.elim).trans f2) fun b hb he=>?_
    have:=(o1.lt he).1;omega
   ·rw[hR]
    cases rrs s (i+(rr (lf s i)).2) <;>simp
   ·show ann (.string ((lf s i).extract (rr (lf s i)).2 (lf s i).size)) < ann (.string (lf s i))
    simp only[ann,ByteArray.size_extract]
    omega
 ·have hlt': ¬(0:Int) < ((lf s i).size:Int):=by omega
  simp only[wu,hlt',decide_false,Eng.cond_false]
  rw[show rrs s i=_ from rrs.eq_1 s i,dif_neg hlt] at hR
  exact h1 l (by simpa using hR) (by omega) w1 _ o1 f1
def NmI(w:World)(l:List Nat):KL:=fun x w1=> ∃(u:Value)(i:Nat),x=[u,.int .i64 (i:Nat)]/\w1=w/\i<=l.length/\∀j c,l[j]? =some c->j < i->ctl c=false
theorem amx{w:World}(s:ByteArray){K:KV}(h: ∀w',Fz w w'->K (.int .i64 (rz s)) w'):jy P F.dj [.string s] w K:=by
 apply M.bt.calls
 unfold M.bt
 unfold rz at h
 simp only[ir,bph,na]
 by_cases h0:s.size=0
 ·have:(s.size:Int) < 1:=by omega
  simp[h0] at h⊢
  exact h w (Fr.refl _ _)
 have h0': ¬(s.size:Int) < 1:=by omega
 by_cases h1:32 < s.size
 ·have h1':(32:Int) < s.size:=by omega
  simp[h0,h0',h1,h1'] at h⊢
  exact h w (Fr.refl _ _)
 have h1': ¬(32:Int) < s.size:=by omega
 simp[h0,h0',h1,h1'] at h⊢
 unfold M.bt.j0
 rw[M.ay.fcall]
 rw[bga s _ 0 (Nat.le_refl _)] at h
 refine bjc (by omega) (fun hr w1 f1=>?_) fun l hr hll w1 v o1 f1=>?_
 ·rw[hr] at h
  simp only[aba,abc,ir]
  refine⟨fun x w2=>gv x 1= .int .i64 0/\w2=w1,fun _ _=>0,⟨rfl,rfl⟩,?_⟩
  rintro x w2 ⟨e1,rfl⟩
  simp[e1]
  have:=h w2 f1
  simpa using this
 ·rw[hr] at h
  simp only[aba,abc,ir]
  have hsl:Sl w1 1 bhp v l:=o1.sl fun _=>rfl
  refine⟨NmI w1 l,fun x _=>l.length - ms x 1,⟨_,0,rfl,rfl,Nat.zero_le _,fun j c _ h=>by omega⟩,?_⟩
  rintro x w2 ⟨u,i,rfl,rfl,hi,hall⟩
  have q0: ∀a b:Value,gv [a,b] 0=a:=fun _ _=>rfl
  have q1: ∀a b:Value,gv [a,b] 1=b:=fun _ _=>rfl
  simp only[q0,q1]
  rw[hsl.jv (by simp)]
  by_cases hil:i < l.length
  ·have hil':(i:Int) < l.length:=by omega
   simp only[na,hil',decide_true,Eng.cond_true]
   unfold M.bt.j3
   obtain⟨b,o,cap,rfl,hb,_,hc⟩:=hsl.at hil
   have c0:=hc 0 _ rfl
   simp only[Nat.mul_one,Nat.add_zero] at c0
   generalize hli:l[i]=c at *
   have hgi:l[i]? =some c:=by rw[List.getElem?_eq_getElem hil,hli]
   have hw:IntKind.i64.wrap ((i:Int)+1)=((i+1:Nat):Int):=by rw[jc];rfl
   have bad:ctl c=true->K (.int .i64 5) w2:=fun hct=>by
    have:(l.all fun c=>!ctl c)=false:=by
     rw[List.all_eq_false]
     exact⟨c,List.mem_of_getElem? hgi,by simp[hct]⟩
    have hh:=h w2 f1
    simpa [this] using hh
   have zl:ctl c=false->∀u,NmI w2 l [u,.int .i64 ((i:Int)+1)] w2/\l.length - ms [u,.int .i64 ((i:Int)+1)] 1 < l.length - ms [u,.int .i64 (i:Int)] 1:=fun hct u=>by
    refine⟨⟨u,i+1,rfl,rfl,by omega,fun j c' hj hlt=>?_⟩,by simp[ms,gv];omega⟩
    by_cases hji:j=i
    ·subst hji;rw[hgi] at hj;cases hj;exact hct
    ·exact hall j c' hj (by omega)
   by_cases d1:c < 32
   ·have d1':(c:Int) < 32:=by omega
    simp[q0,q1,hil,c0,d1']
    exact bad (by simp[ctl,d1])
   have d1': ¬(c:Int) < 32:=by omega
   by_cases d2:127<=c
   ·have d2':(127:Int)<=c:=by omega
    by_cases d3:c<=159
    ·have d3':(c:Int)<=159:=by omega
     simp[q0,q1,hil,c0,d1',d2',d3']
     exact bad (by simp[ctl,d2,d3])
    ·have d3': ¬(c:Int)<=159:=by omega
     simp[q0,q1,hil,c0,d1',d2',d3',hw]
     exact zl (by simp[ctl,d1,d3]) _
   ·have d2': ¬(127:Int)<=c:=by omega
    simp[q0,q1,hil,c0,d1',d2',hw]
    exact zl (by simp[ctl,d1,d2]) _
  ·have hil': ¬(i:Int) < l.length:=by omega
   simp only[na,hil',decide_false,Eng.cond_false]
   have:(l.all fun c=>!ctl c)=true:=by
    rw[List.all_eq_true]
    intro c hc
    obtain⟨j,hj,rfl⟩:=List.mem_iff_getElem.1 hc
    rw[hall j _ (List.getElem?_eq_getElem hj) (by omega)];rfl
   simp
   have hh:=h w2 f1
   simpa [this] using hh
theorem brg(a b:Int):orK [a,b]=if a=0 then b else a:=by
 unfold orK
 by_cases ha:a=0 <;>by_cases hb:b=0 <;>simp[List.find?,ha,hb]
theorem asr(s:ByteArray):rz s=0\/rz s=5:=by
 unfold rz
 split
 ·exact .inr rfl
 split
 ·exact .inl rfl
 ·exact .inr rfl
theorem avs{w:World}(s:Spn){K:KV}(h: ∀w',Fz w w'->K (.int .i64 (ll s)) w'):jy P F.ef [lw s] w K:=by
 apply M.ct.calls
 unfold M.ct
 rw[apn]
 have hb:=ama w s
 have hf:Fz w (w.alloc (.cells #[.int .u64 s.jj,.int .u64 s.id,.int .u64 s.nn,.int .u64 s.km,.int .u64 s.len,.string s.kz,.string s.name,.bool s.pp] T.j)):=(Fr.refl _ w).alloc _
 generalize w.alloc (.cells #[.int .u64 s.jj,.int .u64 s.id,.int .u64 s.nn,.int .u64 s.km,.int .u64 s.len,.string s.kz,.string s.name,.bool s.pp] T.j)=wa at *
 have c0:=si hb 0 _ rfl
 have c1:=si hb 1 _ rfl
 have c3:=si hb 3 _ rfl
 have c4:=si hb 4 _ rfl
 have c5:=si hb 5 _ rfl
 unfold ll at h
 simp only[ir]
 by_cases h0:s.jj=0
 ·simp[c0,h0] at h⊢
  exact h wa hf
 by_cases h1:s.id=0
 ·simp[c0,c1,h0,h1] at h⊢
  exact h wa hf
 by_cases h2:1099511627776 < s.km
 ·have h3:1099511627776 < max s.km s.len:=by omega
  simp[c0,c1,c3,h0,h1,h2,h3] at h⊢
  exact h wa hf
 by_cases h2':1099511627776 < s.len
 ·have h3:1099511627776 < max s.km s.len:=by omega
  simp[c0,c1,c3,c4,h0,h1,h2,h2',h3] at h⊢
  exact h wa hf
 have h3: ¬1099511627776 < max s.km s.len:=by omega
 rw[if_neg (by simp[h0,h1,h3]),brg] at h
 simp[c0,c1,c3,c4,h0,h1,h2,h2']
 unfold M.ct.j0
 simp[c5]
 rw[M.bt.fcall]
 refine amx _ fun w2 f2=>?_
 have hb2:acb w2 w.heap.size s:=f2.heap hb fun h=>h
 have d6:=si hb2 6 _ rfl
 by_cases n1:rz s.kz=0
 ·simp[n1,d6] at h⊢
  rw[M.bt.fcall]
  refine amx _ fun w3 f3=>?_
  have hh:=h w3 ((hf.trans f2).trans f3)
  rcases asr s.name with n2|n2
  ·simp[n2] at hh⊢;exact hh
  ·simp[n2] at hh⊢;exact hh
 ·have n5:rz s.kz=5:=(asr _).resolve_left n1
  have hh:=h w2 (hf.trans f2)
  simp[n5] at hh⊢
  exact hh
def aue(ok:Bool)(ka:Bal)(v:Int):Bool:=(decide (v=0) || (yw v && !(decide (ka=jf)))) && (if ok=true then !(decide (v=0)) || decide (ka=jf) else decide (v=0) && !(decide (ka=jf)))
def xb(p:Pk)(ls:List Spn)(lm:List Mem)(lu:List Int):Bool:=
 if p.jh=1\/p.jh=2 then zn p.tr ls else if p.jh=3 then qu lm else if p.jh=4 then decide (0 < p.b.n) else if p.jh=5 then decide (0 < p.b.n) && aue p.ok p.ka p.v else if p.jh=6 then decide (0 < p.b.n) && yw p.v else if p.jh=7 then decide (0 < p.b.n) && (p.ok == decide (p.ka=jf)) else if p.jh=8 then yw p.v else if p.jh=9 then decide (0 < p.b.n) && zn p.tr ls else if p.jh=10 then abj 0 lu && (decide (0 < lu.length) && decide (lu.length<=16)) else false
def ase(p:Pk)(ls:List Spn)(lm:List Mem)(lu:List Int):Bool:=aab p (td p) ls (qw p ls) lm (re p lm) lu (qx p lu)
def wq(p:Pk)(ls:List Spn)(lm:List Mem)(lu:List Int):Bool:=(ase p ls lm lu && (decide (p.jh=3) || decide (0 < p.tr))) && xb p ls lm lu
def anw(p:Pk)(ls:List Spn)(lm:List Mem)(lu:List Int):Int:=if wq p ls lm lu=true then 0 else 6
def sm(p:Pk):Pk:=if p.jh=4\/p.jh=6 then ⟨if p.v=0 then 4 else 6,p.tr,p.b,jf,p.v,false,kq,kq,kq⟩ else if p.jh=5\/p.jh=7 then ⟨p.jh,p.tr,p.b,p.ka,p.v,p.ok,kq,kq,kq⟩ else td p
theorem bfx{p:Pk}{ls:List Spn}{lm:List Mem}{lu:List Int}(hr:ahl p)(hk:1<=p.jh/\p.jh<=10):(ux p ls lm lu && aab p (sm p) ls (qw p ls) lm (re p lm) lu (qx p lu))=wq p ls lm lu:=by
 have h1:=hr.tr.1
 have h2:=hr.b.1.1
 have core:(ux p ls lm lu && mj p (sm p))=((mj p (td p) && (decide (p.jh=3) || decide (0 < p.tr))) && xb p ls lm lu):=by
  obtain⟨k,tr,b,ka,v,ok,sv,mv,iv⟩:=p
  simp only at hk h1 h2
  have hcase:k=1\/k=2\/k=3\/k=4\/k=5\/k=6\/k=7\/k=8\/k=9\/k=10:=by omega
  rcases hcase with rfl|rfl|rfl|rfl|rfl|rfl|rfl|rfl|rfl|rfl
  ·simp[ux,xb,sm,td,mj,aja]
   cases zn tr ls <;>by_cases ht:0 < tr <;>by_cases hb:b=jf <;>by_cases hs:ka=jf <;>by_cases hv:v=0 <;>cases ok <;>simp[ht,hb,hs,hv]
  ·simp[ux,xb,sm,td,mj,aja]
   cases zn tr ls <;>by_cases ht:0 < tr <;>by_cases hb:b=jf <;>by_cases hs:ka=jf <;>by_cases hv:v=0 <;>cases ok <;>simp[ht,hb,hs,hv]
  ·simp[ux,xb,sm,td,mj]
   cases qu lm <;>by_cases ht:tr=0 <;>by_cases hb:b=jf <;>by_cases hs:ka=jf <;>by_cases hv:v=0 <;>cases ok <;>simp[ht,hb,hs,hv]
  ·simp[ux,xb,sm,td,mj,asx]
   by_cases ht:0 < tr <;>by_cases hb:0 < b.n <;>by_cases hs:ka=jf <;>by_cases hv:v=0 <;>cases ok <;>simp[ht,hb,hs,hv]
  ·simp[ux,xb,sm,td,mj,ais,aue]
   by_cases ht:tr=0 <;>by_cases hb:b.n=0 <;>by_cases hs:ka=jf <;>by_cases hv:v=0 <;>cases ok <;>cases htl:yw v <;>simp[ht,hb,hs,hv,htl] <;>first|omega| (subst hv;simp[yw] at htl)|skip
  ·simp[ux,xb,sm,td,mj,asx]
   by_cases ht:0 < tr <;>by_cases hb:0 < b.n <;>by_cases hs:ka=jf <;>by_cases hv:v=0 <;>cases ok <;>simp[ht,hb,hs,hv] <;>first|rfl| (simp[yw];done)|skip
  ·simp[ux,xb,sm,td,mj,ais]
   by_cases ht:tr=0 <;>by_cases hb:b.n=0 <;>by_cases hs:ka=jf <;>by_cases hv:v=0 <;>cases ok <;>simp[ht,hb,hs,hv] <;>first|omega|skip
  ·simp[ux,xb,sm,td,mj,asb]
   by_cases ht:0 < tr <;>by_cases hb:b=jf <;>by_cases hs:ka=jf <;>cases ok <;>simp[ht,hb,hs]
  ·simp[ux,xb,sm,td,mj,ala]
   cases zn tr ls <;>by_cases ht:0 < tr <;>by_cases hb:0 < b.n <;>by_cases hs:ka=jf <;>by_cases hv:v=0 <;>cases ok <;>simp[ht,hb,hs,hv]
  ·simp[ux,xb,sm,td,mj,aog]
   cases abj 0 lu <;>by_cases ht:0 < tr <;>by_cases hb:b=jf <;>by_cases hs:ka=jf <;>by_cases hv:v=0 <;>cases ok <;>simp[ht,hb,hs,hv]
 unfold wq ase aab
 generalize decide (lm=re p lm)=A
 generalize decide (lu=qx p lu)=B
 generalize xt ls (qw p ls)=C
 cases A <;>cases B <;>cases C <;>simp <;>simpa using core
theorem ym{p q q':Pk}(h1:q.jh=q'.jh)(h2:q.tr=q'.tr)(h3:q.b=q'.b)(h4:q.ka=q'.ka)(h5:q.v=q'.v)(h6:q.ok=q'.ok):mj p q=mj p q':=by
 unfold mj;rw[h1,h2,h3,h4,h5,h6]
theorem bbi{w:World}{p:Pk}{ls:List Spn}{lm:List Mem}{lu:List Int}{t:Value}(ht:ThR w p ls lm lu t)(hk:1<=p.jh/\p.jh<=10)(l1:ls.length<=1000000)(l2:lm.length<=1000000)(l3:lu.length<=1000000){K:KV}
  (h: ∀w' q,zd w' q (qw p ls) (re p lm) (qx p lu)->(∀x,mj x q=mj x (sm p))->Fz w w'->K (pkA q) w'):ik P F.bh [t] w K:=by
 have e0:([]:List Spn).length<=1000000:=by simp
 have e1:([]:List Mem).length<=1000000:=by simp
 have e2:([]:List Int).length<=1000000:=by simp
 cases ht with
 | kt v q hs=>
  have hS:qw p ls=ls:=by unfold qw;rw[if_pos (by omega)]
  have hM:re p lm=[]:=by unfold re;rw[if_neg (by omega)]
  have hU:qx p lu=[]:=by unfold qx;rw[if_neg (by omega)]
  rw[hS,hM,hU] at h
  refine apd hs l1 fun w' v' s f=>h w' _ ⟨s,Sl.nil,Sl.nil,l1,e1,e2⟩ (fun x=>ym ?_ ?_ ?_ ?_ ?_ ?_) f
  all_goals rcases q with q|q <;>simp[sm,td,q]
 | amf v q hs=>
  have hS:qw p ls=[]:=by unfold qw;rw[if_neg (by omega)]
  have hM:re p lm=lm:=by unfold re;rw[if_pos (by omega)]
  have hU:qx p lu=[]:=by unfold qx;rw[if_neg (by omega)]
  rw[hS,hM,hU] at h
  refine amu hs l2 fun w' v' s f=>h w' ⟨3,0,jf,jf,0,false,kq,v',kq⟩ ⟨Sl.nil,s,Sl.nil,e0,l2,e2⟩ (fun x=>ym ?_ ?_ ?_ ?_ ?_ ?_) f
  all_goals simp[sm,td,q]
 | ask q=>
  have hS:qw p ls=[]:=by unfold qw;rw[if_neg (by omega)]
  have hM:re p lm=[]:=by unfold re;rw[if_neg (by omega)]
  have hU:qx p lu=[]:=by unfold qx;rw[if_neg (by omega)]
  rw[hS,hM,hU] at h
  refine atp fun w' f=>h w' _ ⟨Sl.nil,Sl.nil,Sl.nil,e0,e1,e2⟩ (fun x=>ym ?_ ?_ ?_ ?_ ?_ ?_) f
  all_goals rcases q with q|q <;>simp[sm,bie,q]
 | acj q=>
  have hS:qw p ls=[]:=by unfold qw;rw[if_neg (by omega)]
  have hM:re p lm=[]:=by unfold re;rw[if_neg (by omega)]
  have hU:qx p lu=[]:=by unfold qx;rw[if_neg (by omega)]
  rw[hS,hM,hU] at h
  refine apj fun w' f=>h w' _ ⟨Sl.nil,Sl.nil,Sl.nil,e0,e1,e2⟩ (fun x=>ym ?_ ?_ ?_ ?_ ?_ ?_) f
  all_goals rcases q with q|q <;>simp[sm,q]
 | ud q=>
  have hS:qw p ls=[]:=by unfold qw;rw[if_neg (by omega)]
  have hM:re p lm=[]:=by unfold re;rw[if_neg (by omega)]
  have hU:qx p lu=[]:=by unfold qx;rw[if_neg (by omega)]
  rw[hS,hM,hU] at h
  refine ars fun w' f=>h w' _ ⟨Sl.nil,Sl.nil,Sl.nil,e0,e1,e2⟩ (fun x=>ym ?_ ?_ ?_ ?_ ?_ ?_) f
  all_goals simp[sm,td,q]
 | zp v q hs=>
  have hS:qw p ls=ls:=by unfold qw;rw[if_pos (by omega)]
  have hM:re p lm=[]:=by unfold re;rw[if_neg (by omega)]
  have hU:qx p lu=[]:=by unfold qx;rw[if_neg (by omega)]
  rw[hS,hM,hU] at h
  refine anu hs l1 fun w' v' s f=>h w' _ ⟨s,Sl.nil,Sl.nil,l1,e1,e2⟩ (fun x=>ym ?_ ?_ ?_ ?_ ?_ ?_) f
  all_goals simp[sm,td,q]
 | aci v q hs=>
  have hS:qw p ls=[]:=by unfold qw;rw[if_neg (by omega)]
  have hM:re p lm=[]:=by unfold re;rw[if_neg (by omega)]
  have hU:qx p lu=lu:=by unfold qx;rw[if_pos (by omega)]
  rw[hS,hM,hU] at h
  refine aph hs l3 fun w' v' s f=>h w' _ ⟨Sl.nil,Sl.nil,s,e0,e1,l3⟩ (fun x=>ym ?_ ?_ ?_ ?_ ?_ ?_) f
  all_goals simp[sm,td,q]
 | none q=>exact absurd hk q
theorem bbw{p:Pk}{ls:List Spn}{lm:List Mem}{lu:List Int}(h: ¬(1<=p.jh/\p.jh<=10)):wq p ls lm lu=false:=by
 unfold wq xb
 rw[if_neg (by omega),if_neg (by omega),if_neg (by omega),if_neg (by omega),if_neg (by omega),if_neg (by omega),if_neg (by omega),if_neg (by omega),if_neg (by omega),Bool.and_false]
theorem ajm{w:World}{p:Pk}{ls:List Spn}{lm:List Mem}{lu:List Int}(hp:zd w p ls lm lu)(hr:ahl p){K:KV}(h: ∀w',Fz w w'->K (.int .i64 (anw p ls lm lu)) w'):ik P F.dq [pkA p] w K:=by
 rw[M.dx.fcall]
 apply M.dx.calls
 unfold M.dx
 refine St.uf (St.km w) fun pb w1 S1=>?_
 have S1':St w w1 (jd pb (pkC p).toArray T.c :: []):=S1
 have pl:=fun K=>vw S1' K
 simp[pl]
 refine arl (hp.fr S1.fr) fun w2 t ht _ f2=>?_
 have S2:=S1'.ju f2
 have S3:=S2.ju ((Fr.refl _ w2).dr 1)
 unfold anw at h
 by_cases hk:1<=p.jh/\p.jh<=10
 case neg=>
  rw[ht.bqn hk]
  rw[bbw hk] at h
  simp[blb]
  exact h _ S3.fr
 rw[<-bfx hr hk] at h
 simp[ht.eqn hk]
 have ht3:=ht.fr ((Fr.refl _ w2).dr 1)
 refine blf ht3 hk hp.ls hp.lm hp.lu fun w4 f4=>?_
 have S4:=S3.ju f4
 have pl4:=fun K=>vw S4 K
 cases hb:ux p ls lm lu with
 | false=>
  rw[hb] at h
  simp
  exact h _ S4.fr
 | true=>
 rw[hb,Bool.true_and] at h
 simp[pl4]
 refine bbi (ht3.fr f4) hk hp.ls hp.lm hp.lu fun w5 q hq hf f5=>?_
 have S5:=S4.ju f5
 have pl5:=fun K=>vw S5 K
 simp[pl5]
 refine bgr (hp.fr S5.fr) hq fun w6 f6=>?_
 have S6:=S5.ju f6
 have fin:=h w6 S6.fr
 have e:aab p q ls (qw p ls) lm (re p lm) lu (qx p lu)=aab p (sm p) ls (qw p ls) lm (re p lm) lu (qx p lu):=by unfold aab;rw[hf p]
 rw[e]
 generalize aab p (sm p) ls (qw p ls) lm (re p lm) lu (qx p lu)=bb at *
 cases bb with
 | true=>simp at fin⊢;exact fin
 | false=>simp at fin⊢;exact fin
theorem asj{w:World}{p:Pk}{ls:List Spn}{lm:List Mem}{lu:List Int}(hp:zd w p ls lm lu)(hr:ahl p){K:KV}(h1:wq p ls lm lu=true->∀w' t,ThR w' p ls lm lu t->alr w t->Fz w w'->K (.tuple #[t,.int .i64 0]) w')(h0:wq p ls lm lu=false->∀w',Fz w w'->K (.tuple #[.nilIface,.int .i64 6]) w'):ik P F.ft [pkA p] w K:=by
 rw[M.fe.fcall]
 apply M.fe.calls
 unfold M.fe
 refine St.uf (St.km w) fun pb w1 S1=>?_
 have S1':St w w1 (jd pb (pkC p).toArray T.c :: []):=S1
 have pl:=fun K=>vw S1' K
 simp[pl]
 refine ajm (hp.fr S1.fr) hr fun w2 f2=>?_
 have S2:=S1'.ju f2
 unfold anw
 cases he:wq p ls lm lu with
 | false=>
  simp
  exact h0 he w2 S2.fr
 | true=>
  simp
  have pl2:=fun K=>vw S2 K
  simp[pl2]
  refine arl (hp.fr S2.fr) fun w3 t ht ho f3=>?_
  exact h1 he w3 t ht (ho.mono S2.fr.size) (S2.ju f3).fr
structure Evn where
 jh:Int
 at':Int
 jr:Int
 tr:Int
 b:Bal
 v:Int
 s:Spn
 k:Int
def evC(e:Evn):List Value:=[.int .i64 e.jh,.int .u64 e.at',.int .u64 e.jr,.int .u64 e.tr,.int .u64 e.b.n,.int .u64 e.b.jr,.int .i64 e.v,.int .u64 e.s.jj,.int .u64 e.s.id,.int .u64 e.s.nn,.int .u64 e.s.km,.int .u64 e.s.len,.string e.s.kz,.string e.s.name,.bool e.s.pp,.int .i64 e.k]
theorem agt(e:Evn):(evC e).length=16:=rfl
theorem apr(e:Evn): ∀u∈evC e,lc u=true:=fun u hu=>by
 simp only[evC,List.mem_cons,List.not_mem_nil,or_false] at hu
 rcases hu with rfl|rfl|rfl|rfl|rfl|rfl|rfl|rfl|rfl|rfl|rfl|rfl|rfl|rfl|rfl|rfl <;>rfl
abbrev nh(v:Value)(l:List Evn):Asn:=qa T.ar 16 evC v l
structure Ltr where
 frm:Int
 to:Int
 p:Pk
 ok: ∀u∈pkC p,lc u=true
def ltC(l:Ltr):List Value:=[.int .u64 l.frm,.int .u64 l.to] ++ pkC l.p
theorem abq(l:Ltr):(ltC l).length=13:=rfl
theorem bll(l:Ltr): ∀u∈ltC l,lc u=true:=fun u hu=>by
 unfold ltC at hu
 rcases List.mem_append.1 hu with hu|hu
 ·simp only[List.mem_cons,List.not_mem_nil,or_false] at hu
  rcases hu with rfl|rfl <;>rfl
 ·exact l.ok u hu
abbrev nc(v:Value)(l:List Ltr):Asn:=qa T.bj 13 ltC v l
structure Cl where
 inc:Int
 tr:Int
 sp:Int
 pol:ByteArray
 rep:Value
 rul:Value
 tb:Nat
 hb:Nat
 kb:Nat
 ru:Nat
 se:Nat
 un:Nat
 kx:Bal
 qg:Int
 now:Int
 out:Value
 ev:Value
 bad:Int
 boi:Int
def clC(q:Cl):Array Value:= #[.int .u64 1,.int .u64 q.inc,q.rep,.int .u64 200,.int .i64 3,.int .u64 5,.int .u64 20,.int .u64 10,.int .u64 4,.int .i64 q.tr,.int .i64 q.sp,.int .i64 4,.string q.pol,q.rul,.pointer (some ⟨q.tb,0,none⟩),.pointer (some ⟨q.hb,0,none⟩),.pointer (some ⟨q.kb,0,none⟩),.map (some q.ru),.map (some q.se),.map (some q.un),.int .u64 q.kx.n,.int .u64 q.kx.jr,.int .u64 q.qg,.int .u64 q.now,q.out,q.ev,.int .u64 q.bad,.int .u64 q.boi]
abbrev clA(p:Nat)(q:Cl):Asn:=jd p (clC q) T.b
abbrev kl(p:Nat):Value:= .pointer (some ⟨p,0,none⟩)
def ajv(a0:Int)(r:Nat):Array Value:= #[.int .u64 a0,.int .u64 0,.int .u64 0,.int .u64 0,.int .u64 0,.int .u64 0,.int .u64 0,.int .u64 0,.int .u64 0,.int .u64 0,.int .u64 0,.int .u64 0,.int .u64 0,.int .u64 0,.int .u64 0,.int .u64 0,.int .u64 0,.int .u64 0,.int .u64 0,.int .u64 0,.int .u64 0,.int .u64 0,.int .u64 0,.int .u64 0,.int .u64 0,.int .u64 0,.int .u64 0,.int .u64 0,.int .u64 0,.int .u64 0,.int .u64 0,.int .u64 0,.int .u64 0,.int .u64 0,.int .u64 0,.int .u64 0,.int .u64 0,.int .u64 0,.int .u64 0,.int .u64 0,.int .u64 0,.int .u64 0,.int .u64 0,.int .u64 0,.int .u64 0,.int .u64 0,.int .u64 0,.int .u64 0,.int .u64 0,.int .u64 0,.int .u64 0,.int .u64 0,.int .u64 0,.int .u64 0,.int .u64 0,.int .u64 0,.int .u64 0,.int .u64 0,.int .u64 0,.int .u64 0,.int .u64 0,.int .u64 0,.int .u64 0,.int .u64 0,.int .i64 0,.int .i64 4,.map (some r)]
def qf(kb:Nat)(a0:Int)(m:MP):Asn where
 ok w B:= ∃r,Rs [jd kb (ajv a0 r) T.ay,jm r .u64 m] w B
 jl:=by
  rintro w w' B S ⟨r,h⟩ hf hn
  exact⟨r,h.jl hf hn⟩
section
variable {w0 w : World} {R : List Asn} {kb : Nat} {a0 : Int} {m : MP}
theorem bjz(S:St w0 w (qf kb a0 m :: R)): ∃r,St w0 w (jd kb (ajv a0 r) T.ay :: jm r .u64 m :: R):=by
 obtain⟨B,⟨r,h⟩,_,cl⟩:=S.open
 exact⟨r,cl w [jd kb (ajv a0 r) T.ay,jm r .u64 m] (Fr.refl _ _) (h.mono fun b hb=> .inl hb)⟩
theorem bjr{r:Nat}(S:St w0 w (jd kb (ajv a0 r) T.ay :: jm r .u64 m :: R)):St w0 w (qf kb a0 m :: R):=by
 obtain⟨U,h1,_,g⟩:=St.akw (L:=[jd kb (ajv a0 r) T.ay,jm r .u64 m]) (R:=R) S
 exact g w [qf kb a0 m] (Fr.refl _ _) ⟨U,⟨r,h1⟩,fun b hb=> .inl hb,trivial⟩
theorem axo(S:St w0 w R){K:KV}(h: ∀w' kb,St w0 w' (qf kb 0 [] :: R)->K (.tuple #[.pointer (some ⟨kb,0,none⟩),.int .i64 0]) w'):ik P F.gp [.int .i64 4] w K:=by
 rw[M.gf.fcall]
 apply M.gf.calls
 unfold M.gf
 have S1:=S.akk .u64
 have S2:=S1.mkB (ajv 0 w.heap.size) T.ay
 simp only[jg] at S2
 simp[zu]
 exact h _ _ (bjr S2)
theorem apy(S:St w0 w (qf kb a0 m :: R))(t:Int){K:KV}(h:K ((kh m t).getD (.int .i64 0)) w):ik P F.cu [.pointer (some ⟨kb,0,none⟩),.int .u64 t] w K:=by
 obtain⟨r,S1⟩:=bjz S
 rw[M.el.fcall]
 apply M.el.calls
 unfold M.el
 have c:iq w kb 66=some (.map (some r)):=by rw[S1.cell];rfl
 simp[c]
 rw[tp mt.al S1.swap.mp]
 exact h
theorem blx(S:St w0 w (qf kb 0 [] :: R)){t v:Int}(ht:t≠0)(hv:1<=v/\v<=3){K:KV}(h: ∀w',St w0 w' (qf kb t [(t,.int .i64 v)] :: R)->K (.bool true) w'):ik P F.eu [.pointer (some ⟨kb,0,none⟩),.int .u64 t,.int .i64 v] w K:=by
 obtain⟨r,S1⟩:=bjz S
 rw[M.bz.fcall]
 apply M.bz.calls
 unfold M.bz
 have c:iq w kb 66=some (.map (some r)):=by rw[S1.cell];rfl
 have c65:iq w kb 65=some (.int .i64 4):=by rw[S1.cell];rfl
 have v1: ¬v < 1:=by omega
 have v2: ¬3 < v:=by omega
 simp[ht,v1,v2]
 unfold M.bz.j0
 simp[c]
 rw[akp mt.al S1.swap.mp]
 simp[kh]
 unfold M.bz.j1
 have ia: ∀w' K,iaT P T.ca (.pointer (some ⟨kb,0,none⟩)) (.int .i64 0) w' K=K (.pointer (some ⟨kb,0,none⟩)) w':=fun w' K=>kr
 have hl:=fun cs K=>ack (ty:=T.d) mt.al S1.swap.mp cs K
 simp[c,hl,c65,ia]
 refine St.oh S1 rfl (by simp[ajv]) fun w2 S2=>?_
 have S3:St w0 w2 (jd kb (ajv t r) T.ay :: jm r .u64 [] :: R):=S2
 have d:iq w2 kb 66=some (.map (some r)):=by rw[S3.cell];rfl
 simp[d]
 exact St.azu mt.al S3.swap t _ fun w4 S4=>h w4 (bjr S4.swap)
end
theorem aoj: ∀l:List Int,(l.flatMap og).length=l.length * 8
 | []=>rfl
 | x :: l=>by rw[List.flatMap_cons,List.length_append,ur,aoj l,List.length_cons];omega
section
variable {w0 w : World} {R : List Asn}
end
def afl(b:Bool):Int:=if b=true then 1 else 0
def aem(s:ByteArray):List Int:=(s.size:Int) :: aar s
def tw(s:Spn):List Int:=[s.jj,s.id,s.nn,s.km,s.len]
def ahj(s:Spn):List Int:=(tw s).flatMap og ++ [afl s.pp] ++ aem s.kz ++ aem s.name
theorem aql{s:Spn}(h:ll s=0):s.kz.size<=32/\s.name.size<=32:=by
 unfold ll at h
 split at h
 ·cases h
 ·unfold orK at h
  have hn: ∀b:ByteArray,rz b=0->b.size<=32:=fun b hb=>by
   unfold rz at hb
   split at hb
   ·cases hb
   ·rename_i hh
    have:=not_or.1 hh
    omega
  by_cases ha:rz s.kz=0
  ·by_cases hb:rz s.name=0
   ·exact⟨hn _ ha,hn _ hb⟩
   ·simp[ha,hb] at h
  ·simp[ha] at h
section
variable {w0 w : World} {R : List Asn}
end
end Go.Proofs.YtgepcfcicngceaaGreatDoor
