/-
  ReplicaOnce: the proposals. No condition.
-/
import Derived.Test.YtfnhoaemapheoaaGreatZRg5
set_option maxRecDepth 100000
namespace Go.Proofs.YtfnhoaemapheoaaGreat
open Go.Eng Go.Proofs.YtfnhoaemapheoaaGreat.Sint
abbrev sg (v : Value) (l : List Int) : Asn := pp T.b 1 mj v l
theorem asr (x : Int) : ∀ u ∈ mj x, jf u = true := fun u hu => by
 rw [List.mem_singleton.1 hu]; rfl
def pt (b : Bal) (v : Int) : Pk := pk0 6 1 b gy v false
def agt (b : Bal) (v : Int) : PkE := ⟨pt b v, [], [], []⟩
theorem aiz {b : Bal} (v : Int) (h : b.rng) : vn (pt b v) := ⟨by show (0 : Int) ≤ 1 ∧ (1 : Int) < _; omega, h, ⟨by show (0 : Int) ≤ 0 ∧ (0 : Int) < _; omega, by show (0 : Int) ≤ 0 ∧ (0 : Int) < _; omega⟩⟩
theorem awe (b : Bal) (v : Int) : afv (agt b v) = pkC (pt b v) := rfl
structure TkR (tl : List PkE) (who : List Int) (tk : List (Nat × Nat)) (val fo : Nat → Int) : Prop where
 who : who = tk.map fun p => (p.1 : Int)
 tl : tl.map (fun t => (t.p.b, t.p.v)) = tk.map fun p => ((⟨(p.2 : Int) + 1, fo p.2⟩ : Bal), val p.2)
section
variable {W w : World} {x : Vt} {i : Nat} {b : Bal} {cs : List Cel} {qs hs : List Nat} {R : List Asn} {av : Value} {val fo : Nat → Int} {prop : Nat → Prop} {tk : List (Nat × Nat)} {vb bb : Nat} {v : Int} {tl : List PkE} {who : List Int} {tv wv : Value}
theorem bbd (S : St W w R) (b : Bal) (v : Int) {K : KV} (h : ∀ w' v', St W w' (tw v' [agt b v] :: R) → K v' w') : bsT P T.z 1 #[(0, pkA (pt b v))] w K := by
 have hb : bsT P T.z 1 #[(0, pkA (pt b v))] w K = K (.slice (some ⟨w.heap.size, 0, none⟩) 1 1) (w.alloc (.cells (pkC (pt b v)).toArray T.a)) := by
  unfold pkA
  simp [pkC]
 rw [hb]
 exact h _ _ (St.ti (l := [agt b v]) S tu (by simp [awe]) (by simp [maxLen]))
theorem akl {l2 : List PkE} {v2 : Value} (S : St W w (tw tv tl :: R)) (hs : Sl w 11 afv v2 l2) (hl : tl.length + l2.length ≤ 1000000000) {c : List Bool} {K : KV} (h : ∀ w' v', St W w' (tw v' (tl ++ l2) :: R) → K v' w') : biT P .append #[T.z, T.z] T.z c [tv, v2] w K :=
 Go.Eng.ri et.z tu axo S hs hl (by decide) h
theorem aif {l2 : List Int} {v2 : Value} (S : St W w (sg wv who :: R)) (hs : Sl w 1 mj v2 l2) (hl : who.length + l2.length ≤ 1000000000) {c : List Bool} {K : KV} (h : ∀ w' v', St W w' (sg v' (who ++ l2) :: R) → K v' w') : biT P .append #[T.g, T.g] T.g c [wv, v2] w K :=
 Go.Eng.ri et.g lq asr S hs hl (by decide) h
abbrev aet (cs : List Cel) (tv : Value) (tl : List PkE) (wv : Value) (who : List Int) (vb : Nat) (x : Vt) (bb : Nat) (b : Bal) (R : List Asn) : List Asn := ni cs :: tw tv tl :: sg wv who :: pk vb x :: si bb b :: R
theorem ame {w3 : World} {pq rq : Nat} {A : Pk} {is : Bool} {cs' : List Cel} {y26 x23 : List Value} {K25 : KL} {K : KV} {B : Int} {j : Nat} (V : abo W x i b) (hjl : j < x.po.length) (ht : Tri cs qs hs B) (hT : Tri cs' qs hs (B + 1)) (hA : Agr (i + 1) (jh cs) val fo prop tk) (hk : TkR tl who tk val fo) (hp : prop i) (hv : val i = v) (hn : fo i = x.fo) (hO : ayx cs cs' (pt b v) x.po[j] A is) (hlen : tl.length ≤ 1000) (g1 : gv x23 1 = tv) (g2 : gv x23 2 = wv) (g3 : gv x23 3 = .int .i64 (j : Nat)) (e11 : gv y26 11 = .pointer (some ⟨rq, 0, none⟩)) (e12 : gv y26 12 = .bool is)
  (S : St W w3 (fq rq (pkC A).toArray T.a :: fq pq (pkC (pt b v)).toArray T.a :: aet cs' tv tl wv who vb x bb b R))
  (hK : ∀ y25 w' tv' tl' wv' who' tk', Agr (i + 1) (jh cs') val fo prop tk' → TkR tl' who' tk' val fo → tl'.length ≤ tl.length + 1 → gv y25 1 = tv' → gv y25 2 = wv' → St W w' (aet cs' tv' tl' wv' who' vb x bb b R) → K25 y25 w') :
  M.a.j26 y26 (.pointer (some ⟨pq, 0, none⟩)) (.pointer (some ⟨vb, 0, none⟩)) x23 K25 w3 K := by
 have fv : ∀ {w' : World} {L : List Asn}, St W w' (pk vb x :: L) → fi w' vb 3 = some x.tv := fun S' => (ue S').2.2.2.1
 have pl : ∀ {w' : World} {L : List Asn}, St W w' (fq pq (pkC (pt b v)).toArray T.a :: L) → ∀ K, ldN P 11 pq 0 w' K = K (pkA (pt b v)) w' := fun S' K => uj S' K
 obtain ⟨ab, ao, hia, hac⟩ := age V.vt.po.1 hjl
 generalize x.po[j] = idx at *
 have hwl : who.length = tl.length := by
  have h1 := congrArg List.length hk.tl
  rw [List.length_map, List.length_map] at h1
  rw [hk.who, List.length_map, h1]
 unfold M.a.j26
 have skip : ∀ y25, jh cs' = jh cs → gv y25 1 = tv → gv y25 2 = wv → K25 y25 w3 := fun y25 hg d1 d2 =>
  hK y25 w3 tv tl wv who tk (by rw [hg]; exact hA) hk (by omega) d1 d2 S.drop.drop
 rcases hO with ⟨rfl, hm⟩ | ⟨rfl, z, hz, hidx, hAe, hm⟩
 ·simp [e12]
  exact skip _ (aer hm) g1 g2
 ·subst hidx
  obtain ⟨s, f, G, I, _⟩ := ht.ok _ (List.getElem_mem hz)
  have z3 : z < 3 := by have := ht.n; omega
  have hg : jh cs' = pm (jh cs) z ((jh cs z).acc b v).1 := by
   rw [aps hz hm]
   congr 1
   show kz (sy cs[z].m true 1 b v) 1 = _
   rw [alu I.asc, aco hz]
   rfl
  have hA' : A = abr ((jh cs z).acc b v).1 1 b ((jh cs z).acc b v).2 true := by rw [hAe, aco hz]; rfl
  obtain ⟨_, _, _, _, _, a5, _⟩ := km S
  cases hok : ((jh cs z).acc b v).2 with
  | false =>
   have hAo : A.ok = false := by rw [hA', hok]; rfl
   rw [hAo] at a5
   simp [e11, e12, a5]
   exact skip _ (by rw [hg, bdc hok, aea]) g1 g2
  | true =>
   have hAo : A.ok = true := by rw [hA', hok]; rfl
   rw [hAo] at a5
   simp [e11, e12, a5]
   have hb : b = ⟨(i : Int) + 1, fo i⟩ := by rw [V.b, hn]
   have hg2 : Agr (i + 1) (jh cs') val fo prop (tk ++ [(z, i)]) := by
    rw [hg, ayc hok]
    have := bal (p := b) hA hp z3
    rw [← hb, hv] at this
    exact this
   have hk2 : TkR (tl ++ [agt b v]) (who ++ [(z : Int)]) (tk ++ [(z, i)]) val fo := by
    refine ⟨by rw [hk.who]; simp, ?_⟩
    rw [List.map_append, List.map_append, hk.tl]
    congr 1
    show [(b, v)] = [((⟨(i : Int) + 1, fo i⟩ : Bal), val i)]
    rw [← hb, hv]
   have done : ∀ y25 w' tv' wv', gv y25 1 = tv' → gv y25 2 = wv' → St W w' (aet cs' tv' (tl ++ [agt b v]) wv' (who ++ [(z : Int)]) vb x bb b R) → K25 y25 w' := fun y25 w' tv' wv' d1 d2 S' => hK y25 w' tv' _ wv' _ _ hg2 hk2 (by simp) d1 d2 S'
   have S2 := (S.drop).iq ((Fr.refl _ w3).dr 1)
   simp [g1, g2, g3, pl S2, fv S2.up4, hia, hac S2]
   have ends : ∀ {w' : World} {v5 v6 : Value} {a1 a2 a3 : Asn} (y25 : List Value), gv y25 1 = v5 → gv y25 2 = v6 → St W w' (sg v6 (who ++ [(z : Int)]) :: tw v5 (tl ++ [agt b v]) :: a1 :: a2 :: a3 :: ni cs' :: pk vb x :: si bb b :: R) → K25 y25 w' := fun {w' v5 v6 a1 a2 a3} y25 d1 d2 S' =>
    done y25 w' v5 v6 d1 d2 ((S'.up2.drop.up2.drop.up2.drop).up2.tail (.swap _ _ _))
   refine ⟨?_, ?_⟩
   ·refine bbd S2 b v fun w5 n5 S5 => ?_
    simp [hac S5, fv (up5 S5)]
    refine ⟨?_, ?_⟩
    ·refine akl S5.up3 (S5.row tu) (by simp; omega) fun w6 v6 S6 => ?_
     have S7 : St W (w6.alloc (.cells #[.int .i64 z] T.b)) (sg (.slice (some ⟨w6.heap.size, 0, none⟩) 1 1) [(z : Int)] :: _) := St.ti (l := [(z : Int)]) S6 lq rfl (by simp [maxLen])
     simp [hac S6, fv (up5 S6), pl S7.up3]
     refine aif (up5 S7) (S7.row lq) (by simp; omega) fun w8 v8 S8 => ?_
     exact ends [_, v6, v8] rfl rfl (S8.tail (.swap _ _ _))
    ·have S6 : St W (w5.alloc (.cells #[.int .i64 z] T.b)) (sg (.slice (some ⟨w5.heap.size, 0, none⟩) 1 1) [(z : Int)] :: _) := St.ti (l := [(z : Int)]) S5 lq rfl (by simp [maxLen])
     simp [pl S6.up2]
     refine akl S6.up4 (S6.swap.row tu) (by simp; omega) fun w7 v7 S7 => ?_
     simp [hac S7, fv (up6 S7)]
     refine aif (up5 S7) (S7.swap.row lq) (by simp; omega) fun w8 v8 S8 => ?_
     exact ends [_, v7, v8] rfl rfl S8
   ·have S3 : St W ((dr w3 1).alloc (.cells #[.int .i64 z] T.b)) (sg (.slice (some ⟨(dr w3 1).heap.size, 0, none⟩) 1 1) [(z : Int)] :: _) := St.ti (l := [(z : Int)]) S2 lq rfl (by simp [maxLen])
    simp [pl S3.swap]
    refine bbd S3 b v fun w5 n5 S5 => ?_
    simp [hac S5, fv (up6 S5)]
    refine akl S5.up4 (S5.row tu) (by simp; omega) fun w6 v6 S6 => ?_
    simp [hac S6, fv (up6 S6)]
    refine aif (up5 S6) (S6.up2.row lq) (by simp; omega) fun w8 v8 S8 => ?_
    exact ends [_, v6, v8] rfl rfl S8
end
set_option maxRecDepth 100000
open Go.Eng Go.Proofs.YtfnhoaemapheoaaGreat.Sint
section
variable {W w : World} {x : Vt} {i : Nat} {b : Bal} {cs : List Cel} {qs hs : List Nat} {R : List Asn} {av : Value} {val fo : Nat → Int} {prop : Nat → Prop} {tk : List (Nat × Nat)} {vb bb : Nat} {v : Int} {tl : List PkE} {who : List Int} {tv wv : Value}
def bdz (W : World) (i : Nat) (x : Vt) (b : Bal) (val fo : Nat → Int) (prop : Nat → Prop) (qs hs : List Nat) (B : Int) (n0 : Nat) (vb bb : Nat) (R : List Asn) : KL := fun y w1 => ∃ (cs : List Cel) (tv : Value) (tl : List PkE) (wv : Value) (who : List Int) (tk : List (Nat × Nat)) (j : Nat), gv y 1 = tv ∧ gv y 2 = wv ∧ gv y 3 = .int .i64 (j : Nat) ∧ j ≤ x.po.length ∧ Tri cs qs hs (B + j) ∧ Agr (i + 1) (jh cs) val fo prop tk ∧ TkR tl who tk val fo ∧ tl.length ≤ n0 + j ∧ St W w1 (aet cs tv tl wv who vb x bb b R)
theorem avm {K9 : KL} {K : KV} {x1 x11 x17 : List Value} {t111 t17 u0 : Value} {B : Int} (S : St W w (aet cs tv tl wv who vb x bb b R)) (V : abo W x i b) (hT : Tri cs qs hs B) (hA : Agr (i + 1) (jh cs) val fo prop tk) (hk : TkR tl who tk val fo) (hp : prop i) (hv : val i = v) (hn : fo i = x.fo) (hall : ∀ w' L, St W w' (L ++ R) → Sl w' 1 tc av qs) (hB : B + 10 ≤ 1000000000000) (hlen : tl.length ≤ 900) (g7 : gv x1 7 = av) (g4 : gv x11 4 = .int .i64 v)
  (h : ∀ w' cs' tv' tl' wv' who' tk' y, Tri cs' qs hs (B + 10) → Agr (i + 1) (jh cs') val fo prop tk' → TkR tl' who' tk' val fo → tl'.length ≤ tl.length + 10 → gv y 16 = tv' → gv y 17 = wv' → St W w' (aet cs' tv' tl' wv' who' vb x bb b R) → K9 y w') :
  gm [u0, tv, wv, .int .i64 0] w fun K23 x23 w => M.a.j23 (.pointer (some ⟨vb, 0, none⟩)) x23 K9 (.pointer (some ⟨bb, 0, none⟩)) t111 t17 x11 x17 x1 K23 w K := by
 have htl := V.po
 refine ⟨bdz W i x b val fo prop qs hs B tl.length vb bb R, fun y _ => x.po.length - ms y 3, ⟨cs, tv, tl, wv, who, tk, 0, rfl, rfl, rfl, Nat.zero_le _, hT.mono (by omega), hA, hk, Nat.le_refl _, S⟩, ?_⟩
 generalize htn : tl.length = n0 at *
 rintro x23 w1 ⟨cs1, tv1, tl1, wv1, who1, tk1, j, y1, y2, y3, hj, hT1, hA1, hk1, hl1, S1⟩
 have fv : ∀ {w' : World} {L : List Asn}, St W w' (pk vb x :: L) → fi w' vb 3 = some x.tv := fun S' => (ue S').2.2.2.1
 have tlen : ∀ w' K, biT P .len #[T.g] T.b [false] [x.tv] w' K = K (.int .i64 x.po.length) w' := fun w' K => V.vt.po.1.ii (by kernel_rfl) [false]
 unfold M.a.j23
 rw [y3]
 by_cases hjl : j < x.po.length
 case neg =>
  simp [fv S1.up3, tlen, hjl]
  exact h w1 cs1 tv1 tl1 wv1 who1 tk1 _ (hT1.mono (by omega)) hA1 hk1 (by omega) y1 y2 S1
 have hwi : IntKind.i64.wrap ((j : Int) + 1) = ((j + 1 : Nat) : Int) := by rw [fj (by omega) (by omega)]; rfl
 simp [fv S1.up3, tlen, hjl]
 unfold M.a.j24
 rw [y3, g7, g4]
 obtain ⟨ab, ao, hia, hac⟩ := age V.vt.po.1 hjl
 have hr := V.vt.po.2 _ (List.getElem_mem hjl)
 have fb : ∀ {w' : World} {L : List Asn}, St W w' (si bb b :: L) → ∀ K, ldN P 2 bb 0 w' K = K (jm b) w' := fun S' => (sj S').2.2
 have hbld : ∀ w' K, ik P T.a #[(0, .int .i64 6), (1, .int .u64 1), (2, jm b), (4, .int .i64 v)] w' K = K (pkA (pt b v)) w' := fun w' K => by
  unfold jm
  simp
  rfl
 have fin : ∀ y25 w' cs' tv' tl' wv' who' tk', Tri cs' qs hs (B + j + 1) → Agr (i + 1) (jh cs') val fo prop tk' → TkR tl' who' tk' val fo → tl'.length ≤ tl1.length + 1 → gv y25 1 = tv' → gv y25 2 = wv' → St W w' (aet cs' tv' tl' wv' who' vb x bb b R) → (fun y w => bdz W i x b val fo prop qs hs B n0 vb bb R y w ∧ x.po.length - ms y 3 < x.po.length - ms x23 3) [gv y25 0, gv y25 1, gv y25 2, .int .i64 (IntKind.i64.wrap ((j : Int) + 1))] w' := fun y25 w' cs' tv' tl' wv' who' tk' hT' hA' hk' hl' d1 d2 S' => by
  rw [hwi]
  refine ⟨⟨cs', tv', tl', wv', who', tk', j + 1, d1, d2, rfl, by omega, hT'.mono (by omega), hA', hk', by omega, S'⟩, ?_⟩
  have : ms x23 3 = j := by unfold ms; rw [y3]; simp
  rw [this]
  simp [ms, gv]; omega
 simp [fb S1.up4, hbld]
 have S2 := vp S1
 generalize w1.heap.size = pq at *
 generalize w1.alloc _ = w2 at *
 rw [xj]
 refine yg (q := pt b v) S2 rfl (un _ _ _ _ _ _) fun w3 S3 => ?_
 have pl : ∀ {w' : World} {L : List Asn}, St W w' (fq pq (pkC (pt b v)).toArray T.a :: L) → ∀ K, ldN P 11 pq 0 w' K = K (pkA (pt b v)) w' := fun S' K => uj S' K
 have S4 := S3.iq ((Fr.refl _ w3).dr 1)
 have hallA : ∀ w' L, St W w' (L ++ (fq pq (pkC (pt b v)).toArray T.a :: tw tv1 tl1 :: sg wv1 who1 :: pk vb x :: si bb b :: R)) → Sl w' 1 tc av (cs1.map (·.q)) := fun w' L S' => by
  rw [hT1.q]
  exact hall w' (L ++ [_, _, _, _, _]) (by simpa using S')
 generalize hidx : x.po[j] = idx at *
 simp [fv S4.up4, hia, hac S4, pl S4]
 refine ⟨?_, ?_⟩
 ·refine ajj S4.swap hallA hr.1 (by rw [hT1.n]; omega) hT1.ok (by omega) (aff _ _ _ _ _ _ _) (aiz v V.rng) fun w5 A is cs' e1 e2 e3 e4 hA1' hO S5 => ?_
  have hT2 : Tri cs' qs hs (B + j + 1) := ⟨by rw [e1, hT1.n], by rw [e2, hT1.q], by rw [e3, hT1.h], e4⟩
  have S6 := vp S5.swap
  generalize w5.heap.size = rq at *
  generalize w5.alloc _ = w6 at *
  simp [fv (up5 S6), hia, hac S6, pl S6.swap]
  rw [xj]
  refine yg (q := A) S6 rfl hA1' fun w7 S7 => ?_
  exact ame V hjl hT1 hT2 hA1 hk1 hp hv hn (by rw [hidx]; exact hO) (by omega) y1 y2 y3 rfl rfl S7 fun y25 w' tv' tl' wv' who' tk' hA' hk' hl' d1 d2 S' => fin y25 w' cs' tv' tl' wv' who' tk' hT2 hA' hk' hl' d1 d2 S'
 ·have S5 := vp S4
  rw [show (dr w3 1).heap.size = w3.heap.size from rfl] at S5
  generalize w3.heap.size = rq at *
  generalize (dr w3 1).alloc _ = w5 at *
  have hallB : ∀ w' L, St W w' (L ++ (fq rq (pkC pkZ).toArray T.a :: fq pq (pkC (pt b v)).toArray T.a :: tw tv1 tl1 :: sg wv1 who1 :: pk vb x :: si bb b :: R)) → Sl w' 1 tc av (cs1.map (·.q)) := fun w' L S' => by
   rw [hT1.q]
   exact hall w' (L ++ [_, _, _, _, _, _]) (by simpa using S')
  simp [fv (up5 S5), hia, hac S5, pl S5.swap]
  refine ajj S5.up2 hallB hr.1 (by rw [hT1.n]; omega) hT1.ok (by omega) (aff _ _ _ _ _ _ _) (aiz v V.rng) fun w6 A is cs' e1 e2 e3 e4 hA1' hO S6 => ?_
  have hT2 : Tri cs' qs hs (B + j + 1) := ⟨by rw [e1, hT1.n], by rw [e2, hT1.q], by rw [e3, hT1.h], e4⟩
  simp
  rw [xj]
  refine yg (q := A) S6.swap rfl hA1' fun w7 S7 => ?_
  exact ame V hjl hT1 hT2 hA1 hk1 hp hv hn (by rw [hidx]; exact hO) (by omega) y1 y2 y3 rfl rfl (S7.tail (.swap _ _ _)) fun y25 w' tv' tl' wv' who' tk' hA' hk' hl' d1 d2 S' => fin y25 w' cs' tv' tl' wv' who' tk' hT2 hA' hk' hl' d1 d2 S'
end
set_option maxRecDepth 100000
open Go.Eng Go.Proofs.YtfnhoaemapheoaaGreat.Sint
def Chs (tk : List (Nat × Nat)) (val : Nat → Int) (c : Int) : Prop := c = 0 ∨ ∃ k x y, x ≠ y ∧ (x, k) ∈ tk ∧ (y, k) ∈ tk ∧ c = val k
theorem baz {tl : List PkE} {who : List Int} {tk : List (Nat × Nat)} {val fo : Nat → Int} (h : TkR tl who tk val fo) {a : Nat} (ha : a < tl.length) : ∃ (hw : a < who.length) (ht : a < tk.length), who[a] = (tk[a].1 : Int) ∧ tl[a].p.b = ⟨(tk[a].2 : Int) + 1, fo tk[a].2⟩ ∧ tl[a].p.v = val tk[a].2 := by
 have h1 := congrArg List.length h.tl
 rw [List.length_map, List.length_map] at h1
 have h2 : who.length = tk.length := by rw [h.who, List.length_map]
 have ht : a < tk.length := by omega
 have hw : a < who.length := by omega
 refine ⟨hw, ht, ?_, ?_⟩
 ·have : who[a]? = (tk.map fun p => (p.1 : Int))[a]? := by rw [← h.who]
  rw [List.getElem?_map, List.getElem?_eq_getElem hw, List.getElem?_eq_getElem ht] at this
  simpa using this
 ·have : (tl.map (fun t => (t.p.b, t.p.v)))[a]? = (tk.map fun p => ((⟨(p.2 : Int) + 1, fo p.2⟩ : Bal), val p.2))[a]? := by rw [h.tl]
  rw [List.getElem?_map, List.getElem?_map, List.getElem?_eq_getElem ha, List.getElem?_eq_getElem ht] at this
  simp only [Option.map_some, Option.some.injEq, Prod.mk.injEq] at this
  exact this
section
variable {W w : World} {val fo : Nat → Int} {prop : Nat → Prop} {tk : List (Nat × Nat)} {tl : List PkE} {who : List Int} {tv wv : Value} {i : Nat} {g : Nat → Rg} {R : List Asn}
theorem arp (S : St W w (tw tv tl :: R)) {a : Nat} (ha : a < tl.length) : ∃ b o, (∀ w' K, iaT P T.z tv (.int .i64 (a : Nat)) w' K = K (.pointer (some ⟨b, o, none⟩)) w') ∧ ∀ {w' : World} {L : List Asn}, St W w' (tw tv tl :: L) → (∀ K, ldN P 2 b (o + 2) w' K = K (jm tl[a].p.b) w') ∧ fi w' b (o + 6) = some (.int .i64 tl[a].p.v) := by
 obtain ⟨b, o, cap, hv, _, _, hc⟩ := (S.row tu).at ha
 refine ⟨b, o + a * 11, fun w' K => by rw [hv]; simp [ha], fun {w' L} S' => ?_⟩
 obtain ⟨b', o', cap', hv', _, _, hc'⟩ := (S'.row tu).at ha
 rw [hv] at hv'
 simp only [Value.slice.injEq, Option.some.injEq, Addr.mk.injEq] at hv'
 obtain ⟨⟨rfl, rfl, _⟩, _⟩ := hv'
 refine ⟨fun K => xe [.int .u64 tl[a].p.b.n, .int .u64 tl[a].p.b.fo] 2 rfl (fun k u hk => ?_) K, hc' 6 _ rfl⟩
 match k, hk with
 | 0, hk => simp at hk; subst hk; exact hc' 2 _ rfl
 | 1, hk => simp at hk; subst hk; exact hc' 3 _ rfl
theorem asj (S : St W w (sg wv who :: R)) {a : Nat} (ha : a < who.length) : ∃ b o, (∀ w' K, iaT P T.g wv (.int .i64 (a : Nat)) w' K = K (.pointer (some ⟨b, o, none⟩)) w') ∧ ∀ {w' : World} {L : List Asn}, St W w' (sg wv who :: L) → fi w' b o = some (.int .i64 who[a]) := by
 obtain ⟨b, o, cap, hv, _, _, hc⟩ := (S.row lq).at ha
 refine ⟨b, o + a, fun w' K => by rw [hv]; simp [ha], fun {w' L} S' => ?_⟩
 obtain ⟨b', o', cap', hv', _, _, hc'⟩ := (S'.row lq).at ha
 rw [hv] at hv'
 simp only [Value.slice.injEq, Option.some.injEq, Addr.mk.injEq] at hv'
 obtain ⟨⟨rfl, rfl, _⟩, _⟩ := hv'
 have := hc' 0 _ rfl
 simpa using this
def bdo (W : World) (tk : List (Nat × Nat)) (val : Nat → Int) (tv : Value) (tl : List PkE) (wv : Value) (who : List Int) (a : Nat) (R : List Asn) : KL := fun y w1 => ∃ (c : Int) (j : Nat), gv y 1 = .int .i64 c ∧ gv y 2 = .int .i64 (j : Nat) ∧ j ≤ a ∧ Chs tk val c ∧ St W w1 (tw tv tl :: sg wv who :: R)
def bgn (W : World) (tk : List (Nat × Nat)) (val : Nat → Int) (tv : Value) (tl : List PkE) (wv : Value) (who : List Int) (R : List Asn) : KL := fun y w1 => ∃ (c : Int) (a : Nat), gv y 2 = .int .i64 c ∧ gv y 3 = .int .i64 (a : Nat) ∧ a ≤ tl.length ∧ Chs tk val c ∧ St W w1 (tw tv tl :: sg wv who :: R)
theorem ayu {K28 : KL} {K : KV} {x6 : List Value} {u0 u1 : Value} (S : St W w (tw tv tl :: sg wv who :: R)) (hA : Agr i g val fo prop tk) (hk : TkR tl who tk val fo) (hlen : tl.length ≤ 1000) (g17 : gv x6 17 = tv) (g18 : gv x6 18 = wv)
  (h : ∀ w' y, St W w' (tw tv tl :: sg wv who :: R) → K28 y w') :
  gm [u0, u1, .int .i64 0, .int .i64 0] w fun K29 x29 w => M.a.j29 x6 x29 K28 K29 w K := by
 refine ⟨bgn W tk val tv tl wv who R, fun y _ => tl.length - ms y 3, ⟨0, 0, rfl, rfl, Nat.zero_le _, .inl rfl, S⟩, ?_⟩
 rintro x29 w1 ⟨c, a, y2, y3, ha, hc, S1⟩
 have tlen : ∀ w' K, biT P .len #[T.z] T.b [false] [tv] w' K = K (.int .i64 tl.length) w' := fun w' K => (S1.row tu).ii (by kernel_rfl) [false]
 unfold M.a.j29
 rw [g17, y3]
 by_cases hal : a < tl.length
 case neg =>
  simp [tlen, hal]
  exact h w1 _ S1
 have hwi : IntKind.i64.wrap ((a : Int) + 1) = ((a + 1 : Nat) : Int) := by rw [fj (by omega) (by omega)]; rfl
 simp [tlen, hal]
 unfold M.a.j30
 rw [y3, y2]
 simp only [fh]
 refine ⟨bdo W tk val tv tl wv who a R, fun y _ => a - ms y 2, ⟨c, 0, rfl, rfl, Nat.zero_le _, hc, S1⟩, ?_⟩
 rintro x32 w2 ⟨c2, j, z1, z2, hj, hc2, S2⟩
 rw [z2]
 by_cases hja : j < a
 case neg =>
  simp [hja, hwi]
  refine ⟨⟨c2, a + 1, z1, rfl, by omega, hc2, S2⟩, ?_⟩
  have : ms x29 3 = a := by unfold ms; rw [y3]; simp
  rw [this]
  simp [ms, gv]; omega
 have hwj : IntKind.i64.wrap ((j : Int) + 1) = ((j + 1 : Nat) : Int) := by rw [fj (by omega) (by omega)]; rfl
 simp [hja]
 unfold M.a.j33
 rw [g17, g18, y3, z2]
 obtain ⟨hwa, hta, ea1, ea2, ea3⟩ := baz hk hal
 obtain ⟨hwj2, htj, ej1, ej2, ej3⟩ := baz hk (show j < tl.length by omega)
 obtain ⟨b1, o1, ia1, ca⟩ := arp S2 hal
 obtain ⟨b2, o2, ia2, cj⟩ := arp S2 (show j < tl.length by omega)
 obtain ⟨b3, o3, ia3, cwa⟩ := asj S2.swap hwa
 obtain ⟨b4, o4, ia4, cwj⟩ := asj S2.swap hwj2
 have S3 := S2.iq ((Fr.refl _ w2).dr 1)
 have next : ∀ {w' : World} (y0 : Value) (c' : Int), Chs tk val c' → St W w' (tw tv tl :: sg wv who :: R) → bdo W tk val tv tl wv who a R [y0, .int .i64 c', .int .i64 ((j + 1 : Nat) : Int)] w' ∧ a - ms [y0, .int .i64 c', .int .i64 ((j + 1 : Nat) : Int)] 2 < a - ms x32 2 := fun {w'} y0 c' hc' S' => by
  refine ⟨⟨c', j + 1, rfl, rfl, by omega, hc', S'⟩, ?_⟩
  have : ms x32 2 = j := by unfold ms; rw [z2]; simp
  rw [this]
  simp [ms, gv]; omega
 by_cases hb : tl[a].p.b = tl[j].p.b
 case neg =>
  simp [ia1, ia2, (ca S3).1, (cj S3).1, adb, hb, hwj, z1]
  exact next _ c2 hc2 S3
 by_cases hw : who[a] = who[j]
 ·simp [ia1, ia2, ia3, ia4, (ca S3).1, (cj S3).1, adb, hb, cwa S3.swap, cwj S3.swap, hw, hwj, z1]
  exact next _ c2 hc2 S3
 simp [ia1, ia2, ia3, ia4, (ca S3).1, (cj S3).1, adb, hb, cwa S3.swap, cwj S3.swap, hw]
 unfold M.a.j35
 rw [g17, y3, z2, z1]
 have hkk : tk[a].2 = tk[j].2 := by
  rw [ea2, ej2] at hb
  have := congrArg Bal.n hb
  simp only at this
  omega
 have hvv : tl[a].p.v = tl[j].p.v := by rw [ea3, ej3, hkk]
 have hxy : tk[a].1 ≠ tk[j].1 := fun he => hw (by rw [ea1, ej1, he])
 have m1 : (tk[a].1, tk[a].2) ∈ tk := List.getElem_mem hta
 have m2 : (tk[j].1, tk[a].2) ∈ tk := by rw [hkk]; exact List.getElem_mem htj
 have hcv : c2 = 0 ∨ c2 = tl[a].p.v := by
  rcases hc2 with h0 | ⟨k, x, y, hn, hx, hy, rfl⟩
  ·exact .inl h0
  ·refine .inr ?_
   rw [ea3]
   exact bcy hA hn hx hy m1 m2 hxy m2
 have hnew : Chs tk val tl[a].p.v := .inr ⟨tk[a].2, tk[a].1, tk[j].1, hxy, m1, m2, ea3⟩
 have S4 := S3.iq ((Fr.refl _ (dr w2 1)).dr 1)
 rw [hvv] at hnew hcv
 by_cases h0 : c2 = 0
 ·simp [ia1, ia2, (ca S4).2, (cj S4).2, hvv, h0, hwj]
  exact next _ _ hnew S4
 ·have hc2' : c2 = tl[j].p.v := by
   rcases hcv with h | h
   ·exact absurd h h0
   ·exact h
  rw [hc2'] at h0 z1
  simp [ia1, ia2, (ca S4).2, (cj S4).2, hvv, h0, hc2', hwj]
  exact next _ _ hnew S4
end
set_option maxRecDepth 100000
open Go.Eng Go.Proofs.YtfnhoaemapheoaaGreat.Sint
section
variable {W w w0 : World} {cs : List Cel} {R : List Asn} {val fo : Nat → Int} {prop : Nat → Prop} {tk : List (Nat × Nat)} {i : Nat} {g : Nat → Rg}
theorem axv {c : Cel} (S : St w0 w (lg c.q c.hb c.m c.L false :: fy c.hb c.D :: ni cs :: R)) : St w0 w (ni (cs ++ [c]) :: R) := by
 have S1 : St w0 w (cs.flatMap wi ++ (wi c ++ R)) := St.all.1 S.up2
 refine St.all.2 ?_
 rw [List.flatMap_append, List.append_assoc]
 simpa using S1
theorem bam (S : St w0 w R) : St w0 w (ni [] :: R) := St.all.2 S
theorem bby {tl : List PkE} {who : List Int} (h : TkR tl who tk val fo) (hA : Agr i g val fo prop tk) (v nd : Int) : TkR tl who tk (pm val i v) (pm fo i nd) := by
 refine ⟨h.who, ?_⟩
 rw [h.tl]
 refine List.map_congr_left fun p hp => ?_
 have hlt := (hA.ji p hp).2.1
 unfold pm
 rw [if_neg (by omega), if_neg (by omega)]
def bgj (W : World) : KL := fun y w1 => ∃ (cs : List Cel) (qs hs : List Nat) (dv av : Value) (j : Nat), gv y 5 = dv ∧ gv y 6 = av ∧ gv y 7 = .int .i64 (j : Nat) ∧ j ≤ 3 ∧ cs.length = j ∧ cs.map (·.q) = qs ∧ cs.map (·.hb) = hs ∧ (∀ c ∈ cs, abd 1000 c ∧ c.m = []) ∧ St W w1 [ni cs, acf av qs, adr dv hs]
theorem auw {K1 : KL} {K : KV} {u0 u1 u2 u3 u4 : Value} (S : St W w [])
  (h : ∀ w' cs qs hs dv av y, Tri cs qs hs 1000 → (∀ c ∈ cs, c.m = []) → gv y 6 = dv → gv y 7 = av → St W w' [ni cs, acf av qs, adr dv hs] → K1 y w') :
  gm [u0, u1, u2, u3, u4, .slice none 0 0, .slice none 0 0, .int .i64 0] w fun K2 x2 w => M.a.j2 x2 K1 K2 w K := by
 refine ⟨bgj W, fun y _ => 3 - ms y 7, ⟨[], [], [], _, _, 0, rfl, rfl, rfl, by omega, rfl, rfl, rfl, fun c hc => by simp at hc, bam (Go.Eng.oc (Go.Eng.oc S))⟩, ?_⟩
 rintro x2 w1 ⟨cs, qs, hs, dv, av, j, y5, y6, y7, hj, hn, hq, hh, hok, S1⟩
 unfold M.a.j2
 rw [y7]
 by_cases hj3 : j < 3
 case neg =>
  have hji : ¬ (j : Int) < 3 := by omega
  simp [hji]
  exact h w1 cs qs hs dv av _ ⟨by omega, hq, hh, fun c hc => (hok c hc).1⟩ (fun c hc => (hok c hc).2) y5 y6 S1
 have hji : (j : Int) < 3 := by omega
 have hwi : IntKind.i64.wrap ((j : Int) + 1) = ((j + 1 : Nat) : Int) := by rw [fj (by omega) (by omega)]; rfl
 simp [hji]
 unfold M.a.j3
 rw [y7]
 refine art S1 1048576 (fun h => by omega) fun _ _ w2 hb S2 => ?_
 simp
 refine abc (m1 := []) (m2 := []) S2 (ahr 1048576 512).vir rfl (by omega) (aiq 1048576 512).ft (agi (aiq 1048576 512).set) fun w3 q0 m' s f L D hm I hmost hfl harm hroom hx _ S3 => ?_
 have hm' : m' = [] := by rcases hm with h | h <;> exact h
 subst hm'
 have hp1 : L.fl = [] := hx trivial
 have hc : abd 1000 ⟨q0, hb, [], L, D⟩ := ⟨s, f, _, I, hmost, by show f + ((ge L.fl).length : Int) ≤ 1000; rw [hp1] at hfl ⊢; simp [ge] at hfl ⊢; omega, harm⟩
 have S4 : St W w3 (ni (cs ++ [⟨q0, hb, [], L, D⟩]) :: acf av qs :: adr dv hs :: []) := axv (c := ⟨q0, hb, [], L, D⟩) S3
 simp only [iz]
 simp
 unfold M.a.j5
 rw [y5, y6]
 simp
 have S5 : St W (w3.alloc (.cells #[iz hb] T.ak)) (adr (.slice (some ⟨w3.heap.size, 0, none⟩) 1 1) [hb] :: _) := St.ti (l := [hb]) S4 pg rfl (by simp [maxLen])
 refine Go.Eng.ri et.ao pg alj S5.up3 (l2 := [hb]) (S5.row pg) (by simp [← hh]; omega) (by decide) fun w6 dv6 S6 => ?_
 have S7 : St W (w6.alloc (.cells #[iz q0] T.ag)) (acf (.slice (some ⟨w6.heap.size, 0, none⟩) 1 1) [q0] :: _) := St.ti (l := [q0]) (S6.swap.drop) pg rfl (by simp [maxLen])
 refine Go.Eng.ri et.w pg alj S7.up3 (l2 := [q0]) (S7.row pg) (by simp [← hq]; omega) (by decide) fun w8 av8 S8 => ?_
 rw [hwi]
 refine ⟨⟨cs ++ [⟨q0, hb, [], L, D⟩], qs ++ [q0], hs ++ [hb], dv6, av8, j + 1, rfl, rfl, rfl, by omega, by simp [hn], by simp [hq], by simp [hh], fun c hc' => ?_, (S8.swap.drop).up2⟩, ?_⟩
 ·rcases List.mem_append.1 hc' with hc' | hc'
  ·exact hok c hc'
  ·rw [List.mem_singleton.1 hc']; exact ⟨hc, rfl⟩
 ·have : ms x2 7 = j := by unfold ms; rw [y7]; simp
  rw [this]
  simp [ms, gv]; omega
theorem bgi (w : World) (K : KV) : beg P T.bc (.int .i64 3) (.int .i64 3) w K = K (.slice (some ⟨w.heap.size, 0, none⟩) 3 3) (w.alloc (.cells #[.bool false, .bool false, .bool false] T.au)) := .trans (by kernel_rfl) rfl
end
set_option maxRecDepth 100000
open Go.Eng Go.Proofs.YtfnhoaemapheoaaGreat.Sint
abbrev aef (cs : List Cel) (av : Value) (qs : List Nat) (dv : Value) (hs : List Nat) (tv : Value) (tl : List PkE) (wv : Value) (who : List Int) : List Asn := [ni cs, acf av qs, adr dv hs, tw tv tl, sg wv who]
def azj (W : World) (n : Nat) (av dv : Value) (hs : List Nat) : KL := fun y w1 => ∃ (cs : List Cel) (qs : List Nat) (tv : Value) (tl : List PkE) (wv : Value) (who : List Int) (val fo : Nat → Int) (prop : Nat → Prop) (tk : List (Nat × Nat)) (i : Nat), gv y 16 = tv ∧ gv y 17 = wv ∧ gv y 18 = .int .i64 (i : Nat) ∧ i ≤ n ∧ Tri cs qs hs (1000 + 30 * i) ∧ Agr i (jh cs) val fo prop tk ∧ TkR tl who tk val fo ∧ tl.length ≤ 10 * i ∧ St W w1 (aef cs av qs dv hs tv tl wv who)
theorem ajp {W : World} {n0 : Nat} {v0 : Value} (h0 : TV P W n0 T.am [v0]) {K : KV} (h : ∀ w', Fr (fun _ => False) W w' → K (.bool true) w') : ij P F.cf [v0] W K := by
 obtain ⟨l, hl⟩ := ayj h0
 apply M.a.calls
 unfold M.a
 have ex : ∀ {w'}, Fr (fun _ => False) W w' → (ey P F.bj [] w' fun v w => K v w) := fun f => bci fun w'' f'' => h w'' (f.trans f'')
 have hlen : ∀ w' K, biT P .len #[T.am] T.b [false] [v0] w' K = K (.int .i64 l.length) w' := fun w' K => hl.ii (by kernel_rfl) [false]
 by_cases c1 : 20 < l.length
 ·have : (20 : Int) < l.length := by omega
  simp [hlen, this]
  exact ex (Fr.refl _ _)
 have c1' : ¬ (20 : Int) < l.length := by omega
 simp [hlen, c1']
 refine auw (St.jy W) fun w1 cs0 qs0 hs dv av x1 hT0 hm0 x6 x7 S0 => ?_
 unfold M.a.j1
 simp only [fh]
 have hz : ∀ x, x < 3 → (jh cs0 x).t = gy ∧ (jh cs0 x).v = 0 := fun x hx => by
  have hx' : x < cs0.length := by rw [hT0.n]; exact hx
  rw [aco hx', hm0 _ (List.getElem_mem hx')]
  exact ⟨rfl, rfl⟩
 have S0' : St W w1 (aef cs0 av qs0 dv hs (.slice none 0 0) [] (.slice none 0 0) []) := by
  have := Go.Eng.oc (enc := afv) (sz := 11) (e := T.a) (Go.Eng.oc (enc := mj) (sz := 1) (e := T.b) S0)
  exact this.perm (List.perm_append_comm (l₁ := [_, _]) (l₂ := [_, _, _]))
 refine ⟨azj W l.length av dv hs, fun y _ => l.length - ms y 18, ⟨cs0, qs0, _, [], _, [], fun _ => 0, fun _ => 0, fun _ => False, [], 0, rfl, rfl, rfl, Nat.zero_le _, hT0.mono (by omega), baf _ _ hz, ⟨rfl, rfl⟩, by simp, S0'⟩, ?_⟩
 rintro x7 w2 ⟨cs, qs, tv, tl, wv, who, val, fo, prop, tk, i, y16, y17, y18, hi, hT, hA, hk, htl, S1⟩
 unfold M.a.j7
 rw [y18]
 by_cases hil : i < l.length
 case neg =>
  simp [hlen, hil]
  refine ayu (S1.perm (List.perm_append_comm (l₁ := [_, _, _]) (l₂ := [_, _]))) hA hk (by omega) y16 y17 fun w3 y S3 => ?_
  exact ex S3.fr
 have hwi : IntKind.i64.wrap ((i : Int) + 1) = ((i + 1 : Nat) : Int) := by rw [fj (by omega) (by omega)]; rfl
 simp [hlen, hil]
 unfold M.a.j8
 rw [y18]
 obtain ⟨b, o, hia, hb0, hr0⟩ := azh hl hil
 have hrd : ∀ {w' : World} {L' : List Asn}, St W w' L' → vt6 w' b o l[i] := fun S' => bes hb0 hr0 S'.fr
 have vl := fun K => bdh (hrd S1) K
 have hvt := hr0.2
 generalize l[i] = x at *
 -- the end of a round
 have next : ∀ (x9 : List Value) w' cs' qs' tv' tl' wv' who' val' node' prop' tk', gv x9 16 = tv' → gv x9 17 = wv' → Tri cs' qs' hs (1000 + 30 * (i + 1 : Nat)) → Agr (i + 1) (jh cs') val' node' prop' tk' → TkR tl' who' tk' val' node' → tl'.length ≤ tl.length + 10 → St W w' (aef cs' av qs' dv hs tv' tl' wv' who') →
   M.a.j9 x7 (fun y w => azj W l.length av dv hs y w ∧ l.length - ms y 18 < l.length - ms x7 18) x9 w' K := fun x9 w' cs' qs' tv' tl' wv' who' val' node' prop' tk' d16 d17 hT' hA' hk' hl' S' => by
  unfold M.a.j9
  rw [y18]
  simp
  rw [hwi]
  refine ⟨⟨cs', qs', tv', tl', wv', who', val', node', prop', tk', i + 1, d16, d17, rfl, by omega, hT', hA', hk', by omega, S'⟩, ?_⟩
  have : ms x7 18 = i := by unfold ms; rw [y18]; simp
  rw [this]
  simp [ms, gv]; omega
 have skip : ∀ (x9 : List Value) w', gv x9 16 = tv → gv x9 17 = wv → St W w' (aef cs av qs dv hs tv tl wv who) → M.a.j9 x7 (fun y w => azj W l.length av dv hs y w ∧ l.length - ms y 18 < l.length - ms x7 18) x9 w' K := fun x9 w' d16 d17 S' =>
  next x9 w' cs qs tv tl wv who val fo _ tk d16 d17 (hT.mono (by omega)) (ang hA) hk (by omega) S'
 simp [hia, vl]
 have S2 : St W (w2.alloc (.cells #[.int .u64 0, .int .i64 0, .slice none 0 0, .slice none 0 0, .slice none 0 0, .slice none 0 0] T.k)) (fq w2.heap.size #[.int .u64 0, .int .i64 0, .slice none 0 0, .slice none 0 0, .slice none 0 0, .slice none 0 0] T.k :: aef cs av qs dv hs tv tl wv who) := S1.mkB _ _
 generalize w2.heap.size = vb at *
 generalize w2.alloc _ = w3 at *
 unfold ub
 simp
 refine St.put (vs := ub x) (cs' := (ub x).toArray) S2 (asn hvt) (by simp [ub]) rfl fun w4 S3 => ?_
 have S3' : St W w4 (pk vb x :: aef cs av qs dv hs tv tl wv who) := S3
 obtain ⟨k0, k1, k2, k3, k4, k5⟩ := ue S3'
 have la : ∀ w' K, biT P .len #[T.g] T.b [false] [x.av] w' K = K (.int .i64 x.ask.length) w' := fun w' K => hvt.ask.1.ii (by kernel_rfl) [false]
 have lt : ∀ w' K, biT P .len #[T.g] T.b [false] [x.tv] w' K = K (.int .i64 x.po.length) w' := fun w' K => hvt.po.1.ii (by kernel_rfl) [false]
 have lc : ∀ w' K, biT P .len #[T.g] T.b [false] [x.cv] w' K = K (.int .i64 x.jx.length) w' := fun w' K => hvt.jx.1.ii (by kernel_rfl) [false]
 by_cases a1 : 10 < (x.ask.length : Int)
 ·simp [k0, k1, k2, k3, k4, la, lt, lc, a1]
  exact skip _ w4 y16 y17 S3'.drop
 by_cases a2 : 10 < (x.po.length : Int)
 ·simp [k0, k1, k2, k3, k4, la, lt, lc, a1, a2]
  exact skip _ w4 y16 y17 S3'.drop
 by_cases a3 : 10 < (x.jx.length : Int)
 ·simp [k0, k1, k2, k3, k4, la, lt, lc, a1, a2, a3]
  exact skip _ w4 y16 y17 S3'.drop
 by_cases a4 : x.fo = 0
 ·simp [k0, k1, k2, k3, k4, la, lt, lc, a1, a2, a3, a4]
  exact skip _ w4 y16 y17 S3'.drop
 by_cases a5 : x.jj < 1
 ·simp [k0, k1, k2, k3, k4, la, lt, lc, a1, a2, a3, a4, a5]
  exact skip _ w4 y16 y17 S3'.drop
 by_cases a6 : 3 < x.jj
 ·simp [k0, k1, k2, k3, k4, la, lt, lc, a1, a2, a3, a4, a5, a6]
  exact skip _ w4 y16 y17 S3'.drop
 simp [k0, k1, k2, k3, k4, la, lt, lc, a1, a2, a3, a4, a5, a6]
 unfold M.a.j10
 rw [y18]
 have hcv : ∀ w' K', cvT P T.b T.e (.int .i64 ((i + 1 : Nat) : Int)) w' K' = K' (.int .u64 ((i + 1 : Nat) : Int)) w' := fun w' K' => by
  rw [kf (ks := .i64) (kd := .u64) (by kernel_rfl) (by kernel_rfl), show IntKind.u64.wrap ((i + 1 : Nat) : Int) = ((i + 1 : Nat) : Int) from we (by omega) (by omega)]
 have hwi' : IntKind.i64.wrap ((i : Int) + 1) = (i : Int) + 1 := by rw [hwi]; omega
 have hcv' : ∀ w' K', cvT P T.b T.e (.int .i64 ((i : Int) + 1)) w' K' = K' (.int .u64 ((i : Int) + 1)) w' := fun w' K' => by
  have := hcv w' K'
  rwa [show ((i + 1 : Nat) : Int) = (i : Int) + 1 from by omega] at this
 simp [hwi', hcv', k0]
 -- the ballot
 have S4 : St W (w4.alloc (.cells #[.int .u64 0, .int .u64 0] T.c)) (fq w4.heap.size #[.int .u64 0, .int .u64 0] T.c :: pk vb x :: aef cs av qs dv hs tv tl wv who) := S3'.mkB _ _
 generalize w4.heap.size = bb at *
 generalize w4.alloc _ = w5 at *
 refine St.put (vs := [.int .u64 ((i : Int) + 1), .int .u64 x.fo]) (cs' := #[.int .u64 ((i : Int) + 1), .int .u64 x.fo]) S4 (by simp [jf]) (by simp) rfl fun w6 S5 => ?_
 rw [bgi]
 have S6 : St W (w6.alloc (.cells #[.bool false, .bool false, .bool false] T.au)) (apb w6.heap.size [false, false, false] :: si bb ⟨(i : Int) + 1, x.fo⟩ :: pk vb x :: aef cs av qs dv hs tv tl wv who) := S5.mkB #[.bool false, .bool false, .bool false] T.au
 generalize w6.heap.size = mb at *
 generalize w6.alloc _ = w7 at *
 have S7 := S6.iq ((Fr.refl _ w7).dr 1)
 have fw : ∀ {w' : World} {L : List Asn}, St W w' (pk vb x :: L) → fi w' vb 1 = some (.int .i64 x.jj) := fun S' => (ue S').2.1
 have S8 : St W ((dr w7 1).alloc (.cells #[.int .u64 0, .int .u64 0] T.c)) (fq (dr w7 1).heap.size #[.int .u64 0, .int .u64 0] T.c :: apb mb [false, false, false] :: si bb ⟨(i : Int) + 1, x.fo⟩ :: pk vb x :: aef cs av qs dv hs tv tl wv who) := S7.mkB _ _
 rw [show (dr w7 1).heap.size = w7.heap.size from rfl] at S8
 simp [fw S7.up2, fw S8.up3]
 generalize w7.heap.size = sb at *
 generalize (dr w7 1).alloc _ = w8 at *
 refine St.put (vs := [.int .u64 0, .int .u64 0]) (cs' := #[.int .u64 0, .int .u64 0]) S8 (by simp [jf]) (by simp) rfl fun w9 S9 => ?_
 simp [fw S9.up3]
 have S10 : St W w9 (ace cs [false, false, false] gy x ⟨(i : Int) + 1, x.fo⟩ vb bb mb sb [acf av qs, adr dv hs, tw tv tl, sg wv who]) := S9.up4.tail ((List.Perm.swap _ _ _).trans (.cons _ (.cons _ (.swap _ _ _))))
 have V : abo W x i ⟨(i : Int) + 1, x.fo⟩ := ⟨hvt, rfl, by omega, by omega, by omega, by omega⟩
 have hall : ∀ (T1 T2 T3 : Asn) w' L, St W w' (L ++ [acf av qs, T1, T2, T3]) → Sl w' 1 tc av qs := fun T1 T2 T3 w' L S' => (S'.perm List.perm_middle).row pg
 refine bew (B := 1000 + 30 * i) S10 V ⟨hT, hA, .inl ⟨fun y hy => ?_, rfl, rfl⟩, rfl⟩ rfl (by omega) (hall _ _ _) ‹gv x1 7 = av› fun w10 cs1 bl best v x11 hS1 z3 z4 S11 => ?_
 ·exfalso
  unfold ws at hy
  match y, hy with
  | 0, hy => simp at hy
  | 1, hy => simp at hy
  | 2, hy => simp at hy
  | y + 3, hy => simp at hy
 have S12 : St W w10 (anp cs1 av qs dv hs vb x [si bb ⟨(i : Int) + 1, x.fo⟩, tw tv tl, sg wv who]) := (S11.swap.drop.swap.drop).tail (List.perm_append_comm_assoc [_, _] [_, _] [_, _])
 refine atn S12 V hS1.tri (by omega) x6 ‹gv x1 7 = av› fun w11 cs2 qs2 x17 hT2 hm2 S13 => ?_
 have hA2 : Agr i (jh cs2) val fo prop tk := by rw [aer hm2]; exact hS1.agr
 unfold M.a.j17
 rw [z3]
 by_cases hn2 : bl.count true < 2
 ·have : ((bl.count true : Nat) : Int) < 2 := by omega
  simp [this]
  exact next _ w11 cs2 qs2 tv tl wv who val fo _ tk y16 y17 (hT2.mono (by omega)) (ang hA2) hk (by omega) (S13.up3.drop.up3.drop)
 ·have hn2' : ¬ ((bl.count true : Nat) : Int) < 2 := by omega
  simp [hn2']
  rw [y16, y17]
  obtain ⟨a, b', hab, ma, mb'⟩ := bck hS1.n (by omega)
  have hv0 : v ≠ 0 := by
   rcases hS1.pks with ⟨_, _, hv⟩ | ⟨_, _, _, _, hv, _⟩
   ·omega
   ·exact hv
  have ho := azf hS1.agr (baj hS1.pks) (fun y hy => by have := bdp hy; have := hS1.n; omega) ma mb' hab
  have hA3 := azr hA2 (nd := x.fo) hv0 ho
  have hk3 := bby hk hA2 v x.fo
  have S14 : St W w11 (aet cs2 tv tl wv who vb x bb ⟨(i : Int) + 1, x.fo⟩ [acf av qs2, adr dv hs]) := S13.tail ((List.perm_append_comm (l₁ := [_, _]) (l₂ := [_, _, _, _])).trans (List.perm_append_comm_assoc [_, _] [_, _] [_, _]))
  refine avm (B := 1000 + 30 * i + 10) S14 V hT2 hA3 hk3 (.inl rfl) (by unfold pm; rw [if_pos rfl]) (by unfold pm; rw [if_pos rfl]) (fun w' L S' => (S'.perm List.perm_middle).row pg) (by omega) (by omega) ‹gv x1 7 = av› z4 fun w12 cs3 tv3 tl3 wv3 who3 tk3 x9 hT3 hA4 hk4 hl3 d16 d17 S15 => ?_
  exact next x9 w12 cs3 qs2 tv3 tl3 wv3 who3 _ _ _ tk3 d16 d17 (hT3.mono (by omega)) hA4 hk4 hl3 ((S15.up3.drop.up3.drop).tail (List.perm_append_comm (l₁ := [_, _]) (l₂ := [_, _])))
end Go.Proofs.YtfnhoaemapheoaaGreat
