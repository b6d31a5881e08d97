/-
  ReplicaRises: what a call leaves. No condition.
-/
import Derived.Test.YtfnhoaemapheoaaGreatZRg1
set_option maxRecDepth 100000
namespace Go.Proofs.YtfnhoaemapheoaaGreat
open Go.Eng Go.Proofs.YtfnhoaemapheoaaGreat.Sint
inductive RsF (B : Int) (n : Nat) (m : im) (T : List PkE) : Bool → Lg → Dk → Prop
 | up (L : Lg) (D : Dk) (s f : Int) (G : Nat) : RI s f L G D m → L.ge = 128 → f + (ft L.fk).length ≤ B → m.length ≤ n → (∀ t ∈ T, Tl m t.p) → RsF B n m T false L D
 | ga (dn : Bool) (L : Lg) (D : Dk) (s f : Int) (Q : List Prt) (G : Nat) (m2 : im) : D.ga = true → Vir s f Q G D False → td (ft Q) → Cut (ft Q) G m m2 → f + (ft Q).length ≤ B → f + (ft L.fk).length ≤ B → m.length ≤ n → m2.length ≤ n → Asc m → (∀ p ∈ m, okE p) → (∀ t ∈ T, Tl m t.p) → (∀ t ∈ T, Tl m2 t.p) → RsF B n m T dn L D
section
variable {B B' : Int} {n n' : Nat} {m : im} {T : List PkE} {dn : Bool} {L : Lg} {D : Dk} {w0 w : World} {q hb : Nat} {R : List Asn}
theorem RsF.asc (h : RsF B n m T dn L D) : Asc m := by
 cases h with
 | up _ _ s f G I => exact I.asc
 | ga => assumption
theorem RsF.ok (h : RsF B n m T dn L D) : ∀ p ∈ m, okE p := by
 cases h with
 | up _ _ s f G I => exact I.ok
 | ga => assumption
theorem RsF.tl (h : RsF B n m T dn L D) : ∀ t ∈ T, Tl m t.p := by
 cases h with
 | up _ _ s f G I => assumption
 | ga => assumption
theorem RsF.len (h : RsF B n m T dn L D) : m.length ≤ n := by
 cases h with
 | up _ _ s f G I => assumption
 | ga => assumption
theorem RsF.mono (h : RsF B n m T dn L D) (hB : B ≤ B') (hn : n ≤ n') : RsF B' n' m T dn L D := by
 cases h with
 | up _ _ s f G I h1 h2 h3 h4 => exact .up L D s f G I h1 (by omega) (by omega) h4
 | ga _ _ _ s f Q G m2 h1 h2 h3 h4 h5 h6 h7 h8 h9 h10 h11 h12 => exact .ga dn L D s f Q G m2 h1 h2 h3 h4 (by omega) (by omega) (by omega) (by omega) h9 h10 h11 h12
theorem bap {x : PkE} (S : St w0 w (ju q hb m L dn :: fy hb D :: R)) (hF : RsF B n m T dn L D) (hB : B + 1 ≤ B') (hB2 : B' ≤ 1000000000000) (hp : pu w0 x.p x.ls x.lm x.lu) (hR : ∀ w' R', St w0 w' (R' ++ R) → pu w' x.p x.ls x.lm x.lu) (hr : wv x.p) {K : KV}
  (h : ∀ w' A e m' dn' L' D', (∀ u ∈ pkC A, jn u = true) → RsF B' (n + 1) m' T dn' L' D' → (e = 0 → A.ok = true → RsF B' (n + 1) m' (T ++ [x]) dn' L' D') → St w0 w' (ju q hb m' L' dn' :: fy hb D' :: R) → K (.tuple #[pkA A, .int .i64 e]) w') :
  fg P F.k [ik q, pkA x.p] w K := by
 have pz : ∀ u ∈ pkC pkZ, jn u = true := vz _ _ _ _ _ _
 have hl := hF.len
 have hM := aue m (decide (x.p.fx = 6)) x.p.tr x.p.b x.p.v
 have ha := hF.asc
 have ho := hF.ok
 have htl := hF.tl
 have ht2 : ∀ t ∈ T, Tl (su m (decide (x.p.fx = 6)) x.p.tr x.p.b x.p.v) t.p := fun t ht => bbv ha ho _ _ _ _ (htl t ht)
 cases hF with
 | up _ _ s f G I h1 h2 h3 h4 =>
  refine ayk (B := B') S hp hr I (by omega) hB2 (fun hae w6 S6 => ?_) fun hae w6 e m1 dn L1 D1 hleft S6 => ?_
  ·exact h w6 pkZ 6 m false L D pz (.up L D s f G I h1 (by omega) (by omega) h4) (fun he => by cases he) S6
  ·cases hleft with
   | ok F1 _ _ s1 f1 I1 hm1 hB1 ha1 hr1 =>
    have hk : ∀ (hk : (iu m (decide (x.p.fx = 6)) x.p.tr x.p.b x.p.v).2 = true), ∀ t ∈ T ++ [x], Tl (su m (decide (x.p.fx = 6)) x.p.tr x.p.b x.p.v) t.p := fun hk t ht => by
     rcases List.mem_append.1 ht with ht | ht
     ·exact ht2 t ht
     ·rw [List.mem_singleton.1 ht]; exact bca ha hk
    refine h w6 (wt m x.p x.ls x.lm x.lu) 0 _ false L1 D1 (baq _ _ _ _ _) (.up L1 D1 s1 f1 F1 I1 (by omega) hB1 (by omega) ht2) (fun _ hok => .up L1 D1 s1 f1 F1 I1 (by omega) hB1 (by omega) (hk ?_)) S6
    unfold wt at hok
    rw [hae] at hok
    exact hok
   | qf F1 _ _ I1 hm1 hB1 ha1 hr1 => exact h w6 pkZ 9 m false L1 D1 pz (.up L1 D1 s f F1 I1 (by omega) hB1 (by omega) htl) (fun he => by cases he) S6
   | ga F1 _ _ Q ha1 hd hv hrr hc hB1 hro hm1 hB2 => exact h w6 pkZ 10 m true L1 D1 pz (.ga true L1 D1 s f Q F1 _ hd hv hrr hc hB1 hB2 (by omega) (by omega) ha ho htl ht2) (fun he => by cases he) S6
 | ga _ _ _ s f Q G m2 h1 h2 h3 h4 h5 h6 h7 h8 h9 h10 h11 h12 =>
  have hF' : RsF B' (n + 1) m T dn L D := .ga dn L D s f Q G m2 h1 h2 h3 h4 (by omega) (by omega) (by omega) (by omega) h9 h10 h11 h12
  refine akj (s := s) (f := f) S hR hr (fun _ hd => by rw [h1] at hd; cases hd) (by omega) (fun hae w6 S6 => ?_) (fun hae _ w6 S6 => ?_) (fun _ _ hd => by rw [h1] at hd; cases hd) (fun _ _ hd => by rw [h1] at hd; cases hd) (fun _ _ hd => by rw [h1] at hd; cases hd)
  ·exact h w6 pkZ 6 m dn L D pz hF' (fun he => by cases he) S6
  ·exact h w6 pkZ 10 m dn L D pz hF' (fun he => by cases he) S6
theorem bbi (S : St w0 w (ju q hb m L dn :: fy hb D :: R)) (hF : RsF B n m T dn L D) (hB : B + n ≤ B') (hB2 : B' ≤ 1000000000000) (hn : n ≤ 1000) {K : KV}
  (h : ∀ w' e dn' L' D', RsF B' n m T dn' L' D' → St w0 w' (ju q hb m L' dn' :: fy hb D' :: R) → K (.int .i64 e) w') :
  fg P F.ac [ik q] w K := by
 have ha := hF.asc
 have ho := hF.ok
 cases hF with
 | up _ _ s f G I h1 h2 h3 h4 =>
  refine ayg (B := B') S I (by omega) hB2 (by omega) fun w6 e dn L1 D1 hleft _ S6 => ?_
  cases hleft with
  | ok F1 _ _ s1 f1 I1 hm1 hB1 ha1 hr1 => exact h w6 0 false L1 D1 (.up L1 D1 s1 f1 F1 I1 (by omega) hB1 h3 h4) S6
  | qf F1 _ _ I1 hm1 hB1 ha1 hr1 => exact h w6 9 false L1 D1 (.up L1 D1 s f F1 I1 (by omega) hB1 h3 h4) S6
  | ga F1 _ _ Q ha1 hd hv hrr hc hB1 hro hm1 hB2 => exact h w6 10 true L1 D1 (.ga true L1 D1 s f Q F1 m hd hv hrr hc hB1 hB2 h3 h3 ha ho h4 h4) S6
 | ga _ _ _ s f Q G m2 h1 h2 h3 h4 h5 h6 h7 h8 h9 h10 h11 h12 =>
  refine aqr (s := s) (f := f) S (fun _ hd => by rw [h1] at hd; cases hd) (by omega) (by omega) (fun _ w6 S6 => ?_) (fun _ hd => by rw [h1] at hd; cases hd) (fun _ hd => by rw [h1] at hd; cases hd)
  exact h w6 10 dn L D (.ga dn L D s f Q G m2 h1 h2 h3 h4 (by omega) (by omega) h7 h8 h9 h10 h11 h12) S6
theorem bch (hF : RsF B n m T dn L D) (b : Bool) (k : Int) : RsF B n m T dn L { D with ie := b, left := k } := by
 cases hF with
 | up _ _ s f G I h1 h2 h3 h4 =>
  refine .up L _ s f G ?_ h1 h2 h3 h4
  obtain ⟨⟨⟨v1, v2, v3, v4, v5, v6, v7, v8⟩, g2, g3⟩, r1, r2, r3⟩ := I
  exact ⟨⟨⟨v1, v2, v3, v4, v5, v6, v7, v8⟩, g2, g3⟩, r1, r2, r3⟩
 | ga _ _ _ s f Q G m2 h1 h2 h3 h4 h5 h6 h7 h8 h9 h10 h11 h12 =>
  obtain ⟨v1, v2, v3, v4, v5, v6, v7, v8⟩ := h2
  exact .ga dn L _ s f Q G m2 h1 ⟨v1, v2, v3, v4, v5, v6, v7, v8⟩ h3 h4 h5 h6 h7 h8 h9 h10 h11 h12
theorem aze (S : St w0 w (ju q hb m L dn :: fy hb D :: R)) (hF : RsF B n m T dn L D) {kv : Value} {kl : List Int} (hk : Sl w0 1 pi kv kl) {KK : World → Prop} {K : KV}
  (hc : ∀ w1, St w0 w1 (fy hb (D.qk kl) :: ju q hb m L dn :: R) → fg P F.bb [.pointer (some ⟨hb, 0, none⟩), .int .i64 128] w1 K → KK w1)
  (h : ∀ w' q' m' L' D', RsF B n m' T false L' D' → St w0 w' (ju q' hb m' L' false :: fy hb D' :: R) → K (.tuple #[ik q', .int .i64 0]) w') :
  fg P F.bv [.pointer (some ⟨hb, 0, none⟩), kv] w fun _ w => KK w := by
 refine aom S.swap (kl := kl) (fun w' L S' => S'.old hk) fun w1 S1 => ?_
 refine hc w1 S1 ?_
 have go : ∀ s f Q G z m2, Vir s f Q G D z → td (ft Q) → Cut (ft Q) G m m2 → f + (ft Q).length ≤ B → m.length ≤ n → m2.length ≤ n → (∀ t ∈ T, Tl m t.p) → (∀ t ∈ T, Tl m2 t.p) → fg P F.bb [.pointer (some ⟨hb, 0, none⟩), .int .i64 128] w1 K := fun s f Q G z m2 hv hr hcc hB hn hn2 t1 t2 => by
  obtain ⟨v1', v2', v3', v4'⟩ := ave hv kl
  refine abb S1 v1' v2' (by omega) hr hcc fun w2 q1 m1 s1 f1 L1 D1 hm1 I1 hmost1 hfl1 harm1 hroom1 _ hlen1 S2 => ?_
  refine h w2 q1 m1 L1 D1 (.up L1 D1 s1 f1 _ I1 hmost1 (by omega) ?_ ?_) S2.up2.drop
  ·rcases hm1 with e | e <;> rw [e] <;> assumption
  ·rcases hm1 with e | e <;> rw [e] <;> assumption
 cases hF with
 | up _ _ s f G I h1 h2 h3 h4 => exact go s f _ G _ m I.uk.vir I.fq (acd I.set) h2 h3 h3 h4 h4
 | ga _ _ _ s f Q G m2 h1 h2 h3 h4 h5 h6 h7 h8 h9 h10 h11 h12 => exact go s f Q G _ m2 h2 h3 h4 h5 h7 h8 h11 h12
end
set_option maxRecDepth 100000
open Go.Eng Go.Proofs.YtfnhoaemapheoaaGreat.Sint
def ayn (u : Value) : Value := if jn u = true then u else .slice none 0 0
def qw (x : PkE) : List Value := (pkC x.p).map ayn
theorem acz (x : PkE) : (qw x).length = 11 := by unfold qw; simp [pkC]
theorem azb (x : PkE) : ∀ u ∈ qw x, jn u = true := fun u hu => by
 unfold qw at hu
 obtain ⟨v, _, rfl⟩ := List.mem_map.1 hu
 unfold ayn
 split
 ·assumption
 ·rfl
theorem bbr {w : World} {x : PkE} (h : aai w x.p x.ls x.lm x.lu) (h1 : ∀ u ∈ pkC x.p, jn u = true) : qw x = pkC x.p := by
 unfold qw
 rw [List.map_congr_left (g := id) fun u hu => by unfold ayn; rw [if_pos (h1 u hu)]; rfl, List.map_id]
abbrev bcf (v : Value) (tl : List PkE) : Asn := pd T.b 11 qw v tl
theorem bbp {r : Rg} (h : r.right = true) (hr : r.rng) : (!r.p.lr r.t && (decide (0 ≤ r.v) && (decide (r.v ≤ 3) && (decide (r.v = 0) == decide (r.t = ic))))) = true := by
 rw [ahe h hr]
 unfold Rg.right at h
 split at h
 ·rename_i he
  have hv : r.v = 0 := by simpa using h
  rw [hv, he]
  rfl
 ·rename_i he
  simp only [Bool.and_eq_true] at h
  have hv := h.1
  unfold mi at hv
  simp only [decide_eq_true_eq] at hv
  have h0 : ¬ r.v = 0 := by omega
  rw [decide_eq_true (show (0 : Int) ≤ r.v by omega), decide_eq_true (show r.v ≤ 3 by omega), decide_eq_false h0, decide_eq_false he]
  rfl
def RjI (W : World) (q hb : Nat) (m : im) (dn : Bool) (L : Lg) (D : Dk) (tv : Value) (tl : List PkE) : KL := fun x w1 => ∃ (j : Nat), gv x 2 = .int .i64 (j : Nat) ∧ j ≤ tl.length ∧ St W w1 [ju q hb m L dn, fy hb D, pd T.b 11 qw tv tl]
theorem axs {W w : World} {q hb : Nat} {m : im} {dn : Bool} {L : Lg} {D : Dk} {tv : Value} {tl : List PkE} {x6 : List Value} {u0 u1 : Value} {K5 : KL} {K : KV} (S : St W w [ju q hb m L dn, fy hb D, pd T.b 11 qw tv tl]) (hT : ∀ t ∈ tl, Tl m t.p) (hm : ∀ p ∈ m, okE p) (hlen : tl.length ≤ 1000) (g2 : gv x6 2 = tv) (g9 : gv x6 9 = ik q)
  (hK5 : ∀ x5 w', St W w' [ju q hb m L dn, fy hb D, pd T.b 11 qw tv tl] → gv x5 2 = tv → gv x5 9 = ik q → K5 x5 w') :
  gt [u0, u1, .int .i64 0] w fun K8 x8 w => M.i.j8 x6 x8 K5 K8 w K := by
 refine ⟨RjI W q hb m dn L D tv tl, fun x _ => tl.length - ms x 2, ⟨0, rfl, Nat.zero_le _, S⟩, ?_⟩
 rintro x w1 ⟨j, e2, hj, S1⟩
 have tvl : ∀ {w' : World} {L' : List Asn}, St W w' (pd T.b 11 qw tv tl :: L') → Sl w' 11 qw tv tl := fun S' => S'.row acz
 have tlen : ∀ w' K, biT P .len #[T.aj] T.a [false] [tv] w' K = K (.int .i64 tl.length) w' := fun w' K => (tvl S1.up2).ij (by kernel_rfl) [false]
 unfold M.i.j8
 rw [g2, e2]
 by_cases hjl : j < tl.length
 case neg =>
  simp [tlen, hjl]
  exact hK5 _ w1 S1 rfl g9
 have hwi : IntKind.i64.wrap ((j : Int) + 1) = ((j + 1 : Nat) : Int) := by rw [fm (by omega) (by omega)]; rfl
 simp [tlen, hjl]
 unfold M.i.j9
 rw [g2, e2, g9]
 obtain ⟨b, o, cap, hv, _, _, hc⟩ := (tvl S1.up2).at hjl
 have hia : ∀ w' K, iaT P T.aj tv (.int .i64 (j : Nat)) w' K = K (.pointer (some ⟨b, o + j * 11, none⟩)) w' := fun w' K => by rw [hv]; simp [hjl]
 have hat : ∀ {w' : World} {L' : List Asn}, St W w' (pd T.b 11 qw tv tl :: L') → ∀ k v, (qw tl[j])[k]? = some v → fo w' b (o + j * 11 + k) = some v := fun {w' L'} S' => by
  obtain ⟨b', o', cap', hv', _, _, hc'⟩ := (tvl S').at hjl
  rw [hv] at hv'
  simp only [Value.slice.injEq, Option.some.injEq, Addr.mk.injEq] at hv'
  obtain ⟨⟨rfl, rfl, _⟩, _⟩ := hv'
  exact hc'
 have tt := hT _ (List.getElem_mem hjl)
 generalize tl[j] = t at *
 have c1 : ∀ {w' : World} {L' : List Asn}, St W w' (pd T.b 11 qw tv tl :: L') → fo w' b (o + j * 11 + 1) = some (.int .u64 t.p.tr) := fun S' => hat S' 1 _ rfl
 have c0 : ∀ {w' : World} {L' : List Asn}, St W w' (pd T.b 11 qw tv tl :: L') → fo w' b (o + j * 11) = some (.int .i64 t.p.fx) := fun S' => hat S' 0 _ rfl
 have c6 : ∀ {w' : World} {L' : List Asn}, St W w' (pd T.b 11 qw tv tl :: L') → fo w' b (o + j * 11 + 6) = some (.int .i64 t.p.v) := fun S' => hat S' 6 _ rfl
 have c2 : ∀ {w' : World} {L' : List Asn}, St W w' (pd T.b 11 qw tv tl :: L') → ∀ K, ldN P 2 b (o + j * 11 + 2) w' K = K (jy t.p.b) w' := fun S' K => wu [.int .u64 t.p.b.n, .int .u64 t.p.b.gj] 2 rfl (fun k u hk => by
  match k, hk with
  | 0, hk => simp at hk; subst hk; exact hat S' 2 _ rfl
  | 1, hk => simp at hk; subst hk; exact hat S' 3 _ rfl) K
 simp [hia, c1 S1.up2]
 refine aug S1 t.p.tr fun w2 S2 => ?_
 refine bal _ fun w3 f3 => ?_
 have S3 := S2.iq f3
 have S4 := uz S3 T.w
 generalize w3.heap.size = rb at *
 generalize w3.alloc _ = w4 at *
 obtain ⟨o1, o2⟩ := ajg hm t.p.tr
 unfold Tl at tt
 generalize kw m t.p.tr = r at *
 unfold ky
 simp
 refine rq (r' := r) S4 fun w5 S5 => ?_
 obtain ⟨r0, r2, r4, rl⟩ := jc (S5.iq ((Fr.refl _ w5).dr 1))
 simp [rl]
 refine alp _ fun w6 f6 => ?_
 rw [bbp o1 o2]
 have S6 := (S5.iq ((Fr.refl _ w5).dr 1)).iq f6
 obtain ⟨s0, _, _, _⟩ := jc S6
 simp [hia, s0, c2 S6.up3]
 refine adn _ _ fun w7 f7 => ?_
 rw [tt.1]
 simp
 unfold M.i.j11
 rw [g2, e2]
 have S7 := (S6.iq f7).iq ((Fr.refl _ w7).dr 1)
 obtain ⟨a0, a2, a4, _⟩ := jc S7
 have fin : ∀ {w' : World} {x10 : List Value}, St W w' [fu rb (rgC r) T.w, ju q hb m L dn, fy hb D, pd T.b 11 qw tv tl] → RjI W q hb m dn L D tv tl [gv x10 0, gv x10 1, .int .i64 ((j + 1 : Nat) : Int)] w' ∧ tl.length - ms [gv x10 0, gv x10 1, .int .i64 ((j + 1 : Nat) : Int)] 2 < tl.length - ms x 2 := fun {w' x10} S' => by
  refine ⟨⟨j + 1, rfl, by omega, S'.drop⟩, ?_⟩
  have : ms x 2 = j := by unfold ms; rw [e2]; simp
  rw [this]
  simp [ms, gv]; omega
 by_cases h6 : t.p.fx = 6
 ·obtain ⟨t1, t2⟩ := tt.2 h6
  simp [hia, c0 S7.up3, h6, a2, c2 S7.up3]
  refine adn _ _ fun w8 f8 => ?_
  rw [t1]
  have S8 := S7.iq f8
  obtain ⟨b0, b2, b4, _⟩ := jc S8
  simp [hia, b2, b4, c2 S8.up3, c6 S8.up3]
  by_cases he : r.t = t.p.b
  ·simp [rh, he, hia, b4, c6 S8.up3, t2 he, hwi]
   exact fin (x10 := [_, gv x 1]) S8
  ·simp [rh, he, hwi]
   exact fin (x10 := [_, gv x 1]) S8
 ·simp [hia, c0 S7.up3, h6, hwi]
  exact fin S7
def bdk (W : World) (l : List ahq) (hb : Nat) : KL := fun x w1 => ∃ (q : Nat) (tv : Value) (tl : List PkE) (m : im) (dn : Bool) (L : Lg) (D : Dk) (i : Nat), gv x 9 = ik q ∧ gv x 2 = tv ∧ gv x 12 = .int .i64 (i : Nat) ∧ i ≤ l.length ∧ tl.length ≤ i ∧ RsF (100 * i) i m tl dn L D ∧ St W w1 [ju q hb m L dn, fy hb D, bcf tv tl]
theorem bac {w : World} {p : Pk} {ls : List Spn} {lm : List Mem} {lu : List Int} (h : pu w p ls lm lu) : ∀ u ∈ pkC p, jn u = true := by
 obtain ⟨_, _, s3, _⟩ := h.s
 obtain ⟨_, _, m3, _⟩ := h.m
 obtain ⟨_, _, u3, _⟩ := h.u
 unfold pkC
 rw [s3, m3, u3]
 exact rk (b := p.b) (s := p.ig)
theorem ahm {W : World} {n0 : Nat} {v0 : Value} (h0 : TV P W n0 T.ae [v0]) {K : KV} (h : ∀ w', Fr (fun _ => False) W w' → K (.bool true) w') : il P F.cf [v0] W K := by
 obtain ⟨l, hl⟩ := azh h0
 apply M.i.calls
 unfold M.i
 have ex : ∀ {w'}, Fr (fun _ => False) W w' → (fg P F.bn [] w' fun v w => K v w) := fun f => bbg fun w'' f'' => h w'' (f.trans f'')
 have hlen : ∀ w' K, biT P .len #[T.ae] T.a [false] [v0] w' K = K (.int .i64 l.length) w' := fun w' K => hl.ij (by kernel_rfl) [false]
 refine bae hl fun bb w1 hbb f1 => ?_
 cases bb with
 | false =>
  simp
  exact ex f1
 | true =>
 obtain ⟨h60, hlight⟩ := hbb rfl
 simp
 unfold M.i.j0
 refine aqz ((St.ji W).iq f1) 1048576 (fun h => by omega) fun _ _ w2 hb S2 => ?_
 simp
 refine abb (m1 := []) (m2 := []) S2 (agt 1048576 128).vir rfl (by omega) (aig 1048576 128).fq (acd (aig 1048576 128).set) fun w3 q0 m' s f L D hm I hmost hfl harm hroom hx _ S3 => ?_
 have hm' : m' = [] := by rcases hm with h | h <;> exact h
 subst hm'
 have hp1 : L.fk = [] := hx trivial
 simp only [ik]
 simp
 unfold M.i.j1
 simp only [fj]
 refine ⟨bdk W l hb, fun x _ => l.length - ms x 12, ⟨q0, _, [], [], false, L, D, 0, rfl, rfl, rfl, Nat.zero_le _, Nat.zero_le _, .up L D s f _ I hmost (by rw [hp1] at hfl ⊢; simp [ft] at hfl ⊢; omega) (by simp) (by simp), (Go.Eng.qi S3).dn2⟩, ?_⟩
 rintro x3 w5 ⟨q, tv, tl, m, dn, L, D, i, g9, g2, g12, hi, htl, hF, S5⟩
 unfold M.i.j3
 rw [g12]
 by_cases hil : i < l.length
 case neg =>
  simp [hlen, hil]
  exact ex S5.fr
 have hwi : IntKind.i64.wrap ((i : Int) + 1) = ((i + 1 : Nat) : Int) := by rw [fm (by omega) (by omega)]; rfl
 simp [hlen, hil]
 unfold M.i.j4
 rw [g12]
 obtain ⟨b, o, hia, hb0, hr0⟩ := ani hl hil
 have hrd : ∀ {w' : World} {L' : List Asn}, St W w' L' → aaq w' b o l[i] := fun S' => aqf hb0 hr0 S'.fr
 obtain ⟨k0, k1, k2, k3⟩ := adk (hrd S5)
 have hlt := hlight _ (List.getElem_mem hil)
 have hP : pu W l[i].p l[i].ls l[i].lm l[i].lu := hr0.2.1.arz hlt
 have hpr := hr0.2.2.1
 have hks := hr0.2.2.2.2.1
 have hn := hr0.2.2.2.2.2
 have hS := hr0.2.1
 generalize l[i] = op at *
 have next : ∀ (x6 : List Value) (u0 u1 : Value) w6 q' tv' tl' m' dn' L' D', gv x6 2 = tv' → gv x6 9 = ik q' → tl'.length ≤ i + 1 → RsF (100 * (i + 1 : Nat)) (i + 1) m' tl' dn' L' D' → St W w6 [ju q' hb m' L' dn', fy hb D', bcf tv' tl'] →
   gt [u0, u1, .int .i64 0] w6 fun K8 x8 w => M.i.j8 x6 x8 (fun x5 w => (fun x' w' => bdk W l hb x' w' ∧ l.length - ms x' 12 < l.length - ms x3 12) [gv x5 0, gv x5 1, gv x5 2, gv x5 3, gv x5 4, gv x5 5, gv x5 6, gv x5 7, gv x5 8, gv x5 9, gv x5 10, gv x5 11, .int .i64 (IntKind.i64.wrap ((i : Int) + 1))] w) K8 w K := fun x6 u0 u1 w6 q' tv' tl' m' dn' L' D' e2 e9 htl' hF' S6 => by
  refine axs S6 hF'.tl hF'.ok (by omega) e2 e9 fun x5 w' S7 d2 d9 => ?_
  rw [hwi]
  refine ⟨⟨q', tv', tl', m', dn', L', D', i + 1, d9, d2, rfl, by omega, htl', hF', S7⟩, ?_⟩
  have : ms x3 12 = i := by unfold ms; rw [g12]; simp
  rw [this]
  simp [ms, gv]; omega
 have hF1 : RsF (100 * (i + 1 : Nat)) (i + 1) m tl dn L D := hF.mono (by omega) (by omega)
 by_cases e0 : op.fx = 0
 ·simp [hia, k0, e0, k2, g9, g2]
  refine bap (B' := 100 * (i + 1 : Nat)) (x := ⟨op.p, op.ls, op.lm, op.lu⟩) S5 hF (by omega) (by omega) hP (fun w' R' S' => hP.fr S'.fr) hpr fun w6 A e m1 dn1 L1 D1 hA1 hF6 hF7 S6 => ?_
  simp
  have S7 := ais S6
  generalize w6.heap.size = ab at *
  generalize w6.alloc _ = w7 at *
  rw [atx]
  refine alw (q := A) S7 rfl hA1 fun w8 S8 => ?_
  obtain ⟨_, _, _, _, _, a7, _⟩ := lq S8
  obtain ⟨_, _, k2', _⟩ := adk (hrd S8)
  by_cases he : e = 0
  ·cases hok : A.ok with
   | false =>
    rw [hok] at a7
    simp [he, a7]
    exact next _ _ _ w8 q tv tl m1 dn1 L1 D1 rfl rfl (by omega) hF6 S8.drop
   | true =>
    rw [hok] at a7
    simp [he, a7, hia, k2']
    have hone : ∀ u ∈ pkC op.p, jn u = true := bac hP
    have henc : qw ⟨op.p, op.ls, op.lm, op.lu⟩ = pkC op.p := bbr hS hone
    unfold pkA
    simp [pkC]
    have S9 : St W (w8.alloc (.cells (pkC op.p).toArray T.b)) (pd T.b 11 qw (.slice (some ⟨w8.heap.size, 0, none⟩) 1 1) [⟨op.p, op.ls, op.lm, op.lu⟩] :: _) := St.abx (l := [⟨op.p, op.ls, op.lm, op.lu⟩]) S8.drop acz (by simp [henc]) (by simp [maxLen])
    refine Go.Eng.wg et.aj acz azb S9.up3 (l2 := [⟨op.p, op.ls, op.lm, op.lu⟩]) (S9.row acz) (by simp; omega) (by decide) fun w10 v10 S10 => ?_
    exact next _ _ _ w10 q v10 _ m1 dn1 L1 D1 rfl rfl (by simp; omega) (hF7 he hok) (S10.swap.drop).dn2
  ·simp [he]
   exact next _ _ _ w8 q tv tl m1 dn1 L1 D1 rfl rfl (by omega) hF6 S8.drop
 by_cases e1 : op.fx = 1
 ·simp [hia, k0, e0, e1, g9, g2]
  refine bbi (B' := 100 * (i + 1 : Nat)) S5 hF (by omega) (by omega) (by omega) fun w6 e dn1 L1 D1 hF6 S6 => ?_
  exact next _ _ _ w6 q tv tl m dn1 L1 D1 rfl rfl (by omega) (hF6.mono (by omega) (by omega)) S6
 by_cases e2 : op.fx = 2
 ·simp [hia, k0, e0, e1, e2, k1]
  refine bcd S5.swap hn fun w6 S6 => ?_
  simp [g9, g2]
  exact next _ _ _ w6 q tv tl m dn L _ rfl rfl (by omega) (bch hF1 _ _) S6.swap
 by_cases e3 : op.fx = 3
 ·simp [hia, k0, e0, e1, e2, e3, k3]
  refine aze S5 hF1 hks (fun w1 S1 hk => hk) fun w6 q1 m1 L1 D1 hF6 S6 => ?_
  simp only [ik]
  simp [g2]
  exact next _ _ _ w6 q1 tv tl m1 false L1 D1 rfl rfl (by omega) hF6 S6
 simp [hia, k0, e0, e1, e2, e3, g9, g2]
 exact next _ _ _ w5 q tv tl m dn L D rfl rfl (by omega) hF1 S5
end Go.Proofs.YtfnhoaemapheoaaGreat
