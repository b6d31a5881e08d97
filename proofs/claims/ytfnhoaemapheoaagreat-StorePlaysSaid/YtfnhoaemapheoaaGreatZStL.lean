/-
  A store's calls, told by what is kept of it. No condition.
-/
import Derived.Test.YtfnhoaemapheoaaGreatZSs0
import Derived.Test.YtfnhoaemapheoaaGreatZRef3
set_option maxRecDepth 100000
namespace Go.Proofs.YtfnhoaemapheoaaGreat
open Go.Eng Go.Proofs.YtfnhoaemapheoaaGreat.Sint
section
variable {w0 w : World} {R : List Asn} {q hb : Nat} {es : List EnS} {L : Lg} {D : Dk} {s f : Int} {p : Pk} {ls : List Spn} {lm : List Mem} {lu : List Int} {ms X : List WrM} {Q : List Prt} {G : Nat} {x : Prop} {iq : Int}
theorem aeg (S : St w0 w (jb hb D :: R)) (hv : Vir s f Q G D x) (hd : D.jj = false) (hm : 64 ≤ iq ∧ iq ≤ 1048576) (hQ : jt Q = X.map qw) (hX : ∀ m ∈ X, okM m) {K : KV}
  (h : ∀ w' q j s' f' L' D', G ≤ (X.take j).length → SI s' f' L' D' (X.take j) → L'.iq = iq → f' ≤ f → (X.take j).length ≤ X.length → D'.jw = D.jw → D'.jh = D.jh → D'.jg ≤ D.jg → L'.ii.length ≤ Q.length → (x → L'.ii = Q) → St w0 w' (qf q hb (kt (X.take j)) L' false :: jb hb D' :: R) → K (.tuple #[jy q, .int .i64 0]) w') : gr P F.db [.pointer (some ⟨hb, 0, none⟩), .int .i64 iq] w K := by
 obtain ⟨s', f', Q', D', eo, g, e2, e3, ⟨j, e4⟩, e5, _, e6, e8, e9, e7⟩ := bmn hv hd hm
 obtain ⟨y1, y2, y3, y4, _, y6, y7⟩ := aqz g.vir g.up
 have hj : jt Q' = (X.take j).map qw := by rw [e4, hQ, List.map_take]
 have hok' : ∀ m ∈ X.take j, okM m := fun m hm => hX m (List.mem_of_mem_take hm)
 refine bix S (by omega) eo g y1 hj hok' fun w2 q S2 => ?_
 have hl : (jt Q').length = (X.take j).length := by rw [hj, List.length_map]
 have y2' : Vir s' f' Q' (jt Q').length (Lg.oc ⟨iq, Q'⟩ D').1 True := y2
 refine h w2 q j s' f' ⟨iq, Q'⟩ _ (by omega) ⟨⟨?_, g.size, y3⟩, hj, hok'⟩ rfl e7 (List.length_take_le' _ _) (by rw [y4, e2]) (by rw [y6, e3]) (by rw [y7]; exact e9) e8 (fun hx => (e6 hx).2.1) S2
 rw [← hl]
 exact y2'
theorem aiq (hr : xz p) (hls : ∀ s ∈ ls, wh s) (W : WrP p ls) (hne : jv es ls ≠ []) : okM (p.b, jv es ls) :=
 ⟨hr.b, hne, fun s hs => ⟨(W.ok s (List.mem_filter.1 hs).1).1, hls s (List.mem_filter.1 hs).1⟩, fun s hs s' hs' => by rw [(W.ok s (List.mem_filter.1 hs).1).2, (W.ok s' (List.mem_filter.1 hs').1).2], Nat.le_trans (List.length_filter_le _ _) W.len⟩
theorem awj (W : WrP p ls) : (jv es ls).foldl (na p.b) es = es ++ (jv es ls).map fun x => (p.b, x) := baf W.ids
def sx (ms : List WrM) (b : Bal) (l : List Spn) : List WrM := if l = [] then ms else ms ++ [(b, l)]
theorem air (ms : List WrM) (b : Bal) (l : List Spn) : kt (sx ms b l) = l.foldl (na b) (kt ms) := by
 unfold sx
 split
 ·rename_i h; subst h; rfl
 ·rw [apo]; rfl
theorem bgd (ms : List WrM) (b : Bal) (l : List Spn) : (sx ms b l).length ≤ ms.length + 1 := by unfold sx; split <;> simp
inductive yu (s f iq B : Int) (arm : Bool) (jh : Int) (ms : List WrM) (b : Bal) (l : List Spn) : Int → List WrM → Bool → Lg → Dk → Prop
 | ok (L : Lg) (D : Dk) : SI s f L D (sx ms b l) → L.iq = iq → f + (sx ms b l).length ≤ B → (arm = false → D.jw = false) → D.jh = jh → yu s f iq B arm jh ms b l 0 (sx ms b l) false L D
 | uq (L : Lg) (D : Dk) : SI s f L D ms → L.iq = iq → f + ms.length ≤ B → (arm = false → D.jw = false) → D.jh = jh → yu s f iq B arm jh ms b l 9 ms false L D
 | jj (L : Lg) (D : Dk) (Q : List Prt) (Y : List WrM) : arm = true → D.jj = true → Vir s f Q ms.length D False → jt Q = Y.map qw → (Y = ms ∨ Y = sx ms b l) → (∀ m ∈ Y, okM m) → f + Y.length ≤ B → D.jh = jh → yu s f iq B arm jh ms b l 10 ms true L D
theorem asa {B : Int} (I : SI s f L D ms) {b : Bal} {l : List Spn} (hm : l ≠ [] → okM (b, l)) (hB : f + ms.length + 1 ≤ B) (hB2 : B ≤ 1000000000000) :
  yu s f L.iq B D.jw D.jh ms b l (pr L D b l).2 (if (pr L D b l).2 = 0 then sx ms b l else ms) (decide ((pr L D b l).2 = 10)) (pr L D b l).1.1 (pr L D b l).1.2 := by
 unfold pr
 by_cases he : l = []
 ·rw [if_pos he]
  have e : sx ms b l = ms := by unfold sx; rw [if_pos he]
  simp only [if_true]
  have := yu.ok (s := s) (f := f) (iq := L.iq) (B := B) (arm := D.jw) (jh := D.jh) (ms := ms) (b := b) (l := l) L D (by rw [e]; exact I) rfl (by rw [e]; omega) id rfl
  simpa using this
 ·rw [if_neg he]
  have ho := hm he
  have e : sx ms b l = ms ++ [(b, l)] := by unfold sx; rw [if_neg he]
  have hl := aww (B := B) I ho (by rw [I.len]; omega) hB2
  have er : qw (b, l) = nk b l := rfl
  rw [er] at hl
  rw [e]
  generalize wrF L D [nk b l] = z at *
  obtain ⟨⟨L', D'⟩, k⟩ := z
  simp only at hl ⊢
  cases hl with
  | ok _ _ i1 i2 i3 i4 i5 => rw [i1.len] at i3; simpa [e] using yu.ok (s := s) (f := f) (iq := L.iq) (B := B) (arm := D.jw) (jh := D.jh) (ms := ms) (b := b) (l := l) L' D' (by rw [e]; exact i1) i2 (by rw [e]; exact i3) i4 i5
  | uq _ _ i1 i2 i3 i4 i5 => rw [i1.len] at i3; exact .uq L' D' i1 i2 i3 i4 i5
  | jj _ _ Q Y i1 i2 i3 i4 i5 i6 i7 i8 i9 =>
   have hlQ : (jt Q).length = Y.length := by rw [i4, List.length_map]
   refine .jj L' D' Q Y i1 i2 i3 i4 (by rw [e]; exact i5) ?_ (by omega) i7
   rcases i5 with rfl | rfl
   ·exact I.ok
   ·intro m hm'
    rcases List.mem_append.1 hm' with hm' | hm'
    ·exact I.ok m hm'
    ·rw [List.mem_singleton.1 hm']; exact ho
theorem bcx {B : Int} (S : St w0 w (qf q hb (kt ms) L false :: jb hb D :: R)) (hp : ∀ w' R', St w0 w' (R' ++ R) → pt w' p ls lm lu) (hr : xz p) (hls : ∀ s ∈ ls, wh s) (I : SI s f L D ms) (hB : f + ms.length + 1 ≤ B) (hB2 : B ≤ 1000000000000) {K : KV}
  (hno : wrE p ls lm lu = false → ∀ w', St w0 w' (qf q hb (kt ms) L false :: jb hb D :: R) → K (.tuple #[pkA pkZ, .slice none 0 0, .int .i64 6]) w')
  (hbad : wrE p ls lm lu = true → ∀ w' e dn' L' D', e ≠ 0 → yu s f L.iq B D.jw D.jh ms p.b (jv (kt ms) ls) e ms dn' L' D' → St w0 w' (qf q hb (kt ms) L' dn' :: jb hb D' :: R) → K (.tuple #[pkA pkZ, .slice none 0 0, .int .i64 e]) w')
  (hok : wrE p ls lm lu = true → ∀ w' v' v3 L' D', yu s f L.iq B D.jw D.jh ms p.b (jv (kt ms) ls) 0 (sx ms p.b (jv (kt ms) ls)) false L' D' → St w0 w' (rdA 1 nq v' (po ls) :: rdA 8 iy v3 (jv (kt ms) ls) :: qf q hb (kt (sx ms p.b (jv (kt ms) ls))) L' false :: jb hb D' :: R) → K (.tuple #[pkA (rh p.tr v'), v3, .int .i64 0]) w') :
  gr P F.bh [jy q, pkA p] w K := by
 have up : D.jj = false := I.aag.up
 have hlen := I.len
 refine asu (s := s) (f := f) S hp hr hls (ajx I.ok) (fun _ _ => ⟨_, I.aag⟩) (by omega) hno (fun _ hd => by rw [up] at hd; cases hd) (fun hw _ _ h0 w' S' => ?_) fun hw _ _ h0 w' v' v3 S' => ?_
 all_goals
  obtain ⟨_, W⟩ := ajo hw
  have hl := asa (B := B) (b := p.b) (l := jv (kt ms) ls) I (fun hne => aiq hr hls W hne) hB hB2
 ·rw [if_neg h0] at hl
  exact hbad hw w' _ _ _ _ h0 hl S'
 ·rw [if_pos h0, h0] at hl
  rw [← air] at S'
  exact hok hw w' v' v3 _ _ (by simpa using hl) S'
theorem bfh {b : Bal} {l : List Spn} (I : SI s f L D ms) (hm : l ≠ [] → okM (b, l)) (hn : f + ms.length + 1 ≤ 1000000000000) (h1 : L.ii.length < 63) (h2 : D.jw = false) (h3 : (D.jg : Int) + 1752 ≤ D.jh) : (pr L D b l).2 = 0 ∧ (pr L D b l).1.2.jg ≤ D.jg + 1752 ∧ (pr L D b l).1.1.ii.length ≤ L.ii.length + 1 := by
 unfold pr
 by_cases he : l = []
 ·rw [if_pos he]
  exact ⟨rfl, by simp, by simp⟩
 rw [if_neg he]
 have hb := avc (hm he)
 have er : qw (b, l) = nk b l := rfl
 rw [er] at hb
 have ha := bie (b := nk b l) I.aag (by rw [I.len]; omega)
 have h0 : (L.append D (nk b l)).2 = 0 := by
  generalize L.append D (nk b l) = z at *
  cases ha with
  | amo hx => omega
  | uq D' hx _ _ _ => rcases hx with hx | hx <;> omega
  | jj D' Q hx => rw [h2] at hx; cases hx
  | ok => rfl
 rw [aro h0]
 generalize L.append D (nk b l) = z at *
 cases ha with
 | amo hx => simp at h0
 | uq => simp at h0
 | jj => simp at h0
 | ok L' D' g' e1 e2 e3 e4 e5 e6 e7 =>
  have e0 : wrF L' D' [] = ((L', (L'.oc D').1), (L'.oc D').2) := by unfold wrF tt; simp
  rw [e0]
  obtain ⟨y1, _, _, _, _, _, y7⟩ := aqz g'.vir g'.up
  exact ⟨y1, by rw [y7]; omega, e2⟩
theorem azu (S : St w0 w (qf q hb (kt ms) L false :: jb hb D :: R)) (hp : ∀ w' R', St w0 w' (R' ++ R) → pt w' p ls lm lu) (hr : xz p) (hls : ∀ s ∈ ls, wh s) (I : SI s f L D ms) (hn : f + ms.length + 1 ≤ 1000000000000) (hw : wrE p ls lm lu = true) (h1 : L.ii.length < 63) (h2 : D.jw = false) (h3 : (D.jg : Int) + 1752 ≤ D.jh) {K : KV}
  (h : ∀ w' v' v3 L' D', SI s f L' D' (sx ms p.b (jv (kt ms) ls)) → L'.iq = L.iq → D'.jw = false → D'.jh = D.jh → D'.jg ≤ D.jg + 1752 → L'.ii.length ≤ L.ii.length + 1 → St w0 w' (rdA 1 nq v' (po ls) :: rdA 8 iy v3 (jv (kt ms) ls) :: qf q hb (kt (sx ms p.b (jv (kt ms) ls))) L' false :: jb hb D' :: R) → K (.tuple #[pkA (rh p.tr v'), v3, .int .i64 0]) w') :
  gr P F.bh [jy q, pkA p] w K := by
 have up : D.jj = false := I.aag.up
 obtain ⟨_, W⟩ := ajo hw
 obtain ⟨s1, s2, s3⟩ := bfh (b := p.b) (l := jv (kt ms) ls) I (fun hne => aiq hr hls W hne) hn h1 h2 h3
 have hl := asa (B := f + ms.length + 1) (b := p.b) (l := jv (kt ms) ls) I (fun hne => aiq hr hls W hne) (Int.le_refl _) hn
 rw [if_pos s1, s1] at hl
 refine asu (s := s) (f := f) S hp hr hls (ajx I.ok) (fun _ _ => ⟨_, I.aag⟩) (by rw [I.len]; omega) (fun h => by rw [hw] at h; cases h) (fun _ hd => by rw [up] at hd; cases hd) (fun _ _ _ h0 => absurd s1 h0) fun _ _ _ _ w' v' v3 S' => ?_
 rw [← air] at S'
 generalize (pr L D p.b (jv (kt ms) ls)).1.1 = L' at *
 generalize (pr L D p.b (jv (kt ms) ls)).1.2 = D' at *
 generalize hdd : decide ((0 : Int) = 10) = dd at hl
 cases hl with
 | ok _ _ i1 i2 i3 i4 i5 => exact h w' v' v3 L' D' i1 i2 (i4 h2) i5 s2 s3 S'
end
set_option maxRecDepth 100000
def spA : Spn := ⟨5, 2, 0, 0, 0, ⟨#[97]⟩, ⟨#[98]⟩, false⟩
def spC : Spn := ⟨5, 1, 0, 0, 0, ⟨#[97]⟩, ⟨#[99]⟩, false⟩
theorem nmA : qj ⟨#[97]⟩ = 0 := by decide +kernel
theorem nmB : qj ⟨#[98]⟩ = 0 := by decide +kernel
theorem nmC : qj ⟨#[99]⟩ = 0 := by decide +kernel
theorem bmg : ly spA = 0 := by
 unfold ly spA
 simp only [nmA, nmB]
 decide
theorem bnr : ly spC = 0 := by
 unfold ly spC
 simp only [nmA, nmC]
 decide
def pkX (v : Value) : Pk := ⟨9, 5, ⟨1, 0⟩, ir, 0, false, v, iz, iz⟩
theorem boj (v : Value) : wrE (pkX v) [spA, spC] [] [] = true := by
 have h1 : ro 5 [spA, spC] = true := by
  have a := abd (tr := 5) (met := []) (s := spA) (r := [spC]) bmg rfl (by simp)
  have b := abd (tr := 5) (met := [] ++ [spA.id]) (s := spC) (r := []) bnr rfl (by simp [spA, spC])
  unfold ro
  rw [a, b]
  simp [th]
 unfold wrE tf aeb qp nh
 simp [pkX, lx, pu, pw, px, mo, iz, h1, akg]
theorem blo (v : Value) : xz (pkX v) := by
 have u : ∀ x : Int, 0 ≤ x → x < 10 → un x := fun x h1 h2 => ⟨h1, by omega⟩
 exact ⟨u 5 (by decide) (by decide), ⟨u 1 (by decide) (by decide), u 0 (by decide) (by decide)⟩, ⟨u 0 (by decide) (by decide), u 0 (by decide) (by decide)⟩⟩
theorem bof : ∀ s ∈ [spA, spC], wh s := fun s hs => by
 have u : ∀ x : Int, 0 ≤ x → x < 10 → un x := fun x h1 h2 => ⟨h1, by omega⟩
 rcases List.mem_cons.1 hs with rfl | hs
 ·exact ⟨u _ (by decide) (by decide), u _ (by decide) (by decide), u _ (by decide) (by decide), u _ (by decide) (by decide), u _ (by decide) (by decide)⟩
 ·rw [List.mem_singleton.1 hs]
  exact ⟨u _ (by decide) (by decide), u _ (by decide) (by decide), u _ (by decide) (by decide), u _ (by decide) (by decide), u _ (by decide) (by decide)⟩
theorem bou : po [spA, spC] = [1, 2] := by
 have e : po [spA, spC] = Suint64.mq [2, 1] := rfl
 rw [e, Suint64.ud (List.Perm.swap 1 2 [])]
 exact List.mergeSort_of_pairwise (by simp)
theorem ber {l : List Spn} (h1 : oy l) (h2 : l.Perm [spA, spC]) : l = [spC, spA] := by
 refine (apc (h2.trans (List.Perm.swap _ _ _)) h1 ?_ ?_)
 ·simp [leS, spA, spC]
 ·intro x hx y hy he
  have hx' := h2.mem_iff.1 hx
  have hy' := h2.mem_iff.1 hy
  simp only [List.mem_cons, List.not_mem_nil, or_false] at hx' hy'
  rcases hx' with rfl | rfl <;> rcases hy' with rfl | rfl
  ·rfl
  ·simp [spA, spC] at he
  ·simp [spA, spC] at he
  ·rfl
theorem awx {w : World} {K : KV} (h : ∀ w', Fz w w' → K (.bool true) w') : gr P F.bz [] w K := by
 rw [M.ca.fcall]
 apply M.ca.calls
 unfold M.ca
 refine awy (St.ji w) 10000 (fun h => by omega) fun _ _ w1 hb S1 => ?_
 simp
 refine aeg (X := []) S1 (atw 10000 256).vir rfl (by omega) (by simp [jt]) (fun m hm => by simp at hm) fun w2 q j s f L D _ I hmost hfl _ harm hroom hused _ hx S2 => ?_
 rw [List.take_nil] at I S2
 have hp0 : L.ii = [] := hx trivial
 simp only [jy]
 simp
 unfold M.ca.j0
 simp
 have S3 : St w (w2.alloc (.cells #[.int .u64 5, .int .u64 2, .int .u64 0, .int .u64 0, .int .u64 0, .string ⟨#[97]⟩, .string ⟨#[98]⟩, .bool false, .int .u64 5, .int .u64 1, .int .u64 0, .int .u64 0, .int .u64 0, .string ⟨#[97]⟩, .string ⟨#[99]⟩, .bool false] T.e)) (lj (.slice (some ⟨w2.heap.size, 0, none⟩) 2 2) [spA, spC] :: _) := St.te (l := [spA, spC]) S2 lk rfl (by simp [maxLen])
 generalize w2.heap.size = rb at *
 generalize w2.alloc _ = w3 at *
 have ep : Value.agg #[.int .i64 9, .int .u64 5, .int .u64 1, .int .u64 0, .int .u64 0, .int .u64 0, .int .i64 0, .bool false, .slice (some ⟨rb, 0, none⟩) 2 2, .slice none 0 0, .slice none 0 0] = pkA (pkX (.slice (some ⟨rb, 0, none⟩) 2 2)) := rfl
 rw [ep]
 have hrng := blo (.slice (some ⟨rb, 0, none⟩) 2 2)
 have hu : D.jg = 0 := aze I.aag hp0
 have hf0 : f = 0 := (I.aag.vir.nil hp0).2
 have S4 : St w w3 (qf q hb (kt []) L false :: jb hb D :: lj (.slice (some ⟨rb, 0, none⟩) 2 2) [spA, spC] :: []) := St.dn2 S3
 have hfr : jv (kt []) [spA, spC] = [spA, spC] := rfl
 refine azu S4 (fun w' R' S' => ⟨(S'.perm List.perm_middle).row lk, Sl.nil, Sl.nil, by simp, by simp, by simp⟩) hrng bof I (by rw [hf0]; simp) (boj _) (by rw [hp0]; simp) harm (by rw [hu, hroom]; simp) fun w5 v' v3 L2 D2 I2 hm2 ha2 hr2 hu2 hp2 S5 => ?_
 rw [hfr, bou] at S5
 rw [hfr] at I2
 have hms : sx [] (pkX (.slice (some ⟨rb, 0, none⟩) 2 2)).b [spA, spC] = [(⟨1, 0⟩, [spA, spC])] := rfl
 rw [hms] at I2 S5
 simp
 have S6 := aai S5
 generalize w5.heap.size = tb at *
 generalize w5.alloc _ = w6 at *
 have one6 := aam (tr := (pkX (.slice (some ⟨rb, 0, none⟩) 2 2)).tr) (S5.rd : SlU w5 v' [1, 2])
 rw [aak]
 refine adz (q := rh (pkX (.slice (some ⟨rb, 0, none⟩) 2 2)).tr v') S6 rfl one6 fun w7 S7 => ?_
 refine bgy (kl := []) (S7.up4) (fun _ _ _ => Sl.nil) fun w8 S8 => ?_
 obtain ⟨c1, c2, c3, c4⟩ := bnj I2.aag.vir []
 refine aeg (X := [(⟨1, 0⟩, [spA, spC])]) S8 c1 c2 (by omega) I2.jc I2.ok fun w9 q2 j s3 f3 L3 D3 hj I3 _ _ _ _ _ _ _ _ S9 => ?_
 have hjt : [((⟨1, 0⟩ : Bal), [spA, spC])].take j = [(⟨1, 0⟩, [spA, spC])] := List.take_of_length_le (by
  rw [List.length_take] at hj
  simp at hj ⊢
  omega)
 rw [hjt] at I3 S9
 have hes : kt [((⟨1, 0⟩ : Bal), [spA, spC])] = [(⟨1, 0⟩, spA), (⟨1, 0⟩, spC)] := rfl
 rw [hes] at S9
 have hsp : nr [((⟨1, 0⟩ : Bal), spA), (⟨1, 0⟩, spC)] 5 = [spA, spC] := rfl
 have hun : yb [((⟨1, 0⟩ : Bal), spA), (⟨1, 0⟩, spC)] := by rw [← hes]; exact apk _
 -- [sto, disk, tb, rd ids, rd fresh, sto old, row]
 obtain ⟨_, _, _, _, _, _, _, _, k10, _⟩ := jo S9.up2
 have li : ∀ w' K, biT P .len #[T.f] T.c [false] [v'] w' K = K (.int .i64 2) w' := fun w' K => (S9.up3.rd : SlU w9 v' [1, 2]).ja (by kernel_rfl) [false]
 have lf : ∀ w' K, biT P .len #[T.b] T.c [false] [v3] w' K = K (.int .i64 2) w' := fun w' K => (S9.up4.rd : SlS w9 v3 [spA, spC]).ja (by kernel_rfl) [false]
 obtain ⟨b1, o1, cap1, hv1, _, _, hc1⟩ := (S9.up3.rd : SlU w9 v' [1, 2]).at (i := 0) (by simp)
 have d1 : ic w9 b1 o1 = some (.int .u64 1) := by simpa using hc1 0 _ rfl
 have ia1 : ∀ w' K, iaT P T.f v' (.int .i64 0) w' K = K (.pointer (some ⟨b1, o1, none⟩)) w' := fun w' K => by
  rw [hv1, aaz (by simp) (by omega) (by simp)]; simp
 simp [k10, li, lf, ia1, d1, rh, jy]
 refine aea S9 hun (by simp) 5 fun w10 v4 l4 g1 g2 S10 => ?_
 rw [hsp] at g2
 have hl4 := ber g1 g2
 subst hl4
 have l4' : ∀ w' K, biT P .len #[T.b] T.c [false] [v4] w' K = K (.int .i64 2) w' := fun w' K => (S10.rd : SlS w10 v4 [spC, spA]).ja (by kernel_rfl) [false]
 simp [l4']
 refine aea S10.swap hun (by simp) 5 fun w11 v5 l5 g3 g4 S11 => ?_
 rw [hsp] at g4
 have hl5 := ber g3 g4
 subst hl5
 obtain ⟨b2, o2, cap2, hv2, _, _, hc2⟩ := (S11.rd : SlS w11 v5 [spC, spA]).at (i := 0) (by simp)
 have d2 : ic w11 b2 (o2 + 1) = some (.int .u64 1) := by simpa [spC] using hc2 1 _ rfl
 have ia2 : ∀ w' K, iaT P T.b v5 (.int .i64 0) w' K = K (.pointer (some ⟨b2, o2, none⟩)) w' := fun w' K => by
  rw [hv2, aaz (by simp) (by omega) (by simp)]; simp
 simp [ia2, d2]
 exact h w11 S11.fr
theorem avd {w : World} (x y : Spn) {K : KV} (h : ∀ w', Fz w w' → K (.bool (decide (xk x y < 0))) w') : gr P F.eg [ki x, ki y] w K := by
 rw [M.dq.fcall]
 apply M.dq.calls
 unfold M.dq
 refine St.td (St.ji w) fun b1 w1 S1 => ?_
 refine St.td S1 fun b2 w2 S2 => ?_
 have S2' : St w w2 (spB b2 y :: spB b1 x :: []) := S2
 have x3 : ic w2 b1 3 = some (.int .u64 x.ji) := by rw [S2'.swap.cell]; rfl
 have x1 : ic w2 b1 1 = some (.int .u64 x.id) := by rw [S2'.swap.cell]; rfl
 have y3 : ic w2 b2 3 = some (.int .u64 y.ji) := by rw [S2'.cell]; rfl
 have y1 : ic w2 b2 1 = some (.int .u64 y.id) := by rw [S2'.cell]; rfl
 have fin := h w2 S2'.fr
 have e : decide (xk x y < 0) = (decide (x.ji < y.ji) || (decide (x.ji = y.ji) && decide (x.id < y.id))) := by
  have hi : xk x y < 0 ↔ (x.ji < y.ji ∨ (x.ji = y.ji ∧ x.id < y.id)) := by
   rw [vt]; unfold leS; omega
  simp only [hi, Bool.decide_or, Bool.decide_and]
 rw [e] at fin
 by_cases h1 : x.ji < y.ji
 ·simp [h1] at fin
  simp [x3, y3, h1]
  exact fin
 ·by_cases h2 : x.ji = y.ji
  ·simp [h2] at fin
   simp [x3, y3, x1, y1, h2]
   exact fin
  ·simp [h1, h2] at fin
   simp [x3, y3, h1, h2]
   exact fin
def bno (w : World) (l : List Spn) : KL := fun v w1 => ∃ (u vo : Value) (i : Nat) (lo : List Spn), v = [u, vo, .int .i64 (i : Nat)] ∧ i ≤ l.length ∧ oy lo ∧ lo.Perm (l.take i) ∧ Ow w1 w.heap.size T.e 8 iy vo lo ∧ Fz w w1
def bqh (w1 : World) (lo : List Spn) (x : Spn) : KL := fun v w2 => ∃ (k : Nat), v = [.int .i64 (k : Nat)] ∧ k ≤ lo.length ∧ (k = lo.length ∨ ∃ h : k < lo.length, leS x lo[k]) ∧ Fz w1 w2
section
variable {w : World} {v : Value} {l : List Spn}
theorem aqi {w1 : World} {u vo : Value} {lo : List Spn} {i k : Nat} (hs : SlS w1 v l) (hv : ∀ b, v.ownBlock = some b → b < w1.heap.size) (o : Ow w1 w.heap.size T.e 8 iy vo lo) (hi : i < l.length) (hk : k ≤ lo.length) (hl : lo.length ≤ 100000) (hsz : w.heap.size ≤ w1.heap.size) {K3 : KL} {K : KV}
  (h : ∀ w' v' u', Ow w' w.heap.size T.e 8 iy v' (lo.take k ++ l[i] :: lo.drop k) → Fz w1 w' → K3 [u', v'] w') : M.z.j4 [u, vo, .int .i64 (i : Nat)] [.int .i64 (k : Nat)] v K3 w1 K := by
 unfold M.z.j4
 have q1 : gv [u, vo, .int .i64 (i : Nat)] 1 = vo := rfl
 have q2 : gv [u, vo, .int .i64 (i : Nat)] 2 = .int .i64 (i : Nat) := rfl
 have so : SlS w1 vo lo := o.sl lk
 have hown : ∀ b, vo.ownBlock = some b → b < w1.heap.size := fun b hb => (o.lt hb).2
 obtain ⟨v1, s1, p1, r1⟩ := so.sub (P := P) (t := T.b) (lo := none) (hi := some (.int .i64 (k : Int))) (i := 0) (j := k) (by kernel_rfl) (by kernel_rfl) (.inl ⟨rfl, rfl⟩) (.inr ⟨_, rfl⟩) (Nat.zero_le _) hk
 obtain ⟨v3, s3, p3, r3⟩ := so.sub (P := P) (t := T.b) (lo := some (.int .i64 (k : Int))) (hi := none) (i := k) (j := lo.length) (by kernel_rfl) (by kernel_rfl) (.inr ⟨_, rfl⟩) (.inl ⟨rfl, rfl⟩) hk (Nat.le_refl _)
 have e1 : List.take (k - 0) (List.drop 0 lo) = lo.take k := by simp
 have e3 : List.take (lo.length - k) (List.drop k lo) = lo.drop k := List.take_of_length_le (by simp)
 rw [e1] at s1
 rw [e3] at s3
 obtain ⟨b', oo, cap, hv2, hbb, _, hc⟩ := hs.at hi
 have em : ki l[i] = .agg #[.int .u64 l[i].iu, .int .u64 l[i].id, .int .u64 l[i].om, .int .u64 l[i].ji, .int .u64 l[i].len, .string l[i].ke, .string l[i].name, .bool l[i].sd] := rfl
 have hldf : ∀ {w'}, Fz w1 w' → ∀ K, ldN P 8 b' (oo + i * 8) w' K = K (.agg #[.int .u64 l[i].iu, .int .u64 l[i].id, .int .u64 l[i].om, .int .u64 l[i].ji, .int .u64 l[i].len, .string l[i].ke, .string l[i].name, .bool l[i].sd]) w' := fun f K => by
  rw [← em]
  exact pg (iy l[i]) 8 rfl (fun k u hk => by rw [sk (f.kf b' hbb fun h => h)]; exact hc k u hk) K
 have hldd := hldf (w' := Eng.dr w1 1) ((Fr.refl _ w1).dr 1)
 have g15 : ∀ (b0 b1 b2 b3 b4 b5 b6 b7 b8 b9 b10 b11 b12 b13 b14 b15 : Value), gv [b0, b1, b2, b3, b4, b5, b6, b7, b8, b9, b10, b11, b12, b13, b14, b15] 15 = b15 := fun _ _ _ _ _ _ _ _ _ _ _ _ _ _ _ _ => rfl
 subst hv2
 simp [q1, q2, r1, r3, hi, hldd, g15]
 have fin := bbh (P := P) (ty := T.b) et.b lk og (x := l[i]) (cells := #[.int .u64 l[i].iu, .int .u64 l[i].id, .int .u64 l[i].om, .int .u64 l[i].ji, .int .u64 l[i].len, .string l[i].ke, .string l[i].name, .bool l[i].sd]) rfl s1 s3 (fun y hy => hown y (p1 y hy)) (fun y hy => hown y (p3 y hy)) (by simp; omega) (by decide) (Q := fun w1 => ldN P 8 b' (oo + i * 8) w1 fun v' w' => w' = w1 ∧ v' = .agg #[.int .u64 l[i].iu, .int .u64 l[i].id, .int .u64 l[i].om, .int .u64 l[i].ji, .int .u64 l[i].len, .string l[i].ke, .string l[i].name, .bool l[i].sd]) (fun w' f => by rw [hldf f]; exact ⟨rfl, rfl⟩) (c1 := [false, false]) (c2 := [false, false]) (c3 := [false, false]) (c4 := [false, false]) (c5 := [false, false]) (c6 := [false, false]) (c7 := [false, false]) (c8 := [false, false]) (c9 := [false, false]) (K := fun t w => K3 [.int .i64 (k : Nat), t] w) fun w' v' o' f' =>
  h w' v' _ (by simpa using o'.mono hsz) f'
 exact fin
theorem aru (hs : SlS w v l) (hv : ∀ b, v.ownBlock = some b → b < w.heap.size) (hl : l.length ≤ 100000) {K : KV}
  (h : ∀ w' v' l', oy l' → l'.Perm l → Ow w' w.heap.size T.e 8 iy v' l' → Fz w w' → K v' w') : gr P F.ef [v] w K := by
 rw [M.z.fcall]
 apply M.z.calls
 unfold M.z
 simp only [ib]
 refine ⟨bno w l, fun x _ => l.length - ms x 2, ⟨undef, .slice none 0 0, 0, [], rfl, Nat.zero_le _, List.Pairwise.nil, by simp, Ow.none, Fr.refl _ _⟩, ?_⟩
 rintro x w1 ⟨u, vo, i, lo, rfl, hi, hasc, hp, o, f1⟩
 have q1 : gv [u, vo, .int .i64 (i : Nat)] 1 = vo := rfl
 have q2 : gv [u, vo, .int .i64 (i : Nat)] 2 = .int .i64 (i : Nat) := rfl
 have hs1 : SlS w1 v l := hs.fr f1 fun _ _ _ h => h
 have hlen : ∀ w' K, biT P .len #[T.b] T.c [false] [v] w' K = K (.int .i64 l.length) w' := fun w' K => hs.ja (by kernel_rfl) [false]
 have hpl := hp.length_eq
 rw [List.length_take] at hpl
 unfold M.z.j1
 simp only [ib, hlen, q2, lw]
 by_cases hil : i < l.length
 ·have hili : (i : Int) < (l.length : Int) := by omega
  have hwi : IntKind.i64.wrap ((i : Int) + 1) = ((i + 1 : Nat) : Int) := by rw [ig]; rfl
  simp only [hili, decide_true, Eng.cond_true]
  unfold M.z.j2
  have so : SlS w1 vo lo := o.sl lk
  have hlo : ∀ w' K, biT P .len #[T.b] T.c [false] [vo] w' K = K (.int .i64 lo.length) w' := fun w' K => so.ja (by kernel_rfl) [false]
  simp only [ib, q1, hlo]
  refine ⟨bqh w1 lo l[i], fun x _ => ms x 0, ⟨lo.length, rfl, Nat.le_refl _, .inl rfl, Fr.refl _ _⟩, ?_⟩
  rintro x w2 ⟨k, rfl, hk, hkk, f2⟩
  have hs2 : SlS w2 v l := hs1.fr f2 fun _ _ _ h => h
  have o2 := o.fr f2 fun _ _ h => h
  have so2 : SlS w2 vo lo := o2.sl lk
  have hsz2 : w.heap.size ≤ w2.heap.size := (f1.trans f2).size
  have hv2 : ∀ b, v.ownBlock = some b → b < w2.heap.size := fun b hb => by have := hv b hb; omega
  have g0 : gv [Value.int .i64 (k : Nat)] 0 = .int .i64 (k : Nat) := rfl
  -- where it is put
  have fin : ∀ (w3 : World), Fz w2 w3 → (k = 0 ∨ ∃ h : k - 1 < lo.length, leS lo[k - 1] l[i]) → M.z.j4 [u, vo, .int .i64 (i : Nat)] [.int .i64 (k : Nat)] v (fun x3 w_1 => ik P .add T.c (.tmp 10) (.const (.int .i64 1)) (.int .i64 (i : Nat)) (.int .i64 1) w_1 fun t11 w_2 => bno w l [gv x3 0, gv x3 1, t11] w_2 ∧ l.length - ms [gv x3 0, gv x3 1, t11] 2 < l.length - ms [u, vo, .int .i64 (i : Nat)] 2) w3 K := fun w3 f3 hle => by
   refine aqi (hs2.fr f3 fun _ _ _ h => h) (fun b hb => by have := hv2 b hb; have := f3.size; omega) (o2.fr f3 fun _ _ h => h) hil hk (by omega) (by have := f3.size; omega) fun w4 v4 u4 o4 f4 => ?_
   simp only [ky, hwi]
   refine ⟨⟨_, _, i + 1, _, rfl, by omega, akk hasc hk hle hkk, ?_, o4, ((f1.trans f2).trans f3).trans f4⟩, by simp [ms, gv]; omega⟩
   rw [List.take_add_one, List.getElem?_eq_getElem hil]
   exact (akr lo l[i] k).trans ((List.Perm.cons _ hp).trans (List.perm_append_comm (l₁ := [l[i]]) (l₂ := l.take i)))
  unfold M.z.j5
  simp only [ib, g0, q1, q2]
  have fd : Fz w2 (Eng.dr w2 1) := (Fr.refl _ w2).dr 1
  cases k with
  | zero =>
   have := fin _ fd (.inl rfl)
   simp
   simpa using this
  | succ k =>
   obtain ⟨ba, oa, ca, hva, hba, _, hca⟩ := hs2.at hil
   obtain ⟨bo, oo, co, hvo, hbo, _, hco⟩ := so2.at (show k < lo.length by omega)
   have la : ∀ K, ldN P 8 ba (oa + i * 8) (Eng.dr w2 1) K = K (ki l[i]) (Eng.dr w2 1) := fun K => pg (w := Eng.dr w2 1) (iy l[i]) 8 rfl hca K
   have lb : ∀ K, ldN P 8 bo (oo + k * 8) (Eng.dr w2 1) K = K (ki lo[k]) (Eng.dr w2 1) := fun K => pg (w := Eng.dr w2 1) (iy lo[k]) 8 rfl hco K
   have ia1 : ∀ w' K, iaT P T.b v (.int .i64 (i : Nat)) w' K = K (.pointer (some ⟨ba, oa + i * 8, none⟩)) w' := fun w' K => by rw [hva]; simp [hil]
   have ia2 : ∀ w' K, iaT P T.b vo (.int .i64 (k : Nat)) w' K = K (.pointer (some ⟨bo, oo + k * 8, none⟩)) w' := fun w' K => by rw [hvo]; simp [show k < lo.length by omega]
   have hw : IntKind.i64.wrap (((k + 1 : Nat) : Int) - 1) = (k : Int) := by rw [ig]; omega
   have hpos : (0 : Int) < ((k + 1 : Nat) : Int) := by omega
   simp [-Int.natCast_add, hpos, ia1, ia2, la, lb, hw]
   refine avd _ _ fun w3 f3 => ?_
   by_cases hc : leS lo[k] l[i]
   ·have hno : ¬ xk l[i] lo[k] < 0 := fun hh => vt.1 hh hc
    have := fin w3 (fd.trans f3) (.inr ⟨by simp; omega, by simpa using hc⟩)
    simp [hno]
    simpa using this
   ·have hyes : xk l[i] lo[k] < 0 := vt.2 hc
    simp [hyes, -Int.natCast_add, hw]
    exact ⟨⟨k, rfl, by omega, .inr ⟨by omega, leS.of hc⟩, (f2.trans fd).trans f3⟩, by simp [ms, gv]⟩
 ·have hie : i = l.length := by omega
  have hili : ¬ (i : Int) < (l.length : Int) := by omega
  simp only [hili, decide_false, Eng.cond_false]
  rw [hie, List.take_length] at hp
  exact h w1 vo lo hasc hp o f1
end
def xl (e : EnS) : List Value := [.int .u64 e.1.n, .int .u64 e.1.jk, .int .u64 e.2.iu, .int .u64 e.2.id, .int .u64 e.2.om, .int .u64 e.2.ji, .int .u64 e.2.len, .string e.2.ke, .string e.2.name, .bool e.2.sd]
theorem qa (e : EnS) : (xl e).length = 10 := rfl
theorem agj (e : EnS) : ∀ u ∈ xl e, kq u = true := fun u hu => by
 simp only [xl, List.mem_cons, List.not_mem_nil, or_false] at hu
 rcases hu with rfl | rfl | rfl | rfl | rfl | rfl | rfl | rfl | rfl | rfl <;> rfl
abbrev SlN (w : World) (v : Value) (l : List EnS) : Prop := Sl w 10 xl v l
def bmw (W : World) (l : List Bal) (rb tb : Nat) : KL := fun x w1 => ∃ (i : Nat), x = [.int .i64 (i : Nat)] ∧ i ≤ l.length ∧ St W w1 (baB rb (qr ir (l.take i)) :: baB tb ir :: [])
def bpn (W : World) (es : List EnS) (x : Spn) (xb : Nat) : KL := fun v w1 => ∃ (u : Value) (i : Nat), v = [u, .int .i64 (i : Nat)] ∧ i ≤ es.length ∧ (∀ j (h : j < es.length), j < i → ¬ (es[j].2.iu = x.iu ∧ es[j].2.id = x.id)) ∧ St W w1 (spB xb x :: [])
section
variable {w : World} {v : Value} {es : List EnS}
theorem awr {l : List Bal} (hs : Sl w 2 ya v l) (hl : l.length ≤ 1000000) {K : KV} (h : ∀ w', Fz w w' → K (ko (qr ir l)) w') : gr P F.es [v] w K := by
 rw [M.cm.fcall]
 apply M.cm.calls
 unfold M.cm
 simp
 have S1 := aei (St.ji w)
 have z1 : (w.alloc (.cells #[.int .u64 0, .int .u64 0] T.d)).heap.size = w.heap.size + 1 := jz _ _
 generalize w.alloc (.cells #[.int .u64 0, .int .u64 0] T.d) = w1 at *
 have S2 := aei S1
 rw [z1] at S2
 generalize w.heap.size = tb at *
 generalize tb + 1 = rb at *
 generalize w1.alloc _ = w2 at *
 refine St.put (i := 0) (vs := [.int .u64 0, .int .u64 0]) (cs' := #[.int .u64 0, .int .u64 0]) S2 (by simp [kq]) (by simp) rfl fun w3 S3 => ?_
 have S3' : St w w3 (baB rb ir :: baB tb ir :: []) := S3
 have hlen : ∀ w' K, biT P .len #[T.al] T.c [false] [v] w' K = K (.int .i64 l.length) w' := fun w' K => hs.ja (by kernel_rfl) [false]
 simp [hlen]
 refine ⟨bmw w l rb tb, fun x _ => l.length - ms x 0, ⟨0, rfl, Nat.zero_le _, S3'⟩, ?_⟩
 rintro x w4 ⟨i, rfl, hi, S4⟩
 by_cases hil : i < l.length
 ·have hwi : IntKind.i64.wrap ((i : Int) + 1) = ((i + 1 : Nat) : Int) := by rw [ig]; rfl
  simp [hil]
  unfold M.cm.j2
  simp only [ib, qg]
  have S5 := S4.jl ((Fr.refl _ w4).dr 1)
  generalize Eng.dr w4 1 = w5 at *
  have hs5 : Sl w5 2 ya v l := hs.fr S5.fr fun _ _ _ h => h
  obtain ⟨ab, ao, cap, hv, _, _, hc⟩ := hs5.at hil
  have hia : ∀ w' K, iaT P T.al v (.int .i64 (i : Nat)) w' K = K (.pointer (some ⟨ab, ao + i * 2, none⟩)) w' := fun w' K => by
   rw [hv, aaz (by kernel_rfl) (by omega) (by omega), show szE P T.al = 2 from by kernel_rfl]
   simp
  have hld : ∀ K, ldN P 2 ab (ao + i * 2) w5 K = K (ko l[i]) w5 := fun K => pg (ya l[i]) 2 rfl hc K
  obtain ⟨_, _, b1⟩ := pk S5
  have e : qr ir (l.take (i + 1)) = if (qr ir (l.take i)).ww l[i] = true then l[i] else qr ir (l.take i) := by
   rw [List.take_add_one, List.getElem?_eq_getElem hil]
   exact apb _ _ _
  have hlast : ∀ w', St w w' (baB rb (qr ir (l.take (i + 1))) :: baB tb ir :: []) → bmw w l rb tb [.int .i64 ((i + 1 : Nat) : Int)] w' ∧ l.length - ms [.int .i64 ((i + 1 : Nat) : Int)] 0 < l.length - ms [.int .i64 (i : Nat)] 0 := fun w' S' => ⟨⟨i + 1, rfl, by omega, S'⟩, by simp [ms, gv]; omega⟩
  simp [hia, hld, b1]
  refine azv _ _ fun w6 f6 => ?_
  have S6 := S5.jl f6
  have hld6 : ∀ K, ldN P 2 ab (ao + i * 2) w6 K = K (ko l[i]) w6 := fun K => by
   obtain ⟨ab', ao', cap', hv', _, _, hc'⟩ := (hs5.fr f6 fun _ _ _ h => h).at hil
   rw [hv] at hv'
   injection hv' with q1 _ _
   injection q1 with q1
   injection q1 with q1 q2 _
   subst q1 q2
   exact pg (ya l[i]) 2 rfl hc' K
  cases hb : (qr ir (l.take i)).ww l[i] with
  | true =>
   rw [hb] at e
   simp only [if_true] at e
   simp [hld6]
   refine acm (y := l[i]) S6 fun w7 S7 => ?_
   rw [hwi]
   refine hlast w7 ?_
   rw [e]; exact S7
  | false =>
   rw [hb] at e
   simp only [Bool.false_eq_true, if_false] at e
   simp
   rw [hwi]
   refine hlast w6 ?_
   rw [e]; exact S6
 ·have hie : i = l.length := by omega
  subst hie
  rw [List.take_length] at S4
  obtain ⟨_, _, b1⟩ := pk S4
  simp [b1]
  refine acm (y := qr ir l) S4.swap fun w5 S5 => ?_
  obtain ⟨_, _, b2⟩ := pk S5
  have hres : ∀ w' K, pj P T.d (.pointer (some ⟨tb, 0, none⟩)) w' K = ldN P 2 tb 0 w' K := fun w' K => kr
  simp [hres, b2]
  exact h w5 S5.fr
theorem bfd (hs : SlN w v es) (hl : es.length ≤ 1000000) (x : Spn) {K : KV} (h : ∀ w', Fz w w' → K (.bool (uo es x)) w') : gr P F.ep [v, ki x] w K := by
 rw [M.cl.fcall]
 apply M.cl.calls
 unfold M.cl
 refine St.td (St.ji w) fun xb w1 S1 => ?_
 have S1' : St w w1 (spB xb x :: []) := S1
 have hlen : ∀ w' K, biT P .len #[T.j] T.c [false] [v] w' K = K (.int .i64 es.length) w' := fun w' K => hs.ja (by kernel_rfl) [false]
 simp [hlen]
 refine ⟨bpn w es x xb, fun x _ => es.length - ms x 1, ⟨_, 0, rfl, Nat.zero_le _, fun j _ h => by omega, S1'⟩, ?_⟩
 rintro y w2 ⟨u, i, rfl, hi, hz, S2⟩
 by_cases hil : i < es.length
 ·have hwi : IntKind.i64.wrap ((i : Int) + 1) = ((i + 1 : Nat) : Int) := by rw [ig]; rfl
  simp [hil]
  unfold M.cl.j2
  simp only [ib, qg]
  have S3 := S2.jl ((Fr.refl _ w2).dr 1)
  generalize Eng.dr w2 1 = w3 at *
  have hs3 : SlN w3 v es := hs.fr S3.fr fun _ _ _ h => h
  obtain ⟨ab, ao, cap, hv, _, _, hc⟩ := hs3.at hil
  have hia : ∀ w' K, iaT P T.j v (.int .i64 (i : Nat)) w' K = K (.pointer (some ⟨ab, ao + i * 10, none⟩)) w' := fun w' K => by
   rw [hv, aaz (by kernel_rfl) (by omega) (by omega), show szE P T.j = 10 from by kernel_rfl]
   simp
  obtain ⟨x0, x1, _⟩ := sy S3
  have e2 : ic w3 ab (ao + i * 10 + 2) = some (.int .u64 es[i].2.iu) := hc 2 _ rfl
  have e3 : ic w3 ab (ao + i * 10 + 2 + 1) = some (.int .u64 es[i].2.id) := hc 3 _ rfl
  by_cases h1 : es[i].2.iu = x.iu
  ·by_cases h2 : es[i].2.id = x.id
   ·have hh : uo es x = true := by
     unfold uo
     rw [List.any_eq_true]
     exact ⟨es[i], List.getElem_mem hil, by simp [h1, h2]⟩
    rw [hh] at h
    simp [hia, x0, x1, e2, e3, h1, h2]
    exact h w3 S3.fr
   ·simp [hia, x0, x1, e2, e3, h1, h2]
    rw [hwi]
    refine ⟨⟨_, i + 1, rfl, by omega, fun j hj hji => ?_, S3⟩, by simp [ms, gv]; omega⟩
    by_cases hje : j = i
    ·subst hje; exact fun hh => h2 hh.2
    ·exact hz j hj (by omega)
  ·simp [hia, x0, x1, e2, e3, h1]
   rw [hwi]
   refine ⟨⟨_, i + 1, rfl, by omega, fun j hj hji => ?_, S3⟩, by simp [ms, gv]; omega⟩
   by_cases hje : j = i
   ·subst hje; exact fun hh => h1 hh.1
   ·exact hz j hj (by omega)
 ·have hie : i = es.length := by omega
  have hh : uo es x = false := by
   unfold uo
   rw [List.any_eq_false]
   intro e he
   obtain ⟨j, hj, rfl⟩ := List.getElem_of_mem he
   have := hz j hj (by omega)
   simp
   exact fun a b => this ⟨a, b⟩
  rw [hh] at h
  simp [hil]
  exact h w2 S2.fr
end
abbrev aau (v : Value) (l : List EnS) : Asn := nf T.ac 10 xl v l
abbrev aqo (v : Value) (l : List Bal) : Asn := nf T.d 2 ya v l
def blx (W : World) (es : List EnS) (p : Pk) (ls : List Spn) (pb : Nat) : KL := fun x w1 => ∃ (vo : Value) (i : Nat), x = [vo, .int .i64 (i : Nat)] ∧ i ≤ ls.length ∧ St W w1 (aau vo ((jv es (ls.take i)).map fun x => (p.b, x)) :: im pb (pkC p).toArray T.a :: [])
def QuI (W : World) (es : List EnS) (t : Int) : KL := fun x w1 => ∃ (vo : Value) (i : Nat), x = [vo, .int .i64 (i : Nat)] ∧ i ≤ es.length ∧ St W w1 (lj vo (nr (es.take i) t) :: [])
def BaI (W : World) (es : List EnS) (t : Int) (tb : Nat) : KL := fun x w1 => ∃ (vo : Value) (i : Nat), x = [vo, .int .i64 (i : Nat)] ∧ i ≤ es.length ∧ St W w1 (aqo vo (wx (es.take i) t) :: baB tb ir :: [])
section
variable {w : World} {v : Value} {es : List EnS} {p : Pk} {ls : List Spn} {lm : List Mem} {lu : List Int}
theorem aiz (hs : SlN w v es) {i : Nat} (hi : i < es.length) : ∃ ab o, (∀ w' K, iaT P T.j v (.int .i64 (i : Nat)) w' K = K (.pointer (some ⟨ab, o, none⟩)) w') ∧ ab < w.heap.size ∧ ∀ j u, (xl es[i])[j]? = some u → ic w ab (o + j) = some u := by
 obtain ⟨ab, ao, cap, hv, hb, _, hc⟩ := hs.at hi
 exact ⟨ab, ao + i * 10, fun w' K => by
  rw [hv, aaz (by kernel_rfl) (by omega) (by omega), show szE P T.j = 10 from by kernel_rfl]
  simp, hb, hc⟩
theorem bbr {ab o : Nat} {e : EnS} (h : ∀ j u, (xl e)[j]? = some u → ic w ab (o + j) = some u) (K : KV) : ldN P 8 ab (o + 2) w K = K (ki e.2) w :=
 pg (iy e.2) 8 rfl (fun k u hk => by
  have := h (k + 2) u (by simpa [xl, iy] using hk)
  rw [show o + 2 + k = o + (k + 2) by omega]; exact this) K
theorem bkb {ab o : Nat} {e : EnS} (h : ∀ j u, (xl e)[j]? = some u → ic w ab (o + j) = some u) (K : KV) : ldN P 2 ab o w K = K (ko e.1) w :=
 pg (ya e.1) 2 rfl (fun k u hk => h k u (by
  have hlt : k < 2 := (List.getElem?_eq_some_iff.1 hk).1
  match k, hlt with
  | 0, _ => exact hk
  | 1, _ => exact hk)) K
theorem beo {e : TypeId} {sz : Nat} {α : Type} {enc : α → List Value} {w w' : World} {vo : Value} {l : List α} {R : List Asn} (S : St w w' (nf e sz enc vo l :: R)) : Ow w' w.heap.size e sz enc vo l := by
 obtain ⟨B, ⟨k1, k2⟩, hB, _⟩ := S.open
 refine ⟨k1.1, ?_⟩
 rcases k1.2 with h | ⟨g, cap, cur, hv, _, h3, h4⟩
 ·exact .inl h
 ·exact .inr ⟨g, cap, cur, hv, (hB g (k2 g (by rw [hv]; rfl))).1, h3, h4⟩
theorem awa (hs : SlN w v es) (hl : es.length ≤ 1000000) (hp : pt w p ls lm lu) {K : KV}
  (h : ∀ w' v', Ow w' w.heap.size T.ac 10 xl v' ((jv es ls).map fun x => (p.b, x)) → Fz w w' → K v' w') : gr P F.dq [v, pkA p] w K := by
 rw [M.bg.fcall]
 apply M.bg.calls
 unfold M.bg
 refine St.td (St.ji w) fun pb w1 S1 => ?_
 have S1' : St w w1 (im pb (pkC p).toArray T.a :: []) := S1
 have S2 : St w w1 (aau (.slice none 0 0) ((jv es (ls.take 0)).map fun x => (p.b, x)) :: im pb (pkC p).toArray T.a :: []) := Go.Eng.qd S1'
 simp only [ib]
 refine ⟨blx w es p ls pb, fun x _ => ls.length - ms x 1, ⟨_, 0, rfl, Nat.zero_le _, S2⟩, ?_⟩
 rintro y w2 ⟨vo, i, rfl, hi, S3⟩
 obtain ⟨_, _, c2, _, _, _, c8, _⟩ := jo S3.swap
 obtain ⟨⟨sa, sc, hsv⟩, _, _⟩ := hp.one
 have hsl : SlS w2 p.sv ls := hp.s.fr S3.fr fun _ _ _ h => h
 have hlen : ∀ w' K, biT P .len #[T.b] T.c [false] [p.sv] w' K = K (.int .i64 ls.length) w' := fun w' K => hsl.ja (by kernel_rfl) [false]
 have q0 : gv [vo, Value.int .i64 (i : Nat)] 0 = vo := rfl
 have q1 : gv [vo, Value.int .i64 (i : Nat)] 1 = .int .i64 (i : Nat) := rfl
 unfold M.bg.j1
 simp only [ib, q1]
 have hsv8 : ∀ {w' : World} {L : List Asn}, St w w' (L ++ (im pb (pkC p).toArray T.a :: [])) → ic w' pb 8 = some p.sv := fun S' => (jo (S'.perm List.perm_middle)).2.2.2.2.2.2.1
 by_cases hil : i < ls.length
 ·have hwi : IntKind.i64.wrap ((i : Int) + 1) = ((i + 1 : Nat) : Int) := by rw [ig (by omega) (by have := hp.ls; omega)]; rfl
  simp [c8, hlen, hil]
  unfold M.bg.j2
  obtain ⟨ab, ao, cap, hv, _, _, hc⟩ := hsl.at hil
  have hia : ∀ w' K, iaT P T.b p.sv (.int .i64 (i : Nat)) w' K = K (.pointer (some ⟨ab, ao + i * 8, none⟩)) w' := fun w' K => by rw [hv]; simp [hil]
  have hld : ∀ {w'}, Fz w w' → ∀ K, ldN P 8 ab (ao + i * 8) w' K = K (ki ls[i]) w' := fun {w'} f K => by
   obtain ⟨ab', ao', cap', hv', _, _, hc'⟩ := (hp.s.fr f fun _ _ _ h => h : SlS w' p.sv ls).at hil
   rw [hv] at hv'
   injection hv' with q1 _ _
   injection q1 with q1
   injection q1 with q1 q2 _
   subst q1 q2
   exact pg (iy ls[i]) 8 rfl hc' K
  have l2 := hld S3.fr
  have ett : jv es (ls.take (i + 1)) = jv es (ls.take i) ++ (if uo es ls[i] = true then [] else [ls[i]]) := by
   unfold jv
   rw [List.take_add_one, List.getElem?_eq_getElem hil, List.filter_append]
   congr 1
   cases hh : uo es ls[i] <;> simp [hh]
  have next : ∀ vo' w', St w w' (aau vo' ((jv es (ls.take (i + 1))).map fun x => (p.b, x)) :: im pb (pkC p).toArray T.a :: []) → blx w es p ls pb [vo', .int .i64 ((i + 1 : Nat) : Int)] w' ∧ ls.length - ms [vo', .int .i64 ((i + 1 : Nat) : Int)] 1 < ls.length - ms [vo, .int .i64 (i : Nat)] 1 := fun vo' w' S' => ⟨⟨vo', i + 1, rfl, by omega, S'⟩, by simp [ms, gv]; omega⟩
  simp [c8, hia, l2]
  refine bfd (hs.fr S3.fr fun _ _ _ h => h) hl ls[i] fun w3 f3 => ?_
  have S4 := S3.jl f3
  cases hh : uo es ls[i] with
  | true =>
   rw [hh] at ett
   simp only [if_true, List.append_nil] at ett
   simp
   rw [hwi]
   refine next _ w3 ?_
   rw [ett]; exact S4
  | false =>
   rw [hh] at ett
   simp only [Bool.false_eq_true, if_false] at ett
   simp only [Eng.cond_true, aul, Bool.not_false, qg]
   have S5 := S4.jl ((Fr.refl _ w3).dr 1)
   generalize Eng.dr w3 1 = w4 at *
   obtain ⟨_, _, d2, _, _, _, d8, _⟩ := jo S5.swap
   have l4 := hld S5.fr
   unfold ko at d2
   unfold ki at l4
   simp [d2, d8, hia, l4]
   have S6 : St w (w4.alloc (.cells #[.int .u64 p.b.n, .int .u64 p.b.jk, .int .u64 ls[i].iu, .int .u64 ls[i].id, .int .u64 ls[i].om, .int .u64 ls[i].ji, .int .u64 ls[i].len, .string ls[i].ke, .string ls[i].name, .bool ls[i].sd] T.ac)) (aau (.slice (some ⟨w4.heap.size, 0, none⟩) 1 1) [(p.b, ls[i])] :: _) := St.te (l := [(p.b, ls[i])]) S5 qa rfl (by simp [maxLen])
   refine Go.Eng.rk et.j qa agj S6.swap (S6.row qa) (by
    have h1 : (jv es (ls.take i)).length ≤ (ls.take i).length := List.length_filter_le _ _
    have := hp.ls
    simp at h1 ⊢; omega) (by decide) fun w5 v5 S7 => ?_
   rw [hwi]
   refine next _ w5 ?_
   rw [ett, List.map_append]
   exact S7.swap.drop
 ·have hie : i = ls.length := by omega
  simp [c8, hlen, hil]
  rw [hie, List.take_length] at S3
  exact h w2 vo (beo S3) S3.fr
theorem avz (hs : SlN w v es) (hl : es.length ≤ 100000) (t : Int) {K : KV}
  (h : ∀ w' v' l', oy l' → l'.Perm (nr es t) → Ow w' w.heap.size T.e 8 iy v' l' → Fz w w' → K v' w') : gr P F.dt [v, .int .u64 t] w K := by
 rw [M.bi.fcall]
 apply M.bi.calls
 unfold M.bi
 simp only [ib]
 have S0 : St w w (lj (.slice none 0 0) (nr (es.take 0) t) :: []) := Go.Eng.qd (St.ji w)
 refine ⟨QuI w es t, fun x _ => es.length - ms x 1, ⟨_, 0, rfl, Nat.zero_le _, S0⟩, ?_⟩
 rintro y w2 ⟨vo, i, rfl, hi, S3⟩
 have hs3 : SlN w2 v es := hs.fr S3.fr fun _ _ _ h => h
 have hlen : ∀ w' K, biT P .len #[T.j] T.c [false] [v] w' K = K (.int .i64 es.length) w' := fun w' K => hs.ja (by kernel_rfl) [false]
 have q0 : gv [vo, Value.int .i64 (i : Nat)] 0 = vo := rfl
 have q1 : gv [vo, Value.int .i64 (i : Nat)] 1 = .int .i64 (i : Nat) := rfl
 unfold M.bi.j1
 simp only [ib, q0, q1]
 by_cases hil : i < es.length
 ·have hwi : IntKind.i64.wrap ((i : Int) + 1) = ((i + 1 : Nat) : Int) := by rw [ig]; rfl
  simp [hlen, hil]
  unfold M.bi.j2
  obtain ⟨ab, o, hia, _, hc⟩ := aiz hs3 hil
  have ct : ic w2 ab (o + 2) = some (.int .u64 es[i].2.iu) := hc 2 _ rfl
  have ld := fun K => bbr hc K
  have eq : nr (es.take (i + 1)) t = nr (es.take i) t ++ (if es[i].2.iu = t then [es[i].2] else []) := by
   rw [List.take_add_one, List.getElem?_eq_getElem hil]
   show nr (es.take i ++ [(es[i].1, es[i].2)]) t = _
   rw [agv]
   split <;> simp
  have next : ∀ vo' w', St w w' (lj vo' (nr (es.take (i + 1)) t) :: []) → QuI w es t [vo', .int .i64 ((i + 1 : Nat) : Int)] w' ∧ es.length - ms [vo', .int .i64 ((i + 1 : Nat) : Int)] 1 < es.length - ms [vo, .int .i64 (i : Nat)] 1 := fun vo' w' S' => ⟨⟨vo', i + 1, rfl, by omega, S'⟩, by simp [ms, gv]; omega⟩
  by_cases h1 : es[i].2.iu = t
  ·rw [if_pos h1] at eq
   unfold ki at ld
   simp [hia, ct, h1, ld]
   have S6 : St w (w2.alloc (.cells #[.int .u64 t, .int .u64 es[i].2.id, .int .u64 es[i].2.om, .int .u64 es[i].2.ji, .int .u64 es[i].2.len, .string es[i].2.ke, .string es[i].2.name, .bool es[i].2.sd] T.e)) (lj (.slice (some ⟨w2.heap.size, 0, none⟩) 1 1) [es[i].2] :: _) := St.te (l := [es[i].2]) S3 lk (by rw [← h1]; rfl) (by simp [maxLen])
   refine Go.Eng.rk et.b lk og S6.swap (S6.row lk) (by have := aex (es.take i) t; simp at this ⊢; omega) (by decide) fun w5 v5 S7 => ?_
   rw [hwi]
   refine next _ w5 ?_
   rw [eq]
   exact S7.swap.drop
  ·rw [if_neg h1, List.append_nil] at eq
   simp [hia, ct, h1]
   rw [hwi]
   refine next _ w2 ?_
   rw [eq]; exact S3
 ·have hie : i = es.length := by omega
  simp [hlen, hil]
  rw [hie, List.take_length] at S3
  have o := beo S3
  refine aru (o.sl lk) (fun b hb => (o.lt hb).2) (by have := aex es t; omega) fun w3 v3 l3 g1 g2 o3 f3 => ?_
  exact h w3 v3 l3 g1 g2 (o3.mono S3.fr.size) (S3.fr.trans f3)
theorem art (hs : SlN w v es) (hl : es.length ≤ 100000) (t : Int) {K : KV}
  (h : ∀ w', Fz w w' → K (ko (bOf es t)) w') : gr P F.dd [v, .int .u64 t] w K := by
 rw [M.bb.fcall]
 apply M.bb.calls
 unfold M.bb
 simp
 have Sb := aei (St.ji w)
 generalize w.heap.size = tb at *
 generalize w.alloc _ = w1 at *
 have S0 : St w w1 (aqo (.slice none 0 0) (wx (es.take 0) t) :: baB tb ir :: []) := Go.Eng.qd Sb
 have hlen : ∀ w' K, biT P .len #[T.j] T.c [false] [v] w' K = K (.int .i64 es.length) w' := fun w' K => hs.ja (by kernel_rfl) [false]
 refine ⟨BaI w es t tb, fun x _ => es.length - ms x 1, ⟨_, 0, rfl, Nat.zero_le _, S0⟩, ?_⟩
 rintro y w2 ⟨vo, i, rfl, hi, S3⟩
 have hs3 : SlN w2 v es := hs.fr S3.fr fun _ _ _ h => h
 have q0 : gv [vo, Value.int .i64 (i : Nat)] 0 = vo := rfl
 have q1 : gv [vo, Value.int .i64 (i : Nat)] 1 = .int .i64 (i : Nat) := rfl
 unfold M.bb.j1
 simp only [ib, q0, q1]
 have hbl : (wx (es.take i) t).length ≤ es.length := by
  unfold wx
  rw [List.length_map]
  exact Nat.le_trans (List.length_filter_le _ _) (List.length_take_le' _ _)
 by_cases hil : i < es.length
 ·have hwi : IntKind.i64.wrap ((i : Int) + 1) = ((i + 1 : Nat) : Int) := by rw [ig]; rfl
  simp [hlen, hil]
  unfold M.bb.j2
  obtain ⟨ab, o, hia, _, hc⟩ := aiz hs3 hil
  have ct : ic w2 ab (o + 2) = some (.int .u64 es[i].2.iu) := hc 2 _ rfl
  have ld := fun K => bkb hc K
  have eq : wx (es.take (i + 1)) t = wx (es.take i) t ++ (if es[i].2.iu = t then [es[i].1] else []) := by
   rw [List.take_add_one, List.getElem?_eq_getElem hil]
   show wx (es.take i ++ [(es[i].1, es[i].2)]) t = _
   rw [akp]
   split <;> simp
  have next : ∀ vo' w', St w w' (aqo vo' (wx (es.take (i + 1)) t) :: baB tb ir :: []) → BaI w es t tb [vo', .int .i64 ((i + 1 : Nat) : Int)] w' ∧ es.length - ms [vo', .int .i64 ((i + 1 : Nat) : Int)] 1 < es.length - ms [vo, .int .i64 (i : Nat)] 1 := fun vo' w' S' => ⟨⟨vo', i + 1, rfl, by omega, S'⟩, by simp [ms, gv]; omega⟩
  by_cases h1 : es[i].2.iu = t
  ·rw [if_pos h1] at eq
   unfold ko at ld
   simp [hia, ct, h1, ld]
   have S6 : St w (w2.alloc (.cells #[.int .u64 es[i].1.n, .int .u64 es[i].1.jk] T.d)) (aqo (.slice (some ⟨w2.heap.size, 0, none⟩) 1 1) [es[i].1] :: _) := St.te (l := [es[i].1]) S3 zo rfl (by simp [maxLen])
   refine Go.Eng.rk et.al zo beh S6.swap (S6.row zo) (by simp; omega) (by decide) fun w5 v5 S7 => ?_
   rw [hwi]
   refine next _ w5 ?_
   rw [eq]
   exact S7.swap.drop
  ·rw [if_neg h1, List.append_nil] at eq
   simp [hia, ct, h1]
   rw [hwi]
   refine next _ w2 ?_
   rw [eq]; exact S3
 ·have hie : i = es.length := by omega
  simp [hlen, hil]
  rw [hie, List.take_length] at S3
  refine awr (S3.row zo) (by rw [hie, List.take_length] at hbl; omega) fun w3 f3 => ?_
  have S4 := S3.swap.jl f3
  have hb : qr ir (wx es t) = bOf es t := rfl
  rw [hb]
  refine acm (y := bOf es t) S4 fun w5 S5 => ?_
  obtain ⟨_, _, b2⟩ := pk S5
  have hres : ∀ w' K, pj P T.d (.pointer (some ⟨tb, 0, none⟩)) w' K = ldN P 2 tb 0 w' K := fun w' K => kr
  simp [hres, b2]
  exact h w5 S5.fr
end
theorem ajk {l : List Int} (h : l.Pairwise fun a b => a ≤ b) {i j : Nat} (hij : i ≤ j) (hj : j < l.length) : l[i]'(by omega) ≤ l[j] := by
 by_cases he : i = j
 ·subst he; exact Int.le_refl _
 ·exact List.pairwise_iff_getElem.1 h i j (by omega) hj (by omega)
theorem atr {l : List Int} {t : Int} {k : Nat} (h : l.Pairwise fun a b => a ≤ b) (hk : k ≤ l.length) (h1 : k = 0 ∨ ∃ h : k - 1 < l.length, l[k - 1] ≤ t) (h2 : k = l.length ∨ ∃ h : k < l.length, t ≤ l[k]) : (l.take k ++ t :: l.drop k).Pairwise fun a b => a ≤ b := by
 have a1 : ∀ x ∈ l.take k, x ≤ t := fun x hx => by
  obtain ⟨i, hi, rfl⟩ := List.mem_iff_getElem.1 hx
  simp only [List.length_take] at hi
  rw [List.getElem_take]
  rcases h1 with h1 | ⟨h3, h4⟩
  ·omega
  ·exact Int.le_trans (ajk h (i := i) (j := k - 1) (by omega) h3) h4
 have a2 : ∀ y ∈ l.drop k, t ≤ y := fun y hy => by
  obtain ⟨j, hj, rfl⟩ := List.mem_iff_getElem.1 hy
  simp only [List.length_drop] at hj
  rw [List.getElem_drop]
  rcases h2 with h2 | ⟨h3, h4⟩
  ·omega
  ·exact Int.le_trans h4 (ajk h (i := k) (j := k + j) (by omega) (by omega))
 refine List.pairwise_append.2 ⟨h.sublist (List.take_sublist _ _), List.pairwise_cons.2 ⟨a2, h.sublist (List.drop_sublist _ _)⟩, fun x hx y hy => ?_⟩
 rcases List.mem_cons.1 hy with rfl | hy
 ·exact a1 x hx
 ·exact Int.le_trans (a1 x hx) (a2 y hy)
theorem apn (l : List Int) (t : Int) (k : Nat) : (l.take k ++ t :: l.drop k).Perm (t :: l) := by
 have := List.perm_middle (l₁ := l.take k) (a := t) (l₂ := l.drop k)
 rwa [List.take_append_drop] at this
theorem axc {l : List Int} (h : l.Pairwise fun a b => a ≤ b) : Suint64.mq l = l := List.mergeSort_of_pairwise (h.imp fun h => by simpa using h)
def TrI (w : World) (es : List EnS) : KL := fun v w1 => ∃ (u vo : Value) (i : Nat) (lo : List Int), v = [u, vo, .int .i64 (i : Nat)] ∧ i ≤ es.length ∧ (lo.Pairwise fun a b => a ≤ b) ∧ lo.Nodup ∧ (∀ x, x ∈ lo ↔ x ∈ mw (es.take i)) ∧ lo.length ≤ i ∧ OwU w1 w.heap.size vo lo ∧ Fz w w1
def bqb (w1 : World) (lo : List Int) (t : Int) : KL := fun v w2 => ∃ (k : Nat), v = [.int .i64 (k : Nat)] ∧ k ≤ lo.length ∧ (k = lo.length ∨ ∃ h : k < lo.length, t < lo[k]) ∧ Fz w1 w2
section
variable {w : World} {v : Value} {es : List EnS}
theorem bdv {w1 : World} {u vo : Value} {lo : List Int} {i k : Nat} (hs : SlN w1 v es) (o : OwU w1 w.heap.size vo lo) (hi : i < es.length) (hk : k ≤ lo.length) (hl : lo.length ≤ 100000) (hsz : w.heap.size ≤ w1.heap.size) {K3 : KL} {K : KV}
  (h1 : (∀ h : 0 < k, lo[k - 1]'(by omega) ≠ es[i].2.iu) → ∀ w' v' u', OwU w' w.heap.size v' (lo.take k ++ es[i].2.iu :: lo.drop k) → Fz w1 w' → K3 [u', v'] w')
  (h2 : (∃ h : 0 < k, lo[k - 1]'(by omega) = es[i].2.iu) → ∀ w' u', Fz w1 w' → K3 [u', vo] w') : M.r.j4 [.int .i64 (k : Nat)] [u, vo, .int .i64 (i : Nat)] v K3 w1 K := by
 unfold M.r.j4
 have q1 : gv [u, vo, .int .i64 (i : Nat)] 1 = vo := rfl
 have q2 : gv [u, vo, .int .i64 (i : Nat)] 2 = .int .i64 (i : Nat) := rfl
 have q0 : gv [Value.int .i64 (k : Nat)] 0 = .int .i64 (k : Nat) := rfl
 have so : SlU w1 vo lo := o.sl ni
 have hown : ∀ b, vo.ownBlock = some b → b < w1.heap.size := fun b hb => (o.lt hb).2
 have fd : Fz w1 (Eng.dr w1 1) := (Fr.refl _ w1).dr 1
 obtain ⟨ab, oo, hia, hab, hc⟩ := aiz hs hi
 have ct : ∀ {w'}, Fz w1 w' → ic w' ab (oo + 2) = some (.int .u64 es[i].2.iu) := fun f => by rw [sk (f.kf ab hab fun h => h)]; exact hc 2 _ rfl
 obtain ⟨v1, s1, p1, r1⟩ := so.sub (P := P) (t := T.f) (lo := none) (hi := some (.int .i64 (k : Int))) (i := 0) (j := k) (by kernel_rfl) (by kernel_rfl) (.inl ⟨rfl, rfl⟩) (.inr ⟨_, rfl⟩) (Nat.zero_le _) hk
 obtain ⟨v3, s3, p3, r3⟩ := so.sub (P := P) (t := T.f) (lo := some (.int .i64 (k : Int))) (hi := none) (i := k) (j := lo.length) (by kernel_rfl) (by kernel_rfl) (.inr ⟨_, rfl⟩) (.inl ⟨rfl, rfl⟩) hk (Nat.le_refl _)
 have e1 : List.take (k - 0) (List.drop 0 lo) = lo.take k := by simp
 have e3 : List.take (lo.length - k) (List.drop k lo) = lo.drop k := List.take_of_length_le (by simp)
 rw [e1] at s1
 rw [e3] at s3
 have g17 : ∀ (b0 b1 b2 b3 b4 b5 b6 b7 b8 b9 b10 b11 b12 b13 b14 b15 b16 b17 : Value), gv [b0, b1, b2, b3, b4, b5, b6, b7, b8, b9, b10, b11, b12, b13, b14, b15, b16, b17] 17 = b17 := fun _ _ _ _ _ _ _ _ _ _ _ _ _ _ _ _ _ _ => rfl
 have c1 := ct fd
 have c2 := ct (fd.dr 1)
 have fin := fun (hne : ∀ h : 0 < k, lo[k - 1]'(by omega) ≠ es[i].2.iu) => bbh (w := Eng.dr w1 1) (P := P) (ty := T.f) et.f ni afz (x := es[i].2.iu) (cells := #[.int .u64 es[i].2.iu]) rfl (s1.fr fd fun _ _ _ h => h) (s3.fr fd fun _ _ _ h => h) (fun y hy => hown y (p1 y hy)) (fun y hy => hown y (p3 y hy)) (by simp; omega) (by decide) (Q := fun w1 => ld1 P ab (oo + 2) w1 fun v' w' => w' = w1 ∧ v' = .int .u64 es[i].2.iu) (fun w' f => by rw [adk (ct (fd.trans f))]; exact ⟨rfl, rfl⟩) (c1 := [false, false]) (c2 := [false, false]) (c3 := [false, false]) (c4 := [false, false]) (c5 := [false, false]) (c6 := [false, false]) (c7 := [false, false]) (c8 := [false, false]) (c9 := [false, false]) (K := fun t w => K3 [.int .i64 (k : Nat), t] w) fun w' v' o' f' =>
  h1 hne w' v' _ (by simpa using o'.mono hsz) (fd.trans f')
 simp only [tx] at c1 c2
 cases k with
 | zero =>
  have := fin (fun h => by omega)
  have r1' : ∀ w K, slT P T.f vo none (some (.int .i64 0)) none w K = K v1 w := r1
  have r3' : ∀ w K, slT P T.f vo (some (.int .i64 0)) none none w K = K v3 w := r3
  simp [q0, q1, q2, hia, c1, r1', r3', g17]
  simpa using this
 | succ k =>
  obtain ⟨bo, o2, co, hvo, hbo, _, hco⟩ := so.at (show k < lo.length by omega)
  have hw : IntKind.i64.wrap (((k + 1 : Nat) : Int) - 1) = (k : Int) := by rw [ig]; omega
  have hne0 : ¬ ((k + 1 : Nat) : Int) = 0 := by omega
  have ia2 : ∀ w' K, iaT P T.f vo (.int .i64 (k : Nat)) w' K = K (.pointer (some ⟨bo, o2 + k, none⟩)) w' := fun w' K => by rw [hvo]; simp [show k < lo.length by omega]
  have ck : ic w1 bo (o2 + k) = some (.int .u64 lo[k]) := by simpa using hco 0 _ rfl
  by_cases he : lo[k] = es[i].2.iu
  ·have := h2 ⟨by omega, by simpa using he⟩ (Eng.dr w1 1) (.int .i64 ((k + 1 : Nat) : Int)) fd
   simp [-Int.natCast_add, q0, q1, q2, hia, c1, hne0, hw, ia2, ck, he]
   exact this
  ·have := fin (fun h => by simpa using he)
   simp [-Int.natCast_add, q0, q1, q2, hia, c1, hne0, hw, ia2, ck, he, r1, r3, g17]
   simpa [-Int.natCast_add] using this
theorem ary (hs : SlN w v es) (hl : es.length ≤ 100000) {K : KV} (h : ∀ w' v', OwU w' w.heap.size v' (Suint64.mq (mw es)) → Fz w w' → K v' w') : gr P F.dc [v] w K := by
 rw [M.r.fcall]
 apply M.r.calls
 unfold M.r
 simp only [ib]
 refine ⟨TrI w es, fun x _ => es.length - ms x 2, ⟨undef, .slice none 0 0, 0, [], rfl, Nat.zero_le _, List.Pairwise.nil, List.nodup_nil, fun x => by simp [mw], Nat.le_refl _, Ow.none, Fr.refl _ _⟩, ?_⟩
 rintro x w1 ⟨u, vo, i, lo, rfl, hi, hasc, hnd, hmem, hll, o, f1⟩
 have q1 : gv [u, vo, .int .i64 (i : Nat)] 1 = vo := rfl
 have q2 : gv [u, vo, .int .i64 (i : Nat)] 2 = .int .i64 (i : Nat) := rfl
 have hs1 : SlN w1 v es := hs.fr f1 fun _ _ _ h => h
 have hlen : ∀ w' K, biT P .len #[T.j] T.c [false] [v] w' K = K (.int .i64 es.length) w' := fun w' K => hs.ja (by kernel_rfl) [false]
 unfold M.r.j1
 simp only [ib, hlen, q2, lw]
 by_cases hil : i < es.length
 ·have hili : (i : Int) < (es.length : Int) := by omega
  have hwi : IntKind.i64.wrap ((i : Int) + 1) = ((i + 1 : Nat) : Int) := by rw [ig]; rfl
  simp only [hili, decide_true, Eng.cond_true]
  unfold M.r.j2
  have so : SlU w1 vo lo := o.sl ni
  have hlo : ∀ w' K, biT P .len #[T.f] T.c [false] [vo] w' K = K (.int .i64 lo.length) w' := fun w' K => so.ja (by kernel_rfl) [false]
  simp only [ib, q1, hlo]
  have htk : mw (es.take (i + 1)) = yw (mw (es.take i)) es[i].2.iu := by
   rw [List.take_add_one, List.getElem?_eq_getElem hil]
   exact akj _ _
  refine ⟨bqb w1 lo es[i].2.iu, fun x _ => ms x 0, ⟨lo.length, rfl, Nat.le_refl _, .inl rfl, Fr.refl _ _⟩, ?_⟩
  rintro x w2 ⟨k, rfl, hk, hkk, f2⟩
  have hs2 : SlN w2 v es := hs1.fr f2 fun _ _ _ h => h
  have o2 := o.fr f2 fun _ _ h => h
  have so2 : SlU w2 vo lo := o2.sl ni
  have hsz2 : w.heap.size ≤ w2.heap.size := (f1.trans f2).size
  have g0 : gv [Value.int .i64 (k : Nat)] 0 = .int .i64 (k : Nat) := rfl
  -- where it is put
  have fin : ∀ (w3 : World), Fz w2 w3 → (k = 0 ∨ ∃ h : k - 1 < lo.length, lo[k - 1] ≤ es[i].2.iu) → M.r.j4 [.int .i64 (k : Nat)] [u, vo, .int .i64 (i : Nat)] v (fun x3 w_1 => ik P .add T.c (.tmp 10) (.const (.int .i64 1)) (.int .i64 (i : Nat)) (.int .i64 1) w_1 fun t11 w_2 => TrI w es [gv x3 0, gv x3 1, t11] w_2 ∧ es.length - ms [gv x3 0, gv x3 1, t11] 2 < es.length - ms [u, vo, .int .i64 (i : Nat)] 2) w3 K := fun w3 f3 hle => by
   refine bdv (hs2.fr f3 fun _ _ _ h => h) (o2.fr f3 fun _ _ h => h) hil hk (by omega) (by have := f3.size; omega) (fun hne w4 v4 u4 o4 f4 => ?_) (fun hex w4 u4 f4 => ?_)
   ·simp only [ky, hwi]
    have hnew : es[i].2.iu ∉ lo := fun hm => by
     obtain ⟨j, hj, he⟩ := List.mem_iff_getElem.1 hm
     by_cases hjk : j < k
     ·have h3 := hne (by omega)
      rcases hle with h4 | ⟨h4, h5⟩
      ·omega
      ·have h6 := ajk hasc (i := j) (j := k - 1) (by omega) h4
       omega
     ·rcases hkk with h4 | ⟨h4, h5⟩
      ·omega
      ·have h6 := ajk hasc (i := k) (j := j) (by omega) hj
       omega
    have hp := apn lo es[i].2.iu k
    refine ⟨⟨_, _, i + 1, _, rfl, by omega, atr hasc hk hle (hkk.imp id fun ⟨h4, h5⟩ => ⟨h4, by omega⟩), hp.nodup_iff.2 (List.nodup_cons.2 ⟨hnew, hnd⟩), fun x => ?_, by rw [hp.length_eq, List.length_cons]; omega, o4, ((f1.trans f2).trans f3).trans f4⟩, by simp [ms, gv]; omega⟩
    rw [hp.mem_iff, htk, akl, List.mem_cons, hmem x]
    exact or_comm
   ·simp only [ky, hwi]
    obtain ⟨h0, he⟩ := hex
    refine ⟨⟨_, _, i + 1, _, rfl, by omega, hasc, hnd, fun x => ?_, by omega, (o2.fr f3 fun _ _ h => h).fr f4 fun _ _ h => h, ((f1.trans f2).trans f3).trans f4⟩, by simp [ms, gv]; omega⟩
    rw [htk, akl, ← hmem x]
    refine ⟨.inl, fun hh => hh.elim id fun hx => ?_⟩
    rw [hx, ← he]
    exact List.getElem_mem _
  unfold M.r.j5
  simp only [ib, g0, q1, q2]
  have fd : Fz w2 (Eng.dr w2 1) := (Fr.refl _ w2).dr 1
  cases k with
  | zero =>
   have := fin _ fd (.inl rfl)
   simp
   simpa using this
  | succ k =>
   obtain ⟨ab, oo, hia, hab, hc⟩ := aiz hs2 hil
   have ct : ic w2 ab (oo + 2) = some (.int .u64 es[i].2.iu) := hc 2 _ rfl
   obtain ⟨bo, o3, co, hvo, hbo, _, hco⟩ := so2.at (show k < lo.length by omega)
   have ia2 : ∀ w' K, iaT P T.f vo (.int .i64 (k : Nat)) w' K = K (.pointer (some ⟨bo, o3 + k, none⟩)) w' := fun w' K => by rw [hvo]; simp [show k < lo.length by omega]
   have ck : ic w2 bo (o3 + k) = some (.int .u64 lo[k]) := by simpa using hco 0 _ rfl
   have hw : IntKind.i64.wrap (((k + 1 : Nat) : Int) - 1) = (k : Int) := by rw [ig]; omega
   have hpos : (0 : Int) < ((k + 1 : Nat) : Int) := by omega
   by_cases hc2 : es[i].2.iu < lo[k]
   ·simp [-Int.natCast_add, hpos, hia, ia2, ck, ct, hw, hc2]
    exact ⟨⟨k, rfl, by omega, .inr ⟨by omega, hc2⟩, f2.trans fd⟩, by simp [ms, gv]⟩
   ·have := fin _ fd (.inr ⟨by simp; omega, by simp; omega⟩)
    simp [-Int.natCast_add, hpos, hia, ia2, ck, ct, hw, hc2]
    simpa using this
 ·have hie : i = es.length := by omega
  have hili : ¬ (i : Int) < (es.length : Int) := by omega
  simp only [hili, decide_false, Eng.cond_false]
  rw [hie, List.take_length] at hmem
  have hp : lo.Perm (mw es) := (List.perm_ext_iff_of_nodup hnd (abi es)).2 hmem
  have e : Suint64.mq (mw es) = lo := by rw [← Suint64.ud hp]; exact axc hasc
  refine h w1 vo ?_ f1
  rw [e]; exact o
end
def AcI (W : World) (p : Pk) (ls : List Spn) (pb tb : Nat) : KL := fun v w1 => ∃ (u vo : Value) (i : Nat) (lo : List Int), v = [u, vo, .int .i64 (i : Nat)] ∧ i ≤ ls.length ∧ (lo.Pairwise fun a b => a ≤ b) ∧ lo.Perm ((ls.take i).map Spn.id) ∧ St W w1 (nf T.h 1 nq vo lo :: im tb (pkC pkZ).toArray T.a :: im pb (pkC p).toArray T.a :: [])
def AkI (w1 : World) (lo : List Int) (t : Int) : KL := fun v w2 => ∃ (k : Nat), v = [.int .i64 (k : Nat)] ∧ k ≤ lo.length ∧ (k = lo.length ∨ ∃ h : k < lo.length, t < lo[k]) ∧ Fz w1 w2
section
variable {w0 w : World} {R : List Asn} {p : Pk} {ls : List Spn} {lm : List Mem} {lu : List Int} {pb tb : Nat}
theorem bay {u vo : Value} {lo : List Int} {i k : Nat} (S : St w0 w (nf T.h 1 nq vo lo :: im tb (pkC pkZ).toArray T.a :: im pb (pkC p).toArray T.a :: [])) (hp : pt w0 p ls lm lu) (hi : i < ls.length) (hk : k ≤ lo.length) (hl : lo.length ≤ 100000) {K3 : KL} {K : KV}
  (h : ∀ w' v' u', St w0 w' (nf T.h 1 nq v' (lo.take k ++ ls[i].id :: lo.drop k) :: im tb (pkC pkZ).toArray T.a :: im pb (pkC p).toArray T.a :: []) → K3 [u', v'] w') : M.t.j4 [u, vo, .int .i64 (i : Nat)] [.int .i64 (k : Nat)] (.pointer (some ⟨pb, 0, none⟩)) K3 w K := by
 unfold M.t.j4
 have q1 : gv [u, vo, .int .i64 (i : Nat)] 1 = vo := rfl
 have q2 : gv [u, vo, .int .i64 (i : Nat)] 2 = .int .i64 (i : Nat) := rfl
 have q0 : gv [Value.int .i64 (k : Nat)] 0 = .int .i64 (k : Nat) := rfl
 have so : SlU w vo lo := S.row ni
 have hown : ∀ b, vo.ownBlock = some b → b < w.heap.size := fun b hb => by
  obtain ⟨B, ⟨_, k2⟩, hB, _⟩ := S.open
  exact (hB b (k2 b hb)).2
 have fd : Fz w (Eng.dr w 1) := (Fr.refl _ w).dr 1
 have hsl : SlS w p.sv ls := hp.s.fr S.fr fun _ _ _ h => h
 obtain ⟨ab, ao, cap, hsv, hab, _, hc⟩ := hsl.at hi
 have hia : ∀ w' K, iaT P T.b p.sv (.int .i64 (i : Nat)) w' K = K (.pointer (some ⟨ab, ao + i * 8, none⟩)) w' := fun w' K => by rw [hsv]; simp [hi]
 have ct : ∀ {w'}, Fz w w' → ic w' ab (ao + i * 8 + 1) = some (.int .u64 ls[i].id) := fun f => by rw [sk (f.kf ab hab fun h => h)]; exact hc 1 _ rfl
 have cp : ∀ {w'}, Fz w w' → ic w' pb 8 = some p.sv := fun f => (jo ((S.jl f).up2)).2.2.2.2.2.2.1
 obtain ⟨v1, s1, p1, r1⟩ := so.sub (P := P) (t := T.f) (lo := none) (hi := some (.int .i64 (k : Int))) (i := 0) (j := k) (by kernel_rfl) (by kernel_rfl) (.inl ⟨rfl, rfl⟩) (.inr ⟨_, rfl⟩) (Nat.zero_le _) hk
 obtain ⟨v3, s3, p3, r3⟩ := so.sub (P := P) (t := T.f) (lo := some (.int .i64 (k : Int))) (hi := none) (i := k) (j := lo.length) (by kernel_rfl) (by kernel_rfl) (.inr ⟨_, rfl⟩) (.inl ⟨rfl, rfl⟩) hk (Nat.le_refl _)
 have e1 : List.take (k - 0) (List.drop 0 lo) = lo.take k := by simp
 have e3 : List.take (lo.length - k) (List.drop k lo) = lo.drop k := List.take_of_length_le (by simp)
 rw [e1] at s1
 rw [e3] at s3
 have g17 : ∀ (b0 b1 b2 b3 b4 b5 b6 b7 b8 b9 b10 b11 b12 b13 b14 b15 b16 b17 : Value), gv [b0, b1, b2, b3, b4, b5, b6, b7, b8, b9, b10, b11, b12, b13, b14, b15, b16, b17] 17 = b17 := fun _ _ _ _ _ _ _ _ _ _ _ _ _ _ _ _ _ _ => rfl
 have c1 := ct fd
 have c2 := cp fd
 simp only [tx] at c1 c2
 have fin := bbh (P := P) (w := w) (ty := T.f) et.f ni afz (x := ls[i].id) (cells := #[.int .u64 ls[i].id]) rfl s1 s3 (fun y hy => hown y (p1 y hy)) (fun y hy => hown y (p3 y hy)) (by simp; omega) (by decide) (Q := fun w1 => (ld1 P ab (ao + i * 8 + 1) w1 fun v' w' => w' = w1 ∧ v' = .int .u64 ls[i].id) ∧ ld1 P pb 8 w1 fun v' w' => w' = w1 ∧ v' = p.sv) (fun w' f => by rw [adk (ct f), adk (cp f)]; exact ⟨⟨rfl, rfl⟩, rfl, rfl⟩) (c1 := [false, false]) (c2 := [false, false]) (c3 := [false, false]) (c4 := [false, false]) (c5 := [false, false]) (c6 := [false, false]) (c7 := [false, false]) (c8 := [false, false]) (c9 := [false, false]) (K := fun t w => K3 [.int .i64 (k : Nat), t] w) fun w' v' o' f' =>
  h w' v' _ (S.drop.add (a := nf T.h 1 nq v' _) f' (B := fun y => v'.ownBlock = some y) ⟨by simpa using o'.mono (Nat.zero_le _), fun y hy => hy⟩ fun y hy => ⟨(o'.lt hy).1, (o'.lt hy).2⟩)
 simp [q0, q1, q2, hia, c1, c2, r1, r3, g17]
 simpa only [and_assoc] using fin
theorem beu (hp : pt w p ls lm lu) (hl1 : ls.length ≤ 100000) {K : KV} (h : ∀ w' v', SlU w' v' (po ls) → Fz w w' → K (pkA (rh p.tr v')) w') : gr P F.eo [pkA p] w K := by
 rw [M.t.fcall]
 apply M.t.calls
 unfold M.t
 refine St.td (St.ji w) fun pb w1 S1 => ?_
 have S1' : St w w1 (im pb (pkC p).toArray T.a :: []) := S1
 simp
 have S2 := aai S1'
 generalize w1.heap.size = tb at *
 generalize w1.alloc _ = w2 at *
 have S0 : St w w2 (nf T.h 1 nq (.slice none 0 0) ([] : List Int) :: im tb (pkC pkZ).toArray T.a :: im pb (pkC p).toArray T.a :: []) := Go.Eng.qd S2
 refine ⟨AcI w p ls pb tb, fun x _ => ls.length - ms x 2, ⟨_, _, 0, [], rfl, Nat.zero_le _, List.Pairwise.nil, by simp, S0⟩, ?_⟩
 rintro x w3 ⟨u, vo, i, lo, rfl, hi, hasc, hpm, S3⟩
 have q1 : gv [u, vo, .int .i64 (i : Nat)] 1 = vo := rfl
 have q2 : gv [u, vo, .int .i64 (i : Nat)] 2 = .int .i64 (i : Nat) := rfl
 have hsl : SlS w3 p.sv ls := hp.s.fr S3.fr fun _ _ _ h => h
 have hlen : ∀ w' K, biT P .len #[T.b] T.c [false] [p.sv] w' K = K (.int .i64 ls.length) w' := fun w' K => hsl.ja (by kernel_rfl) [false]
 have c8 := (jo S3.up2).2.2.2.2.2.2.1
 have hpl := hpm.length_eq
 simp only [List.length_map, List.length_take] at hpl
 rw [Nat.min_eq_left hi] at hpl
 have hls := hp.ls
 unfold M.t.j1
 obtain ⟨sa, sc, hsv⟩ := hp.one.1
 have hld8 : ∀ {w' : World}, ic w' pb 8 = some p.sv → ∀ K, ldT P T.b (.pointer (some ⟨pb, 8, none⟩)) w' K = K p.sv w' := fun hc K => by simp [hc]
 simp [q1, q2, c8, hlen]
 by_cases hil : i < ls.length
 ·have hili : (i : Int) < (ls.length : Int) := by omega
  have hwi : IntKind.i64.wrap ((i : Int) + 1) = ((i + 1 : Nat) : Int) := by rw [ig]; rfl
  simp [hil]
  unfold M.t.j2
  have so : SlU w3 vo lo := S3.row ni
  have hlo : ∀ w' K, biT P .len #[T.f] T.c [false] [vo] w' K = K (.int .i64 lo.length) w' := fun w' K => so.ja (by kernel_rfl) [false]
  simp only [ib, q1, q2, hlo]
  refine ⟨AkI w3 lo ls[i].id, fun x _ => ms x 0, ⟨lo.length, rfl, Nat.le_refl _, .inl rfl, Fr.refl _ _⟩, ?_⟩
  rintro x w4 ⟨k, rfl, hk, hkk, f4⟩
  have S4 := S3.jl f4
  have so4 : SlU w4 vo lo := S4.row ni
  have hsl4 : SlS w4 p.sv ls := hp.s.fr S4.fr fun _ _ _ h => h
  have g0 : gv [Value.int .i64 (k : Nat)] 0 = .int .i64 (k : Nat) := rfl
  have fin : ∀ (w5 : World), Fz w4 w5 → (k = 0 ∨ ∃ h : k - 1 < lo.length, lo[k - 1] ≤ ls[i].id) → M.t.j4 [u, vo, .int .i64 (i : Nat)] [.int .i64 (k : Nat)] (.pointer (some ⟨pb, 0, none⟩)) (fun x3 w_1 => ik P .add T.c (.tmp 11) (.const (.int .i64 1)) (.int .i64 (i : Nat)) (.int .i64 1) w_1 fun t12 w_2 => AcI w p ls pb tb [gv x3 0, gv x3 1, t12] w_2 ∧ ls.length - ms [gv x3 0, gv x3 1, t12] 2 < ls.length - ms [u, vo, .int .i64 (i : Nat)] 2) w5 K := fun w5 f5 hle => by
   have hk1 : lo.length ≤ 100000 := by omega
   refine bay (S4.jl f5) hp hil hk hk1 fun w6 v6 u6 S6 => ?_
   simp only [ky, hwi]
   refine ⟨⟨_, _, i + 1, _, rfl, by omega, atr hasc hk hle (hkk.imp id fun ⟨h4, h5⟩ => ⟨h4, by omega⟩), ?_, S6⟩, by simp [ms, gv]; omega⟩
   rw [List.take_add_one, List.getElem?_eq_getElem hil, List.map_append]
   exact (apn lo ls[i].id k).trans ((List.Perm.cons _ hpm).trans (List.perm_append_comm (l₁ := [ls[i].id]) (l₂ := (ls.take i).map Spn.id)))
  unfold M.t.j5
  simp only [ib, g0, q1, q2]
  have fd : Fz w4 (Eng.dr w4 1) := (Fr.refl _ w4).dr 1
  cases k with
  | zero =>
   have := fin _ fd (.inl rfl)
   simp
   simpa using this
  | succ k =>
   obtain ⟨ab, ao, cap, hv, _, _, hc⟩ := hsl4.at hil
   have hia : ∀ w' K, iaT P T.b p.sv (.int .i64 (i : Nat)) w' K = K (.pointer (some ⟨ab, ao + i * 8, none⟩)) w' := fun w' K => by rw [hv]; simp [hil]
   have ct : ic w4 ab (ao + i * 8 + 1) = some (.int .u64 ls[i].id) := hc 1 _ rfl
   have c84 := (jo S4.up2).2.2.2.2.2.2.1
   obtain ⟨bo, o3, co, hvo, hbo, _, hco⟩ := so4.at (show k < lo.length by omega)
   have ia2 : ∀ w' K, iaT P T.f vo (.int .i64 (k : Nat)) w' K = K (.pointer (some ⟨bo, o3 + k, none⟩)) w' := fun w' K => by rw [hvo]; simp [show k < lo.length by omega]
   have ck : ic w4 bo (o3 + k) = some (.int .u64 lo[k]) := by simpa using hco 0 _ rfl
   have hw : IntKind.i64.wrap (((k + 1 : Nat) : Int) - 1) = (k : Int) := by rw [ig]; omega
   have hpos : (0 : Int) < ((k + 1 : Nat) : Int) := by omega
   by_cases hc2 : ls[i].id < lo[k]
   ·simp [-Int.natCast_add, hpos, hia, ia2, ck, ct, c84, hw, hc2]
    exact ⟨⟨k, rfl, by omega, .inr ⟨by omega, hc2⟩, f4.trans fd⟩, by simp [ms, gv]⟩
   ·have := fin _ fd (.inr ⟨by simp; omega, by simp; omega⟩)
    simp [-Int.natCast_add, hpos, hia, ia2, ck, ct, c84, hw, hc2]
    simpa using this
 ·have hie : i = ls.length := by omega
  simp [hil]
  unfold M.t.j0
  rw [hie, List.take_length] at hpm
  have e : po ls = lo := by
   show Suint64.mq (ls.map Spn.id) = lo
   rw [← Suint64.ud hpm]; exact axc hasc
  have so : SlU w3 vo lo := S3.row ni
  obtain ⟨va, vc, hvo, _⟩ := id so
  have c1 := (jo S3.up2).2.1
  have eb : ∀ w' K, kg P T.a #[(0, .int .i64 10), (1, .int .u64 p.tr), (8, vo)] w' K = K (pkA (rh p.tr vo)) w' := fun w' K => by
   rw [hvo]
   simp
   rfl
  simp [c1, eb]
  rw [aak]
  refine amz S3.swap rfl (aam so) (K := fun r0 w => K r0 w) fun w5 S5 => ?_
  refine h w5 vo ?_ S5.fr
  rw [e]
  exact S5.swap.row ni
end
section
variable {w0 w : World} {R : List Asn} {hb : Nat} {D : Dk} {p : Pk} {ls : List Spn} {lm : List Mem} {lu : List Int}
theorem acd (hp : pt w p ls lm lu) (hr : xz p) (hls : LsR ls lm lu) {K : KV} (h : ∀ w', Fz w w' → K (.bool (wrE p ls lm lu)) w') : gr P F.dn [pkA p] w K := by
 rw [M.dh.fcall]
 apply M.dh.calls
 unfold M.dh
 refine St.td (St.ji w) fun pb w1 S1 => ?_
 have S1' : St w w1 (im pb (pkC p).toArray T.a :: []) := S1
 obtain ⟨c0, _⟩ := jo S1'
 have pl := fun K => vk S1' K
 unfold wrE at h
 by_cases hk : p.ip = 9
 ·simp [c0, hk, pl]
  refine aqg (hp.fr S1'.fr) hr (fun m hm => (hls.m m hm).1) (fun m hm => (hls.u m hm).1) fun w2 f2 => ?_
  have S2 := S1'.jl f2
  have := h w2 S2.fr
  unfold abv
  cases he : tf p ls lm lu with
  | true => rw [he] at this; simp [hk] at this; simp; exact this
  | false => rw [he] at this; simp [hk] at this; simp; exact this
 ·have := h w1 S1'.fr
  simp [hk] at this
  simp [c0, hk]
  exact this
end
section
variable {w0 w : World} {R : List Asn} {v1 v2 : Value} {l1 l2 : List Spn}
end
theorem bek (tr : Int) (v v' : Value) (l : List Int) : qp (rh tr v) (rh tr v') [] [] [] [] l l = true := by simp [qp, sq, rh, mo]
theorem bcg {e : TypeId} {sz : Nat} {α : Type} {enc : α → List Value} {w0 w w' : World} {v : Value} {l : List α} {R : List Asn} (S : St w0 w R) (f : Fz w w') (o : Ow w' w.heap.size e sz enc v l) : St w0 w' (nf e sz enc v l :: R) :=
 S.add (a := nf e sz enc v l) f (B := fun b => v.ownBlock = some b) ⟨⟨o.1, o.2.imp id fun ⟨g, cap, cur, hv, _, h3, h4⟩ => ⟨g, cap, cur, hv, Nat.zero_le _, h3, h4⟩⟩, fun _ h => h⟩ fun b hb => o.lt hb
def bpd (W : World) (l1 l2 : List Int) : KL := fun x w1 => ∃ (u : Value) (i : Nat), x = [u, .int .i64 (i : Nat)] ∧ i ≤ l1.length ∧ (∀ j (h1 : j < l1.length) (h2 : j < l2.length), j < i → l1[j] = l2[j]) ∧ Fz W w1
def bqa (W : World) (l1 : List Spn) (l2 : List Spn) : KL := fun x w1 => ∃ (a : Value) (i : Nat), x = [a, .int .i64 (i : Nat)] ∧ i ≤ l1.length ∧ Fz W w1
theorem bau {w : World} {v1 v2 : Value} {l1 l2 : List Int} (s1 : SlU w v1 l1) (s2 : SlU w v2 l2) (hlen : l1.length ≤ 1000000) {K : KV} (h : ∀ w', Fz w w' → K (.bool (decide (l1 = l2))) w') : gr P F.dr [v1, v2] w K := by
 rw [M.bh.fcall]
 apply M.bh.calls
 unfold M.bh
 have k1 : ∀ w' K, biT P .len #[T.f] T.c [false] [v1] w' K = K (.int .i64 l1.length) w' := fun w' K => s1.ja (by kernel_rfl) [false]
 have k2 : ∀ w' K, biT P .len #[T.f] T.c [false] [v2] w' K = K (.int .i64 l2.length) w' := fun w' K => s2.ja (by kernel_rfl) [false]
 by_cases hne : l1.length = l2.length
 case neg =>
  have hne' : ¬ (l1.length : Int) = (l2.length : Int) := by omega
  simp [k1, k2, hne']
  have := h w (Fr.refl _ _)
  rwa [decide_eq_false fun he => hne (congrArg List.length he)] at this
 have hne' : (l1.length : Int) = (l2.length : Int) := by omega
 simp [k1, k2, hne']
 unfold M.bh.j0
 simp only [ib]
 refine ⟨bpd w l1 l2, fun x _ => l1.length - ms x 1, ⟨_, 0, rfl, Nat.zero_le _, fun j _ _ h => by omega, Fr.refl _ _⟩, ?_⟩
 rintro x w1 ⟨u, i, rfl, hi, hpre, f1⟩
 by_cases hil : i < l1.length
 ·have hil2 : i < l2.length := by omega
  have hwi : IntKind.i64.wrap ((i : Int) + 1) = ((i + 1 : Nat) : Int) := by rw [ig]; rfl
  obtain ⟨b1, o1, c1, e1, _, _, g1⟩ := (s1.fr f1 fun _ _ _ h => h : SlU w1 v1 l1).at hil
  obtain ⟨b2, o2, c2, e2, _, _, g2⟩ := (s2.fr f1 fun _ _ _ h => h : SlU w1 v2 l2).at hil2
  have i1 : ∀ w' K, iaT P T.f v1 (.int .i64 (i : Nat)) w' K = K (.pointer (some ⟨b1, o1 + i, none⟩)) w' := fun w' K => by rw [e1]; simp [hil]
  have i2 : ∀ w' K, iaT P T.f v2 (.int .i64 (i : Nat)) w' K = K (.pointer (some ⟨b2, o2 + i, none⟩)) w' := fun w' K => by rw [e2]; simp [hil2]
  have d1 : ic w1 b1 (o1 + i) = some (.int .u64 l1[i]) := by simpa using g1 0 _ rfl
  have d2 : ic w1 b2 (o2 + i) = some (.int .u64 l2[i]) := by simpa using g2 0 _ rfl
  simp [k1, hil]
  unfold M.bh.j3
  by_cases he : l1[i] = l2[i]
  ·simp [i1, i2, d1, d2, he, hwi]
   refine ⟨⟨_, i + 1, rfl, by omega, fun j a1 a2 hj => ?_, f1.dr 1⟩, by simp [ms, gv]; omega⟩
   by_cases hji : j = i
   ·subst hji; exact he
   ·exact hpre j a1 a2 (by omega)
  ·simp [i1, i2, d1, d2, he]
   have := h _ (f1.dr 1)
   rwa [decide_eq_false fun hee => he (by simp [hee])] at this
 ·simp [k1, hil]
  have := h _ f1
  rwa [decide_eq_true (anc hne fun j a1 a2 => hpre j a1 a2 (by omega))] at this
theorem bcz {w : World} {v1 v2 : Value} {l1 l2 : List Spn} (h1 : SlS w v1 l1) (h2 : SlS w v2 l2) (hn : l1.length < 1000000) {K : KV}
  (h : ∀ w' bb, (l1 = l2 → bb = true) → (bb = true → l1.length = l2.length) → Fz w w' → K (.bool bb) w') : gr P F.bo [v1, v2] w K := by
 rw [M.l.fcall]
 by_cases hne : l1.length = l2.length
 case neg =>
  apply M.l.calls
  unfold M.l
  simp only [ib]
  rw [h1.ja (by simp), h2.ja (by simp)]
  have hne' : ¬ (l1.length : Int) = (l2.length : Int) := by omega
  simp [hne']
  exact h w false (fun he => absurd (congrArg List.length he) hne) (fun hb => by cases hb) (Fr.refl _ _)
 by_cases heq : l1 = l2
 ·subst heq
  exact bfj h1 h2 hn ⟨rfl, fun j _ _ => agm _⟩ fun w' f => h w' true (fun _ => rfl) (fun _ => rfl) f
 have hx : ∀ bb w', Fz w w' → K (.bool bb) w' := fun bb w' f => h w' bb (fun he => absurd he heq) (fun _ => hne) f
 apply M.l.calls
 unfold M.l
 simp only [ib]
 rw [h1.ja (by simp), h2.ja (by simp)]
 simp [hne]
 unfold M.l.j0
 simp only [ib]
 refine ⟨bqa w l1 l2, fun x _ => l1.length - ms x 1, ⟨_, 0, rfl, Nat.zero_le _, Fr.refl _ _⟩, ?_⟩
 rintro x w1 ⟨a, i, rfl, hin, hf1⟩
 have g1 : gv [a, .int .i64 (i : Int)] 1 = .int .i64 (i : Int) := rfl
 simp only [g1]
 have hr1 : SlS w1 v1 l1 := h1.fr hf1 fun _ _ _ h => h
 have hr2 : SlS w1 v2 l2 := h2.fr hf1 fun _ _ _ h => h
 rw [hr1.ja (by simp)]
 by_cases hlt : i < l1.length
 ·have hlt2 : i < l2.length := by omega
  obtain ⟨b1, o1, c1, rfl, _, _, k1⟩ := hr1.at hlt
  obtain ⟨b2, o2, c2, rfl, _, _, k2⟩ := hr2.at hlt2
  have hw : IntKind.i64.wrap ((i : Int) + 1) = ((i + 1 : Nat) : Int) := by rw [ig]; rfl
  have d1 : ∀ K, ldN P 8 b1 (o1 + i * 8) (dr w1 1) K = K (ki l1[i]) (dr w1 1) := fun K => ldS (w := dr w1 1) k1 K
  have d2 : ∀ K, ldN P 8 b2 (o2 + i * 8) (dr w1 1) K = K (ki l2[i]) (dr w1 1) := fun K => ldS (w := dr w1 1) k2 K
  simp [hlt]
  unfold M.l.j3
  simp only [ib, g1]
  cases hs : vq l1[i] l2[i] with
  | true =>
   simp [hlt, hlt2, d1, d2, aar, hs, hw]
   exact ⟨⟨_, i + 1, rfl, by omega, hf1.dr 1⟩, by simp [ms, gv]; omega⟩
  | false =>
   simp [hlt, hlt2, d1, d2, aar, hs]
   exact hx _ _ (hf1.dr 1)
 ·simp [hlt]
  exact hx _ _ hf1
def bns (es m : List EnS) : Prop := Suint64.mq (mw es) = Suint64.mq (mw m) ∧ ∀ t ∈ Suint64.mq (mw m), (nr es t).length = (nr m t).length
theorem atl {es : List EnS} (h : ws es) : nr es 0 = [] := by
 refine List.eq_nil_iff_forall_not_mem.2 fun x hx => ?_
 obtain ⟨b, hb, ht⟩ := aoh.1 hx
 have := (h.rng _ hb).2.1
 unfold ly at this
 simp only at this ht
 rw [ht] at this
 simp at this
theorem bgf {es : List EnS} (h : ws es) : bOf es 0 = ir := by
 have h0 := atl h
 unfold nr at h0
 have : es.filter (isE 0) = [] := List.map_eq_nil_iff.1 h0
 unfold bOf wx
 rw [this]; rfl
def bqg (w0 : World) (q hb : Nat) (es m : List EnS) (L : Lg) (dn : Bool) (tv : Value) (ts : List Int) (R : List Asn) : KL := fun x w1 => ∃ (u : Value) (i : Nat), x = [u, .int .i64 (i : Nat)] ∧ i ≤ ts.length ∧ (∀ j (h : j < ts.length), j < i → (nr es ts[j]).length = (nr m ts[j]).length) ∧ St w0 w1 (qf q hb es L dn :: nf T.h 1 nq tv ts :: R)
section
variable {w0 w : World} {R : List Asn} {q hb : Nat} {es m : List EnS} {L : Lg} {dn : Bool} {mv : Value}
theorem bfc (S : St w0 w (qf q hb es L dn :: R)) (hu : yb es) (ho : ws es) (hl : es.length < 50000) (hml : m.length ≤ 50000) (hm : ∀ w' L', St w0 w' (L' ++ R) → SlN w' mv m) {K : KV}
  (h : ∀ w' bb, (es = m → bb = true) → (bb = true → bns es m) → St w0 w' (qf q hb es L dn :: R) → K (.bool bb) w') : gr P F.eb [jy q, mv] w K := by
 rw [M.bn.fcall]
 apply M.bn.calls
 unfold M.bn
 refine ary (hm _ [_] S) (by omega) fun w1 tv o1 f1 => ?_
 have S1 := bcg S f1 o1
 simp
 refine bai S1.swap (by omega) fun w2 av S2 => ?_
 have hle : (Suint64.mq (mw es)).length < 50000 := by
  have e1 := (Suint64.nt (mw es)).length_eq
  have := anq es
  omega
 have hlm : (Suint64.mq (mw m)).length ≤ 50000 := by
  have e1 := (Suint64.nt (mw m)).length_eq
  have := anq m
  omega
 refine bau S2.rd (S2.up2.row ni) (by omega) fun w3 f3 => ?_
 have S3 := (S2.jl f3).drop
 by_cases ht : Suint64.mq (mw es) = Suint64.mq (mw m)
 case neg =>
  simp [ht]
  exact h w3 false (fun he => absurd (by rw [he]) ht) (fun hb => by cases hb) S3.swap.drop
 simp [ht]
 refine aea S3 hu (by omega) 0 fun w4 v0 l0 g1 g2 S4 => ?_
 rw [atl ho] at g2
 have e0 : l0 = [] := g2.eq_nil
 subst e0
 have hl0 : ∀ w' K, biT P .len #[T.b] T.c [false] [v0] w' K = K (.int .i64 0) w' := fun w' K => (S4.rd : SlS w4 v0 []).ja (by kernel_rfl) [false]
 simp [hl0]
 refine amc S4.drop 0 fun w5 S5 => ?_
 rw [bgf ho]
 have eb : Value.agg #[.int .u64 0, .int .u64 0] = ko ir := rfl
 rw [eb, ahq]
 simp
 unfold M.bn.j0
 simp only [ib]
 refine ⟨bqg w0 q hb es m L dn tv (Suint64.mq (mw m)) R, fun x _ => (Suint64.mq (mw m)).length - ms x 1, ⟨_, 0, rfl, Nat.zero_le _, fun j _ h => by omega, S5⟩, ?_⟩
 rintro x w6 ⟨u, i, rfl, hi, hpre, S6⟩
 have htt := ht
 generalize hts : Suint64.mq (mw m) = ts at ht hlm S5 S6 hi hpre S1 S2 S3 S4 o1 ⊢
 have hlen : ∀ w' K, biT P .len #[T.f] T.c [false] [tv] w' K = K (.int .i64 ts.length) w' := fun w' K => (S6.swap.row ni).ja (by kernel_rfl) [false]
 by_cases hil : i < ts.length
 ·have hwi : IntKind.i64.wrap ((i : Int) + 1) = ((i + 1 : Nat) : Int) := by rw [ig]; rfl
  simp [hlen, hil]
  unfold M.bn.j3
  obtain ⟨b1, o1, c1, e1, hb1, _, g1⟩ := (S6.swap.row ni).at hil
  have i1 : ∀ w' K, iaT P T.f tv (.int .i64 (i : Nat)) w' K = K (.pointer (some ⟨b1, o1 + i, none⟩)) w' := fun w' K => by rw [e1]; simp [hil]
  simp only [qg]
  have S7 := S6.jl ((Fr.refl _ w6).dr 1)
  generalize dr w6 1 = w7 at *
  have d1 : ∀ {w' : World} {L' : List Asn}, St w0 w' (L' ++ nf T.h 1 nq tv ts :: R) → ic w' b1 (o1 + i) = some (.int .u64 ts[i]) := fun S' => by
   obtain ⟨b2, o2, c2, e2, _, _, g2⟩ := ((S'.perm List.perm_middle).row ni).at hil
   rw [e1] at e2
   injection e2 with q1 _ _
   injection q1 with q1
   injection q1 with q1 q2 _
   subst q1 q2
   simpa using g2 0 _ rfl
  have d7 := d1 (L' := [_]) S7
  simp [i1, d7]
  refine aea S7 hu (by omega) _ fun w8 v8 l8 g3 g4 S8 => ?_
  have d8 := d1 (L' := [_, _]) S8
  simp [d8]
  refine avz (hm _ [_, _, _] S8) (by omega) _ fun w9 v9 l9 g5 g6 o9 f9 => ?_
  have S9 := S8.jl f9
  have hl8 : l8.length < 50000 := by
   have e2 := g4.length_eq
   have := aex es ts[i]
   omega
  refine bcz S9.rd (o9.sl lk) (by omega) fun w10 bb k1 k2 f10 => ?_
  have S10 := (S9.jl f10).drop
  have kk : es = m → bb = true := fun he => k1 (by
   subst he
   exact apc (g4.trans g6.symm) g3 g5 fun x hx y hy he => bhf hu ts[i] x (g4.mem_iff.1 hx) y (g4.mem_iff.1 hy) he)
  cases bb with
  | false =>
   simp
   exact h w10 false kk (fun hb => by cases hb) S10.swap.drop
  | true =>
  have hlen1 : (nr es ts[i]).length = (nr m ts[i]).length := by rw [← g4.length_eq, ← g6.length_eq]; exact k2 rfl
  have d10 := d1 (L' := [_]) S10
  simp [i1, d10]
  refine amc S10 _ fun w11 S11 => ?_
  have d11 := d1 (L' := [_]) S11
  simp [d11]
  refine art (hm _ [_, _] S11) (by omega) _ fun w12 f12 => ?_
  have S12 := S11.jl f12
  simp only [ahq]
  by_cases hbb : bOf es ts[i] = bOf m ts[i]
  ·simp [hbb]
   rw [hwi]
   refine ⟨⟨_, i + 1, rfl, by omega, fun j hj hji => ?_, S12⟩, by simp [ms, gv]; omega⟩
   by_cases hje : j = i
   ·subst hje; exact hlen1
   ·exact hpre j hj (by omega)
  ·simp [hbb]
   exact h w12 false (fun he => absurd (by rw [he]) hbb) (fun hb => by cases hb) S12.swap.drop
 ·simp [hlen, hil]
  exact h w6 true (fun _ => rfl) (fun _ => ⟨htt, fun t hte => by
   obtain ⟨j, hj, rfl⟩ := List.mem_iff_getElem.1 (hts ▸ hte : t ∈ ts)
   exact hpre j hj (by omega)⟩) S6.swap.drop
end
structure aen where
 ip : Int
 n : Int
 p : Pk
 ls : List Spn
 lm : List Mem
 lu : List Int
 kv : Value
 kf : List Int
def aod (x : aen) : List Value := .int .i64 x.ip :: .int .i64 x.n :: (pkC x.p ++ [x.kv])
def aah (w : World) (b o : Nat) (x : aen) : Prop := (∀ j u, (aod x)[j]? = some u → ic w b (o + j) = some u) ∧ aaw w x.p x.ls x.lm x.lu ∧ xz x.p ∧ LsR x.ls x.lm x.lu ∧ Sl w 1 ru x.kv x.kf ∧ x.n < 9223372036854775808
theorem bke {x : Int} (h : (Lit.int .i64 x).wf = true) : x < 9223372036854775808 := by
 simp [Lit.wf, IntKind.min, IntKind.max, IntKind.bits, IntKind.signed] at h
 omega
theorem bmi {w : World} {n : Nat} {v : Value} (h : TV P w n T.ad [v]) : ∃ l, Sl w 1 ru v l := by
 refine ada (sz := 1) (rd := rdE ru) (e := T.c) (by kernel_rfl) (by kernel_rfl) (by decide) (fun n b o cs ht hl hc => ?_) h
 obtain ⟨x, hx, _⟩ := sp (k := .i64) (by kernel_rfl) ht
 subst hx
 exact ⟨x, fun j u hj => hc j u hj⟩
theorem biw {w : World} {n : Nat} {v : Value} (h : TV P w n T.af [v]) : ∃ l, ub w 14 aah v l := by
 have hel := et.af
 refine ada (sz := 14) (rd := aah) (e := T.av) hel.ty (by kernel_rfl) (by decide) (fun n b o cs ht hl hc => ?_) h
 have hu := Tryz.underlying89
 obtain ⟨_, hf⟩ := abt hu ht
 obtain ⟨m0, t0⟩ : ∃ m, TV P w m T.c ((cs.drop 0).take (P.cellsOf T.c)) := hf 0 _ rfl
 obtain ⟨m1, t1⟩ : ∃ m, TV P w m T.c ((cs.drop 1).take (P.cellsOf T.c)) := hf 1 _ rfl
 obtain ⟨m2, t2⟩ : ∃ m, TV P w m T.a ((cs.drop 2).take (P.cellsOf T.a)) := hf 2 _ rfl
 obtain ⟨m3, t3⟩ : ∃ m, TV P w m T.ad ((cs.drop 13).take (P.cellsOf T.ad)) := hf 3 _ rfl
 have c0 : P.cellsOf T.c = 1 := by kernel_rfl
 have c1 : P.cellsOf T.a = 11 := by kernel_rfl
 have c2 : P.cellsOf T.ad = 1 := by kernel_rfl
 match cs, hl with
 | [u0, u1, u2, u3, u4, u5, u6, u7, u8, u9, u10, u11, u12, u13], _ =>
  simp only [c0, c1, c2, List.drop_zero, List.drop_succ_cons, List.take_succ_cons, List.take_zero] at t0 t1 t2 t3
  obtain ⟨x0, e0, _⟩ := sp (k := .i64) (by kernel_rfl) t0
  obtain ⟨x1, e1, w1⟩ := sp (k := .i64) (by kernel_rfl) t1
  obtain ⟨p, ls, lm, lu, ep, hp, hr, hls⟩ := boi t2
  obtain ⟨l3, s3⟩ := bmi t3
  simp only [List.cons.injEq, and_true] at e0 e1
  subst e0 e1
  refine ⟨⟨x0, x1, p, ls, lm, lu, u13, l3⟩, ?_, hp, hr, hls, s3, bke w1⟩
  have e : aod ⟨x0, x1, p, ls, lm, lu, u13, l3⟩ = [.int .i64 x0, .int .i64 x1, u2, u3, u4, u5, u6, u7, u8, u9, u10, u11, u12, u13] := by
   unfold aod
   rw [← ep]
   rfl
  rw [e]
  exact fun j u hj => hc j u hj
section
variable {w0 w w' : World} {R : List Asn} {v : Value} {l : List aen}
theorem ajw {b o : Nat} {x : aen} (hb : b < w.heap.size) (h : aah w b o x) (hf : Fz w w') : aah w' b o x :=
 ⟨fun j u hj => by rw [sk (hf.kf b hb fun h => h)]; exact h.1 j u hj, h.2.1.fr hf, h.2.2.1, h.2.2.2.1, h.2.2.2.2.1.fr hf fun _ _ _ h => h, h.2.2.2.2.2⟩
theorem bfn (h : ub w 14 aah v l) (hf : Fz w w') : ub w' 14 aah v l := h.kf hf.size fun b o x hb hr => ajw hb hr hf
theorem agl (h : ub w 14 aah v l) {i : Nat} (hi : i < l.length) : ∃ b o, (∀ w' K, iaT P T.af v (.int .i64 (i : Nat)) w' K = K (.pointer (some ⟨b, o, none⟩)) w') ∧ b < w.heap.size ∧ aah w b o l[i] := by
 have hss : szE P T.af = 14 := by kernel_rfl
 obtain ⟨a, cap, hv, _, _, h3⟩ := h
 obtain ⟨b, o, rfl, hb, hr⟩ := h3 i l[i] (List.getElem?_eq_getElem hi)
 exact ⟨b, o + i * 14, fun w' K => by rw [hv]; simp [hi], hb, hr⟩
theorem wi {b o : Nat} {x : aen} (h : aah w b o x) : ic w b o = some (.int .i64 x.ip) ∧ ic w b (o + 1) = some (.int .i64 x.n) ∧ (∀ K, ldN P 11 b (o + 2) w K = K (pkA x.p) w) ∧ ic w b (o + 13) = some x.kv :=
 ⟨h.1 0 _ rfl, h.1 1 _ rfl, fun K => pg (pkC x.p) 11 rfl (fun k u hk => by
  have hlt : k < (pkC x.p).length := (List.getElem?_eq_some_iff.1 hk).1
  have := h.1 (k + 2) u (by show (pkC x.p ++ [x.kv])[k]? = some u; rw [List.getElem?_append_left hlt]; exact hk)
  rw [show o + 2 + k = o + (k + 2) by omega]; exact this) K, h.1 13 _ rfl⟩
def bpw (W : World) (l : List aen) : KL := fun x w1 => ∃ (u : Value) (i : Nat), x = [u, .int .i64 (i : Nat)] ∧ Fz W w1 ∧ i ≤ l.length ∧ ∀ (j : Nat) y, l[j]? = some y → j < i → ahj y.ls y.lm y.lu
theorem blq (hs : ub w 14 aah v l) {K : KV} (h : ∀ bb w', (bb = true → l.length ≤ 50 ∧ ∀ x ∈ l, ahj x.ls x.lm x.lu) → Fz w w' → K (.bool bb) w') : gr P F.dp [v] w K := by
 rw [M.bf.fcall]
 apply M.bf.calls
 unfold M.bf
 have hlen : ∀ w' K, biT P .len #[T.af] T.c [false] [v] w' K = K (.int .i64 l.length) w' := fun w' K => hs.ja (by kernel_rfl) [false]
 by_cases hl : 50 < l.length
 ·have : (50 : Int) < l.length := by omega
  simp [hlen, this]
  exact h false w (fun h => by cases h) (Fr.refl _ _)
 have hn : ¬ (50 : Int) < l.length := by omega
 simp [hlen, hn]
 unfold M.bf.j0
 simp only [ib]
 refine ⟨bpw w l, fun x _ => l.length - ms x 1, ⟨_, 0, rfl, Fr.refl _ _, Nat.zero_le _, fun j k _ h => by omega⟩, ?_⟩
 rintro x w1 ⟨u, i, rfl, f1, hi, hz⟩
 by_cases hil : i < l.length
 ·obtain ⟨b, o, hia, hb, hr⟩ := agl (bfn hs f1) hil
  obtain ⟨_, _, k2, _⟩ := wi hr
  have hwi : IntKind.i64.wrap ((i : Int) + 1) = ((i + 1 : Nat) : Int) := by rw [ig]; rfl
  simp [hlen, hil]
  unfold M.bf.j3
  simp [hia, k2]
  refine bbs hr.2.1 fun bb w2 hbb f2 => ?_
  cases bb with
  | false =>
   simp
   exact h false w2 (fun h => by cases h) (f1.trans f2)
  | true =>
   simp [hwi]
   refine ⟨⟨_, i + 1, rfl, f1.trans f2, by omega, fun j y hj hlt => ?_⟩, by simp [ms, gv]; omega⟩
   by_cases hji : j = i
   ·subst hji
    rw [List.getElem?_eq_getElem hil] at hj
    cases hj
    exact hbb rfl
   ·exact hz j y hj (by omega)
 ·simp [hlen, hil]
  refine h true w1 (fun _ => ⟨by omega, fun x hx => ?_⟩) f1
  obtain ⟨j, hj, rfl⟩ := List.getElem_of_mem hx
  exact hz j _ (List.getElem?_eq_getElem hj) (by omega)
end
theorem akt {F : KL → Prop} {K : KL} (H : ∀ K', (∀ x w, K x w → K' x w) → F K') : gy F K := H K fun _ _ h => h
structure aaq (q hb : Nat) (W w : World) (ms : List WrM) (iq : Int) (n : Nat) (mv : Value) : Prop where
 ok : ∃ (L : Lg) (D : Dk) (s f : Int), SI s f L D ms ∧ L.iq = iq ∧ f + ms.length ≤ n ∧ ms.length ≤ n ∧ D.jw = false ∧ St W w (qf q hb (kt ms) L false :: jb hb D :: aau mv (kt ms) :: [])
section
variable {W w : World} {q hb n : Nat} {ms : List WrM} {iq : Int} {mv a1 t32 : Value} {l : List aen}
theorem azr {x15 x6 : List Value} (e3 : gv x15 3 = jy q) (e6 : gv x6 6 = mv) (hk : aaq q hb W w ms iq n mv) (hn : n ≤ 60) {K5 : KL} {K : KV} (h5 : ∀ x5 w', gv x5 9 = jy q → gv x5 6 = mv → aaq q hb W w' ms iq n mv → K5 x5 w') : M.b.j15 x15 x6 K5 w K := by
 obtain ⟨L, D, s, f, I, hm, hf, hl, ha, S⟩ := hk
 have hle := auy I.ok
 unfold M.b.j15
 rw [e3, e6]
 refine bfc S (apk _) (ajx I.ok) (by omega) (by omega) (fun w' L' S' => ((S'.perm List.perm_append_comm).swap).row qa) fun w' bb k1 _ S' => ?_
 have hb1 : bb = true := k1 rfl
 subst hb1
 simp
 exact h5 _ w' rfl rfl ⟨L, D, s, f, I, hm, hf, hl, ha, S'⟩
theorem bic (hs : ub W 14 aah a1 l) {x3 x6 : List Value} {i : Nat} (hi : i < l.length) (g9 : gv x3 9 = jy q) (g10 : gv x3 10 = .int .i64 (i : Nat)) (e6 : gv x6 6 = mv) (hk : aaq q hb W w ms iq n mv) (hm : 64 ≤ iq ∧ iq ≤ 1048576) (hn : n ≤ 60) {K5 : KL} {K : KV} (h5 : ∀ x5 w' q', gv x5 9 = jy q' → gv x5 6 = mv → aaq q' hb W w' ms iq n mv → K5 x5 w') :
  M.b.j6 a1 x3 (.pointer (some ⟨hb, 0, none⟩)) (.int .i64 iq) x6 K5 w K := by
 unfold M.b.j6
 rw [g10]
 refine akt fun K15 h15 => ?_
 have g : ∀ x15 w' q', gv x15 3 = jy q' → aaq q' hb W w' ms iq n mv → K15 x15 w' := fun x15 w' q' e3 k => h15 _ _ (azr e3 e6 k hn fun x5 w'' d9 d6 k' => h5 x5 w'' q' d9 d6 k')
 have S0 := hk.ok
 obtain ⟨L, D, s, f, I, hmo, hf, hl, ha, S⟩ := S0
 obtain ⟨b, o, hia, hb0, hr0⟩ := agl hs hi
 obtain ⟨k0, _⟩ := wi (ajw hb0 hr0 S.fr)
 by_cases e3 : l[i].ip = 3
 ·simp [hia, k0, e3]
  refine aeg (Q := L.ii) (X := ms) S.swap I.aag.vir I.aag.up hm I.jc I.ok fun w6 q1 j s1 f1 L1 D1 hG I1 hmost1 hfl1 hle1 harm1 _ _ _ _ S6 => ?_
  have hj : ms.take j = ms := List.take_of_length_le (Nat.le_of_not_lt fun hlt => by
   rw [List.length_take, Nat.min_eq_left (by omega)] at hG
   omega)
  rw [hj] at I1 S6
  simp only [jy]
  simp
  refine g _ _ q1 rfl ⟨L1, D1, s1, f1, I1, hmost1, by omega, hl, by rw [harm1]; exact ha, ?_⟩
  exact S6.up2.drop
 ·simp [hia, k0, e3]
  exact g _ w q g9 hk
end
def PjI (W : World) (n : Nat) (X : List Asn) : KL := fun x w1 => ∃ (u : Value) (i : Nat), x = [u, .int .i64 (i : Nat)] ∧ i ≤ n ∧ St W w1 X
section
variable {W w : World} {q hb n : Nat} {ms : List WrM} {iq : Int} {mv a1 : Value} {l : List aen}
theorem bch {R : List Asn} {v3 fv : Value} {fl : List Spn} {b : Bal} (S : St W w (aau fv (fl.map fun x => (b, x)) :: rdA 8 iy v3 fl :: R)) (hl : fl.length ≤ 1000) {u : Value} {K11 : KL} {K : KV} (h : ∀ x w', St W w' (aau fv (fl.map fun x => (b, x)) :: rdA 8 iy v3 fl :: R) → K11 x w') :
  je [u, .int .i64 0] w fun K12 x12 w => M.b.j12 fv x12 K11 v3 K12 w K := by
 refine ⟨PjI W fl.length _, fun x _ => fl.length - ms x 1, ⟨_, 0, rfl, Nat.zero_le _, S⟩, ?_⟩
 rintro x w1 ⟨u, i, rfl, hi, S1⟩
 have hlen : ∀ w' K, biT P .len #[T.j] T.c [false] [fv] w' K = K (.int .i64 fl.length) w' := fun w' K => by
  have := (S1.row qa).ja (P := P) (t := T.j) (ty := T.c) (w := w') (by kernel_rfl) [false] (K := K)
  rwa [List.length_map] at this
 have q1 : gv [u, Value.int .i64 (i : Nat)] 1 = .int .i64 (i : Nat) := rfl
 unfold M.b.j12
 by_cases hil : i < fl.length
 ·have hwi : IntKind.i64.wrap ((i : Int) + 1) = ((i + 1 : Nat) : Int) := by rw [ig]; rfl
  simp [hlen, hil]
  unfold M.b.j13
  simp only [ib, qg]
  have S2 := S1.jl ((Fr.refl _ w1).dr 1)
  generalize dr w1 1 = w2 at *
  obtain ⟨b1, o1, c1, e1, _, _, g1⟩ := (S2.swap.rd : SlS w2 v3 fl).at hil
  have i1 : ∀ w' K, iaT P T.b v3 (.int .i64 (i : Nat)) w' K = K (.pointer (some ⟨b1, o1 + i * 8, none⟩)) w' := fun w' K => by rw [e1]; simp [hil]
  have d1 : ∀ K, ldN P 8 b1 (o1 + i * 8) w2 K = K (ki fl[i]) w2 := fun K => pg (iy fl[i]) 8 rfl g1 K
  obtain ⟨b2, o2, i2, _, g2⟩ := aiz (S2.row qa : SlN w2 fv _) (i := i) (by rw [List.length_map]; exact hil)
  have d2 := fun K => bbr g2 K
  rw [List.getElem_map] at d2
  simp [i1, d1, i2, d2, aar, agm]
  rw [hwi]
  exact ⟨⟨_, i + 1, rfl, by omega, S2⟩, by simp [ms, gv]; omega⟩
 ·simp [hlen, hil]
  exact h _ w1 S1
theorem bgm (hs : ub W 14 aah a1 l) {x3 x9 : List Value} {i : Nat} (hi : i < l.length) (g6 : gv x3 6 = mv) (g10 : gv x3 10 = .int .i64 (i : Nat)) {es : List EnS} {ab : Nat} {v' v3 : Value} {A : Asn} {A2 : Asn}
  (S : St W w (im ab (pkC (rh l[i].p.tr v')).toArray T.a :: rdA 1 nq v' (po l[i].ls) :: rdA 8 iy v3 (jv es l[i].ls) :: A :: A2 :: aau mv es :: [])) (hP : pt W l[i].p l[i].ls l[i].lm l[i].lu) (hl16 : l[i].ls.length ≤ 16) (hel : es.length ≤ 1000) {K6 : KL} {K : KV}
  (h6 : ∀ x6 w' mv', gv x6 6 = mv' → St W w' (A :: A2 :: aau mv' (es ++ (jv es l[i].ls).map fun x => (l[i].p.b, x)) :: []) → K6 x6 w') :
  M.b.j9 a1 x3 (.int .i64 0) (.pointer (some ⟨ab, 0, none⟩)) v3 x9 K6 w K := by
 unfold M.b.j9
 obtain ⟨b, o, hia, hb0, hr0⟩ := agl hs hi
 have kc : ∀ {w' : World} {L' : List Asn}, St W w' L' → ∀ K, ldN P 11 b (o + 2) w' K = K (pkA l[i].p) w' := fun S' => (wi (ajw hb0 hr0 S'.fr)).2.2.1
 have k0 := kc S
 generalize l[i] = op at *
 rw [g6, g10]
 simp [hia, k0]
 have hil : (po op.ls).length ≤ 16 := by
  have e1 : (po op.ls).length = (op.ls.map Spn.id).length := (Suint64.nt (op.ls.map Spn.id)).length_eq
  rw [List.length_map] at e1
  omega
 have S0 : St W w (aau mv es :: im ab (pkC (rh op.p.tr v')).toArray T.a :: rdA 1 nq v' (po op.ls) :: rdA 8 iy v3 (jv es op.ls) :: A :: A2 :: []) := S.perm (List.perm_middle (l₁ := [_, _, _, _, _]))
 refine awa (S0.row qa) (by omega) (hP.fr S0.fr) fun w1 fv o1 f1 => ?_
 have S1 := bcg S0 f1 o1
 have S2 := S1.jl ((Fr.refl _ w1).dr 1)
 generalize dr w1 1 = w2 at *
 have k2 := kc S2
 have p2 := fun K => vk S2.up2 K
 simp [hia, k2, p2]
 refine beu (hP.fr S2.fr) (by omega) fun w3 va sa f3 => ?_
 have S3 := S2.jl f3
 have p3 := fun K => vk S3.up2 K
 simp [p3]
 refine ahp ⟨Sl.nil, Sl.nil, S3.up3.rd, by simp, by simp, by omega⟩ ⟨Sl.nil, Sl.nil, sa, by simp, by simp, by omega⟩ fun w4 f4 => ?_
 rw [bek]
 have S4 := S3.jl f4
 have S5 := S4.perm (List.Perm.cons _ (List.perm_middle (l₁ := [_, _, _])))
 have hfl : (jv es op.ls).length ≤ 16 := Nat.le_trans (List.length_filter_le _ _) hl16
 have hl3 : ∀ w' K, biT P .len #[T.b] T.c [false] [v3] w' K = K (.int .i64 (jv es op.ls).length) w' := fun w' K => (S5.swap.rd : SlS w4 v3 _).ja (by kernel_rfl) [false]
 have hl4 : ∀ w' K, biT P .len #[T.j] T.c [false] [fv] w' K = K (.int .i64 (jv es op.ls).length) w' := fun w' K => by
  have := (S5.row qa).ja (P := P) (t := T.j) (ty := T.c) (w := w') (by kernel_rfl) [false] (K := K)
  rwa [List.length_map] at this
 simp [hl3, hl4]
 refine bch S5 (by omega) fun x w5 S6 => ?_
 unfold M.b.j11
 rw [g6]
 simp
 have S7 : St W _ (aau _ [] :: _) := St.te (e := T.ac) (enc := xl) (sz := 10) (l := []) (cells := #[]) S6 qa rfl (by simp [maxLen])
 -- [new, fv, v3, mv, ab, v', A, A2]
 have S7m := S7.perm (List.perm_middle (l₁ := [_, _, _]))
 refine Go.Eng.rk et.j qa agj S7 (S7m.row qa) (by simp; omega) (by decide) fun w6 v6 S8 => ?_
 refine Go.Eng.rk et.j qa agj S8 (S8.swap.row qa) (by simp; omega) (by decide) fun w7 v7 S9 => ?_
 refine h6 _ w7 v7 rfl ?_
 have S10 : St W w7 (aau v7 (es ++ (jv es op.ls).map fun x => (op.p.b, x)) :: A :: A2 :: []) := by simpa using S9.swap.drop.swap.drop.swap.drop.swap.drop.swap.drop
 exact St.dn2 S10
end
theorem ayr (p : Pk) (ls : List Spn) (lm : List Mem) (lu : List Int) : qp p p ls ls lm lm lu lu = true := by
 unfold qp mo
 simp [akg]
section
variable {s f iq B : Int} {arm : Bool} {jh : Int} {ms ms2 : List WrM} {b : Bal} {l : List Spn} {e : Int} {dn : Bool} {L : Lg} {D : Dk}
theorem yu.no (h : yu s f iq B arm jh ms b l e ms2 dn L D) (he : e ≠ 0) (ha : arm = false) : e = 9 := by
 cases h with
 | ok => exact absurd rfl he
 | uq => rfl
 | jj _ _ _ _ h => rw [ha] at h; cases h
theorem yu.yes (h : yu s f iq B arm jh ms b l 0 ms2 dn L D) : SI s f L D ms2 ∧ L.iq = iq ∧ f + ms2.length ≤ B ∧ (arm = false → D.jw = false) := by
 generalize he : (0 : Int) = e at h
 cases h with
 | ok _ _ i1 i2 i3 i4 => exact ⟨i1, i2, i3, i4⟩
 | uq => cases he
 | jj => cases he
end
section
variable {W w : World} {q hb : Nat} {ms : List WrM} {iq : Int} {mv a1 : Value} {l : List aen}
theorem aaq.mono {n n' : Nat} (h : aaq q hb W w ms iq n mv) (hn : n ≤ n') : aaq q hb W w ms iq n' mv := by
 obtain ⟨L, D, s, f, I, hm, hf, hl, ha, S⟩ := h
 exact ⟨L, D, s, f, I, hm, by omega, by omega, ha, S⟩
theorem bgj (hs : ub W 14 aah a1 l) {x3 : List Value} {i : Nat} (hi : i < l.length) (hi50 : i < 50) (g6 : gv x3 6 = mv) (g9 : gv x3 9 = jy q) (g10 : gv x3 10 = .int .i64 (i : Nat)) (hk : aaq q hb W w ms iq i mv) (hm : 64 ≤ iq ∧ iq ≤ 1048576) (hlt : ahj l[i].ls l[i].lm l[i].lu) {K3 : KL} {K : KV} (hK : ∀ w', Fz W w' → K (.bool true) w')
  (h3 : ∀ x' w' q' ms' mv', gv x' 9 = jy q' → gv x' 6 = mv' → gv x' 10 = .int .i64 ((i + 1 : Nat) : Int) → aaq q' hb W w' ms' iq (i + 1) mv' → K3 x' w') :
  M.b.j4 a1 x3 (.pointer (some ⟨hb, 0, none⟩)) (.int .i64 iq) K3 w K := by
 have hwi : IntKind.i64.wrap ((i : Int) + 1) = ((i + 1 : Nat) : Int) := by rw [ig]; rfl
 unfold M.b.j4
 rw [g10]
 refine akt fun K5 hk5 => ?_
 have h5 : ∀ x5 w' q' ms' mv', gv x5 9 = jy q' → gv x5 6 = mv' → aaq q' hb W w' ms' iq (i + 1) mv' → K5 x5 w' := fun x5 w' q' ms' mv' d9 d6 k => hk5 _ _ (by
  simp only [ky, hwi]
  exact h3 _ w' q' ms' mv' d9 d6 rfl k)
 refine akt fun K6 hk6 => ?_
 have h6 : ∀ x6 w' ms' mv', gv x6 6 = mv' → aaq q hb W w' ms' iq (i + 1) mv' → K6 x6 w' := fun x6 w' ms' mv' d6 k => hk6 _ _ (bic hs hi g9 g10 d6 k hm (by omega) fun x5 w'' q' e9 e6 k' => h5 x5 w'' q' ms' mv' e9 e6 k')
 clear hk5 hk6 h3
 have S0 := hk.ok
 obtain ⟨L, D, s, f, I, hmo, hf, hl, ha, S⟩ := S0
 obtain ⟨b, o, hia, hb0, hr0⟩ := agl hs hi
 have kc : ∀ {w' : World} {L' : List Asn}, St W w' L' → aah w' b o l[i] := fun S' => ajw hb0 hr0 S'.fr
 obtain ⟨k0, _, k2, _⟩ := wi (kc S)
 by_cases e0 : l[i].ip = 0
 ·have hP : pt W l[i].p l[i].ls l[i].lm l[i].lu := hr0.2.1.aqu hlt
  have hpr := hr0.2.2.1
  have hpl := hr0.2.2.2.1
  simp [hia, k0, e0, k2, g9]
  refine bcx (B := ((i + 1 : Nat) : Int)) S (fun w' R' S' => hP.fr S'.fr) hpr hpl.s I (by omega) (by omega) (fun hw w6 S6 => ?_) (fun hw w6 e dn' L' D' h0 hleft S6 => ?_) fun hw w6 v' v3 L' D' hleft S6 => ?_
  ·simp
   have S7 := aai S6
   generalize w6.heap.size = ab at *
   generalize w6.alloc _ = w7 at *
   rw [aak]
   refine adz (q := pkZ) S7 rfl (aje _ _ _ _ _ _) fun w8 S8 => ?_
   obtain ⟨_, _, k2', _⟩ := wi (kc S8)
   simp [k2']
   refine acd (hP.fr S8.fr) hpr hpl fun w9 f9 => ?_
   have S9 := S8.jl f9
   have p9 := fun K => vk S9 K
   rw [hw]
   simp [p9]
   refine ahp (p := pkZ) (q := pkZ) (bbq _ _ _ _ _ _ _) (bbq _ _ _ _ _ _ _) fun w10 f10 => ?_
   rw [ayr]
   simp
   have S10 := S9.jl f10
   exact h5 _ w10 q ms mv rfl g6 ⟨L, D, s, f, I, hmo, by omega, by omega, ha, S10.drop⟩
  ·have he9 : e = 9 := hleft.no h0 ha
   subst he9
   simp
   have S7 := aai S6
   generalize w6.heap.size = ab at *
   generalize w6.alloc _ = w7 at *
   rw [aak]
   refine adz (q := pkZ) S7 rfl (aje _ _ _ _ _ _) fun w8 S8 => ?_
   obtain ⟨_, _, k2', _⟩ := wi (kc S8)
   simp [k2']
   refine acd (hP.fr S8.fr) hpr hpl fun w9 f9 => ?_
   rw [hw]
   simp
   exact hK w9 (S8.jl f9).fr
  ·obtain ⟨_, Wp⟩ := ajo hw
   have hle := auy I.ok
   simp
   have S7 := aai S6
   generalize w6.heap.size = ab at *
   generalize w6.alloc _ = w7 at *
   rw [aak]
   refine adz (q := rh l[i].p.tr v') S7 rfl (aam (S7.swap.rd : SlU w7 v' (po l[i].ls))) fun w8 S8 => ?_
   obtain ⟨_, _, k2', _⟩ := wi (kc S8)
   simp [k2']
   refine acd (hP.fr S8.fr) hpr hpl fun w9 f9 => ?_
   have S9 := S8.jl f9
   rw [hw]
   simp
   refine bgm hs hi g6 g10 S9 hP Wp.len (by omega) fun x6 w10 mv' d6 S10 => ?_
   have e1 : kt (sx ms l[i].p.b (jv (kt ms) l[i].ls)) = kt ms ++ (jv (kt ms) l[i].ls).map fun x => (l[i].p.b, x) := by
    rw [air]
    exact awj Wp
   have hml := bgd ms l[i].p.b (jv (kt ms) l[i].ls)
   generalize sx ms l[i].p.b (jv (kt ms) l[i].ls) = ms' at *
   rw [← e1] at S10
   obtain ⟨i1, i2, i3, i4⟩ := hleft.yes
   exact h6 x6 w10 ms' mv' d6 ⟨L', D', s, f, i1, by rw [i2, hmo], i3, by omega, i4 ha, S10⟩
 ·simp [hia, k0, e0]
  exact h6 _ w ms mv g6 (hk.mono (by omega))
end
def bpt (W : World) (l : List aen) (iq : Int) (hb : Nat) : KL := fun x w1 => ∃ (q : Nat) (mv : Value) (ms : List WrM) (i : Nat), gv x 9 = jy q ∧ gv x 6 = mv ∧ gv x 10 = .int .i64 (i : Nat) ∧ i ≤ l.length ∧ aaq q hb W w1 ms iq i mv
theorem anl {W : World} {a0 : Int} (h0 : (Lit.int .i64 a0).wf = true) {n1 : Nat} {v1 : Value} (h1 : TV P W n1 T.af [v1]) {K : KV} (h : ∀ w', Fz W w' → K (.bool true) w') : ku P F.dl [.int .i64 a0, v1] W K := by
 obtain ⟨l, hl⟩ := biw h1
 apply M.b.calls
 unfold M.b
 have ex : ∀ {w'}, Fz W w' → (gr P F.bz [] w' fun v w => K v w) := fun f => awx fun w'' f'' => h w'' (f.trans f'')
 have hlen : ∀ w' K, biT P .len #[T.af] T.c [false] [v1] w' K = K (.int .i64 l.length) w' := fun w' K => hl.ja (by kernel_rfl) [false]
 refine blq hl fun bb w1 hbb f1 => ?_
 cases bb with
 | false =>
  simp
  exact ex f1
 | true =>
 obtain ⟨h50, hlight⟩ := hbb rfl
 by_cases c2 : a0 < 64
 ·simp [c2]
  exact ex f1
 by_cases c3 : 1048576 < a0
 ·simp [c2, c3]
  exact ex f1
 simp [c2, c3]
 unfold M.b.j0
 refine awy ((St.ji W).jl f1) 1048576 (fun h => by omega) fun _ _ w2 hb S2 => ?_
 simp
 refine aeg (X := []) S2 (atw 1048576 a0).vir rfl (by omega) (by simp [jt]) (fun m hm => by simp at hm) fun w3 q0 j s f L D _ I hmost hfl _ harm _ _ _ hx S3 => ?_
 rw [List.take_nil] at I S3
 simp only [jy]
 simp
 refine awx fun w4 f4 => ?_
 have S4 := S3.jl f4
 simp
 have N1 : St W w4 (qf q0 hb (kt []) L false :: jb hb D :: aau (.slice none 0 0) [] :: []) := St.dn2 (Go.Eng.qd S4)
 refine ⟨bpt W l a0 hb, fun x _ => l.length - ms x 10, ⟨q0, .slice none 0 0, [], 0, rfl, rfl, rfl, Nat.zero_le _, ⟨L, D, s, f, I, hmost, by simp; omega, by simp, harm, N1⟩⟩, ?_⟩
 rintro x3 w5 ⟨q, mv, ms, i, g9, g6, g10, hi, hk⟩
 have hfr : Fz W w5 := by
  obtain ⟨_, _, _, _, _, _, _, _, _, S⟩ := hk
  exact S.fr
 unfold M.b.j3
 rw [g10]
 by_cases hil : i < l.length
 case neg =>
  simp [hlen, hil]
  exact h w5 hfr
 simp [hlen, hil]
 refine bgj hl hil (by omega) g6 g9 g10 hk (by omega) (hlight _ (List.getElem_mem hil)) h fun x' w' q' ms' mv' e9 e6 e10 k' => ⟨⟨q', mv', ms', i + 1, e9, e6, e10, by omega, k'⟩, ?_⟩
 have h1 : Go.Eng.ms x3 10 = i := by unfold Go.Eng.ms; rw [g10]; simp
 have h2 : Go.Eng.ms x' 10 = i + 1 := by unfold Go.Eng.ms; rw [e10]; simp
 omega
end Go.Proofs.YtfnhoaemapheoaaGreat
