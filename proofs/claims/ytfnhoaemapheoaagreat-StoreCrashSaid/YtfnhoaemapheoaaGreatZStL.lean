/-
  A store's calls, told by what is kept of it. No condition.
-/
import Derived.Test.YtfnhoaemapheoaaGreatZSs0
import Derived.Test.YtfnhoaemapheoaaGreatZRef3
set_option maxRecDepth 100000
namespace Go.Proofs.YtfnhoaemapheoaaGreat
open Go.Eng Go.Proofs.YtfnhoaemapheoaaGreat.Sint
section
variable {w0 w : World} {R : List Asn} {q hb : Nat} {es : List EnS} {L : Lg} {D : Dk} {s f : Int} {p : Pk} {ls : List Spn} {lm : List Mem} {lu : List Int} {ms X : List WrM} {Q : List Prt} {G : Nat} {x : Prop} {im : Int}
theorem aef (S : St w0 w (iy hb D :: R)) (hv : Vir s f Q G D x) (hd : D.jj = false) (hm : 64 ≤ im ∧ im ≤ 1048576) (hQ : jq Q = X.map pz) (hX : ∀ m ∈ X, okM m) {K : KV}
  (h : ∀ w' q j s' f' L' D', G ≤ (X.take j).length → SI s' f' L' D' (X.take j) → L'.im = im → f' ≤ f → (X.take j).length ≤ X.length → D'.jw = D.jw → D'.jf = D.jf → D'.jg ≤ D.jg → L'.ii.length ≤ Q.length → (x → L'.ii = Q) → St w0 w' (nw q hb (jk (X.take j)) L' false :: iy hb D' :: R) → K (.tuple #[jx q, .int .i64 0]) w') : gr P F.dc [.pointer (some ⟨hb, 0, none⟩), .int .i64 im] w K := by
 obtain ⟨s', f', Q', D', eo, g, e2, e3, ⟨j, e4⟩, e5, _, e6, e8, e9, e7⟩ := bmb hv hd hm
 obtain ⟨y1, y2, y3, y4, _, y6, y7⟩ := aqn g.vir g.up
 have hj : jq Q' = (X.take j).map pz := by rw [e4, hQ, List.map_take]
 have hok' : ∀ m ∈ X.take j, okM m := fun m hm => hX m (List.mem_of_mem_take hm)
 refine bhy S (by omega) eo g y1 hj hok' fun w2 q S2 => ?_
 have hl : (jq Q').length = (X.take j).length := by rw [hj, List.length_map]
 have y2' : Vir s' f' Q' (jq Q').length (Lg.oh ⟨im, Q'⟩ D').1 True := y2
 refine h w2 q j s' f' ⟨im, Q'⟩ _ (by omega) ⟨⟨?_, g.size, y3⟩, hj, hok'⟩ rfl e7 (List.length_take_le' _ _) (by rw [y4, e2]) (by rw [y6, e3]) (by rw [y7]; exact e9) e8 (fun hx => (e6 hx).2.1) S2
 rw [← hl]
 exact y2'
theorem ahy (hr : ya p) (hls : ∀ s ∈ ls, wt s) (W : WrP p ls) (hne : kg es ls ≠ []) : okM (p.b, kg es ls) :=
 ⟨hr.b, hne, fun s hs => ⟨(W.ok s (List.mem_filter.1 hs).1).1, hls s (List.mem_filter.1 hs).1⟩, fun s hs s' hs' => by rw [(W.ok s (List.mem_filter.1 hs).1).2, (W.ok s' (List.mem_filter.1 hs').1).2], Nat.le_trans (List.length_filter_le _ _) W.len⟩
theorem akb (W : WrP p ls) : (kg es ls).foldl (na p.b) es = es ++ (kg es ls).map fun x => (p.b, x) := azb W.ids
def ri (ms : List WrM) (b : Bal) (l : List Spn) : List WrM := if l = [] then ms else ms ++ [(b, l)]
theorem aec (ms : List WrM) (b : Bal) (l : List Spn) : jk (ri ms b l) = l.foldl (na b) (jk ms) := by
 unfold ri
 split
 ·rename_i h; subst h; rfl
 ·rw [apf]; rfl
theorem asd (ms : List WrM) (b : Bal) (l : List Spn) : (ri ms b l).length ≤ ms.length + 1 := by unfold ri; split <;> simp
inductive yt (s f im B : Int) (arm : Bool) (jf : Int) (ms : List WrM) (b : Bal) (l : List Spn) : Int → List WrM → Bool → Lg → Dk → Prop
 | ok (L : Lg) (D : Dk) : SI s f L D (ri ms b l) → L.im = im → f + (ri ms b l).length ≤ B → (arm = false → D.jw = false) → D.jf = jf → yt s f im B arm jf ms b l 0 (ri ms b l) false L D
 | uq (L : Lg) (D : Dk) : SI s f L D ms → L.im = im → f + ms.length ≤ B → (arm = false → D.jw = false) → D.jf = jf → yt s f im B arm jf ms b l 9 ms false L D
 | jj (L : Lg) (D : Dk) (Q : List Prt) (Y : List WrM) : arm = true → D.jj = true → Vir s f Q ms.length D False → jq Q = Y.map pz → (Y = ms ∨ Y = ri ms b l) → (∀ m ∈ Y, okM m) → f + Y.length ≤ B → D.jf = jf → yt s f im B arm jf ms b l 10 ms true L D
theorem aum {B : Int} (I : SI s f L D ms) {b : Bal} {l : List Spn} (hm : l ≠ [] → okM (b, l)) (hB : f + ms.length + 1 ≤ B) (hB2 : B ≤ 1000000000000) :
  yt s f L.im B D.jw D.jf ms b l (pr L D b l).2 (if (pr L D b l).2 = 0 then ri ms b l else ms) (decide ((pr L D b l).2 = 10)) (pr L D b l).1.1 (pr L D b l).1.2 := by
 unfold pr
 by_cases he : l = []
 ·rw [if_pos he]
  have e : ri ms b l = ms := by unfold ri; rw [if_pos he]
  simp only [if_true]
  have := yt.ok (s := s) (f := f) (im := L.im) (B := B) (arm := D.jw) (jf := D.jf) (ms := ms) (b := b) (l := l) L D (by rw [e]; exact I) rfl (by rw [e]; omega) id rfl
  simpa using this
 ·rw [if_neg he]
  have ho := hm he
  have e : ri ms b l = ms ++ [(b, l)] := by unfold ri; rw [if_neg he]
  have hl := awl (B := B) I ho (by rw [I.len]; omega) hB2
  have er : pz (b, l) = nn b l := rfl
  rw [er] at hl
  rw [e]
  generalize wrF L D [nn b l] = z at *
  obtain ⟨⟨L', D'⟩, k⟩ := z
  simp only at hl ⊢
  cases hl with
  | ok _ _ i1 i2 i3 i4 i5 => rw [i1.len] at i3; simpa [e] using yt.ok (s := s) (f := f) (im := L.im) (B := B) (arm := D.jw) (jf := D.jf) (ms := ms) (b := b) (l := l) L' D' (by rw [e]; exact i1) i2 (by rw [e]; exact i3) i4 i5
  | uq _ _ i1 i2 i3 i4 i5 => rw [i1.len] at i3; exact .uq L' D' i1 i2 i3 i4 i5
  | jj _ _ Q Y i1 i2 i3 i4 i5 i6 i7 i8 i9 =>
   have hlQ : (jq Q).length = Y.length := by rw [i4, List.length_map]
   refine .jj L' D' Q Y i1 i2 i3 i4 (by rw [e]; exact i5) ?_ (by omega) i7
   rcases i5 with rfl | rfl
   ·exact I.ok
   ·intro m hm'
    rcases List.mem_append.1 hm' with hm' | hm'
    ·exact I.ok m hm'
    ·rw [List.mem_singleton.1 hm']; exact ho
theorem bcl {B : Int} (S : St w0 w (nw q hb (jk ms) L false :: iy hb D :: R)) (hp : ∀ w' R', St w0 w' (R' ++ R) → ql w' p ls lm lu) (hr : ya p) (hls : ∀ s ∈ ls, wt s) (I : SI s f L D ms) (hB : f + ms.length + 1 ≤ B) (hB2 : B ≤ 1000000000000) {K : KV}
  (hno : wrE p ls lm lu = false → ∀ w', St w0 w' (nw q hb (jk ms) L false :: iy hb D :: R) → K (.tuple #[pkA pkZ, .slice none 0 0, .int .i64 6]) w')
  (hbad : wrE p ls lm lu = true → ∀ w' e dn' L' D', e ≠ 0 → yt s f L.im B D.jw D.jf ms p.b (kg (jk ms) ls) e ms dn' L' D' → St w0 w' (nw q hb (jk ms) L' dn' :: iy hb D' :: R) → K (.tuple #[pkA pkZ, .slice none 0 0, .int .i64 e]) w')
  (hok : wrE p ls lm lu = true → ∀ w' v' v3 L' D', yt s f L.im B D.jw D.jf ms p.b (kg (jk ms) ls) 0 (ri ms p.b (kg (jk ms) ls)) false L' D' → St w0 w' (rdA 1 pi v' (rk ls) :: rdA 8 ja v3 (kg (jk ms) ls) :: nw q hb (jk (ri ms p.b (kg (jk ms) ls))) L' false :: iy hb D' :: R) → K (.tuple #[pkA (vk p.tr v'), v3, .int .i64 0]) w') :
  gr P F.bh [jx q, pkA p] w K := by
 have up : D.jj = false := I.aaq.up
 have hlen := I.len
 refine asu (s := s) (f := f) S hp hr hls (acx I.ok) (fun _ _ => ⟨_, I.aaq⟩) (by omega) hno (fun _ hd => by rw [up] at hd; cases hd) (fun hw _ _ h0 w' S' => ?_) fun hw _ _ h0 w' v' v3 S' => ?_
 all_goals
  obtain ⟨_, W⟩ := acv hw
  have hl := aum (B := B) (b := p.b) (l := kg (jk ms) ls) I (fun hne => ahy hr hls W hne) hB hB2
 ·rw [if_neg h0] at hl
  exact hbad hw w' _ _ _ _ h0 hl S'
 ·rw [if_pos h0, h0] at hl
  rw [← aec] at S'
  exact hok hw w' v' v3 _ _ (by simpa using hl) S'
theorem bij {b : Bal} {l : List Spn} (I : SI s f L D ms) (hm : l ≠ [] → okM (b, l)) (hn : f + ms.length + 1 ≤ 1000000000000) (h1 : L.ii.length < 63) (h2 : D.jw = false) (h3 : (D.jg : Int) + 1752 ≤ D.jf) : (pr L D b l).2 = 0 ∧ (pr L D b l).1.2.jg ≤ D.jg + 1752 ∧ (pr L D b l).1.1.ii.length ≤ L.ii.length + 1 := by
 unfold pr
 by_cases he : l = []
 ·rw [if_pos he]
  exact ⟨rfl, by simp, by simp⟩
 rw [if_neg he]
 have hb := arl (hm he)
 have er : pz (b, l) = nn b l := rfl
 rw [er] at hb
 have ha := bgd (b := nn b l) I.aaq (by rw [I.len]; omega)
 have h0 : (L.append D (nn b l)).2 = 0 := by
  generalize L.append D (nn b l) = z at *
  cases ha with
  | amt hx => omega
  | uq D' hx _ _ _ => rcases hx with hx | hx <;> omega
  | jj D' Q hx => rw [h2] at hx; cases hx
  | ok => rfl
 rw [ase h0]
 generalize L.append D (nn b l) = z at *
 cases ha with
 | amt hx => simp at h0
 | uq => simp at h0
 | jj => simp at h0
 | ok L' D' g' e1 e2 e3 e4 e5 e6 e7 =>
  have e0 : wrF L' D' [] = ((L', (L'.oh D').1), (L'.oh D').2) := by unfold wrF th; simp
  rw [e0]
  obtain ⟨y1, _, _, _, _, _, y7⟩ := aqn g'.vir g'.up
  exact ⟨y1, by rw [y7]; omega, e2⟩
theorem bbc (S : St w0 w (nw q hb (jk ms) L false :: iy hb D :: R)) (hp : ∀ w' R', St w0 w' (R' ++ R) → ql w' p ls lm lu) (hr : ya p) (hls : ∀ s ∈ ls, wt s) (I : SI s f L D ms) (hn : f + ms.length + 1 ≤ 1000000000000) (hw : wrE p ls lm lu = true) (h1 : L.ii.length < 63) (h2 : D.jw = false) (h3 : (D.jg : Int) + 1752 ≤ D.jf) {K : KV}
  (h : ∀ w' v' v3 L' D', SI s f L' D' (ri ms p.b (kg (jk ms) ls)) → L'.im = L.im → D'.jw = false → D'.jf = D.jf → D'.jg ≤ D.jg + 1752 → L'.ii.length ≤ L.ii.length + 1 → St w0 w' (rdA 1 pi v' (rk ls) :: rdA 8 ja v3 (kg (jk ms) ls) :: nw q hb (jk (ri ms p.b (kg (jk ms) ls))) L' false :: iy hb D' :: R) → K (.tuple #[pkA (vk p.tr v'), v3, .int .i64 0]) w') :
  gr P F.bh [jx q, pkA p] w K := by
 have up : D.jj = false := I.aaq.up
 obtain ⟨_, W⟩ := acv hw
 obtain ⟨s1, s2, s3⟩ := bij (b := p.b) (l := kg (jk ms) ls) I (fun hne => ahy hr hls W hne) hn h1 h2 h3
 have hl := aum (B := f + ms.length + 1) (b := p.b) (l := kg (jk ms) ls) I (fun hne => ahy hr hls W hne) (Int.le_refl _) hn
 rw [if_pos s1, s1] at hl
 refine asu (s := s) (f := f) S hp hr hls (acx I.ok) (fun _ _ => ⟨_, I.aaq⟩) (by rw [I.len]; omega) (fun h => by rw [hw] at h; cases h) (fun _ hd => by rw [up] at hd; cases hd) (fun _ _ _ h0 => absurd s1 h0) fun _ _ _ _ w' v' v3 S' => ?_
 rw [← aec] at S'
 generalize (pr L D p.b (kg (jk ms) ls)).1.1 = L' at *
 generalize (pr L D p.b (kg (jk ms) ls)).1.2 = D' at *
 generalize hdd : decide ((0 : Int) = 10) = dd at hl
 cases hl with
 | ok _ _ i1 i2 i3 i4 i5 => exact h w' v' v3 L' D' i1 i2 (i4 h2) i5 s2 s3 S'
end
set_option maxRecDepth 100000
def spA : Spn := ⟨5, 2, 0, 0, 0, ⟨#[97]⟩, ⟨#[98]⟩, false⟩
def spC : Spn := ⟨5, 1, 0, 0, 0, ⟨#[97]⟩, ⟨#[99]⟩, false⟩
theorem nmA : qi ⟨#[97]⟩ = 0 := by decide +kernel
theorem nmB : qi ⟨#[98]⟩ = 0 := by decide +kernel
theorem nmC : qi ⟨#[99]⟩ = 0 := by decide +kernel
theorem bnb : ly spA = 0 := by
 unfold ly spA
 simp only [nmA, nmB]
 decide
theorem bmt : ly spC = 0 := by
 unfold ly spC
 simp only [nmA, nmC]
 decide
def pkX (v : Value) : Pk := ⟨9, 5, ⟨1, 0⟩, ir, 0, false, v, iz, iz⟩
theorem boa (v : Value) : wrE (pkX v) [spA, spC] [] [] = true := by
 have h1 : rp 5 [spA, spC] = true := by
  have a := abc (tr := 5) (met := []) (s := spA) (r := [spC]) bnb rfl (by simp)
  have b := abc (tr := 5) (met := [] ++ [spA.id]) (s := spC) (r := []) bmt rfl (by simp [spA, spC])
  unfold rp
  rw [a, b]
  simp [tf]
 unfold wrE tg aej sj nf
 simp [pkX, lx, px, qc, qd, mw, iz, h1, avv]
theorem bku (v : Value) : ya (pkX v) := by
 have u : ∀ x : Int, 0 ≤ x → x < 10 → uo x := fun x h1 h2 => ⟨h1, by omega⟩
 exact ⟨u 5 (by decide) (by decide), ⟨u 1 (by decide) (by decide), u 0 (by decide) (by decide)⟩, ⟨u 0 (by decide) (by decide), u 0 (by decide) (by decide)⟩⟩
theorem bor : ∀ s ∈ [spA, spC], wt s := fun s hs => by
 have u : ∀ x : Int, 0 ≤ x → x < 10 → uo x := fun x h1 h2 => ⟨h1, by omega⟩
 rcases List.mem_cons.1 hs with rfl | hs
 ·exact ⟨u _ (by decide) (by decide), u _ (by decide) (by decide), u _ (by decide) (by decide), u _ (by decide) (by decide), u _ (by decide) (by decide)⟩
 ·rw [List.mem_singleton.1 hs]
  exact ⟨u _ (by decide) (by decide), u _ (by decide) (by decide), u _ (by decide) (by decide), u _ (by decide) (by decide), u _ (by decide) (by decide)⟩
theorem bog : rk [spA, spC] = [1, 2] := by
 have e : rk [spA, spC] = Suint64.mo [2, 1] := rfl
 rw [e, Suint64.vt (List.Perm.swap 1 2 [])]
 exact List.mergeSort_of_pairwise (by simp)
theorem bdc {l : List Spn} (h1 : oy l) (h2 : l.Perm [spA, spC]) : l = [spC, spA] := by
 refine (apr (h2.trans (List.Perm.swap _ _ _)) h1 ?_ ?_)
 ·simp [leS, spA, spC]
 ·intro x hx y hy he
  have hx' := h2.mem_iff.1 hx
  have hy' := h2.mem_iff.1 hy
  simp only [List.mem_cons, List.not_mem_nil, or_false] at hx' hy'
  rcases hx' with rfl | rfl <;> rcases hy' with rfl | rfl
  ·rfl
  ·simp [spA, spC] at he
  ·simp [spA, spC] at he
  ·rfl
theorem axc {w : World} {K : KV} (h : ∀ w', Fz w w' → K (.bool true) w') : gr P F.bo [] w K := by
 rw [M.bz.fcall]
 apply M.bz.calls
 unfold M.bz
 refine axh (St.ji w) 10000 (fun h => by omega) fun _ _ w1 hb S1 => ?_
 simp
 refine aef (X := []) S1 (avq 10000 256).vir rfl (by omega) (by simp [jq]) (fun m hm => by simp at hm) fun w2 q j s f L D _ I hmost hfl _ harm hroom hused _ hx S2 => ?_
 rw [List.take_nil] at I S2
 have hp0 : L.ii = [] := hx trivial
 simp only [jx]
 simp
 unfold M.bz.j0
 simp
 have S3 : St w (w2.alloc (.cells #[.int .u64 5, .int .u64 2, .int .u64 0, .int .u64 0, .int .u64 0, .string ⟨#[97]⟩, .string ⟨#[98]⟩, .bool false, .int .u64 5, .int .u64 1, .int .u64 0, .int .u64 0, .int .u64 0, .string ⟨#[97]⟩, .string ⟨#[99]⟩, .bool false] T.e)) (lh (.slice (some ⟨w2.heap.size, 0, none⟩) 2 2) [spA, spC] :: _) := St.su (l := [spA, spC]) S2 lk rfl (by simp [maxLen])
 generalize w2.heap.size = rb at *
 generalize w2.alloc _ = w3 at *
 have ep : Value.agg #[.int .i64 9, .int .u64 5, .int .u64 1, .int .u64 0, .int .u64 0, .int .u64 0, .int .i64 0, .bool false, .slice (some ⟨rb, 0, none⟩) 2 2, .slice none 0 0, .slice none 0 0] = pkA (pkX (.slice (some ⟨rb, 0, none⟩) 2 2)) := rfl
 rw [ep]
 have hrng := bku (.slice (some ⟨rb, 0, none⟩) 2 2)
 have hu : D.jg = 0 := baz I.aaq hp0
 have hf0 : f = 0 := (I.aaq.vir.nil hp0).2
 have S4 : St w w3 (nw q hb (jk []) L false :: iy hb D :: lh (.slice (some ⟨rb, 0, none⟩) 2 2) [spA, spC] :: []) := St.dn2 S3
 have hfr : kg (jk []) [spA, spC] = [spA, spC] := rfl
 refine bbc S4 (fun w' R' S' => ⟨(S'.perm List.perm_middle).row lk, Sl.nil, Sl.nil, by simp, by simp, by simp⟩) hrng bor I (by rw [hf0]; simp) (boa _) (by rw [hp0]; simp) harm (by rw [hu, hroom]; simp) fun w5 v' v3 L2 D2 I2 hm2 ha2 hr2 hu2 hp2 S5 => ?_
 rw [hfr, bog] at S5
 rw [hfr] at I2
 have hms : ri [] (pkX (.slice (some ⟨rb, 0, none⟩) 2 2)).b [spA, spC] = [(⟨1, 0⟩, [spA, spC])] := rfl
 rw [hms] at I2 S5
 simp
 have S6 := agb S5
 generalize w5.heap.size = tb at *
 generalize w5.alloc _ = w6 at *
 have one6 := agm (tr := (pkX (.slice (some ⟨rb, 0, none⟩) 2 2)).tr) (S5.rd : SlU w5 v' [1, 2])
 rw [aii]
 refine als (q := vk (pkX (.slice (some ⟨rb, 0, none⟩) 2 2)).tr v') S6 rfl one6 fun w7 S7 => ?_
 refine asw (kl := []) (S7.up4) (fun _ _ _ => Sl.nil) fun w8 S8 => ?_
 obtain ⟨c1, c2, c3, c4⟩ := bdz I2.aaq.vir []
 refine aef (X := [(⟨1, 0⟩, [spA, spC])]) S8 c1 c2 (by omega) I2.jc I2.ok fun w9 q2 j s3 f3 L3 D3 hj I3 _ _ _ _ _ _ _ _ S9 => ?_
 have hjt : [((⟨1, 0⟩ : Bal), [spA, spC])].take j = [(⟨1, 0⟩, [spA, spC])] := List.take_of_length_le (by
  rw [List.length_take] at hj
  simp at hj ⊢
  omega)
 rw [hjt] at I3 S9
 have hes : jk [((⟨1, 0⟩ : Bal), [spA, spC])] = [(⟨1, 0⟩, spA), (⟨1, 0⟩, spC)] := rfl
 rw [hes] at S9
 have hsp : nh [((⟨1, 0⟩ : Bal), spA), (⟨1, 0⟩, spC)] 5 = [spA, spC] := rfl
 have hun : yb [((⟨1, 0⟩ : Bal), spA), (⟨1, 0⟩, spC)] := by rw [← hes]; exact aed _
 -- [sto, disk, tb, rd ids, rd fresh, sto old, row]
 obtain ⟨_, _, _, _, _, _, _, _, k10, _⟩ := ju S9.up2
 have li : ∀ w' K, biT P .len #[T.h] T.c [false] [v'] w' K = K (.int .i64 2) w' := fun w' K => (S9.up3.rd : SlU w9 v' [1, 2]).jb (by kernel_rfl) [false]
 have lf : ∀ w' K, biT P .len #[T.b] T.c [false] [v3] w' K = K (.int .i64 2) w' := fun w' K => (S9.up4.rd : SlS w9 v3 [spA, spC]).jb (by kernel_rfl) [false]
 obtain ⟨b1, o1, cap1, hv1, _, _, hc1⟩ := (S9.up3.rd : SlU w9 v' [1, 2]).at (i := 0) (by simp)
 have d1 : ic w9 b1 o1 = some (.int .u64 1) := by simpa using hc1 0 _ rfl
 have ia1 : ∀ w' K, iaT P T.h v' (.int .i64 0) w' K = K (.pointer (some ⟨b1, o1, none⟩)) w' := fun w' K => by
  rw [hv1, abe (by simp) (by omega) (by simp)]; simp
 simp [k10, li, lf, ia1, d1, vk, jx]
 refine aea S9 hun (by simp) 5 fun w10 v4 l4 g1 g2 S10 => ?_
 rw [hsp] at g2
 have hl4 := bdc g1 g2
 subst hl4
 have l4' : ∀ w' K, biT P .len #[T.b] T.c [false] [v4] w' K = K (.int .i64 2) w' := fun w' K => (S10.rd : SlS w10 v4 [spC, spA]).jb (by kernel_rfl) [false]
 simp [l4']
 refine aea S10.swap hun (by simp) 5 fun w11 v5 l5 g3 g4 S11 => ?_
 rw [hsp] at g4
 have hl5 := bdc g3 g4
 subst hl5
 obtain ⟨b2, o2, cap2, hv2, _, _, hc2⟩ := (S11.rd : SlS w11 v5 [spC, spA]).at (i := 0) (by simp)
 have d2 : ic w11 b2 (o2 + 1) = some (.int .u64 1) := by simpa [spC] using hc2 1 _ rfl
 have ia2 : ∀ w' K, iaT P T.b v5 (.int .i64 0) w' K = K (.pointer (some ⟨b2, o2, none⟩)) w' := fun w' K => by
  rw [hv2, abe (by simp) (by omega) (by simp)]; simp
 simp [ia2, d2]
 exact h w11 S11.fr
theorem avc {w : World} (x y : Spn) {K : KV} (h : ∀ w', Fz w w' → K (.bool (decide (xv x y < 0))) w') : gr P F.eh [ko x, ko y] w K := by
 rw [M.dp.fcall]
 apply M.dp.calls
 unfold M.dp
 refine St.tt (St.ji w) fun b1 w1 S1 => ?_
 refine St.tt S1 fun b2 w2 S2 => ?_
 have S2' : St w w2 (spB b2 y :: spB b1 x :: []) := S2
 have x3 : ic w2 b1 3 = some (.int .u64 x.ji) := by rw [S2'.swap.cell]; rfl
 have x1 : ic w2 b1 1 = some (.int .u64 x.id) := by rw [S2'.swap.cell]; rfl
 have y3 : ic w2 b2 3 = some (.int .u64 y.ji) := by rw [S2'.cell]; rfl
 have y1 : ic w2 b2 1 = some (.int .u64 y.id) := by rw [S2'.cell]; rfl
 have fin := h w2 S2'.fr
 have e : decide (xv x y < 0) = (decide (x.ji < y.ji) || (decide (x.ji = y.ji) && decide (x.id < y.id))) := by
  have hi : xv x y < 0 ↔ (x.ji < y.ji ∨ (x.ji = y.ji ∧ x.id < y.id)) := by
   rw [vu]; unfold leS; omega
  simp only [hi, Bool.decide_or, Bool.decide_and]
 rw [e] at fin
 by_cases h1 : x.ji < y.ji
 ·simp [h1] at fin
  simp [x3, y3, h1]
  exact fin
 ·by_cases h2 : x.ji = y.ji
  ·simp [h2] at fin
   simp [x3, y3, x1, y1, h2]
   exact fin
  ·simp [h1, h2] at fin
   simp [x3, y3, h1, h2]
   exact fin
def bmq (w : World) (l : List Spn) : KL := fun v w1 => ∃ (u vo : Value) (i : Nat) (lo : List Spn), v = [u, vo, .int .i64 (i : Nat)] ∧ i ≤ l.length ∧ oy lo ∧ lo.Perm (l.take i) ∧ Ow w1 w.heap.size T.e 8 ja vo lo ∧ Fz w w1
def bqa (w1 : World) (lo : List Spn) (x : Spn) : KL := fun v w2 => ∃ (k : Nat), v = [.int .i64 (k : Nat)] ∧ k ≤ lo.length ∧ (k = lo.length ∨ ∃ h : k < lo.length, leS x lo[k]) ∧ Fz w1 w2
section
variable {w : World} {v : Value} {l : List Spn}
theorem aqh {w1 : World} {u vo : Value} {lo : List Spn} {i k : Nat} (hs : SlS w1 v l) (hv : ∀ b, v.ownBlock = some b → b < w1.heap.size) (o : Ow w1 w.heap.size T.e 8 ja vo lo) (hi : i < l.length) (hk : k ≤ lo.length) (hl : lo.length ≤ 100000) (hsz : w.heap.size ≤ w1.heap.size) {K3 : KL} {K : KV}
  (h : ∀ w' v' u', Ow w' w.heap.size T.e 8 ja v' (lo.take k ++ l[i] :: lo.drop k) → Fz w1 w' → K3 [u', v'] w') : M.y.j4 [u, vo, .int .i64 (i : Nat)] [.int .i64 (k : Nat)] v K3 w1 K := by
 unfold M.y.j4
 have q1 : gv [u, vo, .int .i64 (i : Nat)] 1 = vo := rfl
 have q2 : gv [u, vo, .int .i64 (i : Nat)] 2 = .int .i64 (i : Nat) := rfl
 have so : SlS w1 vo lo := o.sl lk
 have hown : ∀ b, vo.ownBlock = some b → b < w1.heap.size := fun b hb => (o.lt hb).2
 obtain ⟨v1, s1, p1, r1⟩ := so.sub (P := P) (t := T.b) (lo := none) (hi := some (.int .i64 (k : Int))) (i := 0) (j := k) (by kernel_rfl) (by kernel_rfl) (.inl ⟨rfl, rfl⟩) (.inr ⟨_, rfl⟩) (Nat.zero_le _) hk
 obtain ⟨v3, s3, p3, r3⟩ := so.sub (P := P) (t := T.b) (lo := some (.int .i64 (k : Int))) (hi := none) (i := k) (j := lo.length) (by kernel_rfl) (by kernel_rfl) (.inr ⟨_, rfl⟩) (.inl ⟨rfl, rfl⟩) hk (Nat.le_refl _)
 have e1 : List.take (k - 0) (List.drop 0 lo) = lo.take k := by simp
 have e3 : List.take (lo.length - k) (List.drop k lo) = lo.drop k := List.take_of_length_le (by simp)
 rw [e1] at s1
 rw [e3] at s3
 obtain ⟨b', oo, cap, hv2, hbb, _, hc⟩ := hs.at hi
 have em : ko l[i] = .agg #[.int .u64 l[i].iu, .int .u64 l[i].id, .int .u64 l[i].ou, .int .u64 l[i].ji, .int .u64 l[i].len, .string l[i].kf, .string l[i].name, .bool l[i].ru] := rfl
 have hldf : ∀ {w'}, Fz w1 w' → ∀ K, ldN P 8 b' (oo + i * 8) w' K = K (.agg #[.int .u64 l[i].iu, .int .u64 l[i].id, .int .u64 l[i].ou, .int .u64 l[i].ji, .int .u64 l[i].len, .string l[i].kf, .string l[i].name, .bool l[i].ru]) w' := fun f K => by
  rw [← em]
  exact po (ja l[i]) 8 rfl (fun k u hk => by rw [tz (f.ke b' hbb fun h => h)]; exact hc k u hk) K
 have hldd := hldf (w' := Eng.dr w1 1) ((Fr.refl _ w1).dr 1)
 have g15 : ∀ (b0 b1 b2 b3 b4 b5 b6 b7 b8 b9 b10 b11 b12 b13 b14 b15 : Value), gv [b0, b1, b2, b3, b4, b5, b6, b7, b8, b9, b10, b11, b12, b13, b14, b15] 15 = b15 := fun _ _ _ _ _ _ _ _ _ _ _ _ _ _ _ _ => rfl
 subst hv2
 simp [q1, q2, r1, r3, hi, hldd, g15]
 have fin := bja (P := P) (ty := T.b) et.b lk og (x := l[i]) (cells := #[.int .u64 l[i].iu, .int .u64 l[i].id, .int .u64 l[i].ou, .int .u64 l[i].ji, .int .u64 l[i].len, .string l[i].kf, .string l[i].name, .bool l[i].ru]) rfl s1 s3 (fun y hy => hown y (p1 y hy)) (fun y hy => hown y (p3 y hy)) (by simp; omega) (by decide) (Q := fun w1 => ldN P 8 b' (oo + i * 8) w1 fun v' w' => w' = w1 ∧ v' = .agg #[.int .u64 l[i].iu, .int .u64 l[i].id, .int .u64 l[i].ou, .int .u64 l[i].ji, .int .u64 l[i].len, .string l[i].kf, .string l[i].name, .bool l[i].ru]) (fun w' f => by rw [hldf f]; exact ⟨rfl, rfl⟩) (c1 := [false, false]) (c2 := [false, false]) (c3 := [false, false]) (c4 := [false, false]) (c5 := [false, false]) (c6 := [false, false]) (c7 := [false, false]) (c8 := [false, false]) (c9 := [false, false]) (K := fun t w => K3 [.int .i64 (k : Nat), t] w) fun w' v' o' f' =>
  h w' v' _ (by simpa using o'.mono hsz) f'
 exact fin
theorem arr (hs : SlS w v l) (hv : ∀ b, v.ownBlock = some b → b < w.heap.size) (hl : l.length ≤ 100000) {K : KV}
  (h : ∀ w' v' l', oy l' → l'.Perm l → Ow w' w.heap.size T.e 8 ja v' l' → Fz w w' → K v' w') : gr P F.eg [v] w K := by
 rw [M.y.fcall]
 apply M.y.calls
 unfold M.y
 simp only [ib]
 refine ⟨bmq w l, fun x _ => l.length - ms x 2, ⟨undef, .slice none 0 0, 0, [], rfl, Nat.zero_le _, List.Pairwise.nil, by simp, Ow.none, Fr.refl _ _⟩, ?_⟩
 rintro x w1 ⟨u, vo, i, lo, rfl, hi, hasc, hp, o, f1⟩
 have q1 : gv [u, vo, .int .i64 (i : Nat)] 1 = vo := rfl
 have q2 : gv [u, vo, .int .i64 (i : Nat)] 2 = .int .i64 (i : Nat) := rfl
 have hs1 : SlS w1 v l := hs.fr f1 fun _ _ _ h => h
 have hlen : ∀ w' K, biT P .len #[T.b] T.c [false] [v] w' K = K (.int .i64 l.length) w' := fun w' K => hs.jb (by kernel_rfl) [false]
 have hpl := hp.length_eq
 rw [List.length_take] at hpl
 unfold M.y.j1
 simp only [ib, hlen, q2, lw]
 by_cases hil : i < l.length
 ·have hili : (i : Int) < (l.length : Int) := by omega
  have hwi : IntKind.i64.wrap ((i : Int) + 1) = ((i + 1 : Nat) : Int) := by rw [ig]; rfl
  simp only [hili, decide_true, Eng.cond_true]
  unfold M.y.j2
  have so : SlS w1 vo lo := o.sl lk
  have hlo : ∀ w' K, biT P .len #[T.b] T.c [false] [vo] w' K = K (.int .i64 lo.length) w' := fun w' K => so.jb (by kernel_rfl) [false]
  simp only [ib, q1, hlo]
  refine ⟨bqa w1 lo l[i], fun x _ => ms x 0, ⟨lo.length, rfl, Nat.le_refl _, .inl rfl, Fr.refl _ _⟩, ?_⟩
  rintro x w2 ⟨k, rfl, hk, hkk, f2⟩
  have hs2 : SlS w2 v l := hs1.fr f2 fun _ _ _ h => h
  have o2 := o.fr f2 fun _ _ h => h
  have so2 : SlS w2 vo lo := o2.sl lk
  have hsz2 : w.heap.size ≤ w2.heap.size := (f1.trans f2).size
  have hv2 : ∀ b, v.ownBlock = some b → b < w2.heap.size := fun b hb => by have := hv b hb; omega
  have g0 : gv [Value.int .i64 (k : Nat)] 0 = .int .i64 (k : Nat) := rfl
  -- where it is put
  have fin : ∀ (w3 : World), Fz w2 w3 → (k = 0 ∨ ∃ h : k - 1 < lo.length, leS lo[k - 1] l[i]) → M.y.j4 [u, vo, .int .i64 (i : Nat)] [.int .i64 (k : Nat)] v (fun x3 w_1 => ij P .add T.c (.tmp 10) (.const (.int .i64 1)) (.int .i64 (i : Nat)) (.int .i64 1) w_1 fun t11 w_2 => bmq w l [gv x3 0, gv x3 1, t11] w_2 ∧ l.length - ms [gv x3 0, gv x3 1, t11] 2 < l.length - ms [u, vo, .int .i64 (i : Nat)] 2) w3 K := fun w3 f3 hle => by
   refine aqh (hs2.fr f3 fun _ _ _ h => h) (fun b hb => by have := hv2 b hb; have := f3.size; omega) (o2.fr f3 fun _ _ h => h) hil hk (by omega) (by have := f3.size; omega) fun w4 v4 u4 o4 f4 => ?_
   simp only [kz, hwi]
   refine ⟨⟨_, _, i + 1, _, rfl, by omega, aky hasc hk hle hkk, ?_, o4, ((f1.trans f2).trans f3).trans f4⟩, by simp [ms, gv]; omega⟩
   rw [List.take_add_one, List.getElem?_eq_getElem hil]
   exact (aku lo l[i] k).trans ((List.Perm.cons _ hp).trans (List.perm_append_comm (l₁ := [l[i]]) (l₂ := l.take i)))
  unfold M.y.j5
  simp only [ib, g0, q1, q2]
  have fd : Fz w2 (Eng.dr w2 1) := (Fr.refl _ w2).dr 1
  cases k with
  | zero =>
   have := fin _ fd (.inl rfl)
   simp
   simpa using this
  | succ k =>
   obtain ⟨ba, oa, ca, hva, hba, _, hca⟩ := hs2.at hil
   obtain ⟨bo, oo, co, hvo, hbo, _, hco⟩ := so2.at (show k < lo.length by omega)
   have la : ∀ K, ldN P 8 ba (oa + i * 8) (Eng.dr w2 1) K = K (ko l[i]) (Eng.dr w2 1) := fun K => po (w := Eng.dr w2 1) (ja l[i]) 8 rfl hca K
   have lb : ∀ K, ldN P 8 bo (oo + k * 8) (Eng.dr w2 1) K = K (ko lo[k]) (Eng.dr w2 1) := fun K => po (w := Eng.dr w2 1) (ja lo[k]) 8 rfl hco K
   have ia1 : ∀ w' K, iaT P T.b v (.int .i64 (i : Nat)) w' K = K (.pointer (some ⟨ba, oa + i * 8, none⟩)) w' := fun w' K => by rw [hva]; simp [hil]
   have ia2 : ∀ w' K, iaT P T.b vo (.int .i64 (k : Nat)) w' K = K (.pointer (some ⟨bo, oo + k * 8, none⟩)) w' := fun w' K => by rw [hvo]; simp [show k < lo.length by omega]
   have hw : IntKind.i64.wrap (((k + 1 : Nat) : Int) - 1) = (k : Int) := by rw [ig]; omega
   have hpos : (0 : Int) < ((k + 1 : Nat) : Int) := by omega
   simp [-Int.natCast_add, hpos, ia1, ia2, la, lb, hw]
   refine avc _ _ fun w3 f3 => ?_
   by_cases hc : leS lo[k] l[i]
   ·have hno : ¬ xv l[i] lo[k] < 0 := fun hh => vu.1 hh hc
    have := fin w3 (fd.trans f3) (.inr ⟨by simp; omega, by simpa using hc⟩)
    simp [hno]
    simpa using this
   ·have hyes : xv l[i] lo[k] < 0 := vu.2 hc
    simp [hyes, -Int.natCast_add, hw]
    exact ⟨⟨k, rfl, by omega, .inr ⟨by omega, leS.of hc⟩, (f2.trans fd).trans f3⟩, by simp [ms, gv]⟩
 ·have hie : i = l.length := by omega
  have hili : ¬ (i : Int) < (l.length : Int) := by omega
  simp only [hili, decide_false, Eng.cond_false]
  rw [hie, List.take_length] at hp
  exact h w1 vo lo hasc hp o f1
end
def wv (e : EnS) : List Value := [.int .u64 e.1.n, .int .u64 e.1.jl, .int .u64 e.2.iu, .int .u64 e.2.id, .int .u64 e.2.ou, .int .u64 e.2.ji, .int .u64 e.2.len, .string e.2.kf, .string e.2.name, .bool e.2.ru]
theorem nv (e : EnS) : (wv e).length = 10 := rfl
theorem aag (e : EnS) : ∀ u ∈ wv e, kq u = true := fun u hu => by
 simp only [wv, List.mem_cons, List.not_mem_nil, or_false] at hu
 rcases hu with rfl | rfl | rfl | rfl | rfl | rfl | rfl | rfl | rfl | rfl <;> rfl
abbrev SlN (w : World) (v : Value) (l : List EnS) : Prop := Sl w 10 wv v l
def bmu (W : World) (l : List Bal) (rb tb : Nat) : KL := fun x w1 => ∃ (i : Nat), x = [.int .i64 (i : Nat)] ∧ i ≤ l.length ∧ St W w1 (baB rb (qu ir (l.take i)) :: baB tb ir :: [])
def bqm (W : World) (es : List EnS) (x : Spn) (xb : Nat) : KL := fun v w1 => ∃ (u : Value) (i : Nat), v = [u, .int .i64 (i : Nat)] ∧ i ≤ es.length ∧ (∀ j (h : j < es.length), j < i → ¬ (es[j].2.iu = x.iu ∧ es[j].2.id = x.id)) ∧ St W w1 (spB xb x :: [])
section
variable {w : World} {v : Value} {es : List EnS}
theorem awt {l : List Bal} (hs : Sl w 2 xz v l) (hl : l.length ≤ 1000000) {K : KV} (h : ∀ w', Fz w w' → K (kt (qu ir l)) w') : gr P F.es [v] w K := by
 rw [M.cl.fcall]
 apply M.cl.calls
 unfold M.cl
 simp
 have S1 := aeh (St.ji w)
 have z1 : (w.alloc (.cells #[.int .u64 0, .int .u64 0] T.d)).heap.size = w.heap.size + 1 := jz _ _
 generalize w.alloc (.cells #[.int .u64 0, .int .u64 0] T.d) = w1 at *
 have S2 := aeh S1
 rw [z1] at S2
 generalize w.heap.size = tb at *
 generalize tb + 1 = rb at *
 generalize w1.alloc _ = w2 at *
 refine St.put (i := 0) (vs := [.int .u64 0, .int .u64 0]) (cs' := #[.int .u64 0, .int .u64 0]) S2 (by simp [kq]) (by simp) rfl fun w3 S3 => ?_
 have S3' : St w w3 (baB rb ir :: baB tb ir :: []) := S3
 have hlen : ∀ w' K, biT P .len #[T.al] T.c [false] [v] w' K = K (.int .i64 l.length) w' := fun w' K => hs.jb (by kernel_rfl) [false]
 simp [hlen]
 refine ⟨bmu w l rb tb, fun x _ => l.length - ms x 0, ⟨0, rfl, Nat.zero_le _, S3'⟩, ?_⟩
 rintro x w4 ⟨i, rfl, hi, S4⟩
 by_cases hil : i < l.length
 ·have hwi : IntKind.i64.wrap ((i : Int) + 1) = ((i + 1 : Nat) : Int) := by rw [ig]; rfl
  simp [hil]
  unfold M.cl.j2
  simp only [ib, qw]
  have S5 := S4.jt ((Fr.refl _ w4).dr 1)
  generalize Eng.dr w4 1 = w5 at *
  have hs5 : Sl w5 2 xz v l := hs.fr S5.fr fun _ _ _ h => h
  obtain ⟨ab, ao, cap, hv, _, _, hc⟩ := hs5.at hil
  have hia : ∀ w' K, iaT P T.al v (.int .i64 (i : Nat)) w' K = K (.pointer (some ⟨ab, ao + i * 2, none⟩)) w' := fun w' K => by
   rw [hv, abe (by kernel_rfl) (by omega) (by omega), show szE P T.al = 2 from by kernel_rfl]
   simp
  have hld : ∀ K, ldN P 2 ab (ao + i * 2) w5 K = K (kt l[i]) w5 := fun K => po (xz l[i]) 2 rfl hc K
  obtain ⟨_, _, b1⟩ := pm S5
  have e : qu ir (l.take (i + 1)) = if (qu ir (l.take i)).wy l[i] = true then l[i] else qu ir (l.take i) := by
   rw [List.take_add_one, List.getElem?_eq_getElem hil]
   exact app _ _ _
  have hlast : ∀ w', St w w' (baB rb (qu ir (l.take (i + 1))) :: baB tb ir :: []) → bmu w l rb tb [.int .i64 ((i + 1 : Nat) : Int)] w' ∧ l.length - ms [.int .i64 ((i + 1 : Nat) : Int)] 0 < l.length - ms [.int .i64 (i : Nat)] 0 := fun w' S' => ⟨⟨i + 1, rfl, by omega, S'⟩, by simp [ms, gv]; omega⟩
  simp [hia, hld, b1]
  refine baw _ _ fun w6 f6 => ?_
  have S6 := S5.jt f6
  have hld6 : ∀ K, ldN P 2 ab (ao + i * 2) w6 K = K (kt l[i]) w6 := fun K => by
   obtain ⟨ab', ao', cap', hv', _, _, hc'⟩ := (hs5.fr f6 fun _ _ _ h => h).at hil
   rw [hv] at hv'
   injection hv' with q1 _ _
   injection q1 with q1
   injection q1 with q1 q2 _
   subst q1 q2
   exact po (xz l[i]) 2 rfl hc' K
  cases hb : (qu ir (l.take i)).wy l[i] with
  | true =>
   rw [hb] at e
   simp only [if_true] at e
   simp [hld6]
   refine acd (y := l[i]) S6 fun w7 S7 => ?_
   rw [hwi]
   refine hlast w7 ?_
   rw [e]; exact S7
  | false =>
   rw [hb] at e
   simp only [Bool.false_eq_true, if_false] at e
   simp
   rw [hwi]
   refine hlast w6 ?_
   rw [e]; exact S6
 ·have hie : i = l.length := by omega
  subst hie
  rw [List.take_length] at S4
  obtain ⟨_, _, b1⟩ := pm S4
  simp [b1]
  refine acd (y := qu ir l) S4.swap fun w5 S5 => ?_
  obtain ⟨_, _, b2⟩ := pm S5
  have hres : ∀ w' K, pp P T.d (.pointer (some ⟨tb, 0, none⟩)) w' K = ldN P 2 tb 0 w' K := fun w' K => kr
  simp [hres, b2]
  exact h w5 S5.fr
theorem bdf (hs : SlN w v es) (hl : es.length ≤ 1000000) (x : Spn) {K : KV} (h : ∀ w', Fz w w' → K (.bool (un es x)) w') : gr P F.ep [v, ko x] w K := by
 rw [M.ck.fcall]
 apply M.ck.calls
 unfold M.ck
 refine St.tt (St.ji w) fun xb w1 S1 => ?_
 have S1' : St w w1 (spB xb x :: []) := S1
 have hlen : ∀ w' K, biT P .len #[T.i] T.c [false] [v] w' K = K (.int .i64 es.length) w' := fun w' K => hs.jb (by kernel_rfl) [false]
 simp [hlen]
 refine ⟨bqm w es x xb, fun x _ => es.length - ms x 1, ⟨_, 0, rfl, Nat.zero_le _, fun j _ h => by omega, S1'⟩, ?_⟩
 rintro y w2 ⟨u, i, rfl, hi, hz, S2⟩
 by_cases hil : i < es.length
 ·have hwi : IntKind.i64.wrap ((i : Int) + 1) = ((i + 1 : Nat) : Int) := by rw [ig]; rfl
  simp [hil]
  unfold M.ck.j2
  simp only [ib, qw]
  have S3 := S2.jt ((Fr.refl _ w2).dr 1)
  generalize Eng.dr w2 1 = w3 at *
  have hs3 : SlN w3 v es := hs.fr S3.fr fun _ _ _ h => h
  obtain ⟨ab, ao, cap, hv, _, _, hc⟩ := hs3.at hil
  have hia : ∀ w' K, iaT P T.i v (.int .i64 (i : Nat)) w' K = K (.pointer (some ⟨ab, ao + i * 10, none⟩)) w' := fun w' K => by
   rw [hv, abe (by kernel_rfl) (by omega) (by omega), show szE P T.i = 10 from by kernel_rfl]
   simp
  obtain ⟨x0, x1, _⟩ := ta S3
  have e2 : ic w3 ab (ao + i * 10 + 2) = some (.int .u64 es[i].2.iu) := hc 2 _ rfl
  have e3 : ic w3 ab (ao + i * 10 + 2 + 1) = some (.int .u64 es[i].2.id) := hc 3 _ rfl
  by_cases h1 : es[i].2.iu = x.iu
  ·by_cases h2 : es[i].2.id = x.id
   ·have hh : un es x = true := by
     unfold un
     rw [List.any_eq_true]
     exact ⟨es[i], List.getElem_mem hil, by simp [h1, h2]⟩
    rw [hh] at h
    simp [hia, x0, x1, e2, e3, h1, h2]
    exact h w3 S3.fr
   ·simp [hia, x0, x1, e2, e3, h1, h2]
    rw [hwi]
    refine ⟨⟨_, i + 1, rfl, by omega, fun j hj hji => ?_, S3⟩, by simp [ms, gv]; omega⟩
    by_cases hje : j = i
    ·subst hje; exact fun hh => h2 hh.2
    ·exact hz j hj (by omega)
  ·simp [hia, x0, x1, e2, e3, h1]
   rw [hwi]
   refine ⟨⟨_, i + 1, rfl, by omega, fun j hj hji => ?_, S3⟩, by simp [ms, gv]; omega⟩
   by_cases hje : j = i
   ·subst hje; exact fun hh => h1 hh.1
   ·exact hz j hj (by omega)
 ·have hie : i = es.length := by omega
  have hh : un es x = false := by
   unfold un
   rw [List.any_eq_false]
   intro e he
   obtain ⟨j, hj, rfl⟩ := List.getElem_of_mem he
   have := hz j hj (by omega)
   simp
   exact fun a b => this ⟨a, b⟩
  rw [hh] at h
  simp [hil]
  exact h w2 S2.fr
end
abbrev rl (v : Value) (l : List EnS) : Asn := nq T.ac 10 wv v l
abbrev aqy (v : Value) (l : List Bal) : Asn := nq T.d 2 xz v l
def blz (W : World) (es : List EnS) (p : Pk) (ls : List Spn) (pb : Nat) : KL := fun x w1 => ∃ (vo : Value) (i : Nat), x = [vo, .int .i64 (i : Nat)] ∧ i ≤ ls.length ∧ St W w1 (rl vo ((kg es (ls.take i)).map fun x => (p.b, x)) :: iq pb (pkC p).toArray T.a :: [])
def QuI (W : World) (es : List EnS) (t : Int) : KL := fun x w1 => ∃ (vo : Value) (i : Nat), x = [vo, .int .i64 (i : Nat)] ∧ i ≤ es.length ∧ St W w1 (lh vo (nh (es.take i) t) :: [])
def BaI (W : World) (es : List EnS) (t : Int) (tb : Nat) : KL := fun x w1 => ∃ (vo : Value) (i : Nat), x = [vo, .int .i64 (i : Nat)] ∧ i ≤ es.length ∧ St W w1 (aqy vo (wx (es.take i) t) :: baB tb ir :: [])
section
variable {w : World} {v : Value} {es : List EnS} {p : Pk} {ls : List Spn} {lm : List Mem} {lu : List Int}
theorem ama (hs : SlN w v es) {i : Nat} (hi : i < es.length) : ∃ ab o, (∀ w' K, iaT P T.i v (.int .i64 (i : Nat)) w' K = K (.pointer (some ⟨ab, o, none⟩)) w') ∧ ab < w.heap.size ∧ ∀ j u, (wv es[i])[j]? = some u → ic w ab (o + j) = some u := by
 obtain ⟨ab, ao, cap, hv, hb, _, hc⟩ := hs.at hi
 exact ⟨ab, ao + i * 10, fun w' K => by
  rw [hv, abe (by kernel_rfl) (by omega) (by omega), show szE P T.i = 10 from by kernel_rfl]
  simp, hb, hc⟩
theorem bma {ab o : Nat} {e : EnS} (h : ∀ j u, (wv e)[j]? = some u → ic w ab (o + j) = some u) (K : KV) : ldN P 8 ab (o + 2) w K = K (ko e.2) w :=
 po (ja e.2) 8 rfl (fun k u hk => by
  have := h (k + 2) u (by simpa [wv, ja] using hk)
  rw [show o + 2 + k = o + (k + 2) by omega]; exact this) K
theorem bjn {ab o : Nat} {e : EnS} (h : ∀ j u, (wv e)[j]? = some u → ic w ab (o + j) = some u) (K : KV) : ldN P 2 ab o w K = K (kt e.1) w :=
 po (xz e.1) 2 rfl (fun k u hk => h k u (by
  have hlt : k < 2 := (List.getElem?_eq_some_iff.1 hk).1
  match k, hlt with
  | 0, _ => exact hk
  | 1, _ => exact hk)) K
theorem bep {e : TypeId} {sz : Nat} {α : Type} {enc : α → List Value} {w w' : World} {vo : Value} {l : List α} {R : List Asn} (S : St w w' (nq e sz enc vo l :: R)) : Ow w' w.heap.size e sz enc vo l := by
 obtain ⟨B, ⟨k1, k2⟩, hB, _⟩ := S.open
 refine ⟨k1.1, ?_⟩
 rcases k1.2 with h | ⟨g, cap, cur, hv, _, h3, h4⟩
 ·exact .inl h
 ·exact .inr ⟨g, cap, cur, hv, (hB g (k2 g (by rw [hv]; rfl))).1, h3, h4⟩
theorem awe (hs : SlN w v es) (hl : es.length ≤ 1000000) (hp : ql w p ls lm lu) {K : KV}
  (h : ∀ w' v', Ow w' w.heap.size T.ac 10 wv v' ((kg es ls).map fun x => (p.b, x)) → Fz w w' → K v' w') : gr P F.dr [v, pkA p] w K := by
 rw [M.bf.fcall]
 apply M.bf.calls
 unfold M.bf
 refine St.tt (St.ji w) fun pb w1 S1 => ?_
 have S1' : St w w1 (iq pb (pkC p).toArray T.a :: []) := S1
 have S2 : St w w1 (rl (.slice none 0 0) ((kg es (ls.take 0)).map fun x => (p.b, x)) :: iq pb (pkC p).toArray T.a :: []) := Go.Eng.pw S1'
 simp only [ib]
 refine ⟨blz w es p ls pb, fun x _ => ls.length - ms x 1, ⟨_, 0, rfl, Nat.zero_le _, S2⟩, ?_⟩
 rintro y w2 ⟨vo, i, rfl, hi, S3⟩
 obtain ⟨_, _, c2, _, _, _, c8, _⟩ := ju S3.swap
 obtain ⟨⟨sa, sc, hsv⟩, _, _⟩ := hp.one
 have hsl : SlS w2 p.sv ls := hp.s.fr S3.fr fun _ _ _ h => h
 have hlen : ∀ w' K, biT P .len #[T.b] T.c [false] [p.sv] w' K = K (.int .i64 ls.length) w' := fun w' K => hsl.jb (by kernel_rfl) [false]
 have q0 : gv [vo, Value.int .i64 (i : Nat)] 0 = vo := rfl
 have q1 : gv [vo, Value.int .i64 (i : Nat)] 1 = .int .i64 (i : Nat) := rfl
 unfold M.bf.j1
 simp only [ib, q1]
 have hsv8 : ∀ {w' : World} {L : List Asn}, St w w' (L ++ (iq pb (pkC p).toArray T.a :: [])) → ic w' pb 8 = some p.sv := fun S' => (ju (S'.perm List.perm_middle)).2.2.2.2.2.2.1
 by_cases hil : i < ls.length
 ·have hwi : IntKind.i64.wrap ((i : Int) + 1) = ((i + 1 : Nat) : Int) := by rw [ig (by omega) (by have := hp.ls; omega)]; rfl
  simp [c8, hlen, hil]
  unfold M.bf.j2
  obtain ⟨ab, ao, cap, hv, _, _, hc⟩ := hsl.at hil
  have hia : ∀ w' K, iaT P T.b p.sv (.int .i64 (i : Nat)) w' K = K (.pointer (some ⟨ab, ao + i * 8, none⟩)) w' := fun w' K => by rw [hv]; simp [hil]
  have hld : ∀ {w'}, Fz w w' → ∀ K, ldN P 8 ab (ao + i * 8) w' K = K (ko ls[i]) w' := fun {w'} f K => by
   obtain ⟨ab', ao', cap', hv', _, _, hc'⟩ := (hp.s.fr f fun _ _ _ h => h : SlS w' p.sv ls).at hil
   rw [hv] at hv'
   injection hv' with q1 _ _
   injection q1 with q1
   injection q1 with q1 q2 _
   subst q1 q2
   exact po (ja ls[i]) 8 rfl hc' K
  have l2 := hld S3.fr
  have ett : kg es (ls.take (i + 1)) = kg es (ls.take i) ++ (if un es ls[i] = true then [] else [ls[i]]) := by
   unfold kg
   rw [List.take_add_one, List.getElem?_eq_getElem hil, List.filter_append]
   congr 1
   cases hh : un es ls[i] <;> simp [hh]
  have next : ∀ vo' w', St w w' (rl vo' ((kg es (ls.take (i + 1))).map fun x => (p.b, x)) :: iq pb (pkC p).toArray T.a :: []) → blz w es p ls pb [vo', .int .i64 ((i + 1 : Nat) : Int)] w' ∧ ls.length - ms [vo', .int .i64 ((i + 1 : Nat) : Int)] 1 < ls.length - ms [vo, .int .i64 (i : Nat)] 1 := fun vo' w' S' => ⟨⟨vo', i + 1, rfl, by omega, S'⟩, by simp [ms, gv]; omega⟩
  simp [c8, hia, l2]
  refine bdf (hs.fr S3.fr fun _ _ _ h => h) hl ls[i] fun w3 f3 => ?_
  have S4 := S3.jt f3
  cases hh : un es ls[i] with
  | true =>
   rw [hh] at ett
   simp only [if_true, List.append_nil] at ett
   simp
   rw [hwi]
   refine next _ w3 ?_
   rw [ett]; exact S4
  | false =>
   rw [hh] at ett
   simp only [Bool.false_eq_true, if_false] at ett
   simp only [Eng.cond_true, arq, Bool.not_false, qw]
   have S5 := S4.jt ((Fr.refl _ w3).dr 1)
   generalize Eng.dr w3 1 = w4 at *
   obtain ⟨_, _, d2, _, _, _, d8, _⟩ := ju S5.swap
   have l4 := hld S5.fr
   unfold kt at d2
   unfold ko at l4
   simp [d2, d8, hia, l4]
   have S6 : St w (w4.alloc (.cells #[.int .u64 p.b.n, .int .u64 p.b.jl, .int .u64 ls[i].iu, .int .u64 ls[i].id, .int .u64 ls[i].ou, .int .u64 ls[i].ji, .int .u64 ls[i].len, .string ls[i].kf, .string ls[i].name, .bool ls[i].ru] T.ac)) (rl (.slice (some ⟨w4.heap.size, 0, none⟩) 1 1) [(p.b, ls[i])] :: _) := St.su (l := [(p.b, ls[i])]) S5 nv rfl (by simp [maxLen])
   refine Go.Eng.qj et.i nv aag S6.swap (S6.row nv) (by
    have h1 : (kg es (ls.take i)).length ≤ (ls.take i).length := List.length_filter_le _ _
    have := hp.ls
    simp at h1 ⊢; omega) (by decide) fun w5 v5 S7 => ?_
   rw [hwi]
   refine next _ w5 ?_
   rw [ett, List.map_append]
   exact S7.swap.drop
 ·have hie : i = ls.length := by omega
  simp [c8, hlen, hil]
  rw [hie, List.take_length] at S3
  exact h w2 vo (bep S3) S3.fr
theorem aws (hs : SlN w v es) (hl : es.length ≤ 100000) (t : Int) {K : KV}
  (h : ∀ w' v' l', oy l' → l'.Perm (nh es t) → Ow w' w.heap.size T.e 8 ja v' l' → Fz w w' → K v' w') : gr P F.du [v, .int .u64 t] w K := by
 rw [M.bh.fcall]
 apply M.bh.calls
 unfold M.bh
 simp only [ib]
 have S0 : St w w (lh (.slice none 0 0) (nh (es.take 0) t) :: []) := Go.Eng.pw (St.ji w)
 refine ⟨QuI w es t, fun x _ => es.length - ms x 1, ⟨_, 0, rfl, Nat.zero_le _, S0⟩, ?_⟩
 rintro y w2 ⟨vo, i, rfl, hi, S3⟩
 have hs3 : SlN w2 v es := hs.fr S3.fr fun _ _ _ h => h
 have hlen : ∀ w' K, biT P .len #[T.i] T.c [false] [v] w' K = K (.int .i64 es.length) w' := fun w' K => hs.jb (by kernel_rfl) [false]
 have q0 : gv [vo, Value.int .i64 (i : Nat)] 0 = vo := rfl
 have q1 : gv [vo, Value.int .i64 (i : Nat)] 1 = .int .i64 (i : Nat) := rfl
 unfold M.bh.j1
 simp only [ib, q0, q1]
 by_cases hil : i < es.length
 ·have hwi : IntKind.i64.wrap ((i : Int) + 1) = ((i + 1 : Nat) : Int) := by rw [ig]; rfl
  simp [hlen, hil]
  unfold M.bh.j2
  obtain ⟨ab, o, hia, _, hc⟩ := ama hs3 hil
  have ct : ic w2 ab (o + 2) = some (.int .u64 es[i].2.iu) := hc 2 _ rfl
  have ld := fun K => bma hc K
  have eq : nh (es.take (i + 1)) t = nh (es.take i) t ++ (if es[i].2.iu = t then [es[i].2] else []) := by
   rw [List.take_add_one, List.getElem?_eq_getElem hil]
   show nh (es.take i ++ [(es[i].1, es[i].2)]) t = _
   rw [agr]
   split <;> simp
  have next : ∀ vo' w', St w w' (lh vo' (nh (es.take (i + 1)) t) :: []) → QuI w es t [vo', .int .i64 ((i + 1 : Nat) : Int)] w' ∧ es.length - ms [vo', .int .i64 ((i + 1 : Nat) : Int)] 1 < es.length - ms [vo, .int .i64 (i : Nat)] 1 := fun vo' w' S' => ⟨⟨vo', i + 1, rfl, by omega, S'⟩, by simp [ms, gv]; omega⟩
  by_cases h1 : es[i].2.iu = t
  ·rw [if_pos h1] at eq
   unfold ko at ld
   simp [hia, ct, h1, ld]
   have S6 : St w (w2.alloc (.cells #[.int .u64 t, .int .u64 es[i].2.id, .int .u64 es[i].2.ou, .int .u64 es[i].2.ji, .int .u64 es[i].2.len, .string es[i].2.kf, .string es[i].2.name, .bool es[i].2.ru] T.e)) (lh (.slice (some ⟨w2.heap.size, 0, none⟩) 1 1) [es[i].2] :: _) := St.su (l := [es[i].2]) S3 lk (by rw [← h1]; rfl) (by simp [maxLen])
   refine Go.Eng.qj et.b lk og S6.swap (S6.row lk) (by have := afn (es.take i) t; simp at this ⊢; omega) (by decide) fun w5 v5 S7 => ?_
   rw [hwi]
   refine next _ w5 ?_
   rw [eq]
   exact S7.swap.drop
  ·rw [if_neg h1, List.append_nil] at eq
   simp [hia, ct, h1]
   rw [hwi]
   refine next _ w2 ?_
   rw [eq]; exact S3
 ·have hie : i = es.length := by omega
  simp [hlen, hil]
  rw [hie, List.take_length] at S3
  have o := bep S3
  refine arr (o.sl lk) (fun b hb => (o.lt hb).2) (by have := afn es t; omega) fun w3 v3 l3 g1 g2 o3 f3 => ?_
  exact h w3 v3 l3 g1 g2 (o3.mono S3.fr.size) (S3.fr.trans f3)
theorem asy (hs : SlN w v es) (hl : es.length ≤ 100000) (t : Int) {K : KV}
  (h : ∀ w', Fz w w' → K (kt (bOf es t)) w') : gr P F.de [v, .int .u64 t] w K := by
 rw [M.ba.fcall]
 apply M.ba.calls
 unfold M.ba
 simp
 have Sb := aeh (St.ji w)
 generalize w.heap.size = tb at *
 generalize w.alloc _ = w1 at *
 have S0 : St w w1 (aqy (.slice none 0 0) (wx (es.take 0) t) :: baB tb ir :: []) := Go.Eng.pw Sb
 have hlen : ∀ w' K, biT P .len #[T.i] T.c [false] [v] w' K = K (.int .i64 es.length) w' := fun w' K => hs.jb (by kernel_rfl) [false]
 refine ⟨BaI w es t tb, fun x _ => es.length - ms x 1, ⟨_, 0, rfl, Nat.zero_le _, S0⟩, ?_⟩
 rintro y w2 ⟨vo, i, rfl, hi, S3⟩
 have hs3 : SlN w2 v es := hs.fr S3.fr fun _ _ _ h => h
 have q0 : gv [vo, Value.int .i64 (i : Nat)] 0 = vo := rfl
 have q1 : gv [vo, Value.int .i64 (i : Nat)] 1 = .int .i64 (i : Nat) := rfl
 unfold M.ba.j1
 simp only [ib, q0, q1]
 have hbl : (wx (es.take i) t).length ≤ es.length := by
  unfold wx
  rw [List.length_map]
  exact Nat.le_trans (List.length_filter_le _ _) (List.length_take_le' _ _)
 by_cases hil : i < es.length
 ·have hwi : IntKind.i64.wrap ((i : Int) + 1) = ((i + 1 : Nat) : Int) := by rw [ig]; rfl
  simp [hlen, hil]
  unfold M.ba.j2
  obtain ⟨ab, o, hia, _, hc⟩ := ama hs3 hil
  have ct : ic w2 ab (o + 2) = some (.int .u64 es[i].2.iu) := hc 2 _ rfl
  have ld := fun K => bjn hc K
  have eq : wx (es.take (i + 1)) t = wx (es.take i) t ++ (if es[i].2.iu = t then [es[i].1] else []) := by
   rw [List.take_add_one, List.getElem?_eq_getElem hil]
   show wx (es.take i ++ [(es[i].1, es[i].2)]) t = _
   rw [akw]
   split <;> simp
  have next : ∀ vo' w', St w w' (aqy vo' (wx (es.take (i + 1)) t) :: baB tb ir :: []) → BaI w es t tb [vo', .int .i64 ((i + 1 : Nat) : Int)] w' ∧ es.length - ms [vo', .int .i64 ((i + 1 : Nat) : Int)] 1 < es.length - ms [vo, .int .i64 (i : Nat)] 1 := fun vo' w' S' => ⟨⟨vo', i + 1, rfl, by omega, S'⟩, by simp [ms, gv]; omega⟩
  by_cases h1 : es[i].2.iu = t
  ·rw [if_pos h1] at eq
   unfold kt at ld
   simp [hia, ct, h1, ld]
   have S6 : St w (w2.alloc (.cells #[.int .u64 es[i].1.n, .int .u64 es[i].1.jl] T.d)) (aqy (.slice (some ⟨w2.heap.size, 0, none⟩) 1 1) [es[i].1] :: _) := St.su (l := [es[i].1]) S3 zr rfl (by simp [maxLen])
   refine Go.Eng.qj et.al zr bbp S6.swap (S6.row zr) (by simp; omega) (by decide) fun w5 v5 S7 => ?_
   rw [hwi]
   refine next _ w5 ?_
   rw [eq]
   exact S7.swap.drop
  ·rw [if_neg h1, List.append_nil] at eq
   simp [hia, ct, h1]
   rw [hwi]
   refine next _ w2 ?_
   rw [eq]; exact S3
 ·have hie : i = es.length := by omega
  simp [hlen, hil]
  rw [hie, List.take_length] at S3
  refine awt (S3.row zr) (by rw [hie, List.take_length] at hbl; omega) fun w3 f3 => ?_
  have S4 := S3.swap.jt f3
  have hb : qu ir (wx es t) = bOf es t := rfl
  rw [hb]
  refine acd (y := bOf es t) S4 fun w5 S5 => ?_
  obtain ⟨_, _, b2⟩ := pm S5
  have hres : ∀ w' K, pp P T.d (.pointer (some ⟨tb, 0, none⟩)) w' K = ldN P 2 tb 0 w' K := fun w' K => kr
  simp [hres, b2]
  exact h w5 S5.fr
end
theorem ajk {l : List Int} (h : l.Pairwise fun a b => a ≤ b) {i j : Nat} (hij : i ≤ j) (hj : j < l.length) : l[i]'(by omega) ≤ l[j] := by
 by_cases he : i = j
 ·subst he; exact Int.le_refl _
 ·exact List.pairwise_iff_getElem.1 h i j (by omega) hj (by omega)
theorem bhf {l : List Int} {t : Int} {k : Nat} (h : l.Pairwise fun a b => a ≤ b) (hk : k ≤ l.length) (h1 : k = 0 ∨ ∃ h : k - 1 < l.length, l[k - 1] ≤ t) (h2 : k = l.length ∨ ∃ h : k < l.length, t ≤ l[k]) : (l.take k ++ t :: l.drop k).Pairwise fun a b => a ≤ b := by
 have a1 : ∀ x ∈ l.take k, x ≤ t := fun x hx => by
  obtain ⟨i, hi, rfl⟩ := List.mem_iff_getElem.1 hx
  simp only [List.length_take] at hi
  rw [List.getElem_take]
  rcases h1 with h1 | ⟨h3, h4⟩
  ·omega
  ·exact Int.le_trans (ajk h (i := i) (j := k - 1) (by omega) h3) h4
 have a2 : ∀ y ∈ l.drop k, t ≤ y := fun y hy => by
  obtain ⟨j, hj, rfl⟩ := List.mem_iff_getElem.1 hy
  simp only [List.length_drop] at hj
  rw [List.getElem_drop]
  rcases h2 with h2 | ⟨h3, h4⟩
  ·omega
  ·exact Int.le_trans h4 (ajk h (i := k) (j := k + j) (by omega) (by omega))
 refine List.pairwise_append.2 ⟨h.sublist (List.take_sublist _ _), List.pairwise_cons.2 ⟨a2, h.sublist (List.drop_sublist _ _)⟩, fun x hx y hy => ?_⟩
 rcases List.mem_cons.1 hy with rfl | hy
 ·exact a1 x hx
 ·exact Int.le_trans (a1 x hx) (a2 y hy)
theorem bdv (l : List Int) (t : Int) (k : Nat) : (l.take k ++ t :: l.drop k).Perm (t :: l) := by
 have := List.perm_middle (l₁ := l.take k) (a := t) (l₂ := l.drop k)
 rwa [List.take_append_drop] at this
theorem bli {l : List Int} (h : l.Pairwise fun a b => a ≤ b) : Suint64.mo l = l := List.mergeSort_of_pairwise (h.imp fun h => by simpa using h)
def TrI (w : World) (es : List EnS) : KL := fun v w1 => ∃ (u vo : Value) (i : Nat) (lo : List Int), v = [u, vo, .int .i64 (i : Nat)] ∧ i ≤ es.length ∧ (lo.Pairwise fun a b => a ≤ b) ∧ lo.Nodup ∧ (∀ x, x ∈ lo ↔ x ∈ mq (es.take i)) ∧ lo.length ≤ i ∧ OwU w1 w.heap.size vo lo ∧ Fz w w1
def bpo (w1 : World) (lo : List Int) (t : Int) : KL := fun v w2 => ∃ (k : Nat), v = [.int .i64 (k : Nat)] ∧ k ≤ lo.length ∧ (k = lo.length ∨ ∃ h : k < lo.length, t < lo[k]) ∧ Fz w1 w2
section
variable {w : World} {v : Value} {es : List EnS}
theorem bcn {w1 : World} {u vo : Value} {lo : List Int} {i k : Nat} (hs : SlN w1 v es) (o : OwU w1 w.heap.size vo lo) (hi : i < es.length) (hk : k ≤ lo.length) (hl : lo.length ≤ 100000) (hsz : w.heap.size ≤ w1.heap.size) {K3 : KL} {K : KV}
  (h1 : (∀ h : 0 < k, lo[k - 1]'(by omega) ≠ es[i].2.iu) → ∀ w' v' u', OwU w' w.heap.size v' (lo.take k ++ es[i].2.iu :: lo.drop k) → Fz w1 w' → K3 [u', v'] w')
  (h2 : (∃ h : 0 < k, lo[k - 1]'(by omega) = es[i].2.iu) → ∀ w' u', Fz w1 w' → K3 [u', vo] w') : M.r.j4 [.int .i64 (k : Nat)] [u, vo, .int .i64 (i : Nat)] v K3 w1 K := by
 unfold M.r.j4
 have q1 : gv [u, vo, .int .i64 (i : Nat)] 1 = vo := rfl
 have q2 : gv [u, vo, .int .i64 (i : Nat)] 2 = .int .i64 (i : Nat) := rfl
 have q0 : gv [Value.int .i64 (k : Nat)] 0 = .int .i64 (k : Nat) := rfl
 have so : SlU w1 vo lo := o.sl pu
 have hown : ∀ b, vo.ownBlock = some b → b < w1.heap.size := fun b hb => (o.lt hb).2
 have fd : Fz w1 (Eng.dr w1 1) := (Fr.refl _ w1).dr 1
 obtain ⟨ab, oo, hia, hab, hc⟩ := ama hs hi
 have ct : ∀ {w'}, Fz w1 w' → ic w' ab (oo + 2) = some (.int .u64 es[i].2.iu) := fun f => by rw [tz (f.ke ab hab fun h => h)]; exact hc 2 _ rfl
 obtain ⟨v1, s1, p1, r1⟩ := so.sub (P := P) (t := T.h) (lo := none) (hi := some (.int .i64 (k : Int))) (i := 0) (j := k) (by kernel_rfl) (by kernel_rfl) (.inl ⟨rfl, rfl⟩) (.inr ⟨_, rfl⟩) (Nat.zero_le _) hk
 obtain ⟨v3, s3, p3, r3⟩ := so.sub (P := P) (t := T.h) (lo := some (.int .i64 (k : Int))) (hi := none) (i := k) (j := lo.length) (by kernel_rfl) (by kernel_rfl) (.inr ⟨_, rfl⟩) (.inl ⟨rfl, rfl⟩) hk (Nat.le_refl _)
 have e1 : List.take (k - 0) (List.drop 0 lo) = lo.take k := by simp
 have e3 : List.take (lo.length - k) (List.drop k lo) = lo.drop k := List.take_of_length_le (by simp)
 rw [e1] at s1
 rw [e3] at s3
 have g17 : ∀ (b0 b1 b2 b3 b4 b5 b6 b7 b8 b9 b10 b11 b12 b13 b14 b15 b16 b17 : Value), gv [b0, b1, b2, b3, b4, b5, b6, b7, b8, b9, b10, b11, b12, b13, b14, b15, b16, b17] 17 = b17 := fun _ _ _ _ _ _ _ _ _ _ _ _ _ _ _ _ _ _ => rfl
 have c1 := ct fd
 have c2 := ct (fd.dr 1)
 have fin := fun (hne : ∀ h : 0 < k, lo[k - 1]'(by omega) ≠ es[i].2.iu) => bja (w := Eng.dr w1 1) (P := P) (ty := T.h) et.h pu akh (x := es[i].2.iu) (cells := #[.int .u64 es[i].2.iu]) rfl (s1.fr fd fun _ _ _ h => h) (s3.fr fd fun _ _ _ h => h) (fun y hy => hown y (p1 y hy)) (fun y hy => hown y (p3 y hy)) (by simp; omega) (by decide) (Q := fun w1 => ld1 P ab (oo + 2) w1 fun v' w' => w' = w1 ∧ v' = .int .u64 es[i].2.iu) (fun w' f => by rw [ahp (ct (fd.trans f))]; exact ⟨rfl, rfl⟩) (c1 := [false, false]) (c2 := [false, false]) (c3 := [false, false]) (c4 := [false, false]) (c5 := [false, false]) (c6 := [false, false]) (c7 := [false, false]) (c8 := [false, false]) (c9 := [false, false]) (K := fun t w => K3 [.int .i64 (k : Nat), t] w) fun w' v' o' f' =>
  h1 hne w' v' _ (by simpa using o'.mono hsz) (fd.trans f')
 simp only [vd] at c1 c2
 cases k with
 | zero =>
  have := fin (fun h => by omega)
  have r1' : ∀ w K, slT P T.h vo none (some (.int .i64 0)) none w K = K v1 w := r1
  have r3' : ∀ w K, slT P T.h vo (some (.int .i64 0)) none none w K = K v3 w := r3
  simp [q0, q1, q2, hia, c1, r1', r3', g17]
  simpa using this
 | succ k =>
  obtain ⟨bo, o2, co, hvo, hbo, _, hco⟩ := so.at (show k < lo.length by omega)
  have hw : IntKind.i64.wrap (((k + 1 : Nat) : Int) - 1) = (k : Int) := by rw [ig]; omega
  have hne0 : ¬ ((k + 1 : Nat) : Int) = 0 := by omega
  have ia2 : ∀ w' K, iaT P T.h vo (.int .i64 (k : Nat)) w' K = K (.pointer (some ⟨bo, o2 + k, none⟩)) w' := fun w' K => by rw [hvo]; simp [show k < lo.length by omega]
  have ck : ic w1 bo (o2 + k) = some (.int .u64 lo[k]) := by simpa using hco 0 _ rfl
  by_cases he : lo[k] = es[i].2.iu
  ·have := h2 ⟨by omega, by simpa using he⟩ (Eng.dr w1 1) (.int .i64 ((k + 1 : Nat) : Int)) fd
   simp [-Int.natCast_add, q0, q1, q2, hia, c1, hne0, hw, ia2, ck, he]
   exact this
  ·have := fin (fun h => by simpa using he)
   simp [-Int.natCast_add, q0, q1, q2, hia, c1, hne0, hw, ia2, ck, he, r1, r3, g17]
   simpa [-Int.natCast_add] using this
theorem auu (hs : SlN w v es) (hl : es.length ≤ 100000) {K : KV} (h : ∀ w' v', OwU w' w.heap.size v' (Suint64.mo (mq es)) → Fz w w' → K v' w') : gr P F.dd [v] w K := by
 rw [M.r.fcall]
 apply M.r.calls
 unfold M.r
 simp only [ib]
 refine ⟨TrI w es, fun x _ => es.length - ms x 2, ⟨undef, .slice none 0 0, 0, [], rfl, Nat.zero_le _, List.Pairwise.nil, List.nodup_nil, fun x => by simp [mq], Nat.le_refl _, Ow.none, Fr.refl _ _⟩, ?_⟩
 rintro x w1 ⟨u, vo, i, lo, rfl, hi, hasc, hnd, hmem, hll, o, f1⟩
 have q1 : gv [u, vo, .int .i64 (i : Nat)] 1 = vo := rfl
 have q2 : gv [u, vo, .int .i64 (i : Nat)] 2 = .int .i64 (i : Nat) := rfl
 have hs1 : SlN w1 v es := hs.fr f1 fun _ _ _ h => h
 have hlen : ∀ w' K, biT P .len #[T.i] T.c [false] [v] w' K = K (.int .i64 es.length) w' := fun w' K => hs.jb (by kernel_rfl) [false]
 unfold M.r.j1
 simp only [ib, hlen, q2, lw]
 by_cases hil : i < es.length
 ·have hili : (i : Int) < (es.length : Int) := by omega
  have hwi : IntKind.i64.wrap ((i : Int) + 1) = ((i + 1 : Nat) : Int) := by rw [ig]; rfl
  simp only [hili, decide_true, Eng.cond_true]
  unfold M.r.j2
  have so : SlU w1 vo lo := o.sl pu
  have hlo : ∀ w' K, biT P .len #[T.h] T.c [false] [vo] w' K = K (.int .i64 lo.length) w' := fun w' K => so.jb (by kernel_rfl) [false]
  simp only [ib, q1, hlo]
  have htk : mq (es.take (i + 1)) = yz (mq (es.take i)) es[i].2.iu := by
   rw [List.take_add_one, List.getElem?_eq_getElem hil]
   exact alb _ _
  refine ⟨bpo w1 lo es[i].2.iu, fun x _ => ms x 0, ⟨lo.length, rfl, Nat.le_refl _, .inl rfl, Fr.refl _ _⟩, ?_⟩
  rintro x w2 ⟨k, rfl, hk, hkk, f2⟩
  have hs2 : SlN w2 v es := hs1.fr f2 fun _ _ _ h => h
  have o2 := o.fr f2 fun _ _ h => h
  have so2 : SlU w2 vo lo := o2.sl pu
  have hsz2 : w.heap.size ≤ w2.heap.size := (f1.trans f2).size
  have g0 : gv [Value.int .i64 (k : Nat)] 0 = .int .i64 (k : Nat) := rfl
  -- where it is put
  have fin : ∀ (w3 : World), Fz w2 w3 → (k = 0 ∨ ∃ h : k - 1 < lo.length, lo[k - 1] ≤ es[i].2.iu) → M.r.j4 [.int .i64 (k : Nat)] [u, vo, .int .i64 (i : Nat)] v (fun x3 w_1 => ij P .add T.c (.tmp 10) (.const (.int .i64 1)) (.int .i64 (i : Nat)) (.int .i64 1) w_1 fun t11 w_2 => TrI w es [gv x3 0, gv x3 1, t11] w_2 ∧ es.length - ms [gv x3 0, gv x3 1, t11] 2 < es.length - ms [u, vo, .int .i64 (i : Nat)] 2) w3 K := fun w3 f3 hle => by
   refine bcn (hs2.fr f3 fun _ _ _ h => h) (o2.fr f3 fun _ _ h => h) hil hk (by omega) (by have := f3.size; omega) (fun hne w4 v4 u4 o4 f4 => ?_) (fun hex w4 u4 f4 => ?_)
   ·simp only [kz, hwi]
    have hnew : es[i].2.iu ∉ lo := fun hm => by
     obtain ⟨j, hj, he⟩ := List.mem_iff_getElem.1 hm
     by_cases hjk : j < k
     ·have h3 := hne (by omega)
      rcases hle with h4 | ⟨h4, h5⟩
      ·omega
      ·have h6 := ajk hasc (i := j) (j := k - 1) (by omega) h4
       omega
     ·rcases hkk with h4 | ⟨h4, h5⟩
      ·omega
      ·have h6 := ajk hasc (i := k) (j := j) (by omega) hj
       omega
    have hp := bdv lo es[i].2.iu k
    refine ⟨⟨_, _, i + 1, _, rfl, by omega, bhf hasc hk hle (hkk.imp id fun ⟨h4, h5⟩ => ⟨h4, by omega⟩), hp.nodup_iff.2 (List.nodup_cons.2 ⟨hnew, hnd⟩), fun x => ?_, by rw [hp.length_eq, List.length_cons]; omega, o4, ((f1.trans f2).trans f3).trans f4⟩, by simp [ms, gv]; omega⟩
    rw [hp.mem_iff, htk, alf, List.mem_cons, hmem x]
    exact or_comm
   ·simp only [kz, hwi]
    obtain ⟨h0, he⟩ := hex
    refine ⟨⟨_, _, i + 1, _, rfl, by omega, hasc, hnd, fun x => ?_, by omega, (o2.fr f3 fun _ _ h => h).fr f4 fun _ _ h => h, ((f1.trans f2).trans f3).trans f4⟩, by simp [ms, gv]; omega⟩
    rw [htk, alf, ← hmem x]
    refine ⟨.inl, fun hh => hh.elim id fun hx => ?_⟩
    rw [hx, ← he]
    exact List.getElem_mem _
  unfold M.r.j5
  simp only [ib, g0, q1, q2]
  have fd : Fz w2 (Eng.dr w2 1) := (Fr.refl _ w2).dr 1
  cases k with
  | zero =>
   have := fin _ fd (.inl rfl)
   simp
   simpa using this
  | succ k =>
   obtain ⟨ab, oo, hia, hab, hc⟩ := ama hs2 hil
   have ct : ic w2 ab (oo + 2) = some (.int .u64 es[i].2.iu) := hc 2 _ rfl
   obtain ⟨bo, o3, co, hvo, hbo, _, hco⟩ := so2.at (show k < lo.length by omega)
   have ia2 : ∀ w' K, iaT P T.h vo (.int .i64 (k : Nat)) w' K = K (.pointer (some ⟨bo, o3 + k, none⟩)) w' := fun w' K => by rw [hvo]; simp [show k < lo.length by omega]
   have ck : ic w2 bo (o3 + k) = some (.int .u64 lo[k]) := by simpa using hco 0 _ rfl
   have hw : IntKind.i64.wrap (((k + 1 : Nat) : Int) - 1) = (k : Int) := by rw [ig]; omega
   have hpos : (0 : Int) < ((k + 1 : Nat) : Int) := by omega
   by_cases hc2 : es[i].2.iu < lo[k]
   ·simp [-Int.natCast_add, hpos, hia, ia2, ck, ct, hw, hc2]
    exact ⟨⟨k, rfl, by omega, .inr ⟨by omega, hc2⟩, f2.trans fd⟩, by simp [ms, gv]⟩
   ·have := fin _ fd (.inr ⟨by simp; omega, by simp; omega⟩)
    simp [-Int.natCast_add, hpos, hia, ia2, ck, ct, hw, hc2]
    simpa using this
 ·have hie : i = es.length := by omega
  have hili : ¬ (i : Int) < (es.length : Int) := by omega
  simp only [hili, decide_false, Eng.cond_false]
  rw [hie, List.take_length] at hmem
  have hp : lo.Perm (mq es) := (List.perm_ext_iff_of_nodup hnd (abm es)).2 hmem
  have e : Suint64.mo (mq es) = lo := by rw [← Suint64.vt hp]; exact bli hasc
  refine h w1 vo ?_ f1
  rw [e]; exact o
end
section
variable {w0 w : World} {R : List Asn} {p : Pk} {ls : List Spn} {lm : List Mem} {lu : List Int} {pb tb : Nat}
end
section
variable {w0 w : World} {R : List Asn} {hb : Nat} {D : Dk} {p : Pk} {ls : List Spn} {lm : List Mem} {lu : List Int}
theorem aqa (hp : ql w p ls lm lu) (hr : ya p) (hls : LsR ls lm lu) {K : KV} (h : ∀ w', Fz w w' → K (.bool (wrE p ls lm lu)) w') : gr P F.dp [pkA p] w K := by
 rw [M.dg.fcall]
 apply M.dg.calls
 unfold M.dg
 refine St.tt (St.ji w) fun pb w1 S1 => ?_
 have S1' : St w w1 (iq pb (pkC p).toArray T.a :: []) := S1
 obtain ⟨c0, _⟩ := ju S1'
 have pl := fun K => xf S1' K
 unfold wrE at h
 by_cases hk : p.ip = 9
 ·simp [c0, hk, pl]
  refine aqi (hp.fr S1'.fr) hr (fun m hm => (hls.m m hm).1) (fun m hm => (hls.u m hm).1) fun w2 f2 => ?_
  have S2 := S1'.jt f2
  have := h w2 S2.fr
  unfold abo
  cases he : tg p ls lm lu with
  | true => rw [he] at this; simp [hk] at this; simp; exact this
  | false => rw [he] at this; simp [hk] at this; simp; exact this
 ·have := h w1 S1'.fr
  simp [hk] at this
  simp [c0, hk]
  exact this
end
section
variable {w0 w : World} {R : List Asn} {v1 v2 : Value} {l1 l2 : List Spn}
end
theorem bkd (es es' : List EnS) (t : Int) : nh (es ++ es') t = nh es t ++ nh es' t := by unfold nh; rw [List.filter_append, List.map_append]
theorem bcj {e : TypeId} {sz : Nat} {α : Type} {enc : α → List Value} {w0 w w' : World} {v : Value} {l : List α} {R : List Asn} (S : St w0 w R) (f : Fz w w') (o : Ow w' w.heap.size e sz enc v l) : St w0 w' (nq e sz enc v l :: R) :=
 S.add (a := nq e sz enc v l) f (B := fun b => v.ownBlock = some b) ⟨⟨o.1, o.2.imp id fun ⟨g, cap, cur, hv, _, h3, h4⟩ => ⟨g, cap, cur, hv, Nat.zero_le _, h3, h4⟩⟩, fun _ h => h⟩ fun b hb => o.lt hb
def bpn (W : World) (l1 l2 : List Int) : KL := fun x w1 => ∃ (u : Value) (i : Nat), x = [u, .int .i64 (i : Nat)] ∧ i ≤ l1.length ∧ (∀ j (h1 : j < l1.length) (h2 : j < l2.length), j < i → l1[j] = l2[j]) ∧ Fz W w1
def bqf (W : World) (l1 : List Spn) (l2 : List Spn) : KL := fun x w1 => ∃ (a : Value) (i : Nat), x = [a, .int .i64 (i : Nat)] ∧ i ≤ l1.length ∧ Fz W w1
theorem bav {w : World} {v1 v2 : Value} {l1 l2 : List Int} (s1 : SlU w v1 l1) (s2 : SlU w v2 l2) (hlen : l1.length ≤ 1000000) {K : KV} (h : ∀ w', Fz w w' → K (.bool (decide (l1 = l2))) w') : gr P F.ds [v1, v2] w K := by
 rw [M.bg.fcall]
 apply M.bg.calls
 unfold M.bg
 have k1 : ∀ w' K, biT P .len #[T.h] T.c [false] [v1] w' K = K (.int .i64 l1.length) w' := fun w' K => s1.jb (by kernel_rfl) [false]
 have k2 : ∀ w' K, biT P .len #[T.h] T.c [false] [v2] w' K = K (.int .i64 l2.length) w' := fun w' K => s2.jb (by kernel_rfl) [false]
 by_cases hne : l1.length = l2.length
 case neg =>
  have hne' : ¬ (l1.length : Int) = (l2.length : Int) := by omega
  simp [k1, k2, hne']
  have := h w (Fr.refl _ _)
  rwa [decide_eq_false fun he => hne (congrArg List.length he)] at this
 have hne' : (l1.length : Int) = (l2.length : Int) := by omega
 simp [k1, k2, hne']
 unfold M.bg.j0
 simp only [ib]
 refine ⟨bpn w l1 l2, fun x _ => l1.length - ms x 1, ⟨_, 0, rfl, Nat.zero_le _, fun j _ _ h => by omega, Fr.refl _ _⟩, ?_⟩
 rintro x w1 ⟨u, i, rfl, hi, hpre, f1⟩
 by_cases hil : i < l1.length
 ·have hil2 : i < l2.length := by omega
  have hwi : IntKind.i64.wrap ((i : Int) + 1) = ((i + 1 : Nat) : Int) := by rw [ig]; rfl
  obtain ⟨b1, o1, c1, e1, _, _, g1⟩ := (s1.fr f1 fun _ _ _ h => h : SlU w1 v1 l1).at hil
  obtain ⟨b2, o2, c2, e2, _, _, g2⟩ := (s2.fr f1 fun _ _ _ h => h : SlU w1 v2 l2).at hil2
  have i1 : ∀ w' K, iaT P T.h v1 (.int .i64 (i : Nat)) w' K = K (.pointer (some ⟨b1, o1 + i, none⟩)) w' := fun w' K => by rw [e1]; simp [hil]
  have i2 : ∀ w' K, iaT P T.h v2 (.int .i64 (i : Nat)) w' K = K (.pointer (some ⟨b2, o2 + i, none⟩)) w' := fun w' K => by rw [e2]; simp [hil2]
  have d1 : ic w1 b1 (o1 + i) = some (.int .u64 l1[i]) := by simpa using g1 0 _ rfl
  have d2 : ic w1 b2 (o2 + i) = some (.int .u64 l2[i]) := by simpa using g2 0 _ rfl
  simp [k1, hil]
  unfold M.bg.j3
  by_cases he : l1[i] = l2[i]
  ·simp [i1, i2, d1, d2, he, hwi]
   refine ⟨⟨_, i + 1, rfl, by omega, fun j a1 a2 hj => ?_, f1.dr 1⟩, by simp [ms, gv]; omega⟩
   by_cases hji : j = i
   ·subst hji; exact he
   ·exact hpre j a1 a2 (by omega)
  ·simp [i1, i2, d1, d2, he]
   have := h _ (f1.dr 1)
   rwa [decide_eq_false fun hee => he (by simp [hee])] at this
 ·simp [k1, hil]
  have := h _ f1
  rwa [decide_eq_true (ane hne fun j a1 a2 => hpre j a1 a2 (by omega))] at this
theorem bby {w : World} {v1 v2 : Value} {l1 l2 : List Spn} (h1 : SlS w v1 l1) (h2 : SlS w v2 l2) (hn : l1.length < 1000000) {K : KV}
  (h : ∀ w' bb, (l1 = l2 → bb = true) → (bb = true → l1.length = l2.length) → Fz w w' → K (.bool bb) w') : gr P F.bp [v1, v2] w K := by
 rw [M.l.fcall]
 by_cases hne : l1.length = l2.length
 case neg =>
  apply M.l.calls
  unfold M.l
  simp only [ib]
  rw [h1.jb (by simp), h2.jb (by simp)]
  have hne' : ¬ (l1.length : Int) = (l2.length : Int) := by omega
  simp [hne']
  exact h w false (fun he => absurd (congrArg List.length he) hne) (fun hb => by cases hb) (Fr.refl _ _)
 by_cases heq : l1 = l2
 ·subst heq
  exact bfx h1 h2 hn ⟨rfl, fun j _ _ => amm _⟩ fun w' f => h w' true (fun _ => rfl) (fun _ => rfl) f
 have hx : ∀ bb w', Fz w w' → K (.bool bb) w' := fun bb w' f => h w' bb (fun he => absurd he heq) (fun _ => hne) f
 apply M.l.calls
 unfold M.l
 simp only [ib]
 rw [h1.jb (by simp), h2.jb (by simp)]
 simp [hne]
 unfold M.l.j0
 simp only [ib]
 refine ⟨bqf w l1 l2, fun x _ => l1.length - ms x 1, ⟨_, 0, rfl, Nat.zero_le _, Fr.refl _ _⟩, ?_⟩
 rintro x w1 ⟨a, i, rfl, hin, hf1⟩
 have g1 : gv [a, .int .i64 (i : Int)] 1 = .int .i64 (i : Int) := rfl
 simp only [g1]
 have hr1 : SlS w1 v1 l1 := h1.fr hf1 fun _ _ _ h => h
 have hr2 : SlS w1 v2 l2 := h2.fr hf1 fun _ _ _ h => h
 rw [hr1.jb (by simp)]
 by_cases hlt : i < l1.length
 ·have hlt2 : i < l2.length := by omega
  obtain ⟨b1, o1, c1, rfl, _, _, k1⟩ := hr1.at hlt
  obtain ⟨b2, o2, c2, rfl, _, _, k2⟩ := hr2.at hlt2
  have hw : IntKind.i64.wrap ((i : Int) + 1) = ((i + 1 : Nat) : Int) := by rw [ig]; rfl
  have d1 : ∀ K, ldN P 8 b1 (o1 + i * 8) (dr w1 1) K = K (ko l1[i]) (dr w1 1) := fun K => ldS (w := dr w1 1) k1 K
  have d2 : ∀ K, ldN P 8 b2 (o2 + i * 8) (dr w1 1) K = K (ko l2[i]) (dr w1 1) := fun K => ldS (w := dr w1 1) k2 K
  simp [hlt]
  unfold M.l.j3
  simp only [ib, g1]
  cases hs : vq l1[i] l2[i] with
  | true =>
   simp [hlt, hlt2, d1, d2, acq, hs, hw]
   exact ⟨⟨_, i + 1, rfl, by omega, hf1.dr 1⟩, by simp [ms, gv]; omega⟩
  | false =>
   simp [hlt, hlt2, d1, d2, acq, hs]
   exact hx _ _ (hf1.dr 1)
 ·simp [hlt]
  exact hx _ _ hf1
def bem (es m : List EnS) : Prop := Suint64.mo (mq es) = Suint64.mo (mq m) ∧ ∀ t ∈ Suint64.mo (mq m), (nh es t).length = (nh m t).length
theorem bci {m f : List EnS} (h : bem (m ++ f) m) : f = [] := by
 cases f with
 | nil => rfl
 | cons e r =>
  have h1 : e.2.iu ∈ mq (m ++ e :: r) := ajc.2 ⟨e, List.mem_append_right _ (List.mem_cons_self ..), rfl⟩
  have h2 : e.2.iu ∈ Suint64.mo (mq m) := by
   rw [← h.1]
   exact (Suint64.nu _).mem_iff.2 h1
  have h3 := h.2 _ h2
  rw [bkd, List.length_append] at h3
  have h4 : e.2 ∈ nh (e :: r) e.2.iu := ajh.2 ⟨e.1, List.mem_cons_self .., rfl⟩
  have := List.length_pos_of_mem h4
  omega
theorem asx {es : List EnS} (h : wo es) : nh es 0 = [] := by
 refine List.eq_nil_iff_forall_not_mem.2 fun x hx => ?_
 obtain ⟨b, hb, ht⟩ := ajh.1 hx
 have := (h.rng _ hb).2.1
 unfold ly at this
 simp only at this ht
 rw [ht] at this
 simp at this
theorem bgv {es : List EnS} (h : wo es) : bOf es 0 = ir := by
 have h0 := asx h
 unfold nh at h0
 have : es.filter (isE 0) = [] := List.map_eq_nil_iff.1 h0
 unfold bOf wx
 rw [this]; rfl
def bpl (w0 : World) (q hb : Nat) (es m : List EnS) (L : Lg) (dn : Bool) (tv : Value) (ts : List Int) (R : List Asn) : KL := fun x w1 => ∃ (u : Value) (i : Nat), x = [u, .int .i64 (i : Nat)] ∧ i ≤ ts.length ∧ (∀ j (h : j < ts.length), j < i → (nh es ts[j]).length = (nh m ts[j]).length) ∧ St w0 w1 (nw q hb es L dn :: nq T.g 1 pi tv ts :: R)
section
variable {w0 w : World} {R : List Asn} {q hb : Nat} {es m : List EnS} {L : Lg} {dn : Bool} {mv : Value}
theorem ahs (S : St w0 w (nw q hb es L dn :: R)) (hu : yb es) (ho : wo es) (hl : es.length < 50000) (hml : m.length ≤ 50000) (hm : ∀ w' L', St w0 w' (L' ++ R) → SlN w' mv m) {K : KV}
  (h : ∀ w' bb, (es = m → bb = true) → (bb = true → bem es m) → St w0 w' (nw q hb es L dn :: R) → K (.bool bb) w') : gr P F.ch [jx q, mv] w K := by
 rw [M.bm.fcall]
 apply M.bm.calls
 unfold M.bm
 refine auu (hm _ [_] S) (by omega) fun w1 tv o1 f1 => ?_
 have S1 := bcj S f1 o1
 simp
 refine ayy S1.swap (by omega) fun w2 av S2 => ?_
 have hle : (Suint64.mo (mq es)).length < 50000 := by
  have e1 := (Suint64.nu (mq es)).length_eq
  have := ann es
  omega
 have hlm : (Suint64.mo (mq m)).length ≤ 50000 := by
  have e1 := (Suint64.nu (mq m)).length_eq
  have := ann m
  omega
 refine bav S2.rd (S2.up2.row pu) (by omega) fun w3 f3 => ?_
 have S3 := (S2.jt f3).drop
 by_cases ht : Suint64.mo (mq es) = Suint64.mo (mq m)
 case neg =>
  simp [ht]
  exact h w3 false (fun he => absurd (by rw [he]) ht) (fun hb => by cases hb) S3.swap.drop
 simp [ht]
 refine aea S3 hu (by omega) 0 fun w4 v0 l0 g1 g2 S4 => ?_
 rw [asx ho] at g2
 have e0 : l0 = [] := g2.eq_nil
 subst e0
 have hl0 : ∀ w' K, biT P .len #[T.b] T.c [false] [v0] w' K = K (.int .i64 0) w' := fun w' K => (S4.rd : SlS w4 v0 []).jb (by kernel_rfl) [false]
 simp [hl0]
 refine alk S4.drop 0 fun w5 S5 => ?_
 rw [bgv ho]
 have eb : Value.agg #[.int .u64 0, .int .u64 0] = kt ir := rfl
 rw [eb, aiw]
 simp
 unfold M.bm.j0
 simp only [ib]
 refine ⟨bpl w0 q hb es m L dn tv (Suint64.mo (mq m)) R, fun x _ => (Suint64.mo (mq m)).length - ms x 1, ⟨_, 0, rfl, Nat.zero_le _, fun j _ h => by omega, S5⟩, ?_⟩
 rintro x w6 ⟨u, i, rfl, hi, hpre, S6⟩
 have htt := ht
 generalize hts : Suint64.mo (mq m) = ts at ht hlm S5 S6 hi hpre S1 S2 S3 S4 o1 ⊢
 have hlen : ∀ w' K, biT P .len #[T.h] T.c [false] [tv] w' K = K (.int .i64 ts.length) w' := fun w' K => (S6.swap.row pu).jb (by kernel_rfl) [false]
 by_cases hil : i < ts.length
 ·have hwi : IntKind.i64.wrap ((i : Int) + 1) = ((i + 1 : Nat) : Int) := by rw [ig]; rfl
  simp [hlen, hil]
  unfold M.bm.j3
  obtain ⟨b1, o1, c1, e1, hb1, _, g1⟩ := (S6.swap.row pu).at hil
  have i1 : ∀ w' K, iaT P T.h tv (.int .i64 (i : Nat)) w' K = K (.pointer (some ⟨b1, o1 + i, none⟩)) w' := fun w' K => by rw [e1]; simp [hil]
  simp only [qw]
  have S7 := S6.jt ((Fr.refl _ w6).dr 1)
  generalize dr w6 1 = w7 at *
  have d1 : ∀ {w' : World} {L' : List Asn}, St w0 w' (L' ++ nq T.g 1 pi tv ts :: R) → ic w' b1 (o1 + i) = some (.int .u64 ts[i]) := fun S' => by
   obtain ⟨b2, o2, c2, e2, _, _, g2⟩ := ((S'.perm List.perm_middle).row pu).at hil
   rw [e1] at e2
   injection e2 with q1 _ _
   injection q1 with q1
   injection q1 with q1 q2 _
   subst q1 q2
   simpa using g2 0 _ rfl
  have d7 := d1 (L' := [_]) S7
  simp [i1, d7]
  refine aea S7 hu (by omega) _ fun w8 v8 l8 g3 g4 S8 => ?_
  have d8 := d1 (L' := [_, _]) S8
  simp [d8]
  refine aws (hm _ [_, _, _] S8) (by omega) _ fun w9 v9 l9 g5 g6 o9 f9 => ?_
  have S9 := S8.jt f9
  have hl8 : l8.length < 50000 := by
   have e2 := g4.length_eq
   have := afn es ts[i]
   omega
  refine bby S9.rd (o9.sl lk) (by omega) fun w10 bb k1 k2 f10 => ?_
  have S10 := (S9.jt f10).drop
  have kk : es = m → bb = true := fun he => k1 (by
   subst he
   exact apr (g4.trans g6.symm) g3 g5 fun x hx y hy he => bit hu ts[i] x (g4.mem_iff.1 hx) y (g4.mem_iff.1 hy) he)
  cases bb with
  | false =>
   simp
   exact h w10 false kk (fun hb => by cases hb) S10.swap.drop
  | true =>
  have hlen1 : (nh es ts[i]).length = (nh m ts[i]).length := by rw [← g4.length_eq, ← g6.length_eq]; exact k2 rfl
  have d10 := d1 (L' := [_]) S10
  simp [i1, d10]
  refine alk S10 _ fun w11 S11 => ?_
  have d11 := d1 (L' := [_]) S11
  simp [d11]
  refine asy (hm _ [_, _] S11) (by omega) _ fun w12 f12 => ?_
  have S12 := S11.jt f12
  simp only [aiw]
  by_cases hbb : bOf es ts[i] = bOf m ts[i]
  ·simp [hbb]
   rw [hwi]
   refine ⟨⟨_, i + 1, rfl, by omega, fun j hj hji => ?_, S12⟩, by simp [ms, gv]; omega⟩
   by_cases hje : j = i
   ·subst hje; exact hlen1
   ·exact hpre j hj (by omega)
  ·simp [hbb]
   exact h w12 false (fun he => absurd (by rw [he]) hbb) (fun hb => by cases hb) S12.swap.drop
 ·simp [hlen, hil]
  exact h w6 true (fun _ => rfl) (fun _ => ⟨htt, fun t hte => by
   obtain ⟨j, hj, rfl⟩ := List.mem_iff_getElem.1 (hts ▸ hte : t ∈ ts)
   exact hpre j hj (by omega)⟩) S6.swap.drop
end
structure abu where
 ip : Int
 n : Int
 p : Pk
 ls : List Spn
 lm : List Mem
 lu : List Int
 kv : Value
 ke : List Int
def aop (x : abu) : List Value := .int .i64 x.ip :: .int .i64 x.n :: (pkC x.p ++ [x.kv])
def za (w : World) (b o : Nat) (x : abu) : Prop := (∀ j u, (aop x)[j]? = some u → ic w b (o + j) = some u) ∧ aat w x.p x.ls x.lm x.lu ∧ ya x.p ∧ LsR x.ls x.lm x.lu ∧ Sl w 1 rz x.kv x.ke ∧ x.n < 9223372036854775808
theorem blj {x : Int} (h : (Lit.int .i64 x).wf = true) : x < 9223372036854775808 := by
 simp [Lit.wf, IntKind.min, IntKind.max, IntKind.bits, IntKind.signed] at h
 omega
theorem bnr {w : World} {n : Nat} {v : Value} (h : TV P w n T.ad [v]) : ∃ l, Sl w 1 rz v l := by
 refine ada (sz := 1) (rd := rdE rz) (e := T.c) (by kernel_rfl) (by kernel_rfl) (by decide) (fun n b o cs ht hl hc => ?_) h
 obtain ⟨x, hx, _⟩ := sp (k := .i64) (by kernel_rfl) ht
 subst hx
 exact ⟨x, fun j u hj => hc j u hj⟩
theorem bgh {w : World} {n : Nat} {v : Value} (h : TV P w n T.ae [v]) : ∃ l, tp w 14 za v l := by
 have hel := et.ae
 refine ada (sz := 14) (rd := za) (e := T.aq) hel.ty (by kernel_rfl) (by decide) (fun n b o cs ht hl hc => ?_) h
 have hu := Tryz.underlying89
 obtain ⟨_, hf⟩ := abt hu ht
 obtain ⟨m0, t0⟩ : ∃ m, TV P w m T.c ((cs.drop 0).take (P.cellsOf T.c)) := hf 0 _ rfl
 obtain ⟨m1, t1⟩ : ∃ m, TV P w m T.c ((cs.drop 1).take (P.cellsOf T.c)) := hf 1 _ rfl
 obtain ⟨m2, t2⟩ : ∃ m, TV P w m T.a ((cs.drop 2).take (P.cellsOf T.a)) := hf 2 _ rfl
 obtain ⟨m3, t3⟩ : ∃ m, TV P w m T.ad ((cs.drop 13).take (P.cellsOf T.ad)) := hf 3 _ rfl
 have c0 : P.cellsOf T.c = 1 := by kernel_rfl
 have c1 : P.cellsOf T.a = 11 := by kernel_rfl
 have c2 : P.cellsOf T.ad = 1 := by kernel_rfl
 match cs, hl with
 | [u0, u1, u2, u3, u4, u5, u6, u7, u8, u9, u10, u11, u12, u13], _ =>
  simp only [c0, c1, c2, List.drop_zero, List.drop_succ_cons, List.take_succ_cons, List.take_zero] at t0 t1 t2 t3
  obtain ⟨x0, e0, _⟩ := sp (k := .i64) (by kernel_rfl) t0
  obtain ⟨x1, e1, w1⟩ := sp (k := .i64) (by kernel_rfl) t1
  obtain ⟨p, ls, lm, lu, ep, hp, hr, hls⟩ := bny t2
  obtain ⟨l3, s3⟩ := bnr t3
  simp only [List.cons.injEq, and_true] at e0 e1
  subst e0 e1
  refine ⟨⟨x0, x1, p, ls, lm, lu, u13, l3⟩, ?_, hp, hr, hls, s3, blj w1⟩
  have e : aop ⟨x0, x1, p, ls, lm, lu, u13, l3⟩ = [.int .i64 x0, .int .i64 x1, u2, u3, u4, u5, u6, u7, u8, u9, u10, u11, u12, u13] := by
   unfold aop
   rw [← ep]
   rfl
  rw [e]
  exact fun j u hj => hc j u hj
section
variable {w0 w w' : World} {R : List Asn} {v : Value} {l : List abu}
theorem aez {b o : Nat} {x : abu} (hb : b < w.heap.size) (h : za w b o x) (hf : Fz w w') : za w' b o x :=
 ⟨fun j u hj => by rw [tz (hf.ke b hb fun h => h)]; exact h.1 j u hj, h.2.1.fr hf, h.2.2.1, h.2.2.2.1, h.2.2.2.2.1.fr hf fun _ _ _ h => h, h.2.2.2.2.2⟩
theorem bhz (h : tp w 14 za v l) (hf : Fz w w') : tp w' 14 za v l := h.ke hf.size fun b o x hb hr => aez hb hr hf
theorem adh (h : tp w 14 za v l) {i : Nat} (hi : i < l.length) : ∃ b o, (∀ w' K, iaT P T.ae v (.int .i64 (i : Nat)) w' K = K (.pointer (some ⟨b, o, none⟩)) w') ∧ b < w.heap.size ∧ za w b o l[i] := by
 have hss : szE P T.ae = 14 := by kernel_rfl
 obtain ⟨a, cap, hv, _, _, h3⟩ := h
 obtain ⟨b, o, rfl, hb, hr⟩ := h3 i l[i] (List.getElem?_eq_getElem hi)
 exact ⟨b, o + i * 14, fun w' K => by rw [hv]; simp [hi], hb, hr⟩
theorem yf {b o : Nat} {x : abu} (h : za w b o x) : ic w b o = some (.int .i64 x.ip) ∧ ic w b (o + 1) = some (.int .i64 x.n) ∧ (∀ K, ldN P 11 b (o + 2) w K = K (pkA x.p) w) ∧ ic w b (o + 13) = some x.kv :=
 ⟨h.1 0 _ rfl, h.1 1 _ rfl, fun K => po (pkC x.p) 11 rfl (fun k u hk => by
  have hlt : k < (pkC x.p).length := (List.getElem?_eq_some_iff.1 hk).1
  have := h.1 (k + 2) u (by show (pkC x.p ++ [x.kv])[k]? = some u; rw [List.getElem?_append_left hlt]; exact hk)
  rw [show o + 2 + k = o + (k + 2) by omega]; exact this) K, h.1 13 _ rfl⟩
def bqj (W : World) (l : List abu) : KL := fun x w1 => ∃ (u : Value) (i : Nat), x = [u, .int .i64 (i : Nat)] ∧ Fz W w1 ∧ i ≤ l.length ∧ ∀ (j : Nat) y, l[j]? = some y → j < i → aix y.ls y.lm y.lu
theorem bky (hs : tp w 14 za v l) {K : KV} (h : ∀ bb w', (bb = true → l.length ≤ 50 ∧ ∀ x ∈ l, aix x.ls x.lm x.lu) → Fz w w' → K (.bool bb) w') : gr P F.dq [v] w K := by
 rw [M.be.fcall]
 apply M.be.calls
 unfold M.be
 have hlen : ∀ w' K, biT P .len #[T.ae] T.c [false] [v] w' K = K (.int .i64 l.length) w' := fun w' K => hs.jb (by kernel_rfl) [false]
 by_cases hl : 50 < l.length
 ·have : (50 : Int) < l.length := by omega
  simp [hlen, this]
  exact h false w (fun h => by cases h) (Fr.refl _ _)
 have hn : ¬ (50 : Int) < l.length := by omega
 simp [hlen, hn]
 unfold M.be.j0
 simp only [ib]
 refine ⟨bqj w l, fun x _ => l.length - ms x 1, ⟨_, 0, rfl, Fr.refl _ _, Nat.zero_le _, fun j k _ h => by omega⟩, ?_⟩
 rintro x w1 ⟨u, i, rfl, f1, hi, hz⟩
 by_cases hil : i < l.length
 ·obtain ⟨b, o, hia, hb, hr⟩ := adh (bhz hs f1) hil
  obtain ⟨_, _, k2, _⟩ := yf hr
  have hwi : IntKind.i64.wrap ((i : Int) + 1) = ((i + 1 : Nat) : Int) := by rw [ig]; rfl
  simp [hlen, hil]
  unfold M.be.j3
  simp [hia, k2]
  refine bek hr.2.1 fun bb w2 hbb f2 => ?_
  cases bb with
  | false =>
   simp
   exact h false w2 (fun h => by cases h) (f1.trans f2)
  | true =>
   simp [hwi]
   refine ⟨⟨_, i + 1, rfl, f1.trans f2, by omega, fun j y hj hlt => ?_⟩, by simp [ms, gv]; omega⟩
   by_cases hji : j = i
   ·subst hji
    rw [List.getElem?_eq_getElem hil] at hj
    cases hj
    exact hbb rfl
   ·exact hz j y hj (by omega)
 ·simp [hlen, hil]
  refine h true w1 (fun _ => ⟨by omega, fun x hx => ?_⟩) f1
  obtain ⟨j, hj, rfl⟩ := List.getElem_of_mem hx
  exact hz j _ (List.getElem?_eq_getElem hj) (by omega)
end
theorem arx {F : KL → Prop} {K : KL} (H : ∀ K', (∀ x w, K x w → K' x w) → F K') : gt F K := H K fun _ _ h => h
section
variable {W w : World} {q hb n : Nat} {ms : List WrM} {im : Int} {mv a1 t32 : Value} {l : List abu}
end
section
variable {W w : World} {q hb n : Nat} {ms : List WrM} {im : Int} {mv a1 : Value} {l : List abu}
end
section
variable {s f im B : Int} {arm : Bool} {jf : Int} {ms ms2 : List WrM} {b : Bal} {l : List Spn} {e : Int} {dn : Bool} {L : Lg} {D : Dk}
theorem yt.yes (h : yt s f im B arm jf ms b l 0 ms2 dn L D) : SI s f L D ms2 ∧ L.im = im ∧ f + ms2.length ≤ B ∧ (arm = false → D.jw = false) := by
 generalize he : (0 : Int) = e at h
 cases h with
 | ok _ _ i1 i2 i3 i4 => exact ⟨i1, i2, i3, i4⟩
 | uq => cases he
 | jj => cases he
end
section
variable {W w : World} {q hb : Nat} {ms : List WrM} {im : Int} {mv a1 : Value} {l : List abu}
end
structure akx (q hb : Nat) (W w : World) (ms : List WrM) (im : Int) (n : Nat) (mv : Value) : Prop where
 ok : ∃ (L : Lg) (D : Dk) (s f : Int), SI s f L D ms ∧ L.im = im ∧ f + ms.length ≤ n ∧ ms.length ≤ n ∧ St W w (nw q hb (jk ms) L false :: iy hb D :: rl mv (jk ms) :: [])
section
variable {W w : World} {q hb n : Nat} {ms ms' Y : List WrM} {im : Int} {mv fv a1 t32 : Value} {l : List abu} {es fl : List EnS} {L : Lg} {D : Dk} {s f : Int}
theorem bez {x6 x11 : List Value} (e1 : gv x6 1 = fv) (e4 : gv x6 4 = mv) (S : St W w (nw q hb (jk ms) L false :: iy hb D :: rl mv es :: rl fv fl :: [])) (he : jk ms = es ∨ jk ms = es ++ fl) (I : SI s f L D ms) (hm : L.im = im) (hf : f + ms.length ≤ n) (hl : ms.length ≤ n) (hn : n ≤ 60) (hel : es.length ≤ 1000) (hfl : fl.length ≤ 1000) {t125 : Value} {K5 : KL} {K : KV}
  (h5 : ∀ x5 w' mv', gv x5 8 = jx q → gv x5 4 = mv' → akx q hb W w' ms im n mv' → K5 x5 w') : M.b.j11 (jx q) x6 K5 x11 t125 w K := by
 have hle := adt I.ok
 unfold M.b.j11
 rw [e1, e4]
 refine ahs (m := es) S (aed _) (acx I.ok) (by omega) (by omega) (fun w' L' S' => ((S'.perm List.perm_append_comm).swap).row nv) fun w1 bb k1 k2 S1 => ?_
 cases bb with
 | true =>
  have hee : jk ms = es := by
   rcases he with h | h
   ·exact h
   ·have h3 := k2 rfl
    rw [h] at h3
    rw [h, bci h3, List.append_nil]
  rw [← hee] at S1
  simp
  exact h5 _ w1 mv rfl rfl ⟨L, D, s, f, I, hm, hf, hl, S1.up3.drop⟩
 | false =>
  have hee : jk ms = es ++ fl := by
   rcases he with h | h
   ·exact absurd (k1 h) (by simp)
   ·exact h
  simp
  have S7 : St W _ (rl _ [] :: _) := St.su (e := T.ac) (enc := wv) (sz := 10) (l := []) (cells := #[]) S1 nv rfl (by simp [maxLen])
  -- [new, sto, disk, mv, fv]
  refine Go.Eng.qj et.i nv aag S7 (S7.up3.row nv) (by simp; omega) (by decide) fun w6 v6 S8 => ?_
  refine Go.Eng.qj et.i nv aag S8 (S8.up4.row nv) (by simp; omega) (by decide) fun w7 v7 S9 => ?_
  rw [List.nil_append] at S9
  rw [← hee] at S9
  -- [t141, sto, disk, mv, fv]
  have S10 : St W w7 (rl v7 (jk ms) :: nw q hb (jk ms) L false :: iy hb D :: rl fv fl :: []) := S9.up3.drop
  have S11 : St W w7 (rl v7 (jk ms) :: nw q hb (jk ms) L false :: iy hb D :: []) := S10.up3.drop
  refine ahs (m := jk ms) S11.swap (aed _) (acx I.ok) (by omega) (by omega) (fun w' L' S' => (S'.perm List.perm_append_comm).row nv) fun w8 bb k3 _ S12 => ?_
  have hb1 : bb = true := k3 rfl
  subst hb1
  simp
  exact h5 _ w8 v7 rfl rfl ⟨L, D, s, f, I, hm, hf, hl, S12.swap.dn2⟩
theorem bgf {A : List WrM} {m1 : WrM} {j : Nat} (h : A.length ≤ ((A ++ [m1]).take j).length) : (A ++ [m1]).take j = A ∨ (A ++ [m1]).take j = A ++ [m1] := by
 by_cases hj : A.length < j
 ·exact .inr (List.take_of_length_le (by simp; omega))
 ·have hje : j = A.length := by
   rw [List.length_take, Nat.min_eq_left (by simp; omega)] at h
   omega
  rw [hje]
  exact .inl (List.take_left' rfl)
theorem avo (hs : tp W 14 za a1 l) {x3 x9 x6 : List Value} {i : Nat} (hi : i < l.length) (g9 : gv x3 9 = .int .i64 (i : Nat)) (e1 : gv x6 1 = fv) (e4 : gv x6 4 = mv) {dn : Bool} {Q : List Prt} {z : Prop}
  (S : St W w (nw q hb (jk ms) L dn :: iy hb D :: rl mv (jk ms) :: rl fv fl :: [])) (hv : Vir s f Q ms.length D z) (hQ : jq Q = Y.map pz) (hok : ∀ m ∈ ms, okM m) (hY : ∀ m ∈ Y, okM m) (hc : Y = ms ∨ ∃ b l, Y = ms ++ [(b, l)] ∧ jk Y = jk ms ++ fl) (hmost : 64 ≤ im ∧ im ≤ 1048576) (hf : f + Y.length ≤ n) (hl : Y.length ≤ n) (hn : n ≤ 60) (hfl : fl.length ≤ 1000) {K5 : KL} {K : KV}
  (h5 : ∀ x5 w' q' ms' mv', gv x5 8 = jx q' → gv x5 4 = mv' → akx q' hb W w' ms' im n mv' → K5 x5 w') : M.b.j9 a1 x3 (.pointer (some ⟨hb, 0, none⟩)) (.int .i64 im) x9 x6 K5 w K := by
 unfold M.b.j9
 obtain ⟨b, o, hia, hb0, hr0⟩ := adh hs hi
 obtain ⟨_, _, _, k3⟩ := yf (aez hb0 hr0 S.fr)
 have hks := hr0.2.2.2.2.1
 generalize l[i] = op at *
 rw [g9]
 simp [hia, k3]
 refine asw S.swap (kl := op.ke) (fun w' L S' => S'.old hks) fun w1 S1 => ?_
 obtain ⟨v1', v2', v3', v4'⟩ := bdz hv op.ke
 have hlm : ms.length ≤ n ∧ f + ms.length ≤ n := by
  rcases hc with rfl | ⟨b, l', rfl, _⟩
  ·exact ⟨hl, hf⟩
  ·rw [List.length_append] at hl hf
   exact ⟨by omega, by simp at hf; omega⟩
 have hle := adt hok
 refine aef (X := Y) S1 v1' v2' hmost hQ hY fun w2 q1 j s1 f1 L1 D1 hG I1 hmost1 hfl1 hle1 _ _ _ _ _ S2 => ?_
 simp only [jx]
 simp
 have S3 : St W w2 (nw q1 hb (jk (Y.take j)) L1 false :: iy hb D1 :: rl mv (jk ms) :: rl fv fl :: []) := S2.up2.drop
 have hcc : jk (Y.take j) = jk ms ∨ jk (Y.take j) = jk ms ++ fl := by
  rcases hc with rfl | ⟨b, l', rfl, he⟩
  ·left
   rw [List.take_of_length_le (Nat.le_of_not_lt fun hlt => by
    rw [List.length_take, Nat.min_eq_left (by omega)] at hG
    omega)]
  ·rcases bgf hG with h | h
   ·exact .inl (by rw [h])
   ·exact .inr (by rw [h]; exact he)
 exact bez e1 e4 S3 hcc I1 hmost1 (by omega) (by omega) hn (by omega) hfl fun x5 w' mv' d8 d4 k => h5 x5 w' q1 _ mv' d8 d4 k
theorem bbi (hs : tp W 14 za a1 l) {x3 x6 : List Value} {i : Nat} (hi : i < l.length) (g9 : gv x3 9 = .int .i64 (i : Nat)) (g8 : gv x3 8 = jx q) {e : Int} (e1 : gv x6 1 = fv) (e2 : gv x6 2 = .int .i64 e) (e4 : gv x6 4 = mv) {dn : Bool}
  (S : St W w (nw q hb (jk ms) L dn :: iy hb D :: rl mv (jk ms) :: rl fv fl :: [])) (hok : ∀ m ∈ ms, okM m) (hfl : fl.length ≤ 1000) (hmost : 64 ≤ im ∧ im ≤ 1048576) (hn : n ≤ 60)
  (hc : (e ≠ 10 ∧ dn = false ∧ SI s f L D ms ∧ L.im = im ∧ f + ms.length ≤ n ∧ ms.length ≤ n) ∨ (e = 10 ∧ ∃ Q Y, Vir s f Q ms.length D False ∧ jq Q = Y.map pz ∧ (∀ m ∈ Y, okM m) ∧ (Y = ms ∨ ∃ b l, Y = ms ++ [(b, l)] ∧ jk Y = jk ms ++ fl) ∧ f + Y.length ≤ n ∧ Y.length ≤ n)) {K5 : KL} {K : KV}
  (h5 : ∀ x5 w' q' ms' mv', gv x5 8 = jx q' → gv x5 4 = mv' → akx q' hb W w' ms' im n mv' → K5 x5 w') : M.b.j6 x6 a1 x3 K5 (.pointer (some ⟨hb, 0, none⟩)) (.int .i64 im) w K := by
 unfold M.b.j6
 obtain ⟨b, o, hia, hb0, hr0⟩ := adh hs hi
 obtain ⟨k0, _, _, _⟩ := yf (aez hb0 hr0 S.fr)
 rcases hc with ⟨he, rfl, I, hm, hf, hl⟩ | ⟨rfl, Q, Y, hv, hQ, hY, hc, hf, hl⟩
 ·by_cases h2 : l[i].ip = 2
  ·simp [e2, he, g9, hia, k0, h2]
   exact avo hs hi g9 e1 e4 S I.aaq.vir I.jc hok hok (.inl rfl) hmost hf hl hn hfl h5
  ·simp [e2, he, g9, hia, k0, h2, g8, e4]
   have hle := adt hok
   refine ahs (m := jk ms) S (aed _) (acx I.ok) (by omega) (by omega) (fun w' L' S' => ((S'.perm List.perm_append_comm).swap).row nv) fun w1 bb k1 _ S1 => ?_
   have hb1 : bb = true := k1 rfl
   subst hb1
   simp
   exact h5 _ w1 q ms mv rfl rfl ⟨L, D, s, f, I, hm, hf, hl, S1.up3.drop⟩
 ·simp [e2]
  exact avo hs hi g9 e1 e4 S hv hQ hok hY hc hmost hf hl hn hfl h5
end
section
variable {W w : World} {q hb : Nat} {ms : List WrM} {im : Int} {mv a1 : Value} {l : List abu}
theorem yt.dwn {s f im B : Int} {arm : Bool} {jf : Int} {ms ms2 : List WrM} {b : Bal} {l : List Spn} {e : Int} {dn : Bool} {L : Lg} {D : Dk} (h : yt s f im B arm jf ms b l e ms2 dn L D) (he : e ≠ 0) : (e = 9 ∧ dn = false) ∨ (e = 10 ∧ ∃ Q Y, Vir s f Q ms.length D False ∧ jq Q = Y.map pz ∧ (Y = ms ∨ Y = ri ms b l) ∧ (∀ m ∈ Y, okM m) ∧ f + Y.length ≤ B) := by
 cases h with
 | ok => exact absurd rfl he
 | uq => exact .inl ⟨rfl, rfl⟩
 | jj _ _ Q Y _ _ h3 h4 h5 h6 h7 => exact .inr ⟨rfl, Q, Y, h3, h4, h5, h6, h7⟩
def bnf (q hb : Nat) (W w : World) (ms : List WrM) (mv fv : Value) (fl : List EnS) (e : Int) (n : Nat) (im : Int) : Prop := ∃ dn L D s f, St W w (nw q hb (jk ms) L dn :: iy hb D :: rl mv (jk ms) :: rl fv fl :: []) ∧ (∀ m ∈ ms, okM m) ∧ fl.length ≤ 1000 ∧
 ((e ≠ 10 ∧ dn = false ∧ SI s f L D ms ∧ L.im = im ∧ f + ms.length ≤ n ∧ ms.length ≤ n) ∨ (e = 10 ∧ ∃ Q Y, Vir s f Q ms.length D False ∧ jq Q = Y.map pz ∧ (∀ m ∈ Y, okM m) ∧ (Y = ms ∨ ∃ b l, Y = ms ++ [(b, l)] ∧ jk Y = jk ms ++ fl) ∧ f + Y.length ≤ n ∧ Y.length ≤ n))
theorem amy (hs : tp W 14 za a1 l) {x3 x7 : List Value} {i : Nat} (hi : i < l.length) (hi50 : i < 50) (g4 : gv x3 4 = mv) (g8 : gv x3 8 = jx q) (g9 : gv x3 9 = .int .i64 (i : Nat)) {fv : Value} {fl : List EnS} (e0 : gv x7 0 = fv) {L : Lg} {D : Dk} {s f : Int} (I : SI s f L D ms) (hmo : L.im = im) (hf : f + ms.length ≤ i) (hl : ms.length ≤ i)
  (S : St W w (nw q hb (jk ms) L false :: iy hb D :: rl mv (jk ms) :: rl fv fl :: [])) (hP : ql W l[i].p l[i].ls l[i].lm l[i].lu) (hfl : fl.length ≤ 16) (hw1 : wrE l[i].p l[i].ls l[i].lm l[i].lu = true → fl = (kg (jk ms) l[i].ls).map fun x => (l[i].p.b, x)) {t55 : Value} {K6 : KL} {K : KV} (hK : ∀ w', Fz W w' → K (.bool true) w')
  (h6 : ∀ x6 w' fv ms mv fl e, gv x6 1 = fv → gv x6 2 = .int .i64 e → gv x6 4 = mv → bnf q hb W w' ms mv fv fl e (i + 1) im → K6 x6 w') :
  M.b.j7 a1 x3 x7 K6 t55 w K := by
 unfold M.b.j7
 obtain ⟨b, o, hia, hb0, hr0⟩ := adh hs hi
 obtain ⟨_, _, k2, _⟩ := yf (aez hb0 hr0 S.fr)
 have hpr := hr0.2.2.1
 have hpl := hr0.2.2.2.1
 generalize l[i] = op at *
 rw [g9, g8]
 simp [hia, k2]
 have hle := adt I.ok
 refine bcl (B := ((i + 1 : Nat) : Int)) S (fun w' R' S' => hP.fr S'.fr) hpr hpl.s I (by omega) (by omega) (fun hw w6 S6 => ?_) (fun hw w6 e dn' L' D' h0 hleft S6 => ?_) fun hw w6 v' v3 L' D' hleft S6 => ?_
 ·simp
  unfold M.b.j8
  simp
  exact h6 _ w6 fv ms mv fl 6 e0 rfl g4 ⟨false, L, D, s, f, S6, I.ok, by omega, .inl ⟨by decide, rfl, I, hmo, by omega, by omega⟩⟩
 ·rcases hleft.dwn h0 with ⟨rfl, rfl⟩ | ⟨rfl, Q, Y, hv, hQ, hY, hYo, hB⟩
  ·simp
   exact axc fun w7 f7 => hK w7 (S6.jt f7).fr
  ·obtain ⟨_, Wp⟩ := acv hw
   simp
   unfold M.b.j8
   simp
   have hYl : Y.length ≤ ms.length + 1 := by
    rcases hY with rfl | rfl
    ·omega
    ·exact asd _ _ _
   refine h6 _ w6 fv ms mv fl 10 e0 rfl g4 ⟨dn', L', D', s, f, S6, I.ok, by omega, .inr ⟨rfl, Q, Y, hv, hQ, hYo, ?_, hB, by omega⟩⟩
   rcases hY with rfl | rfl
   ·exact .inl rfl
   ·by_cases hn : kg (jk ms) op.ls = []
    ·left
     unfold ri
     rw [if_pos hn]
    ·right
     refine ⟨op.p.b, kg (jk ms) op.ls, by unfold ri; rw [if_neg hn], ?_⟩
     rw [aec, hw1 hw]
     exact akb Wp
 ·obtain ⟨_, Wp⟩ := acv hw
  obtain ⟨i1, i2, i3, i4⟩ := hleft.yes
  have hml := asd ms op.p.b (kg (jk ms) op.ls)
  have e1 : jk (ri ms op.p.b (kg (jk ms) op.ls)) = jk ms ++ fl := by
   rw [aec, hw1 hw]
   exact akb Wp
  simp
  unfold M.b.j8
  rw [g4, e0]
  simp
  have S7 : St W _ (rl _ [] :: _) := St.su (e := T.ac) (enc := wv) (sz := 10) (l := []) (cells := #[]) S6 nv rfl (by simp [maxLen])
  -- [new, v', v3, sto, disk, mv, fv]
  refine Go.Eng.qj et.i nv aag S7 ((S7.perm (List.perm_middle (l₁ := [_, _, _, _, _]))).row nv) (by simp; omega) (by decide) fun w8 v6 S8 => ?_
  refine Go.Eng.qj et.i nv aag S8 ((S8.perm (List.perm_middle (l₁ := [_, _, _, _, _, _]))).row nv) (by simp; omega) (by decide) fun w9 v7 S9 => ?_
  rw [List.nil_append, ← e1] at S9
  have S10 : St W w9 (rl v7 _ :: nw q hb _ L' false :: iy hb D' :: rl mv (jk ms) :: rl fv fl :: []) := S9.swap.drop.swap.drop
  have S11 : St W w9 (rl v7 _ :: nw q hb _ L' false :: iy hb D' :: []) := (S10.up3.drop).up3.drop
  generalize ri ms op.p.b (kg (jk ms) op.ls) = ms' at *
  exact h6 _ w9 (.slice none 0 0) ms' v7 [] 0 rfl rfl rfl ⟨false, L', D', s, f, St.dn3 (Go.Eng.pw S11.dn2), i1.ok, by simp, .inl ⟨by decide, rfl, i1, by rw [i2, hmo], i3, by omega⟩⟩
theorem bac (hs : tp W 14 za a1 l) {x3 : List Value} {i : Nat} (hi : i < l.length) (hi50 : i < 50) (g4 : gv x3 4 = mv) (g8 : gv x3 8 = jx q) (g9 : gv x3 9 = .int .i64 (i : Nat)) (hk : akx q hb W w ms im i mv) (hm : 64 ≤ im ∧ im ≤ 1048576) (hlt : aix l[i].ls l[i].lm l[i].lu) {K3 : KL} {K : KV} (hK : ∀ w', Fz W w' → K (.bool true) w')
  (h3 : ∀ x' w' q' ms' mv', gv x' 8 = jx q' → gv x' 4 = mv' → gv x' 9 = .int .i64 ((i + 1 : Nat) : Int) → akx q' hb W w' ms' im (i + 1) mv' → K3 x' w') :
  M.b.j4 a1 x3 (.pointer (some ⟨hb, 0, none⟩)) (.int .i64 im) K3 w K := by
 have hwi : IntKind.i64.wrap ((i : Int) + 1) = ((i + 1 : Nat) : Int) := by rw [ig]; rfl
 unfold M.b.j4
 rw [g9]
 refine arx fun K5 hk5 => ?_
 have h5 : ∀ x5 w' q' ms' mv', gv x5 8 = jx q' → gv x5 4 = mv' → akx q' hb W w' ms' im (i + 1) mv' → K5 x5 w' := fun x5 w' q' ms' mv' d8 d4 k => hk5 _ _ (by
  simp only [kz, hwi]
  exact h3 _ w' q' ms' mv' d8 d4 rfl k)
 refine arx fun K6 hk6 => ?_
 have h6 : ∀ x6 w' fv ms mv fl e, gv x6 1 = fv → gv x6 2 = .int .i64 e → gv x6 4 = mv → bnf q hb W w' ms mv fv fl e (i + 1) im → K6 x6 w' := fun x6 w' fv ms mv fl e e1 e2 e4 ⟨dn, L, D, s, f, S, hok, hfl, hc⟩ => hk6 _ _ (bbi hs hi g9 g8 e1 e2 e4 S hok hfl hm (by omega) hc h5)
 clear hk5 hk6 h3
 obtain ⟨L, D, s, f, I, hmo, hf, hl, S⟩ := hk
 obtain ⟨b, o, hia, hb0, hr0⟩ := adh hs hi
 have kc : ∀ {w' : World} {L' : List Asn}, St W w' L' → za w' b o l[i] := fun S' => aez hb0 hr0 S'.fr
 obtain ⟨k0, k1, k2, _⟩ := yf (kc S)
 have nl : ∀ {w' : World} {A B C : Asn}, St W w' (A :: B :: C :: []) → St W w' (A :: B :: C :: rl (.slice none 0 0) [] :: []) := fun S' => St.dn3 (Go.Eng.pw S')
 by_cases e0 : l[i].ip = 0
 ·have hP : ql W l[i].p l[i].ls l[i].lm l[i].lu := hr0.2.1.aqu hlt
  have hle := adt I.ok
  simp [hia, k0, e0, k2]
  refine aqa (hP.fr S.fr) hr0.2.2.1 hr0.2.2.2.1 fun w1 f1 => ?_
  have S1 := S.jt f1
  cases hw : wrE l[i].p l[i].ls l[i].lm l[i].lu with
  | false =>
   simp
   exact amy hs hi hi50 g4 g8 g9 rfl I hmo hf hl (nl S1) hP (by simp) (fun h => by rw [hw] at h; cases h) hK h6
  | true =>
   obtain ⟨_, Wp⟩ := acv hw
   obtain ⟨_, _, k2', _⟩ := yf (kc S1)
   simp [k2', g4]
   refine awe (S1.up2.row nv) (by omega) (hP.fr S1.fr) fun w2 fv o2 f2 => ?_
   have S2 := bcj S1 f2 o2
   refine amy hs hi hi50 g4 g8 g9 rfl I hmo hf hl S2.dn3 hP ?_ (fun _ => rfl) hK h6
   rw [List.length_map]
   exact Nat.le_trans (List.length_filter_le _ _) Wp.len
 by_cases e1 : l[i].ip = 1
 ·simp [hia, k0, e1, k1]
  have hnn := hr0.2.2.2.2.2
  refine bnc S.swap hnn fun w6 S6 => ?_
  have I7 : SI s f L { D with jw := decide (0 ≤ l[i].n), left := l[i].n } ms := by
   obtain ⟨⟨⟨v1, v2, v3, v4, v5, v6, v7, v8⟩, g2, g3⟩, r1, r2⟩ := I
   exact ⟨⟨⟨v1, v2, v3, v4, v5, v6, v7, v8⟩, g2, g3⟩, r1, r2⟩
  exact h6 _ w6 _ ms mv [] 0 rfl rfl g4 ⟨false, L, _, s, f, nl S6.swap, I.ok, by simp, .inl ⟨by decide, rfl, I7, hmo, by omega, by omega⟩⟩
 ·simp [hia, k0, e0, e1]
  exact h6 _ w _ ms mv [] 0 rfl rfl g4 ⟨false, L, _, s, f, nl S, I.ok, by simp, .inl ⟨by decide, rfl, I, hmo, by omega, by omega⟩⟩
end
def bqe (W : World) (l : List abu) (im : Int) (hb : Nat) : KL := fun x w1 => ∃ (q : Nat) (mv : Value) (ms : List WrM) (i : Nat), gv x 8 = jx q ∧ gv x 4 = mv ∧ gv x 9 = .int .i64 (i : Nat) ∧ i ≤ l.length ∧ akx q hb W w1 ms im i mv
theorem aoj {W : World} {a0 : Int} (h0 : (Lit.int .i64 a0).wf = true) {n1 : Nat} {v1 : Value} (h1 : TV P W n1 T.ae [v1]) {K : KV} (h : ∀ w', Fz W w' → K (.bool true) w') : ku P F.dm [.int .i64 a0, v1] W K := by
 obtain ⟨l, hl⟩ := bgh h1
 apply M.b.calls
 unfold M.b
 have ex : ∀ {w'}, Fz W w' → (gr P F.bo [] w' fun v w => K v w) := fun f => axc fun w'' f'' => h w'' (f.trans f'')
 have hlen : ∀ w' K, biT P .len #[T.ae] T.c [false] [v1] w' K = K (.int .i64 l.length) w' := fun w' K => hl.jb (by kernel_rfl) [false]
 refine bky hl fun bb w1 hbb f1 => ?_
 cases bb with
 | false =>
  simp
  exact ex f1
 | true =>
 obtain ⟨h50, hlight⟩ := hbb rfl
 by_cases c2 : a0 < 64
 ·simp [c2]
  exact ex f1
 by_cases c3 : 1048576 < a0
 ·simp [c2, c3]
  exact ex f1
 simp [c2, c3]
 unfold M.b.j0
 refine axh ((St.ji W).jt f1) 1048576 (fun h => by omega) fun _ _ w2 hb S2 => ?_
 simp
 refine aef (X := []) S2 (avq 1048576 a0).vir rfl (by omega) (by simp [jq]) (fun m hm => by simp at hm) fun w3 q0 j s f L D _ I hmost hfl _ harm _ _ _ hx S3 => ?_
 rw [List.take_nil] at I S3
 simp only [jx]
 simp
 unfold M.b.j1
 simp only [ib]
 have N1 : St W w3 (nw q0 hb (jk []) L false :: iy hb D :: rl (.slice none 0 0) [] :: []) := St.dn2 (Go.Eng.pw S3)
 refine ⟨bqe W l a0 hb, fun x _ => l.length - ms x 9, ⟨q0, .slice none 0 0, [], 0, rfl, rfl, rfl, Nat.zero_le _, ⟨L, D, s, f, I, hmost, by simp; omega, by simp, N1⟩⟩, ?_⟩
 rintro x3 w5 ⟨q, mv, ms, i, g8, g4, g9, hi, hk⟩
 have hfr : Fz W w5 := by
  obtain ⟨_, _, _, _, _, _, _, _, S⟩ := hk
  exact S.fr
 unfold M.b.j3
 rw [g9]
 by_cases hil : i < l.length
 case neg =>
  simp [hlen, hil]
  exact ex hfr
 simp [hlen, hil]
 refine bac hl hil (by omega) g4 g8 g9 hk (by omega) (hlight _ (List.getElem_mem hil)) h fun x' w' q' ms' mv' e8 e4 e9 k' => ⟨⟨q', mv', ms', i + 1, e8, e4, e9, by omega, k'⟩, ?_⟩
 have h1 : Go.Eng.ms x3 9 = i := by unfold Go.Eng.ms; rw [g9]; simp
 have h2 : Go.Eng.ms x' 9 = i + 1 := by unfold Go.Eng.ms; rw [e9]; simp
 omega
end Go.Proofs.YtfnhoaemapheoaaGreat
