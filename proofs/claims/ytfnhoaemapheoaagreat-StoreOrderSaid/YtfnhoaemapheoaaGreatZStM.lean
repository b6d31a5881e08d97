/-
  A store: the chapter's example. No condition.
-/
import Derived.Test.YtfnhoaemapheoaaGreatZSs0
import Derived.Test.YtfnhoaemapheoaaGreatZRef3
set_option maxRecDepth 100000
namespace Go.Proofs.YtfnhoaemapheoaaGreat
open Go.Eng Go.Proofs.YtfnhoaemapheoaaGreat.Sint
def spA : Spn := ⟨5, 2, 0, 0, 0, ⟨#[97]⟩, ⟨#[98]⟩, false⟩
def spC : Spn := ⟨5, 1, 0, 0, 0, ⟨#[97]⟩, ⟨#[99]⟩, false⟩
theorem nmA : pr ⟨#[97]⟩ = 0 := by decide +kernel
theorem nmB : pr ⟨#[98]⟩ = 0 := by decide +kernel
theorem nmC : pr ⟨#[99]⟩ = 0 := by decide +kernel
theorem bmi : ll spA = 0 := by
 unfold ll spA
 simp only [nmA, nmB]
 decide
theorem bmo : ll spC = 0 := by
 unfold ll spC
 simp only [nmA, nmC]
 decide
def pkX (v : Value) : Pk := ⟨9, 5, ⟨1, 0⟩, ip, 0, false, v, ij, ij⟩
theorem bng (v : Value) : wrE (pkX v) [spA, spC] [] [] = true := by
 have h1 : qz 5 [spA, spC] = true := by
  have a := aao (tr := 5) (met := []) (s := spA) (r := [spC]) bmi rfl (by simp)
  have b := aao (tr := 5) (met := [] ++ [spA.id]) (s := spC) (r := []) bmo rfl (by simp [spA, spC])
  unfold qz
  rw [a, b]
  simp [sm]
 unfold wrE sn adp rm mo
 simp [pkX, lg, pm, pk, pj, me, ij, h1, avn]
theorem bjc (v : Value) : vu (pkX v) := by
 have u : ∀ x : Int, 0 ≤ x → x < 10 → tx x := fun x h1 h2 => ⟨h1, by omega⟩
 exact ⟨u 5 (by decide) (by decide), ⟨u 1 (by decide) (by decide), u 0 (by decide) (by decide)⟩, ⟨u 0 (by decide) (by decide), u 0 (by decide) (by decide)⟩⟩
theorem bnr : ∀ s ∈ [spA, spC], wg s := fun s hs => by
 have u : ∀ x : Int, 0 ≤ x → x < 10 → tx x := fun x h1 h2 => ⟨h1, by omega⟩
 rcases List.mem_cons.1 hs with rfl | hs
 ·exact ⟨u _ (by decide) (by decide), u _ (by decide) (by decide), u _ (by decide) (by decide), u _ (by decide) (by decide), u _ (by decide) (by decide)⟩
 ·rw [List.mem_singleton.1 hs]
  exact ⟨u _ (by decide) (by decide), u _ (by decide) (by decide), u _ (by decide) (by decide), u _ (by decide) (by decide), u _ (by decide) (by decide)⟩
theorem bnu : qf [spA, spC] = [1, 2] := by
 have e : qf [spA, spC] = Suint64.mw [2, 1] := rfl
 rw [e, Suint64.vg (List.Perm.swap 1 2 [])]
 exact List.mergeSort_of_pairwise (by simp)
theorem bbo {l : List Spn} (h1 : ot l) (h2 : l.Perm [spA, spC]) : l = [spC, spA] := by
 refine (aoh (h2.trans (List.Perm.swap _ _ _)) h1 ?_ ?_)
 ·simp [leS, spA, spC]
 ·intro x hx y hy he
  have hx' := h2.mem_iff.1 hx
  have hy' := h2.mem_iff.1 hy
  simp only [List.mem_cons, List.not_mem_nil, or_false] at hx' hy'
  rcases hx' with rfl | rfl <;> rcases hy' with rfl | rfl
  ·rfl
  ·simp [spA, spC] at he
  ·simp [spA, spC] at he
  ·rfl
theorem anu {w : World} {K : KV} (h : ∀ w', Fz w w' → K (.bool true) w') : gi P F.az [] w K := by
 rw [M.bs.fcall]
 apply M.bs.calls
 unfold M.bs
 refine anp (St.jp w) 10000 (fun h => by omega) fun _ _ w1 hb S1 => ?_
 simp
 refine adk (X := []) S1 (ajp 10000 256).vir rfl (by omega) (by simp [jm]) (fun m hm => by simp at hm) fun w2 q j s f L D _ I hmost hfl _ harm hroom hused _ hx S2 => ?_
 rw [List.take_nil] at I S2
 have hp0 : L.gy = [] := hx trivial
 simp only [jx]
 simp
 unfold M.bs.j0
 simp
 have S3 : St w (w2.alloc (.cells #[.int .u64 5, .int .u64 2, .int .u64 0, .int .u64 0, .int .u64 0, .string ⟨#[97]⟩, .string ⟨#[98]⟩, .bool false, .int .u64 5, .int .u64 1, .int .u64 0, .int .u64 0, .int .u64 0, .string ⟨#[97]⟩, .string ⟨#[99]⟩, .bool false] T.e)) (ky (.slice (some ⟨w2.heap.size, 0, none⟩) 2 2) [spA, spC] :: _) := St.uo (l := [spA, spC]) S2 mj rfl (by simp [maxLen])
 generalize w2.heap.size = rb at *
 generalize w2.alloc _ = w3 at *
 have ep : Value.agg #[.int .i64 9, .int .u64 5, .int .u64 1, .int .u64 0, .int .u64 0, .int .u64 0, .int .i64 0, .bool false, .slice (some ⟨rb, 0, none⟩) 2 2, .slice none 0 0, .slice none 0 0] = pkA (pkX (.slice (some ⟨rb, 0, none⟩) 2 2)) := rfl
 rw [ep]
 have hrng := bjc (.slice (some ⟨rb, 0, none⟩) 2 2)
 have hu : D.iz = 0 := azo I.abj hp0
 have hf0 : f = 0 := (I.abj.vir.nil hp0).2
 have S4 : St w w3 (ou q hb (jv []) L false :: il hb D :: ky (.slice (some ⟨rb, 0, none⟩) 2 2) [spA, spC] :: []) := St.dn2 S3
 have hfr : jw (jv []) [spA, spC] = [spA, spC] := rfl
 refine alt S4 (fun w' R' S' => ⟨(S'.perm List.perm_middle).row mj, Sl.nil, Sl.nil, by simp, by simp, by simp⟩) hrng bnr I (by rw [hf0]; simp) (bng _) (by rw [hp0]; simp) harm (by rw [hu, hroom]; simp) fun w5 v' v3 L2 D2 I2 hm2 ha2 hr2 hu2 hp2 S5 => ?_
 rw [hfr, bnu] at S5
 rw [hfr] at I2
 have hms : tt [] (pkX (.slice (some ⟨rb, 0, none⟩) 2 2)).b [spA, spC] = [(⟨1, 0⟩, [spA, spC])] := rfl
 rw [hms] at I2 S5
 simp
 have S6 := abx S5
 generalize w5.heap.size = tb at *
 generalize w5.alloc _ = w6 at *
 have one6 := aah (tr := (pkX (.slice (some ⟨rb, 0, none⟩) 2 2)).tr) (S5.rd : SlU w5 v' [1, 2])
 rw [acs]
 refine afi (q := tj (pkX (.slice (some ⟨rb, 0, none⟩) 2 2)).tr v') S6 rfl one6 fun w7 S7 => ?_
 refine bfb (kl := []) (S7.up4) (fun _ _ _ => Sl.nil) fun w8 S8 => ?_
 obtain ⟨c1, c2, c3, c4⟩ := bmy I2.abj.vir []
 refine adk (X := [(⟨1, 0⟩, [spA, spC])]) S8 c1 c2 (by omega) I2.iu I2.ok fun w9 q2 j s3 f3 L3 D3 hj I3 _ _ _ _ _ _ _ _ S9 => ?_
 have hjt : [((⟨1, 0⟩ : Bal), [spA, spC])].take j = [(⟨1, 0⟩, [spA, spC])] := List.take_of_length_le (by
  rw [List.length_take] at hj
  simp at hj ⊢
  omega)
 rw [hjt] at I3 S9
 have hes : jv [((⟨1, 0⟩ : Bal), [spA, spC])] = [(⟨1, 0⟩, spA), (⟨1, 0⟩, spC)] := rfl
 rw [hes] at S9
 have hsp : qh [((⟨1, 0⟩ : Bal), spA), (⟨1, 0⟩, spC)] 5 = [spA, spC] := rfl
 have hun : yb [((⟨1, 0⟩ : Bal), spA), (⟨1, 0⟩, spC)] := by rw [← hes]; exact adm _
 -- [sto, disk, tb, rd ids, rd fresh, sto old, row]
 obtain ⟨_, _, _, _, _, _, _, _, k10, _⟩ := jl S9.up2
 have li : ∀ w' K, biT P .len #[T.i] T.b [false] [v'] w' K = K (.int .i64 2) w' := fun w' K => (S9.up3.rd : SlU w9 v' [1, 2]).iy (by kernel_rfl) [false]
 have lf : ∀ w' K, biT P .len #[T.d] T.b [false] [v3] w' K = K (.int .i64 2) w' := fun w' K => (S9.up4.rd : SlS w9 v3 [spA, spC]).iy (by kernel_rfl) [false]
 obtain ⟨b1, o1, cap1, hv1, _, _, hc1⟩ := (S9.up3.rd : SlU w9 v' [1, 2]).at (i := 0) (by simp)
 have d1 : gr w9 b1 o1 = some (.int .u64 1) := by simpa using hc1 0 _ rfl
 have ia1 : ∀ w' K, iaT P T.i v' (.int .i64 0) w' K = K (.pointer (some ⟨b1, o1, none⟩)) w' := fun w' K => by
  rw [hv1, adr (by simp) (by omega) (by simp)]; simp
 simp [k10, li, lf, ia1, d1, tj, jx]
 refine ade S9 hun (by simp) 5 fun w10 v4 l4 g1 g2 S10 => ?_
 rw [hsp] at g2
 have hl4 := bbo g1 g2
 subst hl4
 have l4' : ∀ w' K, biT P .len #[T.d] T.b [false] [v4] w' K = K (.int .i64 2) w' := fun w' K => (S10.rd : SlS w10 v4 [spC, spA]).iy (by kernel_rfl) [false]
 simp [l4']
 refine ade S10.swap hun (by simp) 5 fun w11 v5 l5 g3 g4 S11 => ?_
 rw [hsp] at g4
 have hl5 := bbo g3 g4
 subst hl5
 obtain ⟨b2, o2, cap2, hv2, _, _, hc2⟩ := (S11.rd : SlS w11 v5 [spC, spA]).at (i := 0) (by simp)
 have d2 : gr w11 b2 (o2 + 1) = some (.int .u64 1) := by simpa [spC] using hc2 1 _ rfl
 have ia2 : ∀ w' K, iaT P T.d v5 (.int .i64 0) w' K = K (.pointer (some ⟨b2, o2, none⟩)) w' := fun w' K => by
  rw [hv2, adr (by simp) (by omega) (by simp)]; simp
 simp [ia2, d2]
 exact h w11 S11.fr
set_option maxRecDepth 100000
section
variable {w : World} {v : Value} {l : List Spn}
end
def aep (e : EnS) : List Value := [.int .u64 e.1.n, .int .u64 e.1.jf, .int .u64 e.2.iw, .int .u64 e.2.id, .int .u64 e.2.px, .int .u64 e.2.jp, .int .u64 e.2.len, .string e.2.kc, .string e.2.name, .bool e.2.tw]
theorem zu (e : EnS) : (aep e).length = 10 := rfl
theorem baw (e : EnS) : ∀ u ∈ aep e, kh u = true := fun u hu => by
 simp only [aep, List.mem_cons, List.not_mem_nil, or_false] at hu
 rcases hu with rfl | rfl | rfl | rfl | rfl | rfl | rfl | rfl | rfl | rfl <;> rfl
abbrev SlN (w : World) (v : Value) (l : List EnS) : Prop := Sl w 10 aep v l
def bpn (W : World) (es : List EnS) (x : Spn) (xb : Nat) : KL := fun v w1 => ∃ (u : Value) (i : Nat), v = [u, .int .i64 (i : Nat)] ∧ i ≤ es.length ∧ (∀ j (h : j < es.length), j < i → ¬ (es[j].2.iw = x.iw ∧ es[j].2.id = x.id)) ∧ St W w1 (spB xb x :: [])
section
variable {w : World} {v : Value} {es : List EnS}
theorem bdi (hs : SlN w v es) (hl : es.length ≤ 1000000) (x : Spn) {K : KV} (h : ∀ w', Fz w w' → K (.bool (rt es x)) w') : gi P F.eg [v, km x] w K := by
 rw [M.ce.fcall]
 apply M.ce.calls
 unfold M.ce
 refine St.tz (St.jp w) fun xb w1 S1 => ?_
 have S1' : St w w1 (spB xb x :: []) := S1
 have hlen : ∀ w' K, biT P .len #[T.af] T.b [false] [v] w' K = K (.int .i64 es.length) w' := fun w' K => hs.iy (by kernel_rfl) [false]
 simp [hlen]
 refine ⟨bpn w es x xb, fun x _ => es.length - ms x 1, ⟨_, 0, rfl, Nat.zero_le _, fun j _ h => by omega, S1'⟩, ?_⟩
 rintro y w2 ⟨u, i, rfl, hi, hz, S2⟩
 by_cases hil : i < es.length
 ·have hwi : IntKind.i64.wrap ((i : Int) + 1) = ((i + 1 : Nat) : Int) := by rw [ia]; rfl
  simp [hil]
  unfold M.ce.j2
  simp only [gp, qi]
  have S3 := S2.jo ((Fr.refl _ w2).dr 1)
  generalize Eng.dr w2 1 = w3 at *
  have hs3 : SlN w3 v es := hs.fr S3.fr fun _ _ _ h => h
  obtain ⟨ab, ao, cap, hv, _, _, hc⟩ := hs3.at hil
  have hia : ∀ w' K, iaT P T.af v (.int .i64 (i : Nat)) w' K = K (.pointer (some ⟨ab, ao + i * 10, none⟩)) w' := fun w' K => by
   rw [hv, adr (by kernel_rfl) (by omega) (by omega), show szE P T.af = 10 from by kernel_rfl]
   simp
  obtain ⟨x0, x1, _⟩ := sg S3
  have e2 : gr w3 ab (ao + i * 10 + 2) = some (.int .u64 es[i].2.iw) := hc 2 _ rfl
  have e3 : gr w3 ab (ao + i * 10 + 2 + 1) = some (.int .u64 es[i].2.id) := hc 3 _ rfl
  by_cases h1 : es[i].2.iw = x.iw
  ·by_cases h2 : es[i].2.id = x.id
   ·have hh : rt es x = true := by
     unfold rt
     rw [List.any_eq_true]
     exact ⟨es[i], List.getElem_mem hil, by simp [h1, h2]⟩
    rw [hh] at h
    simp [hia, x0, x1, e2, e3, h1, h2]
    exact h w3 S3.fr
   ·simp [hia, x0, x1, e2, e3, h1, h2]
    rw [hwi]
    refine ⟨⟨_, i + 1, rfl, by omega, fun j hj hji => ?_, S3⟩, by simp [ms, gv]; omega⟩
    by_cases hje : j = i
    ·subst hje; exact fun hh => h2 hh.2
    ·exact hz j hj (by omega)
  ·simp [hia, x0, x1, e2, e3, h1]
   rw [hwi]
   refine ⟨⟨_, i + 1, rfl, by omega, fun j hj hji => ?_, S3⟩, by simp [ms, gv]; omega⟩
   by_cases hje : j = i
   ·subst hje; exact fun hh => h1 hh.1
   ·exact hz j hj (by omega)
 ·have hie : i = es.length := by omega
  have hh : rt es x = false := by
   unfold rt
   rw [List.any_eq_false]
   intro e he
   obtain ⟨j, hj, rfl⟩ := List.getElem_of_mem he
   have := hz j hj (by omega)
   simp
   exact fun a b => this ⟨a, b⟩
  rw [hh] at h
  simp [hil]
  exact h w2 S2.fr
end
abbrev ayw (v : Value) (l : List EnS) : Asn := ni T.ar 10 aep v l
def blr (W : World) (es : List EnS) (p : Pk) (ls : List Spn) (pb : Nat) : KL := fun x w1 => ∃ (vo : Value) (i : Nat), x = [vo, .int .i64 (i : Nat)] ∧ i ≤ ls.length ∧ St W w1 (ayw vo ((jw es (ls.take i)).map fun x => (p.b, x)) :: ii pb (pkC p).toArray T.a :: [])
section
variable {w : World} {v : Value} {es : List EnS} {p : Pk} {ls : List Spn} {lm : List Mem} {lu : List Int}
theorem blh {e : TypeId} {sz : Nat} {α : Type} {enc : α → List Value} {w w' : World} {vo : Value} {l : List α} {R : List Asn} (S : St w w' (ni e sz enc vo l :: R)) : Ow w' w.heap.size e sz enc vo l := by
 obtain ⟨B, ⟨k1, k2⟩, hB, _⟩ := S.open
 refine ⟨k1.1, ?_⟩
 rcases k1.2 with h | ⟨g, cap, cur, hv, _, h3, h4⟩
 ·exact .inl h
 ·exact .inr ⟨g, cap, cur, hv, (hB g (k2 g (by rw [hv]; rfl))).1, h3, h4⟩
theorem ajj (hs : SlN w v es) (hl : es.length ≤ 1000000) (hp : pn w p ls lm lu) {K : KV}
  (h : ∀ w' v', Ow w' w.heap.size T.ar 10 aep v' ((jw es ls).map fun x => (p.b, x)) → Fz w w' → K v' w') : gi P F.cp [v, pkA p] w K := by
 rw [M.bb.fcall]
 apply M.bb.calls
 unfold M.bb
 refine St.tz (St.jp w) fun pb w1 S1 => ?_
 have S1' : St w w1 (ii pb (pkC p).toArray T.a :: []) := S1
 have S2 : St w w1 (ayw (.slice none 0 0) ((jw es (ls.take 0)).map fun x => (p.b, x)) :: ii pb (pkC p).toArray T.a :: []) := Go.Eng.rg S1'
 simp only [gp]
 refine ⟨blr w es p ls pb, fun x _ => ls.length - ms x 1, ⟨_, 0, rfl, Nat.zero_le _, S2⟩, ?_⟩
 rintro y w2 ⟨vo, i, rfl, hi, S3⟩
 obtain ⟨_, _, c2, _, _, _, c8, _⟩ := jl S3.swap
 obtain ⟨⟨sa, sc, hsv⟩, _, _⟩ := hp.one
 have hsl : SlS w2 p.sv ls := hp.s.fr S3.fr fun _ _ _ h => h
 have hlen : ∀ w' K, biT P .len #[T.d] T.b [false] [p.sv] w' K = K (.int .i64 ls.length) w' := fun w' K => hsl.iy (by kernel_rfl) [false]
 have q0 : gv [vo, Value.int .i64 (i : Nat)] 0 = vo := rfl
 have q1 : gv [vo, Value.int .i64 (i : Nat)] 1 = .int .i64 (i : Nat) := rfl
 unfold M.bb.j1
 simp only [gp, q1]
 have hsv8 : ∀ {w' : World} {L : List Asn}, St w w' (L ++ (ii pb (pkC p).toArray T.a :: [])) → gr w' pb 8 = some p.sv := fun S' => (jl (S'.perm List.perm_middle)).2.2.2.2.2.2.1
 by_cases hil : i < ls.length
 ·have hwi : IntKind.i64.wrap ((i : Int) + 1) = ((i + 1 : Nat) : Int) := by rw [ia (by omega) (by have := hp.ls; omega)]; rfl
  simp [c8, hlen, hil]
  unfold M.bb.j2
  obtain ⟨ab, ao, cap, hv, _, _, hc⟩ := hsl.at hil
  have hia : ∀ w' K, iaT P T.d p.sv (.int .i64 (i : Nat)) w' K = K (.pointer (some ⟨ab, ao + i * 8, none⟩)) w' := fun w' K => by rw [hv]; simp [hil]
  have hld : ∀ {w'}, Fz w w' → ∀ K, ldN P 8 ab (ao + i * 8) w' K = K (km ls[i]) w' := fun {w'} f K => by
   obtain ⟨ab', ao', cap', hv', _, _, hc'⟩ := (hp.s.fr f fun _ _ _ h => h : SlS w' p.sv ls).at hil
   rw [hv] at hv'
   injection hv' with q1 _ _
   injection q1 with q1
   injection q1 with q1 q2 _
   subst q1 q2
   exact qy (ir ls[i]) 8 rfl hc' K
  have l2 := hld S3.fr
  have ett : jw es (ls.take (i + 1)) = jw es (ls.take i) ++ (if rt es ls[i] = true then [] else [ls[i]]) := by
   unfold jw
   rw [List.take_add_one, List.getElem?_eq_getElem hil, List.filter_append]
   congr 1
   cases hh : rt es ls[i] <;> simp [hh]
  have next : ∀ vo' w', St w w' (ayw vo' ((jw es (ls.take (i + 1))).map fun x => (p.b, x)) :: ii pb (pkC p).toArray T.a :: []) → blr w es p ls pb [vo', .int .i64 ((i + 1 : Nat) : Int)] w' ∧ ls.length - ms [vo', .int .i64 ((i + 1 : Nat) : Int)] 1 < ls.length - ms [vo, .int .i64 (i : Nat)] 1 := fun vo' w' S' => ⟨⟨vo', i + 1, rfl, by omega, S'⟩, by simp [ms, gv]; omega⟩
  simp [c8, hia, l2]
  refine bdi (hs.fr S3.fr fun _ _ _ h => h) hl ls[i] fun w3 f3 => ?_
  have S4 := S3.jo f3
  cases hh : rt es ls[i] with
  | true =>
   rw [hh] at ett
   simp only [if_true, List.append_nil] at ett
   simp
   rw [hwi]
   refine next _ w3 ?_
   rw [ett]; exact S4
  | false =>
   rw [hh] at ett
   simp only [Bool.false_eq_true, if_false] at ett
   simp only [Eng.cond_true, atu, Bool.not_false, qi]
   have S5 := S4.jo ((Fr.refl _ w3).dr 1)
   generalize Eng.dr w3 1 = w4 at *
   obtain ⟨_, _, d2, _, _, _, d8, _⟩ := jl S5.swap
   have l4 := hld S5.fr
   unfold ku at d2
   unfold km at l4
   simp [d2, d8, hia, l4]
   have S6 : St w (w4.alloc (.cells #[.int .u64 p.b.n, .int .u64 p.b.jf, .int .u64 ls[i].iw, .int .u64 ls[i].id, .int .u64 ls[i].px, .int .u64 ls[i].jp, .int .u64 ls[i].len, .string ls[i].kc, .string ls[i].name, .bool ls[i].tw] T.ar)) (ayw (.slice (some ⟨w4.heap.size, 0, none⟩) 1 1) [(p.b, ls[i])] :: _) := St.uo (l := [(p.b, ls[i])]) S5 zu rfl (by simp [maxLen])
   refine Go.Eng.td et.af zu baw S6.swap (S6.row zu) (by
    have h1 : (jw es (ls.take i)).length ≤ (ls.take i).length := List.length_filter_le _ _
    have := hp.ls
    simp at h1 ⊢; omega) (by decide) fun w5 v5 S7 => ?_
   rw [hwi]
   refine next _ w5 ?_
   rw [ett, List.map_append]
   exact S7.swap.drop
 ·have hie : i = ls.length := by omega
  simp [c8, hlen, hil]
  rw [hie, List.take_length] at S3
  exact h w2 vo (blh S3) S3.fr
end
section
variable {w : World} {v : Value} {es : List EnS}
end
section
variable {w0 w : World} {R : List Asn} {p : Pk} {ls : List Spn} {lm : List Mem} {lu : List Int} {pb tb : Nat}
end
section
variable {w0 w : World} {R : List Asn} {hb : Nat} {D : Dk} {p : Pk} {ls : List Spn} {lm : List Mem} {lu : List Int}
theorem apv (hp : pn w p ls lm lu) (hr : vu p) (hls : LsR ls lm lu) {K : KV} (h : ∀ w', Fz w w' → K (.bool (wrE p ls lm lu)) w') : gi P F.dl [pkA p] w K := by
 rw [M.cz.fcall]
 apply M.cz.calls
 unfold M.cz
 refine St.tz (St.jp w) fun pb w1 S1 => ?_
 have S1' : St w w1 (ii pb (pkC p).toArray T.a :: []) := S1
 obtain ⟨c0, _⟩ := jl S1'
 have pl := fun K => wj S1' K
 unfold wrE at h
 by_cases hk : p.ie = 9
 ·simp [c0, hk, pl]
  refine apn (hp.fr S1'.fr) hr (fun m hm => (hls.m m hm).1) (fun m hm => (hls.u m hm).1) fun w2 f2 => ?_
  have S2 := S1'.jo f2
  have := h w2 S2.fr
  unfold aap
  cases he : sn p ls lm lu with
  | true => rw [he] at this; simp [hk] at this; simp; exact this
  | false => rw [he] at this; simp [hk] at this; simp; exact this
 ·have := h w1 S1'.fr
  simp [hk] at this
  simp [c0, hk]
  exact this
end
section
variable {w0 w : World} {R : List Asn} {v1 v2 : Value} {l1 l2 : List Spn}
end
def boi (W : World) (l1 l2 : List Int) : KL := fun x w1 => ∃ (u : Value) (i : Nat), x = [u, .int .i64 (i : Nat)] ∧ i ≤ l1.length ∧ (∀ j (h1 : j < l1.length) (h2 : j < l2.length), j < i → l1[j] = l2[j]) ∧ Fz W w1
def bpb (W : World) (l1 : List Spn) (l2 : List Spn) : KL := fun x w1 => ∃ (a : Value) (i : Nat), x = [a, .int .i64 (i : Nat)] ∧ i ≤ l1.length ∧ Fz W w1
theorem bab {w : World} {v1 v2 : Value} {l1 l2 : List Int} (s1 : SlU w v1 l1) (s2 : SlU w v2 l2) (hlen : l1.length ≤ 1000000) {K : KV} (h : ∀ w', Fz w w' → K (.bool (decide (l1 = l2))) w') : gi P F.dm [v1, v2] w K := by
 rw [M.bc.fcall]
 apply M.bc.calls
 unfold M.bc
 have k1 : ∀ w' K, biT P .len #[T.i] T.b [false] [v1] w' K = K (.int .i64 l1.length) w' := fun w' K => s1.iy (by kernel_rfl) [false]
 have k2 : ∀ w' K, biT P .len #[T.i] T.b [false] [v2] w' K = K (.int .i64 l2.length) w' := fun w' K => s2.iy (by kernel_rfl) [false]
 by_cases hne : l1.length = l2.length
 case neg =>
  have hne' : ¬ (l1.length : Int) = (l2.length : Int) := by omega
  simp [k1, k2, hne']
  have := h w (Fr.refl _ _)
  rwa [decide_eq_false fun he => hne (congrArg List.length he)] at this
 have hne' : (l1.length : Int) = (l2.length : Int) := by omega
 simp [k1, k2, hne']
 unfold M.bc.j0
 simp only [gp]
 refine ⟨boi w l1 l2, fun x _ => l1.length - ms x 1, ⟨_, 0, rfl, Nat.zero_le _, fun j _ _ h => by omega, Fr.refl _ _⟩, ?_⟩
 rintro x w1 ⟨u, i, rfl, hi, hpre, f1⟩
 by_cases hil : i < l1.length
 ·have hil2 : i < l2.length := by omega
  have hwi : IntKind.i64.wrap ((i : Int) + 1) = ((i + 1 : Nat) : Int) := by rw [ia]; rfl
  obtain ⟨b1, o1, c1, e1, _, _, g1⟩ := (s1.fr f1 fun _ _ _ h => h : SlU w1 v1 l1).at hil
  obtain ⟨b2, o2, c2, e2, _, _, g2⟩ := (s2.fr f1 fun _ _ _ h => h : SlU w1 v2 l2).at hil2
  have i1 : ∀ w' K, iaT P T.i v1 (.int .i64 (i : Nat)) w' K = K (.pointer (some ⟨b1, o1 + i, none⟩)) w' := fun w' K => by rw [e1]; simp [hil]
  have i2 : ∀ w' K, iaT P T.i v2 (.int .i64 (i : Nat)) w' K = K (.pointer (some ⟨b2, o2 + i, none⟩)) w' := fun w' K => by rw [e2]; simp [hil2]
  have d1 : gr w1 b1 (o1 + i) = some (.int .u64 l1[i]) := by simpa using g1 0 _ rfl
  have d2 : gr w1 b2 (o2 + i) = some (.int .u64 l2[i]) := by simpa using g2 0 _ rfl
  simp [k1, hil]
  unfold M.bc.j3
  by_cases he : l1[i] = l2[i]
  ·simp [i1, i2, d1, d2, he, hwi]
   refine ⟨⟨_, i + 1, rfl, by omega, fun j a1 a2 hj => ?_, f1.dr 1⟩, by simp [ms, gv]; omega⟩
   by_cases hji : j = i
   ·subst hji; exact he
   ·exact hpre j a1 a2 (by omega)
  ·simp [i1, i2, d1, d2, he]
   have := h _ (f1.dr 1)
   rwa [decide_eq_false fun hee => he (by simp [hee])] at this
 ·simp [k1, hil]
  have := h _ f1
  rwa [decide_eq_true (alc hne fun j a1 a2 => hpre j a1 a2 (by omega))] at this
theorem beg {w : World} {v1 v2 : Value} {l1 l2 : List Spn} (h1 : SlS w v1 l1) (h2 : SlS w v2 l2) (hn : l1.length < 1000000) {K : KV}
  (h : ∀ w' bb, (l1 = l2 → bb = true) → (bb = true → l1.length = l2.length) → Fz w w' → K (.bool bb) w') : gi P F.bp [v1, v2] w K := by
 rw [M.l.fcall]
 by_cases hne : l1.length = l2.length
 case neg =>
  apply M.l.calls
  unfold M.l
  simp only [gp]
  rw [h1.iy (by simp), h2.iy (by simp)]
  have hne' : ¬ (l1.length : Int) = (l2.length : Int) := by omega
  simp [hne']
  exact h w false (fun he => absurd (congrArg List.length he) hne) (fun hb => by cases hb) (Fr.refl _ _)
 by_cases heq : l1 = l2
 ·subst heq
  exact bij h1 h2 hn ⟨rfl, fun j _ _ => ami _⟩ fun w' f => h w' true (fun _ => rfl) (fun _ => rfl) f
 have hx : ∀ bb w', Fz w w' → K (.bool bb) w' := fun bb w' f => h w' bb (fun he => absurd he heq) (fun _ => hne) f
 apply M.l.calls
 unfold M.l
 simp only [gp]
 rw [h1.iy (by simp), h2.iy (by simp)]
 simp [hne]
 unfold M.l.j0
 simp only [gp]
 refine ⟨bpb w l1 l2, fun x _ => l1.length - ms x 1, ⟨_, 0, rfl, Nat.zero_le _, Fr.refl _ _⟩, ?_⟩
 rintro x w1 ⟨a, i, rfl, hin, hf1⟩
 have g1 : gv [a, .int .i64 (i : Int)] 1 = .int .i64 (i : Int) := rfl
 simp only [g1]
 have hr1 : SlS w1 v1 l1 := h1.fr hf1 fun _ _ _ h => h
 have hr2 : SlS w1 v2 l2 := h2.fr hf1 fun _ _ _ h => h
 rw [hr1.iy (by simp)]
 by_cases hlt : i < l1.length
 ·have hlt2 : i < l2.length := by omega
  obtain ⟨b1, o1, c1, rfl, _, _, k1⟩ := hr1.at hlt
  obtain ⟨b2, o2, c2, rfl, _, _, k2⟩ := hr2.at hlt2
  have hw : IntKind.i64.wrap ((i : Int) + 1) = ((i + 1 : Nat) : Int) := by rw [ia]; rfl
  have d1 : ∀ K, ldN P 8 b1 (o1 + i * 8) (dr w1 1) K = K (km l1[i]) (dr w1 1) := fun K => ldS (w := dr w1 1) k1 K
  have d2 : ∀ K, ldN P 8 b2 (o2 + i * 8) (dr w1 1) K = K (km l2[i]) (dr w1 1) := fun K => ldS (w := dr w1 1) k2 K
  simp [hlt]
  unfold M.l.j3
  simp only [gp, g1]
  cases hs : uu l1[i] l2[i] with
  | true =>
   simp [hlt, hlt2, d1, d2, abz, hs, hw]
   exact ⟨⟨_, i + 1, rfl, by omega, hf1.dr 1⟩, by simp [ms, gv]; omega⟩
  | false =>
   simp [hlt, hlt2, d1, d2, abz, hs]
   exact hx _ _ (hf1.dr 1)
 ·simp [hlt]
  exact hx _ _ hf1
section
variable {w0 w : World} {R : List Asn} {q hb : Nat} {es m : List EnS} {L : Lg} {dn : Bool} {mv : Value}
end
structure ayh where
 ie : Int
 n : Int
 p : Pk
 ls : List Spn
 lm : List Mem
 lu : List Int
 kv : Value
 jy : List Int
section
variable {w0 w w' : World} {R : List Asn} {v : Value} {l : List ayh}
end
section
variable {W w : World} {q hb n : Nat} {ms : List WrM} {ik : Int} {mv a1 t32 : Value} {l : List ayh}
end
section
variable {W w : World} {q hb n : Nat} {ms : List WrM} {ik : Int} {mv a1 : Value} {l : List ayh}
end
section
variable {s f ik B : Int} {arm : Bool} {jb : Int} {ms ms2 : List WrM} {b : Bal} {l : List Spn} {e : Int} {dn : Bool} {L : Lg} {D : Dk}
end
section
variable {W w : World} {q hb : Nat} {ms : List WrM} {ik : Int} {mv a1 : Value} {l : List ayh}
end
structure PkE where
 p : Pk
 ls : List Spn
 lm : List Mem
 lu : List Int
def agc (w : World) (b o : Nat) (x : PkE) : Prop := (∀ j u, (pkC x.p)[j]? = some u → gr w b (o + j) = some u) ∧ zq w x.p x.ls x.lm x.lu ∧ vu x.p ∧ LsR x.ls x.lm x.lu
theorem bli {w : World} {n : Nat} {v : Value} (h : TV P w n T.u [v]) : ∃ l, xr w 11 agc v l := by
 have hel := et.u
 refine agb (sz := 11) (rd := agc) (e := T.a) hel.ty (by kernel_rfl) (by decide) (fun n b o cs ht hl hc => ?_) h
 obtain ⟨p, ls, lm, lu, ep, hp, hr, hls⟩ := boc ht
 exact ⟨⟨p, ls, lm, lu⟩, fun j u hj => hc j u (by rw [ep]; exact hj), hp, hr, hls⟩
section
variable {w0 w w' : World} {R : List Asn} {v : Value} {l : List PkE}
theorem acf {b o : Nat} {x : PkE} (hb : b < w.heap.size) (h : agc w b o x) (hf : Fz w w') : agc w' b o x :=
 ⟨fun j u hj => by rw [wd (hf.jy b hb fun h => h)]; exact h.1 j u hj, h.2.1.fr hf, h.2.2.1, h.2.2.2⟩
theorem aej (h : xr w 11 agc v l) {i : Nat} (hi : i < l.length) : ∃ b o, (∀ w' K, iaT P T.u v (.int .i64 (i : Nat)) w' K = K (.pointer (some ⟨b, o, none⟩)) w') ∧ b < w.heap.size ∧ agc w b o l[i] := by
 have hss : szE P T.u = 11 := by kernel_rfl
 obtain ⟨a, cap, hv, _, _, h3⟩ := h
 obtain ⟨b, o, rfl, hb, hr⟩ := h3 i l[i] (List.getElem?_eq_getElem hi)
 exact ⟨b, o + i * 11, fun w' K => by rw [hv]; simp [hi], hb, hr⟩
theorem aer {b o : Nat} {x : PkE} (h : agc w b o x) (K : KV) : ldN P 11 b o w K = K (pkA x.p) w := qy (pkC x.p) 11 rfl (fun k u hk => h.1 k u hk) K
end
open Go.Eng
section
variable {B B' : Int} {n n' : Nat} {m : abg} {T : List PkE} {dn : Bool} {L : Lg} {D : Dk} {w0 w : World} {q hb : Nat} {R : List Asn}
end
def bhv (u : Value) : Value := if kh u = true then u else .slice none 0 0
def abh (x : PkE) : List Value := (pkC x.p).map bhv
theorem afy (x : PkE) : (abh x).length = 11 := by unfold abh; simp [pkC]
theorem aql (x : PkE) : ∀ u ∈ abh x, kh u = true := fun u hu => by
 unfold abh at hu
 obtain ⟨v, _, rfl⟩ := List.mem_map.1 hu
 unfold bhv
 split
 ·assumption
 ·rfl
theorem axl {w : World} {x : PkE} (h : zq w x.p x.ls x.lm x.lu) (h1 : ∀ u ∈ pkC x.p, kh u = true) : abh x = pkC x.p := by
 unfold abh
 rw [List.map_congr_left (g := id) fun u hu => by unfold bhv; rw [if_pos (h1 u hu)]; rfl, List.map_id]
abbrev anz (v : Value) (tl : List PkE) : Asn := ni T.a 11 abh v tl
theorem adl : ∀ {l : List Bal} {a : Bal}, (qm a l = a ∨ qm a l ∈ l) ∧ (qm a l).qk a = false ∧ ∀ x ∈ l, (qm a l).qk x = false
 | [], a => ⟨.inl rfl, bid a, fun x hx => by simp at hx⟩
 | b :: r, a => by
  have e : qm a (b :: r) = qm (if a.qk b = true then b else a) r := rfl
  rw [e]
  cases h : a.qk b with
  | true =>
   simp only [if_true]
   obtain ⟨h1, h2, h3⟩ := adl (l := r) (a := b)
   have hba : b.qk a = false := by
    cases hh : b.qk a with
    | false => rfl
    | true =>
     simp only [Bal.qk, decide_eq_true_eq] at hh h
     omega
   refine ⟨h1.elim (fun h => .inr (by rw [h]; exact List.mem_cons_self ..)) fun h => .inr (List.mem_cons_of_mem _ h), alf h2 hba, fun x hx => ?_⟩
   rcases List.mem_cons.1 hx with rfl | hx
   ·exact h2
   ·exact h3 x hx
  | false =>
   simp only [Bool.false_eq_true, if_false]
   obtain ⟨h1, h2, h3⟩ := adl (l := r) (a := a)
   refine ⟨h1.imp id fun h => List.mem_cons_of_mem _ h, h2, fun x hx => ?_⟩
   rcases List.mem_cons.1 hx with rfl | hx
   ·exact alf h2 h
   ·exact h3 x hx
theorem bdo {l l' : List Bal} (h : l.Perm l') (a : Bal) : qm a l = qm a l' := by
 obtain ⟨a1, a2, a3⟩ := adl (l := l) (a := a)
 obtain ⟨b1, b2, b3⟩ := adl (l := l') (a := a)
 refine bki ?_ ?_
 ·rcases b1 with b1 | b1
  ·rw [b1]; exact a2
  ·exact a3 _ (h.mem_iff.2 b1)
 ·rcases a1 with a1 | a1
  ·rw [a1]; exact b2
  ·exact b3 _ (h.mem_iff.1 a1)
theorem beu {es es' : List EnS} (h : es.Perm es') (t : Int) : (qh es t).Perm (qh es' t) := (h.filter _).map _
theorem bhe {es es' : List EnS} (h : es.Perm es') (t : Int) : bOf es t = bOf es' t := bdo ((h.filter _).map _) _
theorem bhq {es es' : List EnS} (h : es.Perm es') : Suint64.mw (nt es) = Suint64.mw (nt es') := by
 refine Suint64.vg ((List.perm_ext_iff_of_nodup (zf es) (zf es')).2 fun t => ?_)
 rw [aei, aei]
 exact ⟨fun ⟨e, he, h1⟩ => ⟨e, h.mem_iff.1 he, h1⟩, fun ⟨e, he, h1⟩ => ⟨e, h.mem_iff.2 he, h1⟩⟩
def aje (xs : List PkE) : List EnS := xs.flatMap fun x => x.ls.map fun s => (x.p.b, s)
def zv (x y : PkE) : Prop := ∀ s ∈ x.ls, ∀ t ∈ y.ls, ¬ (s.iw = t.iw ∧ s.id = t.id)
theorem zv.symm {x y : PkE} (h : zv x y) : zv y x := fun s hs t ht he => h t ht s hs ⟨he.1.symm, he.2.symm⟩
theorem azc (xs : List PkE) (x : PkE) : aje (xs ++ [x]) = aje xs ++ x.ls.map fun s => (x.p.b, s) := by unfold aje; rw [List.flatMap_append]; simp
theorem ark {es : List EnS} {s : Spn} : rt es s = false ↔ ∀ e ∈ es, ¬ (e.2.iw = s.iw ∧ e.2.id = s.id) := by
 unfold rt
 rw [List.any_eq_false]
 refine forall_congr' fun e => forall_congr' fun _ => ?_
 simp
theorem aoq {es : List EnS} {l : List Spn} (h : ∀ s ∈ l, rt es s = false) : jw es l = l := List.filter_eq_self.2 fun s hs => by simp [h s hs]
theorem bcy {es : List EnS} {l : List Spn} (h : (jw es l).length = l.length) : ∀ s ∈ l, rt es s = false := fun s hs => by
 have := List.filter_eq_self.1 (List.filter_sublist.eq_of_length h) s hs
 simpa using this
theorem avs {xs : List PkE} {y : PkE} (h : ∀ x ∈ xs, zv x y) : jw (aje xs) y.ls = y.ls := aoq fun s hs => ark.2 fun e he => by
 obtain ⟨x, hx, h1⟩ := List.mem_flatMap.1 he
 obtain ⟨t, ht, rfl⟩ := List.mem_map.1 h1
 exact h x hx t ht s hs
theorem auu {x y : PkE} (h : (jw (x.ls.map fun s => (x.p.b, s)) y.ls).length = y.ls.length) : zv x y := fun s hs t ht he =>
 ark.1 (bcy h t ht) (x.p.b, s) (List.mem_map.2 ⟨s, hs, rfl⟩) he
theorem baz {α : Type} {l : List α} {a b : Nat} (ha : a < l.length) (hb : b < l.length) : ((l.set a l[b]).set b l[a]).Perm l := by
 exact List.set_set_perm ha hb
theorem aun {l : List PkE} (h : l.Pairwise zv) {i : Nat} (hi : i < l.length) : ∀ x ∈ l.take i, zv x l[i] := fun x hx => by
 obtain ⟨j, hj, rfl⟩ := List.mem_iff_getElem.1 hx
 simp only [List.length_take] at hj
 rw [List.getElem_take]
 exact List.pairwise_iff_getElem.1 h j i (by omega) hi (by omega)
def PiI (W : World) (l : List PkE) (i : Nat) (hi : i < l.length) : KL := fun x w1 => ∃ (u : Value) (j : Nat), x = [u, .int .i64 (j : Nat)] ∧ j ≤ i ∧ (∀ k (h : k < l.length), k < j → zv l[k] l[i]) ∧ Fz W w1
section
variable {W w : World} {a0 : Value} {l : List PkE}
theorem bgs (hs : xr W 11 agc a0 l) (f : Fz W w) {i : Nat} (hi : i < l.length) (hl : l.length ≤ 20) {x2 : List Value} (g2 : gv x2 2 = .int .i64 (i : Nat)) (hj : ∀ j (h : j < l.length), j < i → ahb l[j].ls l[j].lm l[j].lu) {K2 : KL} {K : KV} (hK : ∀ w', Fz W w' → K (.bool true) w')
  (h2 : ∀ x' w', Fz W w' → gv x' 2 = .int .i64 ((i + 1 : Nat) : Int) → ahb l[i].ls l[i].lm l[i].lu → wrE l[i].p l[i].ls l[i].lm l[i].lu = true → (∀ j (h : j < l.length), j < i → zv l[j] l[i]) → K2 x' w') : M.b.j3 a0 x2 K2 w K := by
 have hwi : IntKind.i64.wrap ((i : Int) + 1) = ((i + 1 : Nat) : Int) := by rw [ia]; rfl
 have ex : ∀ {w'}, Fz W w' → (gi P F.az [] w' fun v w => K v w) := fun f => anu fun w'' f'' => hK w'' (f.trans f'')
 obtain ⟨b, o, hia, hb, hr⟩ := aej hs hi
 have ld : ∀ {w'}, Fz W w' → ∀ K, ldN P 11 b o w' K = K (pkA l[i].p) w' := fun f K => aer (acf hb hr f) K
 have l0 := ld f
 unfold M.b.j3
 rw [g2]
 simp [hia, l0]
 refine bcp (hr.2.1.fr f) fun b1 w1 hb1 f1 => ?_
 have F1 := f.trans f1
 cases b1 with
 | false =>
  simp
  exact ex F1
 | true =>
 have hP : pn W l[i].p l[i].ls l[i].lm l[i].lu := hr.2.1.ajd (hb1 rfl)
 have l1 := ld F1
 simp [hia, l1]
 refine apv (hP.fr F1) hr.2.2.1 hr.2.2.2 fun w2 f2 => ?_
 have F2 := F1.trans f2
 cases hw : wrE l[i].p l[i].ls l[i].lm l[i].lu with
 | false =>
  simp
  exact ex F2
 | true =>
 obtain ⟨_, Wp⟩ := ajc hw
 simp
 refine ⟨PiI W l i hi, fun x _ => i - ms x 1, ⟨_, 0, rfl, Nat.zero_le _, fun k _ h => by omega, F2⟩, ?_⟩
 rintro x w3 ⟨u, j, rfl, hji, hdis, F3⟩
 by_cases hjl : j < i
 ·have hjl' : (j : Int) < (i : Int) := by omega
  have hwj : IntKind.i64.wrap ((j : Int) + 1) = ((j + 1 : Nat) : Int) := by rw [ia]; rfl
  simp [hjl]
  unfold M.b.j7
  simp only [gp, qi]
  have F4 : Fz W (dr w3 1) := F3.dr 1
  generalize dr w3 1 = w4 at *
  have hjl2 : j < l.length := by omega
  obtain ⟨bj, oj, hiaj, hbj, hrj⟩ := aej hs hjl2
  have hPj : pn W l[j].p l[j].ls l[j].lm l[j].lu := hrj.2.1.ajd (hj j hjl2 hjl)
  have lj := fun K => aer (acf hbj hrj F4) K
  have li := ld F4
  have cs : ∀ {w'}, Fz W w' → gr w' b (o + 8) = some l[i].p.sv := fun f => (acf hb hr f).1 8 _ rfl
  have hlen : ∀ w' K, biT P .len #[T.d] T.b [false] [l[i].p.sv] w' K = K (.int .i64 l[i].ls.length) w' := fun w' K => hP.s.iy (by kernel_rfl) [false]
  have c4 := cs F4
  simp [g2, hia, hiaj, lj, li, c4, hlen]
  refine ajj (Sl.nil : SlN w4 (.slice none 0 0) []) (by simp) (hPj.fr F4) fun w5 fv o5 f5 => ?_
  have F5 := F4.trans f5
  have e5 : jw [] l[j].ls = l[j].ls := aoq fun _ _ => rfl
  rw [e5] at o5
  have li5 := ld F5
  have c5 := cs F5
  simp [g2, hia, li5, c5, hlen]
  have hlj : l[j].ls.length ≤ 1000000 := hPj.ls
  refine ajj (o5.sl zu) (by rw [List.length_map]; exact hlj) (hP.fr F5) fun w6 fv2 o6 f6 => ?_
  have F6 := F5.trans f6
  have c6 := cs F6
  have hl2 : ∀ w' K, biT P .len #[T.af] T.b [false] [fv2] w' K = K (.int .i64 (jw (l[j].ls.map fun x => (l[j].p.b, x)) l[i].ls).length) w' := fun w' K => by
   have := (o6.sl zu).iy (P := P) (t := T.af) (ty := T.b) (w := w') (by kernel_rfl) [false] (K := K)
   rwa [List.length_map] at this
  simp [c6, hl2]
  by_cases hne : (jw (l[j].ls.map fun x => (l[j].p.b, x)) l[i].ls).length = l[i].ls.length
  ·simp [hne]
   rw [hwj]
   refine ⟨⟨_, j + 1, rfl, by omega, fun k hk hkj => ?_, F6⟩, by simp [ms, gv]; omega⟩
   by_cases hkk : k = j
   ·subst hkk; exact auu hne
   ·exact hdis k hk (by omega)
  ·have hne' : ¬ ((jw (l[j].ls.map fun x => (l[j].p.b, x)) l[i].ls).length : Int) = (l[i].ls.length : Int) := by omega
   simp [hne']
   exact ex F6
 ·have hje : j = i := by omega
  subst hje
  simp
  rw [hwi]
  exact h2 _ w3 F3 rfl (hb1 rfl) hw hdis
end
structure WOk (L : Lg) (D : Dk) (s f : Int) (ms : List WrM) (n : Nat) (xs : List PkE) : Prop where
 I : SI s f L D ms
 ik : L.ik = 5000
 len : f + ms.length ≤ n
 gy : L.gy.length ≤ n
 arm : D.jt = false
 jb : D.jb = 1048576
 iz : D.iz ≤ 1752 * n
 blf : jv ms = aje xs
section
variable {W w : World} {q hb q2 hb2 n : Nat} {ms ms2 : List WrM} {l xs m : List PkE} {L L2 : Lg} {D D2 : Dk} {s f s2 f2 : Int} {R : List Asn} {a0 mv : Value}
theorem aok {y : PkE} (S : St W w (ou q hb (jv ms) L false :: il hb D :: R)) (o : WOk L D s f ms n xs) (hn : n ≤ 20) (hP : pn W y.p y.ls y.lm y.lu) (hr : vu y.p) (hl : LsR y.ls y.lm y.lu) (hw : wrE y.p y.ls y.lm y.lu = true) (hd : ∀ x ∈ xs, zv x y) {K : KV}
  (h : ∀ w' v' v3 L' D' ms', WOk L' D' s f ms' (n + 1) (xs ++ [y]) → St W w' (rdA 1 oe v' (qf y.ls) :: rdA 8 ir v3 y.ls :: ou q hb (jv ms') L' false :: il hb D' :: R) → K (.tuple #[pkA (tj y.p.tr v'), v3, .int .i64 0]) w') :
  gi P F.bb [jx q, pkA y.p] w K := by
 obtain ⟨I, h1, h2, h3, h4, h5, h6, h7⟩ := o
 refine alt S (fun w' R' S' => hP.fr S'.fr) hr hl.s I (by omega) hw (by omega) h4 (by rw [h5]; omega) fun w' v' v3 L' D' i1 i2 i3 i4 i5 i6 S' => ?_
 obtain ⟨_, Wp⟩ := ajc hw
 have ef : jw (jv ms) y.ls = y.ls := by rw [h7]; exact avs hd
 have hml := bgx ms y.p.b (jw (jv ms) y.ls)
 have e1 : jv (tt ms y.p.b (jw (jv ms) y.ls)) = aje (xs ++ [y]) := by
  rw [aor, azc, ← h7]
  have := avq (es := jv ms) Wp
  rw [this, ef]
 generalize tt ms y.p.b (jw (jv ms) y.ls) = ms' at *
 rw [ef] at S'
 exact h w' v' v3 L' D' ms' ⟨i1, by rw [i2, h1], by omega, by omega, i3, by rw [i4, h5], by omega, e1⟩ S'
theorem asr {a b c d : Asn} (S : St W w (a :: b :: c :: d :: R)) : St W w (c :: d :: a :: b :: R) := S.perm ((List.perm_append_comm (l₁ := [a, b]) (l₂ := [c, d])).append_right R)
theorem bcc (hs : xr W 11 agc a0 l) {i : Nat} (hi : i < l.length) (hl : l.length ≤ 20) (hm : m.Perm l) (hok : ∀ x ∈ l, pn W x.p x.ls x.lm x.lu ∧ vu x.p ∧ LsR x.ls x.lm x.lu ∧ wrE x.p x.ls x.lm x.lu = true) (hd : l.Pairwise zv)
  {x11 : List Value} (g5 : gv x11 5 = .int .i64 (i : Nat)) (o1 : WOk L D s f ms i (l.take i)) (o2 : WOk L2 D2 s2 f2 ms2 i (m.take i)) (S : St W w (ou q hb (jv ms) L false :: il hb D :: ou q2 hb2 (jv ms2) L2 false :: il hb2 D2 :: anz mv m :: [])) {K11 : KL} {K : KV}
  (h : ∀ x' w' L D L2 D2 ms ms2, gv x' 5 = .int .i64 ((i + 1 : Nat) : Int) → WOk L D s f ms (i + 1) (l.take (i + 1)) → WOk L2 D2 s2 f2 ms2 (i + 1) (m.take (i + 1)) → St W w' (ou q hb (jv ms) L false :: il hb D :: ou q2 hb2 (jv ms2) L2 false :: il hb2 D2 :: anz mv m :: []) → K11 x' w') :
  M.b.j12 a0 x11 (jx q) mv (jx q2) K11 w K := by
 have hwi : IntKind.i64.wrap ((i : Int) + 1) = ((i + 1 : Nat) : Int) := by rw [ia]; rfl
 have hml : m.length = l.length := hm.length_eq
 have him : i < m.length := by omega
 have hdm : m.Pairwise zv := (hm.pairwise_iff fun h => h.symm).2 hd
 obtain ⟨b, o, hia, hb, hr⟩ := aej hs hi
 have ld : ∀ {w'}, Fz W w' → ∀ K, ldN P 11 b o w' K = K (pkA l[i].p) w' := fun f K => aer (acf hb hr f) K
 unfold M.b.j12
 rw [g5]
 have l0 := ld S.fr
 simp [hia, l0]
 obtain ⟨p1, p2, p3, p4⟩ := hok _ (List.getElem_mem hi)
 refine aok (y := l[i]) S o1 (by omega) p1 p2 p3 p4 (aun hd hi) fun w1 v1 v2 L' D' ms' o1' S1 => ?_
 simp
 have S2 := abx S1
 generalize w1.heap.size = t1 at *
 generalize w1.alloc _ = w2 at *
 rw [acs]
 refine afi (q := tj l[i].p.tr v1) S2 rfl (aah (S2.swap.rd : SlU w2 v1 (qf l[i].ls))) fun w3 S3 => ?_
 have S4 := asr S3.drop.drop.drop
 obtain ⟨r1, r2, r3, r4⟩ := hok _ (hm.mem_iff.1 (List.getElem_mem him))
 have eqt : abh m[i] = pkC m[i].p := axl r1.sl r1.cells
 have hld : ∃ bm om, (∀ w' K, iaT P T.u mv (.int .i64 (i : Nat)) w' K = K (.pointer (some ⟨bm, om, none⟩)) w') ∧ ∀ K, ldN P 11 bm om w3 K = K (pkA m[i].p) w3 := by
  obtain ⟨b1, o1, c1, e1, _, _, g1⟩ := ((S4.perm (List.perm_middle (l₁ := [_, _, _, _]))).row afy).at him
  have hss : szE P T.u = 11 := by kernel_rfl
  refine ⟨b1, o1 + i * 11, fun w' K => by rw [e1]; simp [him], fun K => qy (pkC m[i].p) 11 rfl (fun k u hk => g1 k u (by rw [eqt]; exact hk)) K⟩
 obtain ⟨bm, om, hiam, ldm⟩ := hld
 simp [hiam, ldm]
 refine aok (y := m[i]) S4 o2 (by omega) r1 r2 r3 r4 (aun hdm him) fun w4 v3 v4 L2' D2' ms2' o2' S5 => ?_
 simp
 have S6 := abx S5
 generalize w4.heap.size = t2 at *
 generalize w4.alloc _ = w5 at *
 rw [acs]
 refine afi (q := tj m[i].p.tr v3) S6 rfl (aah (S6.swap.rd : SlU w5 v3 (qf m[i].ls))) fun w6 S7 => ?_
 have S8 := asr S7.drop.drop.drop
 have t1 : l.take (i + 1) = l.take i ++ [l[i]] := by rw [List.take_add_one, List.getElem?_eq_getElem hi]; rfl
 have t2 : m.take (i + 1) = m.take i ++ [m[i]] := by rw [List.take_add_one, List.getElem?_eq_getElem him]; rfl
 rw [← t1] at o1'
 rw [← t2] at o2'
 simp [hwi]
 exact h _ w6 _ _ _ _ _ _ rfl o1' o2' S8
def bph (W : World) (n : Nat) (X : List Asn) : KL := fun x w1 => ∃ (u : Value) (i : Nat), x = [u, .int .i64 (i : Nat)] ∧ i ≤ n ∧ St W w1 X
theorem bdm (o1 : WOk L D s f ms n l) (o2 : WOk L2 D2 s2 f2 ms2 n m) (hn : n ≤ 20) (hm : m.Perm l) (S : St W w (ou q hb (jv ms) L false :: il hb D :: ou q2 hb2 (jv ms2) L2 false :: il hb2 D2 :: R)) {x10 : List Value} {K : KV} (hK : ∀ w', Fz W w' → K (.bool true) w') :
  M.b.j10 (jx q) (jx q2) x10 w K := by
 have hp : (jv ms).Perm (jv ms2) := by
  rw [o1.blf, o2.blf]
  exact (hm.symm.flatMap_right _)
 have ex : ∀ {w'}, Fz W w' → (gi P F.az [] w' fun v w => K v w) := fun f => anu fun w'' f'' => hK w'' (f.trans f'')
 have hle := asi o1.I.ok
 have hle2 := asi o2.I.ok
 have hl1 := o1.len
 have hl2 := o2.len
 have hf1 := o1.I.abj.vir.f0
 have hf2 := o2.I.abj.vir.f0
 unfold M.b.j10
 refine ame S (by omega) fun w1 tv S1 => ?_
 have eT := bhq hp
 have hlt : (Suint64.mw (nt (jv ms))).length ≤ 50000 := by
  have e1 := (Suint64.nu (nt (jv ms))).length_eq
  have := axc (jv ms)
  omega
 simp
 have S2 : St W w1 (ou q2 hb2 (jv ms2) L2 false :: rdA 1 oe tv (Suint64.mw (nt (jv ms))) :: ou q hb (jv ms) L false :: il hb D :: il hb2 D2 :: R) := S1.up3
 refine ame S2 (by omega) fun w2 tv2 S3 => ?_
 rw [← eT] at S3
 generalize Suint64.mw (nt (jv ms)) = ts at *
 refine bab S3.up2.rd S3.rd (by omega) fun w3 f3 => ?_
 have S4 := (S3.jo f3).drop
 -- [sto2, ts, sto, disk, disk2]
 simp
 refine ⟨bph W ts.length _, fun x _ => ts.length - Go.Eng.ms x 1, ⟨_, 0, rfl, Nat.zero_le _, S4⟩, ?_⟩
 rintro x w4 ⟨u, i, rfl, hi, S5⟩
 have hlen : ∀ w' K, biT P .len #[T.i] T.b [false] [tv] w' K = K (.int .i64 ts.length) w' := fun w' K => (S5.swap.rd).iy (by kernel_rfl) [false]
 unfold M.b.j16
 by_cases hil : i < ts.length
 ·have hwi : IntKind.i64.wrap ((i : Int) + 1) = ((i + 1 : Nat) : Int) := by rw [ia]; rfl
  simp [hlen, hil]
  unfold M.b.j17
  obtain ⟨b1, o3, c1, e1, hb1, _, g1⟩ := (S5.swap.rd).at hil
  have i1 : ∀ w' K, iaT P T.i tv (.int .i64 (i : Nat)) w' K = K (.pointer (some ⟨b1, o3 + i, none⟩)) w' := fun w' K => by rw [e1]; simp [hil]
  simp only [gp, qi]
  have S6 := S5.jo ((Fr.refl _ w4).dr 1)
  generalize dr w4 1 = w5 at *
  have d1 : ∀ {w' : World} {L' R' : List Asn}, St W w' (L' ++ rdA 1 oe tv ts :: R') → gr w' b1 (o3 + i) = some (.int .u64 ts[i]) := fun S' => by
   obtain ⟨b2, o4, c2, e2, _, _, g2⟩ := ((S'.perm List.perm_middle).rd).at hil
   rw [e1] at e2
   injection e2 with q1 _ _
   injection q1 with q1
   injection q1 with q1 q2 _
   subst q1 q2
   simpa using g2 0 _ rfl
  have d5 := d1 (L' := [_]) S6
  simp [i1, d5]
  -- [sto2, ts, sto, disk, disk2]
  refine ade S6.up2 (adm _) (by omega) _ fun w6 v6 l6 g3 g4 S7 => ?_
  -- [l6, sto, sto2, ts, ..]
  have d6 := d1 (L' := [_, _, _]) S7
  simp [d6]
  refine ade S7.up2 (adm _) (by omega) _ fun w7 v7 l7 g5 g6 S8 => ?_
  -- [l7, sto2, l6, sto, ts, ..]
  have hl6 : l6.length < 50000 := by
   have e2 := g4.length_eq
   have := anj (jv ms) ts[i]
   omega
  refine beg S8.up2.rd S8.rd (by omega) fun w8 bb k1 _ f8 => ?_
  have hbb : bb = true := k1 (aoh (g4.trans ((beu hp ts[i]).trans g6.symm)) g3 g5 fun x hx y hy he => bfu (adm ms) ts[i] x (g4.mem_iff.1 hx) y (g4.mem_iff.1 hy) he)
  subst hbb
  have S9 := (S8.jo f8).drop
  -- [sto2, l6, sto, ts, ..]
  have S10 := S9.swap.drop
  have d10 := d1 (L' := [_, _]) S10
  simp [i1, d10]
  refine ale S10.swap _ fun w9 S11 => ?_
  have d11 := d1 (L' := [_, _]) S11
  simp [d11]
  refine ale S11.swap _ fun w10 S12 => ?_
  simp only [amf, bhe hp ts[i]]
  simp
  rw [hwi]
  exact ⟨⟨_, i + 1, rfl, by omega, S12.up2.swap⟩, by simp [Go.Eng.ms, gv]; omega⟩
 ·simp [hlen, hil]
  exact ex S5.fr
end
def bou (W : World) (l : List PkE) : KL := fun x w1 => ∃ (i : Nat), gv x 2 = .int .i64 (i : Nat) ∧ i ≤ l.length ∧ (∀ j (h : j < l.length), j < i → ahb l[j].ls l[j].lm l[j].lu ∧ wrE l[j].p l[j].ls l[j].lm l[j].lu = true) ∧ (∀ j k (h : k < l.length) (hjk : j < k), k < i → zv l[j] l[k]) ∧ Fz W w1
def OwI (W : World) (l m : List PkE) (q hb q2 hb2 : Nat) (s f s2 f2 : Int) (mv : Value) : KL := fun x w1 => ∃ (i : Nat) (L : Lg) (D : Dk) (L2 : Lg) (D2 : Dk) (ms ms2 : List WrM), gv x 5 = .int .i64 (i : Nat) ∧ i ≤ l.length ∧ WOk L D s f ms i (l.take i) ∧ WOk L2 D2 s2 f2 ms2 i (m.take i) ∧ St W w1 (ou q hb (jv ms) L false :: il hb D :: ou q2 hb2 (jv ms2) L2 false :: il hb2 D2 :: anz mv m :: [])
theorem bjw (b o : Nat) (q : Pk) (w : World) (K : KV) : stT P T.a (.pointer (some ⟨b, o, none⟩)) (pkA q) w K = stN P b o (pkC q) w K := by simp [pkA, pkC]
theorem axb {W w : World} {R : List Asn} {v : Value} {l : List PkE} (S : St W w (anz v l :: R)) {k : Nat} (hk : k < l.length) (x : PkE) (he : abh x = pkC x.p) :
  ∃ b, (∀ w' K, iaT P T.u v (.int .i64 (k : Nat)) w' K = K (.pointer (some ⟨b, k * 11, none⟩)) w') ∧ ∀ (K : KV), (∀ w', St W w' (anz v (l.set k x) :: R) → K undef w') → stT P T.a (.pointer (some ⟨b, k * 11, none⟩)) (pkA x.p) w K := by
 obtain ⟨b, cap, hv, g⟩ := St.bir afy aql S hk x
 have hss : szE P T.u = 11 := by kernel_rfl
 refine ⟨b, fun w' K => by rw [hv]; simp [hk], fun K h => ?_⟩
 rw [bjw, ← he]
 have := g K h
 rwa [Nat.zero_add] at this
theorem amo {W : World} {n0 : Nat} {v0 : Value} (h0 : TV P W n0 T.u [v0]) {a1 a2 : Int} (h1 : (Lit.int .i64 a1).wf = true) (h2 : (Lit.int .i64 a2).wf = true) {K : KV} (h : ∀ w', Fz W w' → K (.bool true) w') : kg P F.dj [v0, .int .i64 a1, .int .i64 a2] W K := by
 obtain ⟨l, hs⟩ := bli h0
 apply M.b.calls
 unfold M.b
 have ex : ∀ {w'}, Fz W w' → (gi P F.az [] w' fun v w => K v w) := fun f => anu fun w'' f'' => h w'' (f.trans f'')
 have hlen : ∀ w' K, biT P .len #[T.u] T.b [false] [v0] w' K = K (.int .i64 l.length) w' := fun w' K => hs.iy (by kernel_rfl) [false]
 by_cases c1 : 20 < l.length
 ·have c1' : (20 : Int) < l.length := by omega
  simp [hlen, c1']
  exact ex (Fr.refl _ _)
 have c1' : ¬ (20 : Int) < l.length := by omega
 by_cases c2 : a1 < 0
 ·simp [hlen, c1', c2]
  exact ex (Fr.refl _ _)
 by_cases c3 : a2 < 0
 ·simp [hlen, c1', c2, c3]
  exact ex (Fr.refl _ _)
 by_cases c4 : (l.length : Int) ≤ a1
 ·simp [hlen, c1', c2, c3, c4]
  exact ex (Fr.refl _ _)
 by_cases c5 : (l.length : Int) ≤ a2
 ·simp [hlen, c1', c2, c3, c4, c5]
  exact ex (Fr.refl _ _)
 simp [hlen, c1', c2, c3, c4, c5]
 obtain ⟨a, rfl⟩ : ∃ a : Nat, a1 = (a : Int) := ⟨a1.toNat, by omega⟩
 obtain ⟨b, rfl⟩ : ∃ b : Nat, a2 = (b : Int) := ⟨a2.toNat, by omega⟩
 have ha : a < l.length := by omega
 have hb : b < l.length := by omega
 refine ⟨bou W l, fun x _ => l.length - ms x 2, ⟨0, rfl, Nat.zero_le _, fun j _ h => by omega, fun j k _ _ h => by omega, Fr.refl _ _⟩, ?_⟩
 rintro x2 w1 ⟨i, g2, hi, hj, hd, f1⟩
 unfold M.b.j2
 rw [g2]
 by_cases hil : i < l.length
 ·simp [hlen, hil]
  refine bgs hs f1 hil (by omega) g2 (fun j hjl hji => (hj j hjl hji).1) h fun x' w' f' g' e1 e2 e3 => ⟨⟨i + 1, g', by omega, fun j hjl hji => ?_, fun j k hk hjk hki => ?_, f'⟩, ?_⟩
  ·by_cases hje : j = i
   ·subst hje; exact ⟨e1, e2⟩
   ·exact hj j hjl (by omega)
  ·by_cases hke : k = i
   ·subst hke; exact e3 j (by omega) hjk
   ·exact hd j k hk hjk (by omega)
  ·have h1 : ms x2 2 = i := by unfold ms; rw [g2]; simp
   have h2 : ms x' 2 = i + 1 := by unfold ms; rw [g']; simp
   omega
 have hie : i = l.length := by omega
 subst hie
 simp [hlen]
 have hpd : l.Pairwise zv := List.pairwise_iff_getElem.2 fun j k hjl hkl hjk => hd j k hkl hjk hkl
 have hok : ∀ x ∈ l, pn W x.p x.ls x.lm x.lu ∧ vu x.p ∧ LsR x.ls x.lm x.lu ∧ wrE x.p x.ls x.lm x.lu = true := fun x hx => by
  obtain ⟨j, hjl, rfl⟩ := List.mem_iff_getElem.1 hx
  obtain ⟨bj, oj, _, _, hrj⟩ := aej hs hjl
  obtain ⟨e1, e2⟩ := hj j hjl hjl
  exact ⟨hrj.2.1.ajd e1, hrj.2.2.1, hrj.2.2.2, e2⟩
 have het : ∀ x ∈ l, abh x = pkC x.p := fun x hx => axl (hok x hx).1.sl (hok x hx).1.cells
 unfold M.b.j1
 have S1 := (St.jp W).jo f1
 have hsT : Sl W 11 abh v0 l := by
  obtain ⟨a', cap, hv, q1, q2, q3⟩ := hs
  exact ⟨a', cap, hv, q1, q2, fun i x hi => by
   obtain ⟨b', o', q4, q5, q6⟩ := q3 i x hi
   exact ⟨b', o', q4, q5, fun j u hj => q6.1 j u (by rw [← het x (List.mem_of_getElem? hi)]; exact hj)⟩⟩
 simp
 have S2 : St W _ (anz _ [] :: _) := St.uo (e := T.a) (enc := abh) (sz := 11) (l := []) (cells := #[]) S1 afy rfl (by simp [maxLen])
 refine Go.Eng.td et.u afy aql S2 (hsT.fr S2.fr fun _ _ _ h => h) (by simp; omega) (by decide) fun w2 mv S3 => ?_
 rw [List.nil_append] at S3
 obtain ⟨ba, oa, hia, hba, hra⟩ := aej hs ha
 obtain ⟨bb, ob, hib, hbb, hrb⟩ := aej hs hb
 have S4 := S3.jo ((Fr.refl _ w2).dr 1)
 generalize dr w2 1 = w3 at *
 have la := fun K => aer (acf hba hra S4.fr) K
 have lb := fun K => aer (acf hbb hrb S4.fr) K
 obtain ⟨bm, im, gm⟩ := axb S4 ha l[b] (het _ (List.getElem_mem hb))
 simp [hia, hib, la, lb, im]
 refine gm _ fun w4 S5 => ?_
 obtain ⟨bm2, im2, gm2⟩ := axb (k := b) S5 (by rw [List.length_set]; exact hb) l[a] (het _ (List.getElem_mem ha))
 simp [im2]
 refine gm2 _ fun w5 S6 => ?_
 have hperm := baz ha hb
 generalize (l.set a l[b]).set b l[a] = m at *
 have hml : m.length = l.length := hperm.length_eq
 refine anp S6 1048576 (fun h => by omega) fun _ _ w6 hb1 S7 => ?_
 simp
 refine anp S7 1048576 (fun h => by omega) fun _ _ w7 hb2 S8 => ?_
 simp
 refine adk (X := []) S8.swap (ajp 1048576 5000).vir rfl (by omega) (by simp [jm]) (fun m hm => by simp at hm) fun w8 q1 j1 s1 f1' L1 D1 _ I1 hmost1 hfl1 _ harm1 hroom1 hused1 hpart1 _ S9 => ?_
 rw [List.take_nil] at I1 S9
 simp only [jx]
 simp
 refine adk (X := []) S9.up2 (ajp 1048576 5000).vir rfl (by omega) (by simp [jm]) (fun m hm => by simp at hm) fun w9 q2 j2 s2 f2' L2 D2 _ I2 hmost2 hfl2 _ harm2 hroom2 hused2 hpart2 _ S10 => ?_
 rw [List.take_nil] at I2 S10
 simp only [jx]
 simp
 have S11 := asr S10
 have o1 : WOk L1 D1 s1 f1' [] 0 (l.take 0) := ⟨I1, hmost1, by simpa using hfl1, hpart1, harm1, hroom1, hused1, rfl⟩
 have o2 : WOk L2 D2 s2 f2' [] 0 (m.take 0) := ⟨I2, hmost2, by simpa using hfl2, hpart2, harm2, hroom2, hused2, rfl⟩
 refine ⟨OwI W l m q1 hb1 q2 hb2 s1 f1' s2 f2' mv, fun x _ => l.length - ms x 5, ⟨0, L1, D1, L2, D2, [], [], rfl, Nat.zero_le _, o1, o2, S11⟩, ?_⟩
 rintro x11 w10 ⟨i, L, D, L', D', ms1, ms2, g5, hi, p1, p2, S12⟩
 unfold M.b.j11
 rw [g5]
 by_cases hil : i < l.length
 ·simp [hlen, hil]
  refine bcc hs hil (by omega) hperm hok hpd g5 p1 p2 S12 fun x' w' L D L2 D2 ms ms2 g' p1' p2' S' => ⟨⟨i + 1, L, D, L2, D2, ms, ms2, g', by omega, p1', p2', S'⟩, ?_⟩
  have h1 : Go.Eng.ms x11 5 = i := by unfold Go.Eng.ms; rw [g5]; simp
  have h2 : Go.Eng.ms x' 5 = i + 1 := by unfold Go.Eng.ms; rw [g']; simp
  omega
 ·have hie : i = l.length := by omega
  simp [hlen, hil]
  rw [hie, List.take_length] at p1
  rw [hie, ← hml, List.take_length, hml] at p2
  exact bdm p1 p2 (by omega) hperm S12 h
end Go.Proofs.YtfnhoaemapheoaaGreat
