/-
  Gossiping nodes that tell one another all: in the end all have one view. Plain. No condition.
  Members as arguments. No condition.
  The document's Merge, walked; the law ViewMerges. No condition.
  A gossiping node in memory, and what each call makes of it: New, View, Self, Leave, Hear. No condition.
  Rows of uint64. No condition.
  A gossiping node: Hear, Tick. No condition.
  Gossip: the example that the statements hold up, the operations; the law GossipNils. No condition.
  The law GossipHeard. No condition.
  Gossip: operations as arguments; the law GossipRises. No condition.
  The law GossipMeets: the nodes, their making, what they hear first. No condition.
  The law GossipMeets: what the nodes hear first; the rounds. No condition.
-/
import Derived.Test.YtkjhekflgghbdaaZSrtUF
import Derived.Test.YtkjhekflgghbdaaZEngSimp
set_option maxRecDepth 100000
namespace Go.Proofs.Ytkjhekflgghbdaa
open Go.Eng

def rk (m : Mem) : Int := m.inc * 4 + m.st
def rkO : Option Mem → Int
  | none => 0
  | some m => rk m
def OkO (o : Option Mem) : Prop := ∀ m, o = some m → 1 ≤ m.inc ∧ 0 ≤ m.st ∧ m.st ≤ 2
theorem newer_rk {x y : Mem} (hx : 0 ≤ x.st ∧ x.st ≤ 2) (hy : 0 ≤ y.st ∧ y.st ≤ 2) : newerM x y = decide (rk y < rk x) := by
  unfold newerM rk
  rw [Bool.eq_iff_iff]; simp; omega
theorem maxI_r {a b : Int} (h : a < b) : maxI a b = b := if_pos h
theorem maxI_l {a b : Int} (h : ¬ a < b) : maxI a b = a := if_neg h
theorem rk_pos {m : Mem} (h : 1 ≤ m.inc ∧ 0 ≤ m.st ∧ m.st ≤ 2) : 0 < rk m := by unfold rk; omega
theorem rk_jn {a b : Option Mem} (ha : OkO a) (hb : OkO b) : rkO (jn a b) = maxI (rkO a) (rkO b) := by
  cases a with
  | none =>
    cases b with
    | none => rfl
    | some y => exact (maxI_r (rk_pos (hb y rfl))).symm
  | some x =>
    have h1 := ha x rfl
    cases b with
    | none => exact (maxI_l (b := 0) (by have := rk_pos h1; omega : ¬ rk x < 0)).symm
    | some y =>
      have h2 := hb y rfl
      show rk (mx y x) = maxI (rk x) (rk y)
      unfold mx
      rw [newer_rk h2.2 h1.2]
      by_cases h : rk x < rk y
      · rw [maxI_r h, if_pos (by simpa using h)]
      · rw [maxI_l h, if_neg (by simpa using h)]
theorem rk_inj {k : Int} {a b : Option Mem} (ha : OkO a) (hb : OkO b) (ia : ∀ m, a = some m → m.id = k) (ib : ∀ m, b = some m → m.id = k) (h : rkO a = rkO b) : a = b := by
  cases a with
  | none =>
    cases b with
    | none => rfl
    | some y => have := rk_pos (hb y rfl); have h : 0 = rk y := h; omega
  | some x =>
    have h1 := ha x rfl
    cases b with
    | none => have := rk_pos h1; have h : rk x = 0 := h; omega
    | some y =>
      have h2 := hb y rfl
      have e1 := ia x rfl
      have e2 := ib y rfl
      have h : rk x = rk y := h
      unfold rk at h
      obtain ⟨p, q, r⟩ := x
      obtain ⟨p', q', r'⟩ := y
      simp at *
      refine ⟨by omega, by omega, by omega⟩
theorem okO_find {l : List Mem} (hg : GoodV l) (hi : IncR l) (k : Int) : OkO (findM l k) := fun m hm => good_pos hg hi (findM_mem hm)
def rkV (l : List Mem) (k : Int) : Int := rkO (findM l k)

/-- A good list of members of a fleet of N, none of a greater Inc than B. -/
structure FewV (N : Nat) (B : Int) (l : List Mem) : Prop where
  good : GoodV l
  inc : ∀ m ∈ l, 0 ≤ m.inc ∧ m.inc ≤ B
  ids : ∀ m ∈ l, m.id ≤ N
structure MeetN (N : Nat) (B : Int) (k : Nat) (n : Nd) : Prop where
  ok : NdOk n
  few : FewV N B n.v
  id : n.id = ((k + 1 : Nat) : Int)
  left : n.left = false
  al : ∃ m, findM n.v n.id = some m ∧ m.st = 0
theorem FewV.incR {N : Nat} {B : Int} {l : List Mem} (h : FewV N B l) (hB : B < 18446744073709551615) : IncR l := fun m hm => by have := h.inc m hm; omega
theorem FewV.mono {N : Nat} {B B' : Int} {l : List Mem} (h : FewV N B l) (hB : B ≤ B') : FewV N B' l := ⟨h.good, fun m hm => by have := h.inc m hm; omega, h.ids⟩
theorem MeetN.mono {N k : Nat} {B B' : Int} {n : Nd} (h : MeetN N B k n) (hB : B ≤ B') : MeetN N B' k n := ⟨h.ok, h.few.mono hB, h.id, h.left, h.al⟩
theorem few_merge {N : Nat} {B : Int} {a b : List Mem} (hN : N ≤ 16) (ha : FewV N B a) (hb : FewV N B b) : (mergeV a b).2 = 0 := by
  have r1 := (vright_iff a).2 ha.good
  have r2 := (vright_iff b).2 hb.good
  unfold mergeV
  rw [if_neg (by rw [r1, r2]; simp), if_neg]
  have h := len_le_of_sub (l' := (List.range N).map fun i => ((i + 1 : Nat) : Int)) (mergeA_nd (a ++ b)) fun x hx => by
    obtain ⟨m, hm, rfl⟩ := List.mem_map.1 hx
    have : 0 < m.id ∧ m.id ≤ N := by
      rcases List.mem_append.1 (mergeA_mem hm) with hm | hm
      · exact ⟨ha.good.pos m hm, ha.ids m hm⟩
      · exact ⟨hb.good.pos m hm, hb.ids m hm⟩
    refine List.mem_map.2 ⟨(m.id - 1).toNat, List.mem_range.2 (by omega), ?_⟩
    omega
  simp at h
  omega
def upR (r : Int) : Int := if r % 4 = 0 then r else (r / 4 + 1) * 4
/-- What a node makes of what it hears, by ranks. -/
theorem meet_hear {N k : Nat} {B : Int} {n : Nd} {l : List Mem} (hN : N ≤ 16) (hB : B < 18446744073709551000) (h : MeetN N B k n) (hl : FewV N B l) (frm : Int) {now : Int} (hn : 0 ≤ now ∧ now < 18446744073709551616) :
    (n.hear frm l now).2 = 0 ∧ MeetN N (B + 1) k (n.hear frm l now).1 ∧ (∀ j, j ≠ n.id → rkV (n.hear frm l now).1.v j = maxI (rkV n.v j) (rkV l j)) ∧ rkV (n.hear frm l now).1.v n.id = upR (maxI (rkV n.v n.id) (rkV l n.id)) := by
  have hk := few_merge hN h.few hl
  have hok := hear_ok (frm := frm) h.ok (hl.incR (by omega)) hn
  obtain ⟨q1, q2, _⟩ := hear_id n frm now l
  obtain ⟨r1, r2⟩ := merge_zero hk
  obtain ⟨_, p1, p2⟩ := mergeV_ok r1 r2 hk
  obtain ⟨o, ho, hos⟩ := h.al
  obtain ⟨m, hm⟩ := jn_some o (findM l n.id)
  have hf : findM (mergeV n.v l).1 n.id = some m := by rw [p2, ho, hm]
  have hg := (vright_iff _).1 p1
  have iN : IncR n.v := h.few.incR (by omega)
  have iL : IncR l := hl.incR (by omega)
  have hi := merge_inc hk iN iL
  have hrk : ∀ j, rkV (mergeV n.v l).1 j = maxI (rkV n.v j) (rkV l j) := fun j => by
    unfold rkV; rw [p2, rk_jn (okO_find h.few.good iN j) (okO_find hl.good iL j)]
  have hfew : FewV N B (mergeV n.v l).1 := ⟨hg, fun x hx => by
    rcases merge_mem hk hx with hx | hx
    · exact h.few.inc x hx
    · exact hl.inc x hx, fun x hx => by
    rcases merge_mem hk hx with hx | hx
    · exact h.few.ids x hx
    · exact hl.ids x hx⟩
  have hmB := hfew.inc m (findM_mem hf)
  have hmp := good_pos hg hi (findM_mem hf)
  refine ⟨(hear_kind n frm now l).trans hk, ?_⟩
  have hrm : maxI (rkV n.v n.id) (rkV l n.id) = rk m := by rw [← hrk]; unfold rkV; rw [hf]; rfl
  rw [hrm]
  revert hok q1 q2
  unfold Nd.hear
  rw [if_neg (by simpa using hk), findP_eq hf]
  split
  · rename_i hc
    intro hok q1 q2
    refine ⟨⟨hok, ⟨hok.good, fun x hx => ?_, fun x hx => ?_⟩, h.id, h.left, ⟨bumpM n.id m, ?_, ?_⟩⟩, fun j hj => ?_, ?_⟩
    · obtain ⟨y, hy, rfl⟩ := List.mem_map.1 hx
      have := hfew.inc y hy
      unfold bumpM
      split
      · show 0 ≤ y.inc + 1 ∧ y.inc + 1 ≤ B + 1; omega
      · omega
    · obtain ⟨y, hy, rfl⟩ := List.mem_map.1 hx
      rw [bump_id]; exact hfew.ids y hy
    · show findM (List.map _ _) n.id = _
      rw [findM_map (bump_id _), hf]; rfl
    · unfold bumpM; rw [if_pos (findM_id hf)]
    · show rkO (findM (List.map _ _) j) = _
      rw [← hrk, findM_map (bump_id _)]
      unfold rkV
      cases hfj : findM (mergeV n.v l).1 j with
      | none => rfl
      | some y =>
        show rkO (some (bumpM n.id y)) = _
        unfold bumpM
        rw [if_neg (by rw [findM_id hfj]; exact hj)]
    · show rkO (findM (List.map _ _) n.id) = _
      rw [findM_map (bump_id _), hf]
      show rk (bumpM n.id m) = _
      unfold bumpM upR rk
      rw [if_pos (findM_id hf), if_neg (by omega)]
      simp; omega
  · rename_i hc
    have hms : m.st = 0 := Decidable.not_not.1 fun h' => hc ⟨h', h.left, by omega⟩
    intro hok q1 q2
    refine ⟨⟨hok, hfew.mono (by omega), h.id, h.left, m, hf, hms⟩, fun j hj => hrk j, ?_⟩
    show rkO (findM (mergeV n.v l).1 n.id) = _
    rw [hf]
    unfold upR
    rw [if_pos (by unfold rk; omega)]; rfl

/-! ### All of them -/
structure Meet (N : Nat) (B : Int) (ns : List Nd) : Prop where
  len : ns.length = N
  each : ∀ i (h : i < ns.length), MeetN N B i ns[i]
def ndAt (ns : List Nd) (i : Nat) : List Mem := (ns[i]?.map Nd.v).getD []
def R (ns : List Nd) (s k : Nat) : Int := rkV (ndAt ns s) ((k + 1 : Nat) : Int)
def tell (ns : List Nd) (i j : Nat) : List Nd := match ns[j]? with
  | some n => ns.set j (n.hear ((i + 1 : Nat) : Int) (ndAt ns i) 1).1
  | none => ns
theorem ndAt_eq {ns : List Nd} {i : Nat} (h : i < ns.length) : ndAt ns i = ns[i].v := by unfold ndAt; rw [List.getElem?_eq_getElem h]; rfl
theorem Meet.mono {N : Nat} {B B' : Int} {ns : List Nd} (h : Meet N B ns) (hB : B ≤ B') : Meet N B' ns := ⟨h.len, fun i hi => (h.each i hi).mono hB⟩
theorem Meet.set {N : Nat} {B B' : Int} {ns : List Nd} (h : Meet N B ns) (hB : B ≤ B') {j : Nat} {n : Nd} (hn : MeetN N B' j n) : Meet N B' (ns.set j n) := by
  refine ⟨by rw [List.length_set]; exact h.len, fun i hi => ?_⟩
  rw [List.length_set] at hi
  rw [List.getElem_set]
  split
  · rename_i he; subst he; exact hn
  · exact (h.each i hi).mono hB
theorem tell_meet {N : Nat} {B : Int} {ns : List Nd} (hN : N ≤ 16) (hB : B < 18446744073709551000) (h : Meet N B ns) {i j : Nat} (hi : i < N) (hj : j < N) : Meet N (B + 1) (tell ns i j) ∧
    (∀ s k, s ≠ j → R (tell ns i j) s k = R ns s k) ∧ (∀ k, k ≠ j → R (tell ns i j) j k = maxI (R ns j k) (R ns i k)) ∧ R (tell ns i j) j j = upR (maxI (R ns j j) (R ns i j)) := by
  have hi' : i < ns.length := by rw [h.len]; exact hi
  have hj' : j < ns.length := by rw [h.len]; exact hj
  have ht : tell ns i j = ns.set j (ns[j].hear ((i + 1 : Nat) : Int) ns[i].v 1).1 := by
    unfold tell; rw [List.getElem?_eq_getElem hj', ndAt_eq hi']
  have hMj := h.each j hj'
  have hMi := h.each i hi'
  obtain ⟨_, g1, g2, g3⟩ := meet_hear hN hB hMj hMi.few ((i + 1 : Nat) : Int) (now := 1) (by omega)
  rw [ht]
  have hself : ndAt (ns.set j (ns[j].hear ((i + 1 : Nat) : Int) ns[i].v 1).1) j = (ns[j].hear ((i + 1 : Nat) : Int) ns[i].v 1).1.v := by
    unfold ndAt; rw [List.getElem?_set, if_pos rfl, if_pos hj']; rfl
  refine ⟨h.set (by omega) g1, fun s k hs => ?_, fun k hk => ?_, ?_⟩
  · unfold R ndAt
    rw [List.getElem?_set, if_neg (fun h => hs h.symm)]
  · unfold R
    rw [hself, ndAt_eq hj', ndAt_eq hi', g2 _ (by rw [hMj.id]; omega)]
  · unfold R
    rw [hself, ndAt_eq hj', ndAt_eq hi', ← hMj.id, g3]
theorem own_four {N : Nat} {B : Int} {ns : List Nd} (h : Meet N B ns) {k : Nat} (hk : k < N) : R ns k k % 4 = 0 := by
  have hk' : k < ns.length := by rw [h.len]; exact hk
  obtain ⟨m, hm, hs⟩ := (h.each k hk').al
  unfold R
  rw [ndAt_eq hk', ← (h.each k hk').id]
  unfold rkV
  rw [hm]
  show rk m % 4 = 0
  unfold rk; omega
theorem upR_le (r : Int) : r ≤ upR r := by unfold upR; split <;> omega
theorem maxI_le (a b : Int) : a ≤ maxI a b ∧ b ≤ maxI a b ∧ (maxI a b = a ∨ maxI a b = b) := by unfold maxI; split <;> omega

/-- While the first round goes: 'T s k': s has told k. -/
structure RA (N : Nat) (ns0 ns : List Nd) (T : Nat → Nat → Prop) : Prop where
  up : ∀ s k, s < N → k < N → R ns0 s k ≤ R ns s k
  top : ∀ s k, s < N → k < N → R ns s k ≤ R ns k k ∨ ∃ s', s' < N ∧ R ns s k ≤ R ns0 s' k
  told : ∀ s k, s < N → k < N → T s k → R ns0 s k ≤ R ns k k
theorem RA.start (N : Nat) (ns : List Nd) (T : Nat → Nat → Prop) (hT : ∀ s k, T s k → s = k) : RA N ns ns T :=
  ⟨fun _ _ _ _ => Int.le_refl _, fun s k hs _ => .inr ⟨s, hs, Int.le_refl _⟩, fun s k _ _ h => by rw [hT s k h]; exact Int.le_refl _⟩
theorem RA.tell {N : Nat} {B : Int} {ns0 ns : List Nd} {T T' : Nat → Nat → Prop} (hN : N ≤ 16) (hB : B < 18446744073709551000) (h : Meet N B ns) (ha : RA N ns0 ns T) {i j : Nat} (hi : i < N) (hj : j < N) (hij : i ≠ j) (hT : ∀ s k, T' s k → T s k ∨ s = i ∧ k = j) : RA N ns0 (Go.Proofs.Ytkjhekflgghbdaa.tell ns i j) T' := by
  obtain ⟨_, e1, e2, e3⟩ := tell_meet hN hB h hi hj
  have hjj : R ns j j ≤ R (Go.Proofs.Ytkjhekflgghbdaa.tell ns i j) j j ∧ R ns i j ≤ R (Go.Proofs.Ytkjhekflgghbdaa.tell ns i j) j j := by
    rw [e3]
    have := upR_le (maxI (R ns j j) (R ns i j))
    have := maxI_le (R ns j j) (R ns i j)
    omega
  have hown : ∀ k, k < N → R ns k k ≤ R (Go.Proofs.Ytkjhekflgghbdaa.tell ns i j) k k := fun k _ => by
    by_cases hk : k = j
    · subst hk; exact hjj.1
    · rw [e1 k k hk]; exact Int.le_refl _
  refine ⟨fun s k hs hk => ?_, fun s k hs hk => ?_, fun s k hs hk ht => ?_⟩
  · have h0 := ha.up s k hs hk
    by_cases hsj : s = j
    · subst hsj
      by_cases hkj : k = s
      · subst hkj; omega
      · rw [e2 k hkj]; have := maxI_le (R ns s k) (R ns i k); omega
    · rw [e1 s k hsj]; exact h0
  · have ho := hown k hk
    by_cases hsj : s = j
    · subst hsj
      by_cases hkj : k = s
      · subst hkj; exact .inl (Int.le_refl _)
      · rw [e2 k hkj]
        rcases (maxI_le (R ns s k) (R ns i k)).2.2 with h' | h' <;> rw [h']
        · rcases ha.top s k hs hk with h1 | h1
          · exact .inl (by omega)
          · exact .inr h1
        · rcases ha.top i k hi hk with h1 | h1
          · exact .inl (by omega)
          · exact .inr h1
    · rw [e1 s k hsj]
      rcases ha.top s k hs hk with h1 | h1
      · exact .inl (by omega)
      · exact .inr h1
  · rcases hT s k ht with h1 | ⟨rfl, rfl⟩
    · have := ha.told s k hs hk h1; have := hown k hk; omega
    · have := ha.up s k hs hk; omega
/-- Each knows no more of another than that one does. -/
def Dom (N : Nat) (ns : List Nd) : Prop := ∀ s k, s < N → k < N → R ns s k ≤ R ns k k
theorem RA.dom {N : Nat} {ns0 ns : List Nd} {T : Nat → Nat → Prop} (h : RA N ns0 ns T) (hT : ∀ s k, s < N → k < N → s = k ∨ T s k) : Dom N ns := fun s k hs hk => by
  rcases h.top s k hs hk with h1 | ⟨s', hs', h1⟩
  · exact h1
  · rcases hT s' k hs' hk with rfl | h2
    · have := h.up s' s' hs' hs'; omega
    · have := h.told s' k hs' hk h2; omega
/-- While the others go: 'T s k': s has told k. -/
structure RB (N : Nat) (ns : List Nd) (T : Nat → Nat → Prop) : Prop where
  dom : Dom N ns
  told : ∀ s k, s < N → k < N → T s k → R ns k s = R ns s s
theorem RB.tell {N : Nat} {B : Int} {ns : List Nd} {T T' : Nat → Nat → Prop} (hN : N ≤ 16) (hB : B < 18446744073709551000) (h : Meet N B ns) (hb : RB N ns T) {i j : Nat} (hi : i < N) (hj : j < N) (hij : i ≠ j) (hT : ∀ s k, T' s k → T s k ∨ s = i ∧ k = j) : RB N (Go.Proofs.Ytkjhekflgghbdaa.tell ns i j) T' := by
  obtain ⟨_, e1, e2, e3⟩ := tell_meet hN hB h hi hj
  have h4 := own_four h hj
  have hjj : R (Go.Proofs.Ytkjhekflgghbdaa.tell ns i j) j j = R ns j j := by
    rw [e3]
    have := hb.dom i j hi hj
    have : maxI (R ns j j) (R ns i j) = R ns j j := by unfold maxI; rw [if_neg (by omega)]
    rw [this]
    unfold upR; rw [if_pos h4]
  have hown : ∀ k, k < N → R (Go.Proofs.Ytkjhekflgghbdaa.tell ns i j) k k = R ns k k := fun k _ => by
    by_cases hk : k = j
    · subst hk; exact hjj
    · rw [e1 k k hk]
  refine ⟨fun s k hs hk => ?_, fun s k hs hk ht => ?_⟩
  · rw [hown k hk]
    by_cases hsj : s = j
    · subst hsj
      by_cases hkj : k = s
      · subst hkj; rw [hjj]; exact Int.le_refl _
      · rw [e2 k hkj]
        have := hb.dom s k hs hk
        have := hb.dom i k hi hk
        rcases (maxI_le (R ns s k) (R ns i k)).2.2 with h' | h' <;> rw [h'] <;> assumption
    · rw [e1 s k hsj]; exact hb.dom s k hs hk
  · rw [hown s hs]
    by_cases hkj : k = j
    · subst hkj
      by_cases hsk : s = k
      · subst hsk; exact hjj
      · rw [e2 s hsk]
        have d1 := hb.dom k s hk hs
        have d2 := hb.dom i s hi hs
        have hm := maxI_le (R ns k s) (R ns i s)
        rcases hT s k ht with h1 | ⟨rfl, _⟩
        · have := hb.told s k hs hk h1
          omega
        · omega
    · rw [e1 k s hkj]
      rcases hT s k ht with h1 | ⟨_, h1⟩
      · exact hb.told s k hs hk h1
      · exact absurd h1 hkj
/-- Told all: one view. -/
theorem RB.one {N : Nat} {B : Int} {ns : List Nd} {T : Nat → Nat → Prop} (hB : B < 18446744073709551000) (h : Meet N B ns) (hb : RB N ns T) (hT : ∀ s k, s < N → k < N → s = k ∨ T s k) {i j : Nat} (hi : i < N) (hj : j < N) : ndAt ns i = ndAt ns j := by
  have hi' : i < ns.length := by rw [h.len]; exact hi
  have hj' : j < ns.length := by rw [h.len]; exact hj
  have hall : ∀ k s, k < N → s < N → R ns k s = R ns s s := fun k s hk hs => by
    rcases hT s k hs hk with rfl | h1
    · rfl
    · exact hb.told s k hs hk h1
  have m1 := h.each i hi'
  have m2 := h.each j hj'
  rw [ndAt_eq hi', ndAt_eq hj']
  have hkey : ∀ k, findM ns[i].v k = findM ns[j].v k := fun k => by
    by_cases hk : ∃ s : Nat, s < N ∧ k = ((s + 1 : Nat) : Int)
    · obtain ⟨s, hs, rfl⟩ := hk
      have a := hall i s hi hs
      have b := hall j s hj hs
      unfold R at a b
      rw [ndAt_eq hi'] at a
      rw [ndAt_eq hj'] at b
      unfold rkV at a b
      exact rk_inj (okO_find m1.few.good (m1.few.incR (by omega)) _) (okO_find m2.few.good (m2.few.incR (by omega)) _) (fun m hm => findM_id hm) (fun m hm => findM_id hm) (a.trans b.symm)
    · have no : ∀ {n : Nd}, FewV N B n.v → findM n.v k = none := fun {n} hf => findM_none fun m hm he => hk ⟨(m.id - 1).toNat, by
        have := hf.good.pos m hm
        have := hf.ids m hm
        exact ⟨by omega, by omega⟩⟩
      rw [no m1.few, no m2.few]
  have o := (out_eq m1.few.good.nd m2.few.good.nd hkey).1
  rw [out_self m1.few.good, out_self m2.few.good] at o
  exact o
theorem RB.all {N : Nat} {B : Int} {ns : List Nd} {T : Nat → Nat → Prop} (hB : B < 18446744073709551000) (h : Meet N B ns) (hb : RB N ns T) (hT : ∀ s k, s < N → k < N → s = k ∨ T s k) {i : Nat} (hi : i < N) :
    (∀ k, k < N → ∃ m, findM (ndAt ns i) ((k + 1 : Nat) : Int) = some m ∧ m.st = 0) ∧ (ndAt ns i).length = N := by
  have hi' : i < ns.length := by rw [h.len]; exact hi
  have hfnd : ∀ k, k < N → ∃ m, findM (ndAt ns i) ((k + 1 : Nat) : Int) = some m ∧ m.st = 0 := fun k hk => by
    have hk' : k < ns.length := by rw [h.len]; exact hk
    obtain ⟨m, hm, hs⟩ := (h.each k hk').al
    rw [(h.each k hk').id] at hm
    rw [hb.one hB h hT hi hk, ndAt_eq hk']
    exact ⟨m, hm, hs⟩
  refine ⟨hfnd, ?_⟩
  have m1 := h.each i hi'
  rw [ndAt_eq hi'] at hfnd ⊢
  have hnd := m1.few.good.nd
  have h1 := len_le_of_sub (l' := (List.range N).map fun i => ((i + 1 : Nat) : Int)) hnd fun x hx => by
    obtain ⟨m, hm, rfl⟩ := List.mem_map.1 hx
    have := m1.few.good.pos m hm
    have := m1.few.ids m hm
    exact List.mem_map.2 ⟨(m.id - 1).toNat, List.mem_range.2 (by omega), by omega⟩
  have hr : ((List.range N).map fun i => ((i + 1 : Nat) : Int)).Nodup := by
    rw [List.nodup_iff_pairwise_ne, List.pairwise_map]
    exact (List.nodup_range (n := N)).imp fun h => by omega
  have h2 := len_le_of_sub (l' := ns[i].v.map Mem.id) hr fun x hx => by
    obtain ⟨k, hk, rfl⟩ := List.mem_map.1 hx
    obtain ⟨m, hm, _⟩ := hfnd k (List.mem_range.1 hk)
    exact List.mem_map.2 ⟨m, findM_mem hm, findM_id hm⟩
  simp at h1 h2
  omega
end Go.Proofs.Ytkjhekflgghbdaa
set_option maxRecDepth 100000
namespace Go.Proofs.Ytkjhekflgghbdaa
open Go.Eng
def IncOk (l : List Mem) : Prop := ∀ m ∈ l, 0 ≤ m.inc ∧ m.inc < 18446744073709551616
theorem wf_u64' {x : Int} (h : (Lit.int .u64 x).wf = true) : 0 ≤ x := by
  simp [Lit.wf, IntKind.min, IntKind.max, IntKind.bits, IntKind.signed] at h
  omega
theorem mem_of' {w : World} {n : Nat} {c : List Value} (ht : TV P w n T.api_Member c) : ∃ m, c = encM m ∧ 0 ≤ m.id := by
  obtain ⟨hl, hf⟩ := tv_struct Try.underlying63 ht
  have hl3 : Try.prog.cellsOf T.api_Member = 3 := by kernel_rfl
  rw [hl3] at hl
  obtain ⟨m0, t0⟩ := hf 0 _ rfl
  obtain ⟨m1, t1⟩ := hf 1 _ rfl
  obtain ⟨m2, t2⟩ := hf 2 _ rfl
  obtain ⟨x0, e0, g0⟩ := tv_int (k := .u64) (by kernel_rfl) t0
  obtain ⟨x1, e1, _⟩ := tv_int (k := .u64) (by kernel_rfl) t1
  obtain ⟨x2, e2, _⟩ := tv_int (k := .i64) (by kernel_rfl) t2
  have c0 : Try.prog.cellsOf T.uint64 = 1 := by kernel_rfl
  have c1 : Try.prog.cellsOf T.int = 1 := by kernel_rfl
  match c, hl with
  | [u0, u1, u2], _ =>
    simp [c0, c1] at e0 e1 e2
    subst e0 e1 e2
    exact ⟨⟨x0, x1, x2⟩, rfl, wf_u64' g0⟩
theorem members_of' {w : World} {n : Nat} {v : Value} (h : TV P w n T.sl_api_Member [v]) : ∃ l, SlM w v l ∧ ∀ m ∈ l, 0 ≤ m.id := by
  obtain ⟨l, hl⟩ := sl_of_tv (sz := 3) (rd := fun w b o m => rdE encM w b o m ∧ 0 ≤ m.id) et.sl_api_Member.ty (by kernel_rfl) (by decide) (fun n b o cs ht hl hc => by
    obtain ⟨m, hm, h0⟩ := mem_of' ht
    subst hm
    exact ⟨m, fun j u hj => hc j u hj, h0⟩) h
  refine ⟨l, hl.mono fun b o x hx => hx.1, fun m hm => ?_⟩
  obtain ⟨j, hj, rfl⟩ := List.getElem_of_mem hm
  obtain ⟨a, cap, _, _, _, hx⟩ := hl
  obtain ⟨b, o, _, _, hr⟩ := hx j _ (List.getElem?_eq_getElem hj)
  exact hr.2
theorem wf_u64'' {x : Int} (h : (Lit.int .u64 x).wf = true) : 0 ≤ x ∧ x < 18446744073709551616 := by
  simp [Lit.wf, IntKind.min, IntKind.max, IntKind.bits, IntKind.signed] at h
  omega
theorem mem_of'' {w : World} {n : Nat} {c : List Value} (ht : TV P w n T.api_Member c) : ∃ m, c = encM m ∧ 0 ≤ m.id ∧ 0 ≤ m.inc ∧ m.inc < 18446744073709551616 := by
  obtain ⟨hl, hf⟩ := tv_struct Try.underlying63 ht
  have hl3 : Try.prog.cellsOf T.api_Member = 3 := by kernel_rfl
  rw [hl3] at hl
  obtain ⟨m0, t0⟩ := hf 0 _ rfl
  obtain ⟨m1, t1⟩ := hf 1 _ rfl
  obtain ⟨m2, t2⟩ := hf 2 _ rfl
  obtain ⟨x0, e0, g0⟩ := tv_int (k := .u64) (by kernel_rfl) t0
  obtain ⟨x1, e1, g1⟩ := tv_int (k := .u64) (by kernel_rfl) t1
  obtain ⟨x2, e2, _⟩ := tv_int (k := .i64) (by kernel_rfl) t2
  have c0 : Try.prog.cellsOf T.uint64 = 1 := by kernel_rfl
  have c1 : Try.prog.cellsOf T.int = 1 := by kernel_rfl
  match c, hl with
  | [u0, u1, u2], _ =>
    simp [c0, c1] at e0 e1 e2
    subst e0 e1 e2
    exact ⟨⟨x0, x1, x2⟩, rfl, (wf_u64'' g0).1, wf_u64'' g1⟩
theorem members_of'' {w : World} {n : Nat} {v : Value} (h : TV P w n T.sl_api_Member [v]) : ∃ l, SlM w v l ∧ (∀ m ∈ l, 0 ≤ m.id) ∧ IncOk l := by
  obtain ⟨l, hl⟩ := sl_of_tv (sz := 3) (rd := fun w b o m => rdE encM w b o m ∧ 0 ≤ m.id ∧ 0 ≤ m.inc ∧ m.inc < 18446744073709551616) et.sl_api_Member.ty (by kernel_rfl) (by decide) (fun n b o cs ht hl hc => by
    obtain ⟨m, hm, h0⟩ := mem_of'' ht
    subst hm
    exact ⟨m, fun j u hj => hc j u hj, h0⟩) h
  have key : ∀ m ∈ l, 0 ≤ m.id ∧ 0 ≤ m.inc ∧ m.inc < 18446744073709551616 := fun m hm => by
    obtain ⟨j, hj, rfl⟩ := List.getElem_of_mem hm
    obtain ⟨a, cap, _, _, _, hx⟩ := hl
    obtain ⟨b, o, _, _, hr⟩ := hx j _ (List.getElem?_eq_getElem hj)
    exact hr.2
  exact ⟨l, hl.mono fun b o x hx => hx.1, fun m hm => (key m hm).1, fun m hm => (key m hm).2⟩
theorem row_mem {v : Value} {l : List Mem} {w0 w : World} {L : List Asn} (S : St w0 w L) (h : rowM v l ∈ L) : SlM w v l := by
  obtain ⟨s, t, rfl⟩ := List.append_of_mem h
  exact (S.perm List.perm_middle).row encM_len
end Go.Proofs.Ytkjhekflgghbdaa
set_option maxRecDepth 100000
namespace Go.Proofs.Ytkjhekflgghbdaa
open Go.Eng
/-- The first place whose Id is not less. -/
def plM (l : List Mem) (x : Mem) : Nat := (l.takeWhile fun o => decide (o.id < x.id)).length
theorem plM_at {l : List Mem} {x : Mem} {k : Nat} (hk : k ≤ l.length) (h1 : ∀ j (hj : j < l.length), j < k → l[j].id < x.id) (h2 : ∀ h : k < l.length, ¬ l[k].id < x.id) :
    insS l x = if h : k < l.length then (if l[k].id = x.id then l.set k (if newerM x l[k] = true then x else l[k]) else l.take k ++ [x] ++ l.drop k) else l.take k ++ [x] ++ l.drop k := by
  induction l generalizing k with
  | nil => simp at hk; subst hk; rfl
  | cons o t ih =>
    unfold insS
    cases k with
    | zero =>
      have := h2 (by simp)
      simp at this
      rw [if_neg (by omega)]
      simp
    | succ k =>
      have h0 := h1 0 (by simp) (by omega)
      simp at h0
      rw [if_pos h0]
      rw [ih (k := k) (by simpa using hk) (fun j hj hjk => by have := h1 (j + 1) (by simpa using hj) (by omega); rwa [List.getElem_cons_succ] at this) (fun h => by have := h2 (by simpa using h); rwa [List.getElem_cons_succ] at this)]
      by_cases hkl : k < t.length
      · rw [dif_pos hkl, dif_pos (by simpa using hkl)]
        simp only [List.getElem_cons_succ]
        split
        · rw [List.set_cons_succ]
        · simp
      · rw [dif_neg hkl, dif_neg (by simpa using hkl)]
        simp
theorem insS_len (l : List Mem) (x : Mem) : (insS l x).length ≤ l.length + 1 := by
  induction l with
  | nil => simp [insS]
  | cons o t ih =>
    unfold insS
    split
    · simp; omega
    · split <;> simp
theorem foldS_len (b : List Mem) : ∀ l : List Mem, (b.foldl insS l).length ≤ l.length + b.length := by
  induction b with
  | nil => intro l; simp
  | cons x b ih => intro l; have := ih (insS l x); have := insS_len l x; simp; omega
def RmI (w0 : World) (a b : List Mem) (R : List Asn) : KL := fun x w1 => ∃ (u v : Value) (i : Nat), x = [u, v, .int .i64 (i : Nat)] ∧ i ≤ b.length ∧ St w0 w1 (rowM v ((b.take i).foldl insS a) :: R)
def PlI (w0 : World) (v : Value) (l : List Mem) (x : Mem) (R : List Asn) : KL := fun y w1 => ∃ (k : Nat), y = [.int .i64 (k : Nat)] ∧ St w0 w1 (rowM v l :: R) ∧ k ≤ l.length ∧ ∀ j (hj : j < l.length), j < k → l[j].id < x.id
theorem row_own {w0 w : World} {R : List Asn} {v : Value} {l : List Mem} (S : St w0 w (rowM v l :: R)) : ∀ b, v.ownBlock = some b → b < w.heap.size := by
  obtain ⟨B, ⟨h1, h2⟩, hB, _⟩ := S.open
  intro b hb
  exact (h1.lt hb).2
theorem mergeV_len' (a b : List Mem) : (mergeV a b).1.length ≤ a.length + b.length := by
  unfold mergeV
  split
  · simp
  · split
    · simp
    · have := mergeA_len (a ++ b)
      unfold outM
      rw [List.length_map, (Suint64.srtd_perm _).length_eq, List.length_map]
      simp at this; omega
section
variable {w0 w : World} {R : List Asn}
theorem rmJ8 {v v2 : Value} {l b : List Mem} {i k : Nat} {u : Value} (S : St w0 w (rowM v l :: R)) (hb : SlM w v2 b) (hi : i < b.length) (hk : k ≤ l.length) (hl : l.length ≤ 1000) (hbl : ∀ y, v2.ownBlock = some y → y < w.heap.size) {K4 : KL} {K : KV}
    (h : ∀ w' v' u', St w0 w' (rowM v' (l.take k ++ [b[i]] ++ l.drop k) :: R) → K4 [u', v'] w') : M.winnowref09_Merge.j8 [u, v, .int .i64 (i : Nat)] [.int .i64 (k : Nat)] v2 K4 w K := by
  unfold M.winnowref09_Merge.j8
  have q1 : gv [u, v, .int .i64 (i : Nat)] 1 = v := rfl
  have q2 : gv [u, v, .int .i64 (i : Nat)] 2 = .int .i64 (i : Nat) := rfl
  have hs : SlM w v l := S.row encM_len
  have hown := row_own S
  obtain ⟨v1, s1, p1, r1⟩ := hs.sub (P := P) (t := T.sl_api_Member) (lo := none) (hi := some (.int .i64 (k : Int))) (i := 0) (j := k) (by kernel_rfl) (by kernel_rfl) (.inl ⟨rfl, rfl⟩) (.inr ⟨_, rfl⟩) (Nat.zero_le _) hk
  obtain ⟨v3, s3, p3, r3⟩ := hs.sub (P := P) (t := T.sl_api_Member) (lo := some (.int .i64 (k : Int))) (hi := none) (i := k) (j := l.length) (by kernel_rfl) (by kernel_rfl) (.inr ⟨_, rfl⟩) (.inl ⟨rfl, rfl⟩) hk (Nat.le_refl _)
  have e1 : List.take (k - 0) (List.drop 0 l) = l.take k := by simp
  have e3 : List.take (l.length - k) (List.drop k l) = l.drop k := List.take_of_length_le (by simp)
  rw [e1] at s1
  rw [e3] at s3
  obtain ⟨b', o, cap, hv2, hbb, _, hc⟩ := hb.at hi
  have hld : ∀ {w'}, Fr (fun _ => False) w w' → ∀ K, ldN P 3 b' (o + i * 3) w' K = K (aggM b[i]) w' := fun f K => ldM (fun k u hk => by rw [cellOf_heap (f.keep b' hbb fun h => h)]; exact hc k u hk) K
  have hldw : ∀ K, ldN P 3 b' (o + i * 3) w K = K (aggM b[i]) w := hld (Fr.refl _ _)
  have hldd : ∀ K, ldN P 3 b' (o + i * 3) (Eng.dr w 1) K = K (aggM b[i]) (Eng.dr w 1) := hld ((Fr.refl _ w).dr 1)
  have g15 : ∀ (b0 b1 b2 b3 b4 b5 b6 b7 b8 b9 b10 b11 b12 b13 b14 b15 : Value), gv [b0, b1, b2, b3, b4, b5, b6, b7, b8, b9, b10, b11, b12, b13, b14, b15] 15 = b15 := fun _ _ _ _ _ _ _ _ _ _ _ _ _ _ _ _ => rfl
  subst hv2
  have em : aggM b[i] = .agg #[.int .u64 b[i].id, .int .u64 b[i].inc, .int .i64 b[i].st] := rfl
  have hldf : ∀ {w'}, Fr (fun _ => False) w w' → ∀ K, ldN P 3 b' (o + i * 3) w' K = K (.agg #[.int .u64 b[i].id, .int .u64 b[i].inc, .int .i64 b[i].st]) w' := fun f K => by rw [hld f, em]
  simp only [em] at hldd
  simp [q1, q2, r1, r3, hi, hldd, g15]
  have fin := ins3q (P := P) (ty := T.sl_api_Member) et.sl_api_Member encM_len encM_one (x := b[i]) (cells := #[.int .u64 b[i].id, .int .u64 b[i].inc, .int .i64 b[i].st]) rfl s1 s3 (fun y hy => hown y (p1 y hy)) (fun y hy => hown y (p3 y hy)) (by simp; omega) (by decide) (Q := fun w1 => ldN P 3 b' (o + i * 3) w1 fun v' w' => w' = w1 ∧ v' = .agg #[.int .u64 b[i].id, .int .u64 b[i].inc, .int .i64 b[i].st]) (fun w' f => by rw [hldf f]; exact ⟨rfl, rfl⟩) (c1 := [false, false]) (c2 := [false, false]) (c3 := [false, false]) (c4 := [false, false]) (c5 := [false, false]) (c6 := [false, false]) (c7 := [false, false]) (c8 := [false, false]) (c9 := [false, false]) (K := fun t w => K4 [.int .i64 (k : Nat), t] w) fun w' v' o' f' =>
    h w' v' _ (S.drop.add (a := rowM v' _) f' (B := fun y => v'.ownBlock = some y) ⟨o'.mono (Nat.zero_le _), fun y hy => hy⟩ fun y hy => ⟨(o'.lt hy).1, (o'.lt hy).2⟩)
  exact fin
theorem rmJ5 {v v2 : Value} {l b : List Mem} {i k : Nat} {u : Value} (S : St w0 w (rowM v l :: R)) (h2 : ∀ w' L, St w0 w' (L ++ R) → SlM w' v2 b) (hi : i < b.length) (hk : k ≤ l.length) (hl : l.length ≤ 1000) (hbn : b.length ≤ 1000) (hbl : ∀ y, v2.ownBlock = some y → y < w.heap.size)
    (hz1 : ∀ j (hj : j < l.length), j < k → l[j].id < b[i].id) (hz2 : ∀ h : k < l.length, ¬ l[k].id < b[i].id) {K4 : KL} {K : KV}
    (h : ∀ w' v' u', St w0 w' (rowM v' (insS l b[i]) :: R) → K4 [u', v'] w') : M.winnowref09_Merge.j5 [u, v, .int .i64 (i : Nat)] [.int .i64 (k : Nat)] v2 K4 w K := by
  unfold M.winnowref09_Merge.j5
  have q1 : gv [u, v, .int .i64 (i : Nat)] 1 = v := rfl
  have q2 : gv [u, v, .int .i64 (i : Nat)] 2 = .int .i64 (i : Nat) := rfl
  have q0 : gv [(.int .i64 (k : Nat) : Value)] 0 = .int .i64 (k : Nat) := rfl
  have hs : SlM w v l := S.row encM_len
  have hb := h2 w [rowM v l] S
  have hll : ∀ w' K', biT P .len #[T.sl_api_Member] T.int [false] [v] w' K' = K' (.int .i64 l.length) w' := fun w' K' => hs.len_ok (by kernel_rfl) [false]
  obtain ⟨b', o, cap, hv2, hbb, _, hc⟩ := hb.at hi
  have c0 := hc 0 _ rfl
  simp only [Nat.add_zero] at c0
  have key := plM_at hk hz1 hz2
  rw [key] at h
  have S1 := S.step ((Fr.refl _ w).dr 1)
  have hb1 := h2 (Eng.dr w 1) [rowM v l] S1
  by_cases hkl : k < l.length
  · rw [dif_pos hkl] at h
    obtain ⟨b2, o2, cap2, hv, hbb2, _, hc2⟩ := hs.at hkl
    have d0 := hc2 0 _ rfl
    simp only [Nat.add_zero] at d0
    have hkl' : (k : Int) < l.length := by omega
    have hv2' := hv2
    have hv' := hv
    subst hv2
    subst hv
    by_cases hid : l[k].id = b[i].id
    · rw [if_pos hid] at h
      simp [q0, q1, q2, hkl, hi, d0, c0, hid]
      have S2 := S.step ((Fr.refl _ w).dr 2)
      have hb2 := h2 (Eng.dr w 2) [rowM _ l] S2
      have ld1 : ∀ {w'}, Fr (fun _ => False) w w' → ∀ K, ldN P 3 b' (o + i * 3) w' K = K (aggM b[i]) w' := fun f K => ldM (fun k u hk => by rw [cellOf_heap (f.keep b' hbb fun h => h)]; exact hc k u hk) K
      have ld2 : ∀ {w'}, Fr (fun _ => False) w w' → ∀ K, ldN P 3 b2 (o2 + k * 3) w' K = K (aggM l[k]) w' := fun f K => ldM (fun k u hk => by rw [cellOf_heap (f.keep b2 hbb2 fun h => h)]; exact hc2 k u hk) K
      have fd : Fr (fun _ => False) w (Eng.dr (Eng.dr w 1) 1) := ((Fr.refl _ w).dr 1).dr 1
      rw [ld1 fd]
      refine ⟨rfl, ?_⟩
      rw [ld2 fd]
      refine ⟨rfl, ?_⟩
      refine refNewer_ok b[i] l[k] fun w3 f3 => ?_
      have S3 := (S.step fd).step f3
      cases hn : newerM b[i] l[k] with
      | false =>
        rw [hn] at h
        simp
        have : l.set k l[k] = l := List.set_getElem_self hkl
        exact h w3 _ _ (by simpa [this] using S3)
      | true =>
        rw [hn] at h
        obtain ⟨g, cp, hgv, hset⟩ := S3.setAt encM_len encM_one hkl b[i]
        injection hgv with e1 e2 e3
        injection e1 with e1
        injection e1 with e4 e5
        subst e4 e5
        simp [hi, hkl]
        rw [ld1 (fd.trans f3)]
        rw [show aggM b[i] = .agg #[.int .u64 b[i].id, .int .u64 b[i].inc, .int .i64 b[i].st] from rfl]
        simp
        have := hset (fun _ w' => K4 [.int .i64 (k : Nat), .slice (some ⟨b2, 0, none⟩) l.length cap2] w') fun w' S' => h w' _ _ S'
        simpa [encM] using this
    · rw [if_neg hid] at h
      simp [q0, q1, q2, hkl, hi, d0, c0, hid]
      exact rmJ8 S1 hb1 hi hk hl hbl h
  · rw [dif_neg hkl] at h
    have hkl' : ¬ (k : Int) < l.length := by omega
    simp [q0, q1, q2, hkl', hll]
    exact rmJ8 S1 hb1 hi hk hl hbl h
theorem refMerge_st {a b : List Mem} {v1 v2 : Value} (S : St w0 w R) (h1 : ∀ w' L, St w0 w' (L ++ R) → SlM w' v1 a) (h2 : ∀ w' L, St w0 w' (L ++ R) → SlM w' v2 b) (n1 : a.length ≤ 400) (n2 : b.length ≤ 400) (i1 : ∀ m ∈ a, 0 ≤ m.id) (i2 : ∀ m ∈ b, 0 ≤ m.id) {K : KV}
    (h : ∀ w' v', St w0 w' (rowM v' (mergeV a b).1 :: R) → K (.tuple #[v', .int .i64 (mergeV a b).2]) w') : fcallT P F.winnowref09_Merge [v1, v2] w K := by
  rw [M.winnowref09_Merge.fcall]
  apply M.winnowref09_Merge.calls
  unfold M.winnowref09_Merge
  rw [joinT_eq]
  refine refRight_ok (h1 w [] S) (by omega) i1 fun w1 f1 => ?_
  have S1 := S.step f1
  have bad : ∀ {w'}, St w0 w' R → (vright a ≠ 0 ∨ vright b ≠ 0) → K (.tuple #[.slice none 0 0, .int .i64 6]) w' := fun {w'} S' hb => by
    have h' := h w' (.slice none 0 0)
    unfold mergeV at h'
    rw [if_pos hb] at h'
    exact h' (nilRowM S')
  by_cases r1 : vright a = 0
  · simp [r1]
    refine refRight_ok (h2 w1 [] S1) (by omega) i2 fun w2 f2 => ?_
    have S2 := S1.step f2
    by_cases r2 : vright b = 0
    · simp [r2]
      unfold M.winnowref09_Merge.j0
      have ga := (vright_iff a).1 r1
      have ra : Rises a := ga.rise
      obtain ⟨m1, m2⟩ := insS_merge (b := b) ra
      have hmv : mergeV a b = if 16 < (b.foldl insS a).length then ([], 4) else (b.foldl insS a, 0) := by
        unfold mergeV
        rw [if_neg (by rw [r1, r2]; simp), m2, m1]
      rw [hmv] at h
      clear m1 m2 hmv
      simp
      have S3 := S2.add (a := rowM (.slice (some ⟨w2.heap.size, 0, none⟩) 0 0) []) ((Fr.refl _ w2).alloc (.cells #[] T.api_Member)) (B := fun x => x = w2.heap.size) ⟨Ow.empty (by rw [alloc_heap, if_pos rfl]) (Nat.zero_le _), fun x hx => by simpa [Value.ownBlock] using hx.symm⟩ fun x hx => by subst hx; rw [alloc_size]; omega
      refine moreRowM S3 (h1 _ [_] S3) (by simp; omega) fun w3 v3 S4 => ?_
      rw [List.nil_append] at S4
      refine ⟨RmI w0 a b R, fun x _ => b.length - ms x 2, ⟨_, v3, 0, rfl, Nat.zero_le _, S4⟩, ?_⟩
      rintro x w4 ⟨u, v, i, rfl, hi, S5⟩
      have q1 : gv [u, v, .int .i64 (i : Nat)] 1 = v := rfl
      have q2 : gv [u, v, .int .i64 (i : Nat)] 2 = .int .i64 (i : Nat) := rfl
      unfold M.winnowref09_Merge.j2
      simp only [joinT_eq, q2]
      have hb5 := h2 w4 [_] S5
      have hbl : ∀ {w'}, SlM w' v2 b → i < b.length → ∀ y, v2.ownBlock = some y → y < w'.heap.size := fun hb hi y hy => by
        obtain ⟨b', o, cap, hv2, hbb, _, _⟩ := hb.at hi
        rw [hv2] at hy; cases hy; exact hbb
      rw [hb5.len_ok (by kernel_rfl)]
      have hlen := foldS_len (b.take i) a
      by_cases hil : i < b.length
      · have hil' : (i : Int) < b.length := by omega
        have hwi : IntKind.i64.wrap ((i : Int) + 1) = ((i + 1 : Nat) : Int) := by rw [wrap_id (by omega) (by omega)]; rfl
        have htk : (b.take (i + 1)).foldl insS a = insS ((b.take i).foldl insS a) b[i] := by
          rw [List.take_succ_eq_append_getElem hil, List.foldl_append]; rfl
        have htl : (b.take i).length ≤ 400 := by simp; omega
        have fin : ∀ w' v' u', St w0 w' (rowM v' (insS ((b.take i).foldl insS a) b[i]) :: R) → RmI w0 a b R [u', v', .int .i64 ((i + 1 : Nat) : Int)] w' ∧ b.length - ms [u', v', .int .i64 ((i + 1 : Nat) : Int)] 2 < b.length - ms [u, v, .int .i64 (i : Nat)] 2 := fun w' v' u' S' =>
          ⟨⟨_, _, i + 1, rfl, by omega, by rw [htk]; exact S'⟩, by simp [ms, gv]; omega⟩
        generalize (b.take i).foldl insS a = l at *
        simp [hil']
        unfold M.winnowref09_Merge.j3
        simp only [joinT_eq]
        refine ⟨PlI w0 v l b[i] R, fun y _ => l.length - ms y 0, ⟨0, rfl, S5, Nat.zero_le _, fun _ _ h => by omega⟩, ?_⟩
        rintro y w5 ⟨k, rfl, S6, hk, hz⟩
        unfold M.winnowref09_Merge.j6
        have q0 : gv [(.int .i64 (k : Nat) : Value)] 0 = .int .i64 (k : Nat) := rfl
        have hs : SlM w5 v l := S6.row encM_len
        have hb6 := h2 w5 [_] S6
        have hll : ∀ w' K', biT P .len #[T.sl_api_Member] T.int [false] [v] w' K' = K' (.int .i64 l.length) w' := fun w' K' => hs.len_ok (by kernel_rfl) [false]
        obtain ⟨b', o, cap, hv2, hbb, _, hc⟩ := hb6.at hil
        have c0 := hc 0 _ rfl
        simp only [Nat.add_zero] at c0
        have S7 := S6.step ((Fr.refl _ w5).dr 1)
        have out : (∀ h : k < l.length, ¬ l[k].id < b[i].id) → M.winnowref09_Merge.j5 [u, v, .int .i64 (i : Nat)] [.int .i64 (k : Nat)] v2 (fun x4 w => binT P .add T.int (.tmp 24) (.const (.int .i64 1)) (gv [u, v, .int .i64 (i : Nat)] 2) (.int .i64 1) w fun t25 w => (fun x w => RmI w0 a b R x w ∧ b.length - ms x 2 < b.length - ms [u, v, .int .i64 (i : Nat)] 2) [(gv x4 0), (gv x4 1), t25] w) (Eng.dr w5 1) K := fun hz2 =>
          rmJ5 S7 h2 hil hk (by omega) (by omega) (hbl (h2 _ [_] S7) hil) hz hz2 fun w' v' u' S' => by
            simp only [q2, bin_add, hwi]
            exact fin w' v' u' S'
        by_cases hkl : k < l.length
        · have hwk : IntKind.i64.wrap ((k : Int) + 1) = ((k + 1 : Nat) : Int) := by rw [wrap_id (by omega) (by omega)]; rfl
          obtain ⟨b2, o2, cap2, hv, hbb2, _, hc2⟩ := hs.at hkl
          have d0 := hc2 0 _ rfl
          simp only [Nat.add_zero] at d0
          have hkl' : (k : Int) < l.length := by omega
          by_cases hlt : l[k].id < b[i].id
          · simp only [q0, q1, q2]
            rw [hv, hv2]
            simp [hkl, hil, d0, c0, hlt, hwk]
            refine ⟨⟨k + 1, rfl, by rw [← hv]; exact S7, by omega, fun j hj hjk => ?_⟩, by simp [ms, gv]; omega⟩
            by_cases hje : j = k
            · subst hje; exact hlt
            · exact hz j hj (by omega)
          · have := out fun _ => hlt
            simp only [q0, q1, q2]
            rw [hv, hv2] at this ⊢
            simp [hkl, hil, d0, c0, hlt]
            simpa using this
        · have hkl' : ¬ (k : Int) < l.length := by omega
          have := out fun h => absurd h hkl
          simp only [q0, q1, q2]
          simp [hkl', hll]
          simpa using this
      · have hil' : ¬ (i : Int) < b.length := by omega
        simp [hil']
        rw [List.take_of_length_le (by omega)] at S5
        unfold M.winnowref09_Merge.j1
        have q2' : gv [(.int .i64 (i : Nat) : Value), u, v] 2 = v := rfl
        simp only [joinT_eq, q1, q2, q2']
        have hs : SlM w4 v (b.foldl insS a) := S5.row encM_len
        rw [hs.len_ok (by kernel_rfl)]
        by_cases h16 : 16 < (b.foldl insS a).length
        · have h16' : (16 : Int) < (b.foldl insS a).length := by omega
          rw [if_pos h16] at h
          simp [h16']
          exact h w4 _ (nilRowM S5.drop)
        · have h16' : ¬ (16 : Int) < (b.foldl insS a).length := by omega
          rw [if_neg h16] at h
          simp [h16']
          exact h w4 v S5
    · simp [r2]
      exact bad S2 (.inr r2)
  · simp [r1]
    exact bad S1 (.inl r1)
theorem ViewMerges_law {W : World} {n0 : Nat} {v0 : Value} (h0 : TV P W n0 T.sl_api_Member [v0]) {n1 : Nat} {v1 : Value} (h1 : TV P W n1 T.sl_api_Member [v1]) {K : KV}
    (h : ∀ w', Fr (fun _ => False) W w' → K (.bool true) w') : callT P F.winnowlaw09_ViewMerges [v0, v1] W K := by
  obtain ⟨a, ha, ia⟩ := members_of' h0
  obtain ⟨b, hb, ib⟩ := members_of' h1
  apply M.winnowlaw09_ViewMerges.calls
  unfold M.winnowlaw09_ViewMerges
  have al : ∀ {w'}, Fr (fun _ => False) W w' → ∀ {K : KV}, (∀ w'', Fr (fun _ => False) W w'' → K (.bool true) w'') → fcallT P F.winnowlaw09_alive [] w' K := fun {w'} f {K} hK => alive9 fun w'' f' => hK w'' (f.trans f')
  have la : ∀ w' K', biT P .len #[T.sl_api_Member] T.int [false] [v0] w' K' = K' (.int .i64 a.length) w' := fun w' K' => ha.len_ok (by kernel_rfl) [false]
  have lb : ∀ w' K', biT P .len #[T.sl_api_Member] T.int [false] [v1] w' K' = K' (.int .i64 b.length) w' := fun w' K' => hb.len_ok (by kernel_rfl) [false]
  rw [joinT_eq, la]
  by_cases g1 : 200 < a.length
  · have g1' : (200 : Int) < a.length := by omega
    simp [g1']
    exact al (Fr.refl _ _) h
  have g1' : ¬ (200 : Int) < a.length := by omega
  by_cases g2 : 200 < b.length
  · have g2' : (200 : Int) < b.length := by omega
    simp [lb, g1', g2']
    exact al (Fr.refl _ _) h
  have g2' : ¬ (200 : Int) < b.length := by omega
  simp [lb, g1', g2']
  unfold M.winnowlaw09_ViewMerges.j0
  refine merge_st (St.start W) (fun w' L S => S.old ha) (fun w' L S => S.old hb) (by omega) (by omega) fun w1 v1' S1 => ?_
  simp only [ex_2_0, ex_2_1]
  refine refMerge_st S1 (fun w' L S => S.old ha) (fun w' L S => S.old hb) (by omega) (by omega) ia ib fun w2 v2' S2 => ?_
  simp only [ex_2_0, ex_2_1]
  have hml := mergeV_len' a b
  refine refSame_ok (S2.swap.row encM_len) (S2.row encM_len) (by omega) fun w3 f3 => ?_
  simp
  exact al (S2.fr.trans f3) h
end
end Go.Proofs.Ytkjhekflgghbdaa
set_option maxRecDepth 100000
namespace Go.Proofs.Ytkjhekflgghbdaa
open Go.Eng

def nodeC (n : Nd) (v : Value) (r : Nat) : Array Value := #[.int .u64 n.id, .int .u64 n.period, .int .u64 n.wait, .int .u64 n.now, .int .u64 n.due, .bool n.left, v, .map (some r)]
def HInt (h : MP) : Prop := ∀ k v, mget h k = some v → ∃ t, v = .int .u64 t
def nodeL (p r : Nat) (v : Value) (n : Nd) : List Asn := [blkA p (nodeC n v r) T.gossip_Node, rowM v n.v, mapA r .u64 n.h]
def nodeA (p : Nat) (n : Nd) : Asn where
  ok w B := ∃ r v, HInt n.h ∧ Rs (nodeL p r v n) w B
  keep := by
    rintro w w' B S ⟨r, v, h1, h2⟩ hf hn
    exact ⟨r, v, h1, h2.keep hf hn⟩
def ptrN (p : Nat) : Value := .pointer (some ⟨p, 0, none⟩)
section
variable {w0 w : World} {R : List Asn} {p r : Nat} {v : Value} {n : Nd}
theorem unNd (S : St w0 w (nodeA p n :: R)) : ∃ r v, HInt n.h ∧ St w0 w (blkA p (nodeC n v r) T.gossip_Node :: rowM v n.v :: mapA r .u64 n.h :: R) := by
  obtain ⟨B, ⟨r, v, h1, h2⟩, _, cl⟩ := S.open
  exact ⟨r, v, h1, cl w (nodeL p r v n) (Fr.refl _ _) (h2.mono fun b hb => .inl hb)⟩
theorem mkNd (h : HInt n.h) (S : St w0 w (blkA p (nodeC n v r) T.gossip_Node :: rowM v n.v :: mapA r .u64 n.h :: R)) : St w0 w (nodeA p n :: R) := by
  obtain ⟨U, h1, _, g⟩ := St.openL (L := nodeL p r v n) (R := R) S
  exact g w [nodeA p n] (Fr.refl _ _) ⟨U, ⟨r, v, h, h1⟩, fun b hb => .inl hb, trivial⟩
theorem hget (h : HInt n.h) (k : Int) : (mget n.h k).getD (.int .u64 0) = .int .u64 (hat n.h k) := by
  unfold hat
  cases hg : mget n.h k with
  | none => rfl
  | some x =>
    obtain ⟨t, rfl⟩ := h k x hg
    rfl
theorem hint_step {id frm now : Int} {h : MP} {m : Mem} (hh : HInt h) : HInt (heardStep id frm now h m) := by
  unfold heardStep
  split
  · intro k x hx
    rw [mget_mset] at hx
    split at hx
    · cases hx; exact ⟨_, rfl⟩
    · exact hh k x hx
  · exact hh
theorem hint_all {id frm now : Int} (l : List Mem) : ∀ {h : MP}, HInt h → HInt (heardAll id frm now h l) := by
  induction l with
  | nil => exact fun h => h
  | cons x l ih => exact fun h => ih (hint_step h)
theorem nodeC_cells {w : World} (hb : w.heap[p]? = some (.cells (nodeC n v r) T.gossip_Node (0, 0))) : cellOf w p 0 = some (.int .u64 n.id) ∧ cellOf w p 1 = some (.int .u64 n.period) ∧ cellOf w p 2 = some (.int .u64 n.wait) ∧ cellOf w p 3 = some (.int .u64 n.now) ∧ cellOf w p 4 = some (.int .u64 n.due) ∧ cellOf w p 5 = some (.bool n.left) ∧ cellOf w p 6 = some v ∧ cellOf w p 7 = some (.map (some r)) ∧ ∀ i, frzOf w p i = false :=
  ⟨by rw [cellOf_of hb]; rfl, by rw [cellOf_of hb]; rfl, by rw [cellOf_of hb]; rfl, by rw [cellOf_of hb]; rfl, by rw [cellOf_of hb]; rfl, by rw [cellOf_of hb]; rfl, by rw [cellOf_of hb]; rfl, by rw [cellOf_of hb]; rfl, frzOf_of hb⟩
theorem blkSet {cs cs' : Array Value} {e : TypeId} {b i : Nat} {u : Value} (S : St w0 w (blkA b cs e :: R)) (hc : cs.setIfInBounds i u = cs') : St w0 (w.setCell ⟨b, i, none⟩ u) (blkA b cs' e :: R) :=
  S.turn ((Fr.refl (fun x => x = b) w).setCell (.inl rfl) _ _) ((setCell_at S.blk).trans (by rw [hc]))

/-! ### own -/
theorem own_ok (hb : w.heap[p]? = some (.cells (nodeC n v r) T.gossip_Node (0, 0))) (hs : SlM w v n.v) (hl : n.v.length ≤ 1000000) (ho : findM n.v n.id ≠ none) {K : KV} (h : ∀ w' (i : Nat) (hi : i < n.v.length), n.v[i].id = n.id → (∀ j (hj : j < n.v.length), j < i → n.v[j].id ≠ n.id) → Fr (fun _ => False) w w' → K (.int .i64 i) w') : fcallT P F.pgossip_Node_own [ptrN p] w K := by
  rw [M.pgossip_Node_own.fcall]
  apply M.pgossip_Node_own.calls
  unfold M.pgossip_Node_own ptrN
  have hb1 : (w.alloc (.cells #[.pointer (some ⟨p, 0, none⟩)] T.p_gossip_Node)).heap[w.heap.size]? = some (.cells #[.pointer (some ⟨p, 0, none⟩)] T.p_gossip_Node (0, 0)) := by rw [alloc_heap, if_pos rfl]
  have f1 : Fr (fun _ => False) w (w.alloc (.cells #[.pointer (some ⟨p, 0, none⟩)] T.p_gossip_Node)) := (Fr.refl _ w).alloc _
  simp
  generalize hg : w.heap.size = g at *
  generalize w.alloc (.cells #[.pointer (some ⟨p, 0, none⟩)] T.p_gossip_Node) = w1 at *
  have cg : cellOf w1 g 0 = some (.pointer (some ⟨p, 0, none⟩)) := by rw [cellOf_of hb1]; rfl
  have hbp := f1.heap hb fun h => h
  obtain ⟨c0, _, _, _, _, _, c6, _⟩ := nodeC_cells hbp
  simp [cg, c6, mkf_eq]
  have hs1 : SlM w1 v n.v := hs.fr f1 fun _ _ _ h => h
  refine index_ok (p := fun m => decide (m.id = n.id)) hs1 hl (fun m w2 f2 K hK => ?_) (fun w' i hi hpi hz f => h w' i hi (by simpa using hpi) (fun j hj hji => by simpa using hz j hj hji) (f1.trans f)) fun w' hn f => ?_
  · refine (Eq.mpr (M.pgossip_Node_own_1.rcall [] [.pointer (some ⟨g, 0, none⟩)] [aggM m] w2 K) ?_ : callRT P (.func (.func F.pgossip_Node_own_1) #[] #[.pointer (some ⟨g, 0, none⟩)]) [aggM m] w2 K)
    refine M.pgossip_Node_own_1.calls (aggM m) (.pointer (some ⟨g, 0, none⟩)) ?_
    unfold M.pgossip_Node_own_1 aggM
    have hb2 : (w2.alloc (.cells #[.int .u64 m.id, .int .u64 m.inc, .int .i64 m.st] T.api_Member)).heap[w2.heap.size]? = some (.cells #[.int .u64 m.id, .int .u64 m.inc, .int .i64 m.st] T.api_Member (0, 0)) := by rw [alloc_heap, if_pos rfl]
    have f3 : Fr (fun _ => False) w2 (w2.alloc (.cells #[.int .u64 m.id, .int .u64 m.inc, .int .i64 m.st] T.api_Member)) := (Fr.refl _ w2).alloc _
    simp
    generalize w2.heap.size = g2 at *
    generalize w2.alloc (.cells #[.int .u64 m.id, .int .u64 m.inc, .int .i64 m.st] T.api_Member) = w3 at *
    have d0 : cellOf w3 g2 0 = some (.int .u64 m.id) := by rw [cellOf_of hb2]; rfl
    have cg3 : cellOf w3 g 0 = some (.pointer (some ⟨p, 0, none⟩)) := by rw [cellOf_of ((f2.trans f3).heap hb1 fun h => h)]; rfl
    obtain ⟨c0, _⟩ := nodeC_cells ((f2.trans f3).heap hbp fun h => h)
    simp [d0, cg3, c0]
    exact hK _ (f3.dr 1)
  · exfalso
    refine ho (findM_none fun m hm => ?_)
    simpa using hn m hm
theorem map_idx {l : List Mem} {g : Mem → Mem} {k : Int} {i : Nat} (hn : (l.map Mem.id).Nodup) (hi : i < l.length) (hk : l[i].id = k) (hg : ∀ m, m.id ≠ k → g m = m) : l.map g = l.set i (g l[i]) := by
  apply List.ext_getElem?
  intro j
  rw [List.getElem?_map, List.getElem?_set]
  by_cases hj : i = j
  · subst hj
    rw [if_pos rfl, if_pos hi, List.getElem?_eq_getElem hi]; rfl
  · rw [if_neg hj]
    cases hx : l[j]? with
    | none => rfl
    | some m =>
      show some (g m) = some m
      rw [hg m fun hm => ?_]
      obtain ⟨hj', rfl⟩ := List.getElem?_eq_some_iff.1 hx
      have : (l.map Mem.id)[i]? = (l.map Mem.id)[j]? := by simp [List.getElem?_eq_getElem hi, List.getElem?_eq_getElem hj', hk, hm]
      exact hj ((List.getElem?_inj (by simpa using hi) hn).1 this)
/-! ### New -/
theorem gnew_ok (S : St w0 w R) {self inc period wait now : Int} (h1 : 0 ≤ self) (h2 : 0 ≤ inc) (h3 : 0 ≤ period) (h4 : 0 ≤ wait) {K : KV}
    (hb : (self = 0 ∨ inc = 0 ∨ period = 0 ∨ wait = 0 ∨ 1099511627776 < period ∨ 1099511627776 < wait) → ∀ w', Fr (fun _ => False) w w' → K (.tuple #[.pointer none, .int .i64 1]) w')
    (hg : 0 < self → 0 < inc → 1 ≤ period ∧ period ≤ 1099511627776 → 1 ≤ wait ∧ wait ≤ 1099511627776 → ∀ w' p, St w0 w' (nodeA p (Nd.new self inc period wait now) :: R) → K (.tuple #[ptrN p, .int .i64 0]) w') :
    fcallT P F.gossip_New [.int .u64 self, .int .u64 inc, .int .u64 period, .int .u64 wait, .int .u64 now] w K := by
  rw [M.gossip_New.fcall]
  apply M.gossip_New.calls
  unfold M.gossip_New
  rw [joinT_eq, min4]
  generalize hmn : min (min (min self inc) period) wait = mn
  by_cases hz : mn = 0
  · simp [hz]
    exact hb (by omega) w (Fr.refl _ _)
  · simp [hz, max_ints]
    generalize hmx : max period wait = mx'
    by_cases hm : 1099511627776 < mx'
    · simp [hm]
      exact hb (by omega) _ (Fr.refl _ _)
    · simp [hm]
      unfold M.gossip_New.j0
      simp
      have S1 : St w0 (w.alloc (.cells #[.int .u64 self, .int .u64 inc, .int .i64 0] T.api_Member)) (rowM (.slice (some ⟨w.heap.size, 0, none⟩) 1 1) [⟨self, inc, 0⟩] :: R) := S.add (a := rowM (.slice (some ⟨w.heap.size, 0, none⟩) 1 1) [⟨self, inc, 0⟩]) ((Fr.refl _ w).alloc _) (B := fun x => x = w.heap.size) ⟨⟨rfl, .inr ⟨w.heap.size, 1, _, rfl, Nat.zero_le _, by rw [alloc_heap, if_pos rfl], by simp, by decide, rfl, rfl⟩⟩, fun x hx => by simpa [Value.ownBlock] using hx.symm⟩ fun x hx => by subst hx; rw [alloc_size]; omega
      have z1 : (w.alloc (.cells #[.int .u64 self, .int .u64 inc, .int .i64 0] T.api_Member)).heap.size = w.heap.size + 1 := alloc_size _ _
      generalize hv : Value.slice (some ⟨w.heap.size, 0, none⟩) 1 1 = vv at *
      generalize w.alloc (.cells #[.int .u64 self, .int .u64 inc, .int .i64 0] T.api_Member) = w1 at *
      rw [mkm_eq]
      have hm2 := MapAt_new w1 .u64
      have S2 := S1.add (a := mapA w1.heap.size .u64 []) (w' := w1.alloc (.map #[] 0)) ((Fr.refl _ w1).alloc _) (B := fun x => x = w1.heap.size) ⟨⟨hm2, by simp [mkeys]⟩, rfl⟩ fun x hx => by subst hx; rw [alloc_size]; omega
      generalize hr : w1.heap.size = r at *
      generalize w1.alloc (.map #[] 0) = w2 at *
      subst hv
      simp
      have S3 : St w0 (w2.alloc (.cells (nodeC (Nd.new self inc period wait now) (.slice (some ⟨w.heap.size, 0, none⟩) 1 1) r) T.gossip_Node)) (blkA w2.heap.size (nodeC (Nd.new self inc period wait now) (.slice (some ⟨w.heap.size, 0, none⟩) 1 1) r) T.gossip_Node :: mapA r .u64 [] :: rowM (.slice (some ⟨w.heap.size, 0, none⟩) 1 1) [⟨self, inc, 0⟩] :: R) := S2.add ((Fr.refl _ w2).alloc _) (B := fun x => x = w2.heap.size) ⟨by rw [alloc_heap, if_pos rfl], rfl⟩ fun x hx => by subst hx; rw [alloc_size]; omega
      have S4 := S3.tail (.swap _ _ _)
      exact hg (by omega) (by omega) (by omega) (by omega) _ _ (mkNd (n := Nd.new self inc period wait now) (fun k v h => by simp [Nd.new, mget] at h) S4)
/-! ### View, Self, Leave -/
abbrev rdM (v : Value) (l : List Mem) : Asn := rdA 3 encM v l
theorem view_st (S : St w0 w (nodeA p n :: R)) (hn : NdOk n) {K : KV} (h : ∀ w' v', St w0 w' (rdM v' n.v :: nodeA p n :: R) → K v' w') : fcallT P F.pgossip_Node_View [ptrN p] w K := by
  obtain ⟨r, v, hh, S1⟩ := unNd S
  rw [M.pgossip_Node_View.fcall]
  apply M.pgossip_Node_View.calls
  unfold M.pgossip_Node_View ptrN
  have hfew := hn.good.few
  obtain ⟨c0, _, _, _, _, _, c6, _⟩ := nodeC_cells S1.blk
  simp [c6]
  have hs : SlM w v n.v := S1.swap.row encM_len
  refine cloneM_ok hs (by omega) fun w1 v1 s1 g1 f1 => ?_
  obtain ⟨m, hm⟩ := Option.ne_none_iff_exists'.1 hn.own
  obtain ⟨b, hb1, hb2⟩ := s1.lt (findM_mem hm)
  have S2 := S1.add (a := rdM v1 n.v) f1 (B := fun y => v1.ownBlock = some y) ⟨s1, fun y hy => hy⟩ fun y hy => ⟨g1 y hy, by rw [hb1] at hy; cases hy; exact hb2⟩
  exact h w1 v1 (mkNd (R := rdM v1 n.v :: R) hh (S2.perm (List.perm_middle (l₁ := [blkA p (nodeC n v r) T.gossip_Node, rowM v n.v, mapA r .u64 n.h])).symm)).swap
theorem self_st (S : St w0 w (nodeA p n :: R)) (hn : NdOk n) {K : KV} (h : ∀ w', St w0 w' (nodeA p n :: R) → K (aggM n.self) w') : fcallT P F.pgossip_Node_Self [ptrN p] w K := by
  obtain ⟨r, v, hh, S1⟩ := unNd S
  rw [M.pgossip_Node_Self.fcall]
  apply M.pgossip_Node_Self.calls
  unfold M.pgossip_Node_Self
  have hfew := hn.good.few
  have hb0 : (w.alloc (.cells #[.int .u64 0, .int .u64 0, .int .i64 0] T.api_Member)).heap[w.heap.size]? = some (.cells #[.int .u64 0, .int .u64 0, .int .i64 0] T.api_Member (0, 0)) := by rw [alloc_heap, if_pos rfl]
  have f0 : Fr (fun _ => False) w (w.alloc (.cells #[.int .u64 0, .int .u64 0, .int .i64 0] T.api_Member)) := (Fr.refl _ w).alloc _
  have S2 := S1.step f0
  have hpne : (Value.pointer (some ⟨p, 0, none⟩)) = ptrN p := rfl
  simp only [ptrN]
  simp
  generalize hq : w.heap.size = q at *
  generalize w.alloc (.cells #[.int .u64 0, .int .u64 0, .int .i64 0] T.api_Member) = w1 at *
  unfold M.pgossip_Node_Self.j0
  obtain ⟨c0, _, _, _, _, _, c6, _⟩ := nodeC_cells S2.blk
  have S3 := S2.step ((Fr.refl _ w1).dr 1)
  simp [c6]
  refine own_ok S3.blk (S3.swap.row encM_len) (by omega) hn.own fun w2 i hi hid hz f2 => ?_
  have S4 := S3.step f2
  obtain ⟨_, _, _, _, _, _, d6, _⟩ := nodeC_cells S4.blk
  obtain ⟨b, o, cap, hv, hb, _, hc⟩ := (S4.swap.row encM_len : SlM w2 v n.v).at hi
  have hld : ∀ K, ldN P 3 b (o + i * 3) w2 K = K (aggM n.v[i]) w2 := fun K => ldM hc K
  have hself : n.self = n.v[i] := findP_eq (findM_at hi hid hz)
  rw [hself] at h
  rw [hv] at d6
  simp [d6]
  rw [hv]
  simp [hi, hld]
  rw [show aggM n.v[i] = .agg #[.int .u64 n.v[i].id, .int .u64 n.v[i].inc, .int .i64 n.v[i].st] from rfl]
  simp
  have hbq := (((Fr.refl (fun _ => False) w1).dr 1).trans f2).heap hb0 fun h => h
  have hfr : Fr (fun _ => False) w w2 := (f0.dr 1).trans f2
  refine st3_ok (w0 := w) n.v[i] hbq rfl (by omega) hfr fun w3 f3 b3 => ?_
  rw [res_mem]
  rw [ld3_ok b3]
  exact ⟨rfl, h w3 (mkNd hh (S1.step f3))⟩
theorem leave_st (S : St w0 w (nodeA p n :: R)) (hn : NdOk n) {K : KV} (h : ∀ w', St w0 w' (nodeA p n.leave :: R) → K (.tuple #[]) w') : fcallT P F.pgossip_Node_Leave [ptrN p] w K := by
  obtain ⟨r, v, hh, S1⟩ := unNd S
  rw [M.pgossip_Node_Leave.fcall]
  apply M.pgossip_Node_Leave.calls
  unfold M.pgossip_Node_Leave
  have hfew := hn.good.few
  simp only [ptrN]
  obtain ⟨c0, _, _, _, _, _, c6, _⟩ := nodeC_cells S1.blk
  have S3 := S1.step ((Fr.refl _ w).dr 1)
  simp [c6]
  refine own_ok S3.blk (S3.swap.row encM_len) (by omega) hn.own fun w2 i hi hid hz f2 => ?_
  have S4 := S3.step f2
  obtain ⟨_, _, _, _, _, _, d6, _⟩ := nodeC_cells S4.blk
  have hmap := map_idx (g := goneM n.id) hn.good.nd hi hid fun m hm => by unfold goneM; rw [if_neg hm]
  have hg : goneM n.id n.v[i] = ⟨n.v[i].id, n.v[i].inc, 2⟩ := by unfold goneM; rw [if_pos hid]
  obtain ⟨b, cap, hv, k1, k2, k3, S5⟩ := S4.swap.setCellAt encM_len hi (goneM n.id n.v[i]) (f := 2) (u := .int .i64 2) (by omega) (by rw [hg]; rfl)
  rw [hv] at d6
  simp [d6]
  rw [hv]
  simp [hi, k1, k2]
  have S6 := S5.swap
  obtain ⟨e0, _, _, _, _, e5, _, _, e8⟩ := nodeC_cells S6.blk
  simp [e5, e8]
  refine h _ (mkNd (n := n.leave) (v := v) (r := r) hh ?_)
  have S7 := blkSet (i := 5) (u := .bool true) S6 (cs' := nodeC n.leave v r) rfl
  rw [← hmap] at S7
  exact S7
end
end Go.Proofs.Ytkjhekflgghbdaa
set_option maxRecDepth 100000
namespace Go.Proofs.Ytkjhekflgghbdaa
open Go.Eng
abbrev rowW (v : Value) (l : List Int) : Asn := rowA T.uint64 1 Suint64.encL v l
section
variable {w0 w : World} {R : List Asn}
theorem nilRowW (S : St w0 w R) : St w0 w (rowW (.slice none 0 0) [] :: R) := S.add (a := rowW (.slice none 0 0) []) (Fr.refl _ w) (B := fun _ => False) ⟨Ow.none, fun b hb => by simp [Value.ownBlock] at hb⟩ fun b hb => hb.elim
theorem moreRowW {v v2 : Value} {l l2 : List Int} (S : St w0 w (rowW v l :: R)) (hs : Sl w 1 Suint64.encL v2 l2) (hl : l.length + l2.length ≤ 1000000000) {cs : List Bool} {ty : TypeId} {K : KV} (h : ∀ w' v', St w0 w' (rowW v' (l ++ l2) :: R) → K v' w') :
    biT P .append #[T.sl_uint64, T.sl_uint64] ty cs [v, v2] w K := by
  obtain ⟨B, ⟨h1, h2⟩, hB, cl⟩ := S.open
  refine app_sl et.sl_uint64 (fun _ => rfl) (fun x u hu => by simp [Suint64.encL] at hu; subst hu; rfl) h1 hs hl (by decide) (Nat.zero_le _) cs fun v' w' o f g => ?_
  refine h w' v' (cl w' [rowW v' (l ++ l2)] (f.mono fun x _ hx => h2 x hx) (Rs.one (B := fun x => v'.ownBlock = some x) ⟨o, fun b hb => hb⟩ fun x hx => ?_))
  rcases g with g | ⟨y, g1, g2⟩
  · exact .inl (h2 x (by rw [← g]; exact hx))
  · rw [hx] at g1; cases g1
    exact .inr ⟨g2, (o.lt hx).2⟩
end
end Go.Proofs.Ytkjhekflgghbdaa
set_option maxRecDepth 100000
namespace Go.Proofs.Ytkjhekflgghbdaa
open Go.Eng

section
variable {w0 w : World} {R : List Asn} {p r : Nat} {v : Value} {n : Nd}
theorem aged_ok {m : Mem} (hb : w.heap[p]? = some (.cells (nodeC n v r) T.gossip_Node (0, 0))) (hm : MapAt w r .u64 n.h) (hh : HInt n.h) (hw : 1 ≤ n.wait ∧ n.wait ≤ 1099511627776) {K : KV} (h : ∀ w', Fr (fun _ => False) w w' → K (.int .i64 (aged n.now n.wait n.h m)) w') : fcallT P F.pgossip_Node_aged [ptrN p, aggM m] w K := by
  rw [M.pgossip_Node_aged.fcall]
  apply M.pgossip_Node_aged.calls
  unfold M.pgossip_Node_aged aggM ptrN
  have hb2 : (w.alloc (.cells #[.int .u64 m.id, .int .u64 m.inc, .int .i64 m.st] T.api_Member)).heap[w.heap.size]? = some (.cells #[.int .u64 m.id, .int .u64 m.inc, .int .i64 m.st] T.api_Member (0, 0)) := by rw [alloc_heap, if_pos rfl]
  have f1 : Fr (fun _ => False) w (w.alloc (.cells #[.int .u64 m.id, .int .u64 m.inc, .int .i64 m.st] T.api_Member)) := (Fr.refl _ w).alloc _
  have hm1 : MapAt (w.alloc (.cells #[.int .u64 m.id, .int .u64 m.inc, .int .i64 m.st] T.api_Member)) r .u64 n.h := hm.of_heap (f1.keep r hm.lt fun h => h)
  simp
  generalize w.heap.size = g at *
  generalize w.alloc (.cells #[.int .u64 m.id, .int .u64 m.inc, .int .i64 m.st] T.api_Member) = w1 at *
  obtain ⟨_, _, c2, c3, _, _, _, c7, _⟩ := nodeC_cells (f1.heap hb fun h => h)
  have d0 : cellOf w1 g 0 = some (.int .u64 m.id) := by rw [cellOf_of hb2]; rfl
  have d2 : cellOf w1 g 2 = some (.int .i64 m.st) := by rw [cellOf_of hb2]; rfl
  have hmd : MapAt (Eng.dr w1 1) r .u64 n.h := hm1.of_heap rfl
  simp [c3, c7, d0]
  rw [lu_eq mt.map_uint64_uint64 hmd, hget hh]
  have hwm : IntKind.u64.wrap (2 * n.wait) = 2 * n.wait := by rw [wrap_u64 (by omega) (by omega)]
  have fin := h (Eng.dr w1 1) (f1.dr 1)
  unfold aged at fin
  generalize hat n.h m.id = t at *
  by_cases s0 : m.st = 0
  · by_cases k1 : n.wait ≤ IntKind.u64.wrap (n.now - t)
    · simp [s0, k1] at fin
      simp [d2, s0, M.pgossip_Node_aged.j3, c2, k1, gv]
      exact fin
    · simp [s0, k1] at fin
      simp [d2, s0, M.pgossip_Node_aged.j3, c2, k1, gv]
      exact fin
  · by_cases s1 : m.st = 1
    · by_cases k1 : IntKind.u64.wrap (n.now - t) < 2 * n.wait
      · simp [s1, k1] at fin
        simp [d2, s1, M.pgossip_Node_aged.j5, M.pgossip_Node_aged.j2, c2, hwm, k1, gv]
        exact fin
      · simp [s1, k1] at fin
        simp [d2, s1, M.pgossip_Node_aged.j5, M.pgossip_Node_aged.j2, c2, hwm, k1, gv]
        exact fin
    · simp [s0, s1] at fin
      by_cases s2 : m.st = 2
      · simp [s2] at fin
        simp [d2, s2, M.pgossip_Node_aged.j5, gv]
        exact fin
      · simp [d2, s0, s1, s2, M.pgossip_Node_aged.j5, gv]
        exact fin

theorem max_maxI (a b : Int) : max a b = maxI a b := by unfold maxI; split <;> omega
theorem min_minI (a b : Int) : min a b = minI a b := by unfold minI; split <;> omega

/-! ### Hear -/
def HrI (w0 : World) (p r : Nat) (n : Nd) (v : Value) (V : List Mem) (frm : Int) (R : List Asn) : KL := fun x w1 => ∃ (u0 u1 : Value) (i : Nat), x = [u0, u1, .int .i64 (i : Nat)] ∧ i ≤ V.length ∧ St w0 w1 (blkA p (nodeC n v r) T.gossip_Node :: rowM v V :: mapA r .u64 (heardAll n.id frm n.now n.h (V.take i)) :: R)
theorem heard_take {id frm now : Int} {h : MP} {l : List Mem} {i : Nat} (hi : i < l.length) : heardAll id frm now h (l.take (i + 1)) = heardStep id frm now (heardAll id frm now h (l.take i)) l[i] := by
  unfold heardAll
  rw [List.take_succ_eq_append_getElem hi, List.foldl_append]; rfl
/-- One member that is heard. -/
theorem hrJ4 {V : List Mem} {frm : Int} {H : MP} (S : St w0 w (blkA p (nodeC n v r) T.gossip_Node :: rowM v V :: mapA r .u64 H :: R)) {i : Nat} (hi : i < V.length) (hV : V.length ≤ 1000) {u0 u1 : Value} {K3 : KL} {K : KV}
    (h : ∀ w' y0 y1, St w0 w' (blkA p (nodeC n v r) T.gossip_Node :: rowM v V :: mapA r .u64 (heardStep n.id frm n.now H V[i]) :: R) → K3 [y0, y1, .int .i64 ((i + 1 : Nat) : Int)] w') : M.pgossip_Node_Hear.j4 v [u0, u1, .int .i64 (i : Nat)] (ptrN p) (.int .u64 frm) K3 w K := by
  unfold M.pgossip_Node_Hear.j4 ptrN
  have q2 : gv [u0, u1, .int .i64 (i : Nat)] 2 = .int .i64 (i : Nat) := rfl
  have hwi : IntKind.i64.wrap ((i : Int) + 1) = ((i + 1 : Nat) : Int) := by rw [wrap_id (by omega) (by omega)]; rfl
  obtain ⟨b, o, cap, hv, hb, _, hc⟩ := (S.swap.row encM_len : SlM w v V).at hi
  have hld : ∀ K, ldN P 3 b (o + i * 3) w K = K (aggM V[i]) w := fun K => ldM hc K
  generalize V[i] = m at *
  have hv2 := hv
  simp only [joinT_eq, q2, bin_add, hwi]
  rw [hv]
  simp [hi, hld]
  rw [show aggM m = .agg #[.int .u64 m.id, .int .u64 m.inc, .int .i64 m.st] from rfl]
  simp
  have hba : (w.alloc (.cells #[.int .u64 0, .int .u64 0, .int .i64 0] T.api_Member)).heap[w.heap.size]? = some (.cells #[.int .u64 0, .int .u64 0, .int .i64 0] T.api_Member (0, 0)) := by rw [alloc_heap, if_pos rfl]
  refine st3_ok (w0 := w) m hba rfl (Nat.le_refl _) ((Fr.refl _ w).alloc _) fun w2 f2 b2 => ?_
  have S2 := S.step f2
  generalize w.heap.size = g at *
  obtain ⟨c0, _, _, c3, _, _, _, c7, _⟩ := nodeC_cells S2.blk
  have d0 : cellOf w2 g 0 = some (.int .u64 m.id) := by rw [cellOf_of b2]; rfl
  simp [c0, c3, c7, d0]
  have S3 := S2.step ((Fr.refl _ w2).dr 1)
  have hm3 := (mapAt_of S3.third).1
  rw [luok_eq mt.map_uint64_uint64 hm3]
  have S5 : ∀ k, St w0 (Eng.dr w2 k) (blkA p (nodeC n v r) T.gossip_Node :: rowM v V :: mapA r .u64 H :: R) := fun k => S2.step ((Fr.refl _ w2).dr k)
  have put : ∀ k, (m.id ≠ n.id ∧ (mget H m.id = none ∨ m.id = frm)) → ∀ y0 y1, muT P T.map_uint64_uint64 (.map (some r)) (.int .u64 m.id) (.int .u64 n.now) (Eng.dr w2 k) fun _ w => K3 [y0, y1, .int .i64 ((i + 1 : Nat) : Int)] w := fun k hc y0 y1 => by
    refine mu_ok mt.map_uint64_uint64 (mapAt_of (S5 k).third).1 m.id _ _ fun ob hob => ?_
    have S6 := (mapSet (S5 k).third hob).dn2
    refine h _ y0 y1 ?_
    unfold heardStep
    rw [if_pos hc]
    exact S6
  have stay : ∀ k, ¬ (m.id ≠ n.id ∧ (mget H m.id = none ∨ m.id = frm)) → ∀ y0 y1, K3 [y0, y1, .int .i64 ((i + 1 : Nat) : Int)] (Eng.dr w2 k) := fun k hc y0 y1 => by
    refine h _ y0 y1 ?_
    unfold heardStep
    rw [if_neg hc]
    exact S5 k
  by_cases e1 : m.id = n.id
  · have hst := stay 2 fun h => h.1 e1
    simp [d0, c0, e1] at hst ⊢
    exact hst _ _
  · cases hg : mget H m.id with
    | none =>
      have hp := put 3 ⟨e1, .inl hg⟩
      simp [d0, c0, c3, c7, e1] at hp ⊢
      exact hp _ _
    | some z =>
      by_cases e2 : m.id = frm
      · have hp := put 3 ⟨e1, .inr e2⟩
        have e3 : ¬ frm = n.id := fun h => e1 (e2.trans h)
        simp [d0, c0, c3, c7, e1, e2, e3] at hp ⊢
        exact hp _ _
      · have hst := stay 2 fun h => by rcases h.2 with h | h
                                       · rw [hg] at h; cases h
                                       · exact e2 h
        simp [d0, c0, e1, e2] at hst ⊢
        exact hst _ _
theorem rowM_slice {L : List Mem} (S : St w0 w (rowM v L :: R)) : ∃ a cap, v = .slice a L.length cap := by
  obtain ⟨a, cap, hv, _⟩ := (S.row encM_len : SlM w v L)
  exact ⟨a, cap, hv⟩
theorem hear_st {l : List Mem} {lv : Value} {frm now : Int} (S : St w0 w (nodeA p n :: R)) (hn : NdOk n) (hr : 0 ≤ now ∧ now < 18446744073709551616) (hi : IncR l) (hl : ∀ w' L, St w0 w' (L ++ R) → SlM w' lv l) (hlen : l.length ≤ 400) {K : KV}
    (h : ∀ w', St w0 w' (nodeA p (n.hear frm l now).1 :: R) → K (.int .i64 (n.hear frm l now).2) w') : fcallT P F.pgossip_Node_Hear [ptrN p, .int .u64 frm, lv, .int .u64 now] w K := by
  have hok := hear_ok (frm := frm) hn hi hr
  obtain ⟨r, v, hh, S1⟩ := unNd S
  rw [M.pgossip_Node_Hear.fcall]
  apply M.pgossip_Node_Hear.calls
  unfold M.pgossip_Node_Hear
  have hfew := hn.good.few
  simp only [ptrN]
  simp
  unfold M.pgossip_Node_Hear.j0
  obtain ⟨_, _, _, c3, _, _, _, _, c8⟩ := nodeC_cells S1.blk
  simp [c3, c8, max_ints, max_maxI]
  have S2 := blkSet (i := 3) (u := .int .u64 (maxI n.now now)) S1 (cs' := nodeC { n with now := maxI n.now now } v r) rfl
  generalize w.setCell ⟨p, 3, none⟩ (.int .u64 (maxI n.now now)) = w1 at *
  obtain ⟨_, _, _, _, _, _, c6, _, _⟩ := nodeC_cells S2.blk
  simp [c6]
  refine merge_st (l1 := n.v) (l2 := l) S2 (fun w' L S => row_mem S (by simp)) (fun w' L S => hl w' (L ++ [_, _, _]) (by simpa using S)) (by omega) (by omega) fun w2 v2 S3 => ?_
  simp only [ex_2_0, ex_2_1]
  unfold Nd.hear at h hok
  by_cases hk : (mergeV n.v l).2 = 0
  · rw [if_neg (by simpa using hk)] at h hok
    obtain ⟨r1, r2⟩ := merge_zero hk
    obtain ⟨_, p1, p2⟩ := mergeV_ok r1 r2 hk
    have hg := (vright_iff _).1 p1
    obtain ⟨o, ho⟩ := Option.ne_none_iff_exists'.1 hn.own
    obtain ⟨m, hm⟩ := jn_some o (findM l n.id)
    have hf : findM (mergeV n.v l).1 n.id = some m := by rw [p2, ho, hm]
    rw [findP_eq hf] at h hok
    rw [hk]
    generalize (mergeV n.v l).1 = V at *
    have hV := hg.few
    simp
    unfold M.pgossip_Node_Hear.j1
    obtain ⟨a2, cap2, hv2⟩ := rowM_slice S3
    have S4 := S3.swap
    obtain ⟨_, _, _, _, _, _, d6, _, d8⟩ := nodeC_cells S4.blk
    have S5 := blkSet (i := 6) (u := v2) S4 (cs' := nodeC { n with now := maxI n.now now } v2 r) rfl
    have S6 : St w0 (w2.setCell ⟨p, 6, none⟩ v2) (blkA p (nodeC { n with now := maxI n.now now } v2 r) T.gossip_Node :: rowM v2 V :: mapA r .u64 n.h :: R) := (S5.up2.drop.up2).dn2
    subst hv2
    simp [d6, d8]
    generalize w2.setCell ⟨p, 6, none⟩ (.slice a2 V.length cap2) = w3 at *
    generalize hvv : Value.slice a2 V.length cap2 = vv at *
    have hlenV : ∀ w' K', biT P .len #[T.sl_api_Member] T.int [false] [vv] w' K' = K' (.int .i64 V.length) w' := fun w' K' => by rw [← hvv]; simp
    refine ⟨HrI w0 p r { n with now := maxI n.now now } vv V frm R, fun x _ => V.length - ms x 2, ⟨_, _, 0, rfl, Nat.zero_le _, S6⟩, ?_⟩
    rintro x w4 ⟨u0, u1, i, rfl, hil, S7⟩
    have q2 : gv [u0, u1, .int .i64 (i : Nat)] 2 = .int .i64 (i : Nat) := rfl
    simp only [q2, joinT_eq]
    by_cases hi' : i < V.length
    · have hi'' : (i : Int) < V.length := by omega
      simp [hi'']
      refine hrJ4 S7 hi' (by omega) fun w' y0 y1 S8 => ?_
      refine ⟨⟨_, _, i + 1, rfl, by omega, ?_⟩, by simp [ms, gv]; omega⟩
      rw [heard_take hi']
      exact S8
    · have hi'' : ¬ (i : Int) < V.length := by omega
      simp [hi'']
      rw [List.take_of_length_le (by omega)] at S7
      unfold M.pgossip_Node_Hear.j2
      have hh' : HInt (heardAll n.id frm (maxI n.now now) n.h V) := hint_all V hh
      have S7d := S7.step ((Fr.refl _ w4).dr 1)
      obtain ⟨_, _, _, _, _, _, e6, _, _⟩ := nodeC_cells S7.blk
      simp [e6]
      refine own_ok (n := { n with now := maxI n.now now, v := V, h := heardAll n.id frm (maxI n.now now) n.h V }) S7d.blk (S7d.swap.row encM_len) (by show V.length ≤ _; omega) (by show findM V n.id ≠ none; rw [hf]; simp) fun w5 j hj hid hz f5 => ?_
      have S8 := S7d.step f5
      obtain ⟨_, _, _, _, _, g5, g6, _, _⟩ := nodeC_cells S8.blk
      have hj' : j < V.length := hj
      have hmj : V[j] = m := by
        have := findM_at (l := V) (k := n.id) hj' hid hz
        rw [hf] at this; exact (Option.some.inj this).symm
      obtain ⟨b, o, cap, hv, hb, _, hc⟩ := (S8.swap.row encM_len : SlM w5 vv V).at hj'
      have k1 := hc 1 _ rfl
      have k2 := hc 2 _ rfl
      rw [hmj] at k1 k2
      have hmod : aggM m = .agg #[.int .u64 m.id, .int .u64 m.inc, .int .i64 m.st] := rfl
      simp [g6]
      rw [hv]
      rw [hv] at g6
      have fin0 : ∀ (hc : ¬ (m.st ≠ 0 ∧ n.left = false ∧ m.inc < 18446744073709551615)), K (.int .i64 0) w5 := fun hc => by
        rw [if_neg hc] at h
        exact h w5 (mkNd (v := vv) (r := r) hh' S8)
      by_cases z0 : m.st = 0
      · simp [hj', k2, z0]
        exact fin0 fun h => h.1 z0
      · cases hL : n.left with
        | true =>
          rw [hL] at g5
          simp [hj', k2, z0, g5]
          exact fin0 fun h => by rw [hL] at h; cases h.2.1
        | false =>
          rw [hL] at g5
          by_cases z1 : m.inc < 18446744073709551615
          · have hcnd : m.st ≠ 0 ∧ n.left = false ∧ m.inc < 18446744073709551615 := ⟨z0, hL, z1⟩
            rw [if_pos hcnd] at h hok
            have hmap := map_idx (g := bumpM n.id) hg.nd hj' hid fun x hx => by unfold bumpM; rw [if_neg hx]
            have hbm : bumpM n.id V[j] = ⟨V[j].id, V[j].inc + 1, 0⟩ := by unfold bumpM; rw [if_pos hid]
            have hwr : IntKind.u64.wrap (m.inc + 1) = m.inc + 1 := by
              have hpos := hok.inc (bumpM n.id m) (List.mem_map_of_mem (findM_mem hf))
              unfold bumpM at hpos
              rw [if_pos (findM_id hf)] at hpos
              exact wrap_u64 hpos.1 (by omega)
            obtain ⟨bb, cp, hv', t1, t2, t3, S9⟩ := S8.swap.setCellAt encM_len hj' ⟨V[j].id, V[j].inc + 1, V[j].st⟩ (f := 1) (u := .int .u64 (V[j].inc + 1)) (by omega) rfl
            obtain ⟨bb2, cp2, hv'', t4, t5, t6, S10⟩ := S9.setCellAt encM_len (by rw [List.length_set]; exact hj') (bumpM n.id V[j]) (f := 2) (u := .int .i64 0) (by omega) (by rw [List.getElem_set_self, hbm]; rfl)
            rw [hv] at hv' hv''
            rw [List.length_set] at hv''
            cases hv'
            cases hv''
            rw [hmj] at S9 S10 t4 t5
            simp only [Nat.zero_add] at k1 k2
            simp [hj', k2, z0, g5, k1, z1, hwr, t1, t2, t4, t5]
            have hms : V.map (bumpM n.id) = V.set j (bumpM n.id m) := by rw [hmap, hmj]
            rw [List.set_set, ← hms] at S10
            exact h _ (mkNd (v := vv) (r := r) hh' S10.swap)
          · simp [hj', k2, z0, g5, k1, z1]
            exact fin0 fun h => z1 h.2.2
  · rw [if_pos hk] at h
    simp [hk]
    exact h w2 (mkNd (v := v) (r := r) hh S3.drop)
/-! ### Tick -/
def agedL (n : Nd) (i : Nat) (V : List Mem) : List Mem := (V.take i).map (ageM n.id n.now n.wait n.h) ++ V.drop i
theorem agedL_len (n : Nd) (i : Nat) (V : List Mem) : (agedL n i V).length = V.length := by
  unfold agedL; simp; omega
theorem agedL_at (n : Nd) {i : Nat} {V : List Mem} (hi : i < V.length) (h : i < (agedL n i V).length) : (agedL n i V)[i] = V[i] := by
  have : (agedL n i V)[i]? = some V[i] := by
    unfold agedL
    rw [List.getElem?_append_right (by simp; omega)]
    simp
    rw [show i - min i V.length = 0 by omega]
    simp [List.getElem?_eq_getElem hi]
  rw [List.getElem?_eq_getElem h] at this
  exact Option.some.inj this
theorem agedL_set (n : Nd) {i : Nat} {V : List Mem} (hi : i < V.length) : (agedL n i V).set i (ageM n.id n.now n.wait n.h V[i]) = agedL n (i + 1) V := by
  unfold agedL
  have hl : ((V.take i).map (ageM n.id n.now n.wait n.h)).length = i := by simp; omega
  rw [List.set_append_right _ _ (by omega), List.take_succ_eq_append_getElem hi, List.map_append, hl, Nat.sub_self]
  rw [List.drop_eq_getElem_cons hi, List.set_cons_zero, List.append_assoc]; rfl
theorem agedL_same (n : Nd) {i : Nat} {V : List Mem} (hi : i < V.length) (h : ageM n.id n.now n.wait n.h V[i] = V[i]) : agedL n (i + 1) V = agedL n i V := by
  rw [← agedL_set n hi, h]
  have hl : i < (agedL n i V).length := by rw [agedL_len]; exact hi
  conv => lhs; rw [← agedL_at n hi hl]
  exact List.set_getElem_self hl
theorem outs_snoc (id : Int) (l : List Mem) (m : Mem) : outs id (l ++ [m]) = outs id l ++ if m.id ≠ id ∧ m.st ≠ 2 then [m.id] else [] := by
  unfold outs
  rw [List.filter_append, List.map_append]
  congr 1
  by_cases h1 : m.id = id <;> by_cases h2 : m.st = 2 <;> simp [h1, h2]
theorem gones_snoc (id : Int) (l : List Mem) (m : Mem) : gones id (l ++ [m]) = gones id l ++ if m.id ≠ id ∧ m.st = 2 then [m.id] else [] := by
  unfold gones
  rw [List.filter_append, List.map_append]
  congr 1
  by_cases h1 : m.id = id <;> by_cases h2 : m.st = 2 <;> simp [h1, h2]
theorem outs_len (id : Int) (l : List Mem) : (outs id l).length ≤ l.length ∧ (gones id l).length ≤ l.length := by
  unfold outs gones
  rw [List.length_map, List.length_map]
  exact ⟨List.length_filter_le .., List.length_filter_le ..⟩
def agedT (n : Nd) (i : Nat) (V : List Mem) : List Mem := (V.take i).map (ageM n.id n.now n.wait n.h)
def TkI (w0 : World) (p r : Nat) (n : Nd) (v : Value) (V : List Mem) (R : List Asn) : KL := fun x w1 => ∃ (u0 u1 g o : Value) (i : Nat), x = [u0, u1, g, o, .int .i64 (i : Nat)] ∧ i ≤ V.length ∧
  St w0 w1 (blkA p (nodeC n v r) T.gossip_Node :: rowM v (agedL n i V) :: mapA r .u64 n.h :: rowW g (gones n.id (agedT n i V)) :: rowW o (outs n.id (agedT n i V)) :: R)
theorem agedT_succ (n : Nd) {i : Nat} {V : List Mem} (hi : i < V.length) : agedT n (i + 1) V = agedT n i V ++ [ageM n.id n.now n.wait n.h V[i]] := by
  unfold agedT
  rw [List.take_succ_eq_append_getElem hi, List.map_append]; rfl
theorem agedT_len (n : Nd) (i : Nat) (V : List Mem) : (agedT n i V).length ≤ V.length := by unfold agedT; simp; omega
theorem tkJ4 {V : List Mem} {g o : Value} {i : Nat} (hh : HInt n.h) (hw : 1 ≤ n.wait ∧ n.wait ≤ 1099511627776) (S : St w0 w (blkA p (nodeC n v r) T.gossip_Node :: rowM v (agedL n i V) :: mapA r .u64 n.h :: rowW g (gones n.id (agedT n i V)) :: rowW o (outs n.id (agedT n i V)) :: R)) (hi : i < V.length) (hV : V.length ≤ 1000) {u0 u1 : Value} {K3 : KL} {K : KV}
    (h : ∀ w' y0 y1 g' o', St w0 w' (blkA p (nodeC n v r) T.gossip_Node :: rowM v (agedL n (i + 1) V) :: mapA r .u64 n.h :: rowW g' (gones n.id (agedT n (i + 1) V)) :: rowW o' (outs n.id (agedT n (i + 1) V)) :: R) → K3 [y0, y1, g', o', .int .i64 ((i + 1 : Nat) : Int)] w') :
    M.pgossip_Node_Tick.j4 v [u0, u1, g, o, .int .i64 (i : Nat)] (ptrN p) K3 w K := by
  unfold M.pgossip_Node_Tick.j4 ptrN
  have q4 : gv [u0, u1, g, o, .int .i64 (i : Nat)] 4 = .int .i64 (i : Nat) := rfl
  have q3 : gv [u0, u1, g, o, .int .i64 (i : Nat)] 3 = o := rfl
  have q2 : gv [u0, u1, g, o, .int .i64 (i : Nat)] 2 = g := rfl
  have hwi : IntKind.i64.wrap ((i : Int) + 1) = ((i + 1 : Nat) : Int) := by rw [wrap_id (by omega) (by omega)]; rfl
  have hil : i < (agedL n i V).length := by rw [agedL_len]; exact hi
  have hlen := agedL_len n i V
  obtain ⟨b, o', cap, hv, hb, _, hc⟩ := (S.swap.row encM_len : SlM w v (agedL n i V)).at hil
  rw [agedL_at n hi hil] at hc
  have hld : ∀ K, ldN P 3 b (o' + i * 3) w K = K (aggM V[i]) w := fun K => ldM hc K
  have hT := agedT_succ n hi
  have hS := agedL_set n hi
  have hSm := agedL_same n hi
  have hoL := outs_len n.id (agedT n i V)
  have hTl := agedT_len n i V
  have hat := agedL_at n hi hil
  rw [hT, gones_snoc, outs_snoc] at h
  generalize V[i] = m at *
  simp only [joinT_eq, q2, q3, q4, bin_add, hwi]
  have hv2 := hv
  rw [hv]
  rw [hlen]
  simp [hi, hld]
  rw [show aggM m = .agg #[.int .u64 m.id, .int .u64 m.inc, .int .i64 m.st] from rfl]
  simp
  have hba : (w.alloc (.cells #[.int .u64 0, .int .u64 0, .int .i64 0] T.api_Member)).heap[w.heap.size]? = some (.cells #[.int .u64 0, .int .u64 0, .int .i64 0] T.api_Member (0, 0)) := by rw [alloc_heap, if_pos rfl]
  refine st3_ok (w0 := w) m hba rfl (Nat.le_refl _) ((Fr.refl _ w).alloc _) fun w2 f2 b2 => ?_
  have S2 := S.step f2
  generalize w.heap.size = q at *
  obtain ⟨c0, _, _, _, _, _, c6, _, _⟩ := nodeC_cells S2.blk
  have d0 : cellOf w2 q 0 = some (.int .u64 m.id) := by rw [cellOf_of b2]; rfl
  by_cases e1 : m.id = n.id
  · simp [c0, d0, e1]
    have hag : ageM n.id n.now n.wait n.h m = m := by unfold ageM; rw [if_pos e1]
    rw [hag, if_neg (fun h => h.1 e1), if_neg (fun h => h.1 e1), List.append_nil, List.append_nil, hSm hag] at h
    exact h _ _ _ _ _ (S2.step ((Fr.refl _ w2).dr 1))
  · simp [c0, d0, e1]
    unfold M.pgossip_Node_Tick.j6
    have hbm : aggM m = .agg (encM m).toArray := rfl
    have hldq : ∀ {w'}, Fr (fun _ => False) w2 w' → ∀ K, ldN P 3 q 0 w' K = K (aggM m) w' := fun f K => ld3_ok (f.heap b2 fun h => h) K
    have fd : Fr (fun _ => False) w2 (Eng.dr (Eng.dr w2 1) 1) := ((Fr.refl _ w2).dr 1).dr 1
    have S3 := S2.step fd
    simp [q2, q3, q4, c6]
    rw [hldq fd]
    refine ⟨rfl, ?_⟩
    refine aged_ok S3.blk (mapAt_of S3.up2).1 hh hw fun w3 f3 => ?_
    have S4 := S3.step f3
    obtain ⟨_, _, _, _, _, _, g6, _, _⟩ := nodeC_cells S4.blk
    have hage : ageM n.id n.now n.wait n.h m = ⟨m.id, m.inc, aged n.now n.wait n.h m⟩ := by unfold ageM; rw [if_neg e1]
    rw [hage] at h hS
    generalize aged n.now n.wait n.h m = st at *
    obtain ⟨bb, cp, hv', t1, t2, t3, S5⟩ := S4.swap.setCellAt encM_len hil ⟨m.id, m.inc, st⟩ (f := 2) (u := .int .i64 st) (by omega) (by rw [hat]; rfl)
    rw [hS] at S5
    have hbq : bb < q := by
      have hx := hv2.symm.trans hv'
      injection hx with x1 _ _
      injection x1 with x1
      injection x1 with x1 _
      omega
    rw [hlen] at hv'
    rw [hv'] at g6
    simp [g6]
    rw [hv']
    simp [hi, t1, t2]
    have S6 := S5.swap
    obtain ⟨_, _, _, _, _, _, z6, _, _⟩ := nodeC_cells S6.blk
    rw [hv'] at z6
    have hil2 : i < (agedL n (i + 1) V).length := by rw [agedL_len]; exact hi
    have hz : (agedL n (i + 1) V)[i] = ⟨m.id, m.inc, st⟩ := by
      have := List.getElem_set_self (l := agedL n i V) (i := i) (a := (⟨m.id, m.inc, st⟩ : Mem)) (by rw [List.length_set]; exact hil)
      have e : (agedL n i V).set i ⟨m.id, m.inc, st⟩ = agedL n (i + 1) V := hS
      have h2 : ((agedL n i V).set i ⟨m.id, m.inc, st⟩)[i]? = some ⟨m.id, m.inc, st⟩ := by
        rw [List.getElem?_set_self hil]
      rw [e, List.getElem?_eq_getElem hil2] at h2
      exact Option.some.inj h2
    obtain ⟨b4, o4, cap4, hv4, _, _, hc4⟩ := (S5.row encM_len : SlM _ v (agedL n (i + 1) V)).at hil2
    rw [hz] at hc4
    rw [agedL_len] at hv4
    have hx4 := hv'.symm.trans hv4
    cases hx4
    have y2 := hc4 2 _ rfl
    simp only [Nat.zero_add] at y2
    have d0' : ∀ {w'}, Fr (fun _ => False) w2 w' → cellOf w' q 0 = some (.int .u64 m.id) := fun f => by rw [cellOf_of (f.heap b2 fun h => h)]; rfl
    have dq : cellOf (w3.setCell ⟨bb, i * 3 + 2, none⟩ (.int .i64 st)) q 0 = some (.int .u64 m.id) := by
      have hne : bb ≠ q := by omega
      rw [cellOf_heap (setCell_ne hne), cellOf_of ((fd.trans f3).heap b2 fun h => h)]; rfl
    generalize w3.setCell ⟨bb, i * 3 + 2, none⟩ (.int .i64 st) = w5 at *
    by_cases e2 : st = 2
    · subst e2
      rw [if_pos ⟨e1, rfl⟩, if_neg (fun h => h.2 rfl), List.append_nil] at h
      simp [z6, hi, y2, dq]
      have S7 := S6.up3.step ((Fr.refl _ _).alloc (.cells #[.int .u64 m.id] T.uint64))
      refine moreRowW S7 (Sl.one rfl rfl) (by simp; omega) fun w4 g' S8 => ?_
      exact h w4 _ _ g' o S8.dn3
    · have e3 : ¬ (m.id ≠ n.id ∧ st = 2) := fun h => e2 h.2
      rw [if_neg e3, if_pos ⟨e1, e2⟩, List.append_nil] at h
      simp [z6, hi, y2, e2, dq]
      have S7 := S6.up4.step ((Fr.refl _ _).alloc (.cells #[.int .u64 m.id] T.uint64))
      refine moreRowW S7 (Sl.one rfl rfl) (by simp; omega) fun w4 o'' S8 => ?_
      exact h w4 _ _ g o'' S8.dn4
theorem tick_st {now pick : Int} (S : St w0 w (nodeA p n :: R)) (hn : NdOk n) (hr : 0 ≤ now ∧ now < 18446744073709551616) (hp : 0 ≤ pick) {K : KV}
    (h : ∀ w' v', St w0 w' (rowW v' (n.tick now pick).2 :: nodeA p (n.tick now pick).1 :: R) → K v' w') : fcallT P F.pgossip_Node_Tick [ptrN p, .int .u64 now, .int .u64 pick] w K := by
  obtain ⟨r, v, hh, S1⟩ := unNd S
  rw [M.pgossip_Node_Tick.fcall]
  apply M.pgossip_Node_Tick.calls
  unfold M.pgossip_Node_Tick
  have hfew := hn.good.few
  have hmr := maxI_range hn.nw hr
  have hper := hn.per
  simp only [ptrN]
  simp
  unfold M.pgossip_Node_Tick.j0
  obtain ⟨_, _, _, c3, _, _, _, _, c8⟩ := nodeC_cells S1.blk
  simp [c3, c8, max_ints, max_maxI]
  have S2 := blkSet (i := 3) (u := .int .u64 (maxI n.now now)) S1 (cs' := nodeC { n with now := maxI n.now now } v r) rfl
  generalize w.setCell ⟨p, 3, none⟩ (.int .u64 (maxI n.now now)) = w1 at *
  obtain ⟨_, _, _, d3, d4, _, _, _, _⟩ := nodeC_cells S2.blk
  unfold Nd.tick at h
  by_cases hd : maxI n.now now < n.due
  · rw [if_pos hd] at h
    simp [d3, d4, hd]
    have S3 := S2.step ((Fr.refl _ w1).dr 1)
    exact h _ _ (nilRowW (mkNd (n := { n with now := maxI n.now now }) hh S3))
  · rw [if_neg hd] at h
    simp [d3, d4, hd]
    generalize hto : maxI n.now now = t at *
    unfold M.pgossip_Node_Tick.j1
    have hw1 : IntKind.u64.wrap (18446744073709551615 - t) = 18446744073709551615 - t := wrap_u64 (by omega) (by omega)
    have hw2 : IntKind.u64.wrap (t + minI n.period (18446744073709551615 - t)) = t + minI n.period (18446744073709551615 - t) := by
      refine wrap_u64 ?_ ?_ <;> (unfold minI; split <;> omega)
    have S3 := S2.step ((Fr.refl _ w1).dr 1)
    obtain ⟨_, e1, _, e3, _, _, _, _, e8⟩ := nodeC_cells S3.blk
    simp [d3, nodeC_cells S2.blk, hw1, min_ints, min_minI, hw2]
    have S4 := S3.step ((Fr.refl _ (Eng.dr w1 1)).dr 1)
    have S5 := blkSet (i := 4) (u := .int .u64 (t + minI n.period (18446744073709551615 - t))) S4 (cs' := nodeC { n with now := t, due := t + minI n.period (18446744073709551615 - t) } v r) rfl
    generalize (Eng.dr (Eng.dr w1 1) 1).setCell ⟨p, 4, none⟩ (.int .u64 (t + minI n.period (18446744073709551615 - t))) = w2 at *
    obtain ⟨_, _, _, _, _, _, f6, _, _⟩ := nodeC_cells S5.blk
    simp [f6]
    generalize hn2 : ({ n with now := t, due := t + minI n.period (18446744073709551615 - t) } : Nd) = n2 at *
    have hid : n2.id = n.id := by rw [← hn2]
    have hv2 : n2.v = n.v := by rw [← hn2]
    have hh2 : n2.h = n.h := by rw [← hn2]
    have ht2 : n2.now = t := by rw [← hn2]
    have hwt : n2.wait = n.wait := by rw [← hn2]
    have hhh : HInt n2.h := by rw [hh2]; exact hh
    have hww : 1 ≤ n2.wait ∧ n2.wait ≤ 1099511627776 := by rw [hwt]; exact hn.wai
    have hlenV : ∀ w' K', biT P .len #[T.sl_api_Member] T.int [false] [v] w' K' = K' (.int .i64 n.v.length) w' := fun w' K' => (S5.swap.row encM_len : SlM w2 v n.v).len_ok (by kernel_rfl) [false]
    rw [hlenV]
    have e0 : agedL n2 0 n.v = n.v := by unfold agedL; simp
    have S6 : St w0 w2 (blkA p (nodeC n2 v r) T.gossip_Node :: rowM v (agedL n2 0 n.v) :: mapA r .u64 n2.h :: rowW (.slice none 0 0) (gones n2.id (agedT n2 0 n.v)) :: rowW (.slice none 0 0) (outs n2.id (agedT n2 0 n.v)) :: R) := by
      rw [e0, hh2]
      exact (nilRowW (nilRowW S5).dn3).dn3
    refine ⟨TkI w0 p r n2 v n.v R, fun x _ => n.v.length - ms x 4, ⟨_, _, _, _, 0, rfl, Nat.zero_le _, S6⟩, ?_⟩
    rintro x w3 ⟨u0, u1, g, o, i, rfl, hil, S7⟩
    have q4 : gv [u0, u1, g, o, .int .i64 (i : Nat)] 4 = .int .i64 (i : Nat) := rfl
    simp only [q4, joinT_eq]
    by_cases hi' : i < n.v.length
    · have hi'' : (i : Int) < n.v.length := by omega
      simp [hi'']
      refine tkJ4 hhh hww S7 hi' (by omega) fun w' y0 y1 g' o' S8 => ?_
      exact ⟨⟨_, _, _, _, i + 1, rfl, by omega, S8⟩, by simp [ms, gv]; omega⟩
    · have hi'' : ¬ (i : Int) < n.v.length := by omega
      simp [hi'']
      unfold M.pgossip_Node_Tick.j2
      have eL : agedL n2 i n.v = n.v.map (ageM n.id t n.wait n.h) := by
        unfold agedL
        rw [List.take_of_length_le (by omega), List.drop_of_length_le (by omega), List.append_nil, hid, ht2, hwt, hh2]
      have eT : agedT n2 i n.v = n.v.map (ageM n.id t n.wait n.h) := by
        unfold agedT
        rw [List.take_of_length_le (by omega), hid, ht2, hwt, hh2]
      rw [eL, eT, hid] at S7
      have hll : (n.v.map (ageM n.id t n.wait n.h)).length ≤ 16 := by rw [List.length_map]; exact hfew
      have hol := outs_len n.id (n.v.map (ageM n.id t n.wait n.h))
      generalize n.v.map (ageM n.id t n.wait n.h) = V at *
      have q5 : gv [v, .int .i64 (n.v.length : Nat), .int .i64 (i : Nat), u0, u1, g, o] 5 = g := rfl
      have q6 : gv [v, .int .i64 (n.v.length : Nat), .int .i64 (i : Nat), u0, u1, g, o] 6 = o := rfl
      have q2 : gv [u0, u1, g, o, .int .i64 (i : Nat)] 2 = g := rfl
      have q3 : gv [u0, u1, g, o, .int .i64 (i : Nat)] 3 = o := rfl
      have q0 : gv [u0, u1, g, o, .int .i64 (i : Nat)] 0 = u0 := rfl
      have q1 : gv [u0, u1, g, o, .int .i64 (i : Nat)] 1 = u1 := rfl
      simp only [q0, q1, q2, q3, q5, q6, joinT_eq]
      have sg : Sl w3 1 Suint64.encL g (gones n.id V) := S7.up3.row fun _ => rfl
      have so : Sl w3 1 Suint64.encL o (outs n.id V) := S7.up4.row fun _ => rfl
      have lg : ∀ w' K', biT P .len #[T.sl_uint64] T.int [false] [g] w' K' = K' (.int .i64 (gones n.id V).length) w' := fun w' K' => sg.len_ok (by kernel_rfl) [false]
      rw [lg]
      have fin : ∀ w' v', St w0 w' (rowW v' (outs n.id V ++ picked (gones n.id V) pick) :: blkA p (nodeC n2 v r) T.gossip_Node :: rowM v V :: mapA r .u64 n2.h :: R) → K v' w' := fun w' v' S' => by
        refine h w' v' ?_
        rw [hh2] at S'
        have := mkNd (p := p) (r := r) (v := v) (n := { n2 with v := V }) (R := rowW v' (outs n.id V ++ picked (gones n.id V) pick) :: R) hhh (by
          show St w0 w' (blkA p (nodeC n2 v r) T.gossip_Node :: rowM v V :: mapA r .u64 n2.h :: _)
          rw [hh2]; exact S'.dn3)
        rw [← hn2] at this
        exact this.swap
      by_cases hg0 : gones n.id V = []
      · have hpk : picked (gones n.id V) pick = [] := by unfold picked; rw [if_pos hg0]
        rw [hpk, List.append_nil] at fin
        rw [hg0]
        simp
        exact fin w3 o S7.up3.drop.up3
      · have hlg : 0 < (gones n.id V).length := List.length_pos_iff.2 hg0
        have hpk : picked (gones n.id V) pick = [(gones n.id V).getD (pick % (gones n.id V).length).toNat 0] := by unfold picked; rw [if_neg hg0]
        have hj0 : 0 ≤ pick % (gones n.id V).length := Int.emod_nonneg _ (by omega)
        have hj1 : pick % (gones n.id V).length < (gones n.id V).length := Int.emod_lt_of_pos _ (by omega)
        have hwl : IntKind.u64.wrap ((gones n.id V).length : Int) = (gones n.id V).length := wrap_u64 (by omega) (by omega)
        rw [hpk] at fin
        generalize gones n.id V = G at *
        have hj2 : (pick % G.length).toNat < G.length := by omega
        obtain ⟨b, oo, cap, hv, _, _, hc⟩ := sg.at hj2
        have c0 := hc 0 _ rfl
        simp only [Nat.mul_one, Nat.add_zero] at c0
        have hgd : G.getD (pick % G.length).toNat 0 = G[(pick % G.length).toNat] := by rw [List.getD_eq_getElem?_getD, List.getElem?_eq_getElem hj2]; rfl
        rw [hgd] at fin
        generalize G[(pick % G.length).toNat] = z at *
        have htm : pick.tmod (G.length : Int) = pick % G.length := Int.tmod_eq_emod_of_nonneg hp
        have hlg' : (0 : Int) < G.length := by omega
        simp [hlg']
        rw [lg, cv_ints (ks := .i64) (kd := .u64) (by kernel_rfl) (by kernel_rfl), hwl, bin_rem (by omega), htm, hv]
        simp [hj0, hj1, c0, hlg]
        have S8 := S7.up4.step ((Fr.refl _ w3).alloc (.cells #[.int .u64 z] T.uint64))
        refine moreRowW S8 (Sl.one rfl rfl) (by simp; omega) fun w4 o' S9 => ?_
        exact fin w4 o' S9.up4.drop
end
end Go.Proofs.Ytkjhekflgghbdaa
set_option maxRecDepth 100000
namespace Go.Proofs.Ytkjhekflgghbdaa
open Go.Eng

/-! ### The example -/
def ex0 : Nd := Nd.new 1 1 5 10 0
def exL : List Mem := [⟨1, 1, 1⟩, ⟨2, 1, 0⟩]
theorem srtd12 : Suint64.srtd [1, 2] = [1, 2] := by
  unfold Suint64.srtd
  exact List.mergeSort_of_pairwise (by simp)
theorem ex_merge : mergeV ex0.v exL = ([⟨1, 1, 1⟩, ⟨2, 1, 0⟩], 0) := by
  have h1 : mergeA (ex0.v ++ exL) = [⟨1, 1, 1⟩, ⟨2, 1, 0⟩] := by rfl
  unfold mergeV
  rw [h1]
  have h3 : ¬ (vright ex0.v ≠ 0 ∨ vright exL ≠ 0) := by decide
  rw [if_neg h3, if_neg (by decide)]
  unfold outM
  show (List.map _ (Suint64.srtd [1, 2]), _) = _
  rw [srtd12]
  rfl
theorem ex_hear : (ex0.hear 2 exL 1).2 = 0 ∧ (ex0.hear 2 exL 1).1.v = [⟨1, 2, 0⟩, ⟨2, 1, 0⟩] ∧ (ex0.hear 2 exL 1).1.id = 1 := by
  unfold Nd.hear
  rw [ex_merge]
  exact ⟨rfl, rfl, rfl⟩
theorem eqlKind (rx ry : Operand) (x y : Int) (w : World) (K : KV) : binT P .eql T.api_Kind rx ry (.int .i64 x) (.int .i64 y) w K = K (.bool (decide (x = y))) w := by simp
theorem alive10 {w : World} {K : KV} (h : ∀ w', Fr (fun _ => False) w w' → K (.bool true) w') : fcallT P F.winnowlaw10_alive [] w K := by
  rw [M.winnowlaw10_alive.fcall]
  apply M.winnowlaw10_alive.calls
  unfold M.winnowlaw10_alive
  refine gnew_ok (St.start w) (by omega) (by omega) (by omega) (by omega) (fun h => by omega) fun _ _ _ _ w1 p S1 => ?_
  simp [ptrN]
  unfold M.winnowlaw10_alive.j0
  simp
  have ok0 : NdOk ex0 := new_ok (by omega) (by omega) (by omega) (by omega) (by omega)
  have iL : IncR exL := by intro m hm; simp [exL] at hm; rcases hm with rfl | rfl <;> simp
  have ok1 := hear_ok (n := ex0) (frm := 2) (l := exL) (now := 1) ok0 iL (by omega)
  obtain ⟨e1, e2, e3⟩ := ex_hear
  have hs : SlM (w1.alloc (.cells #[.int .u64 1, .int .u64 1, .int .i64 1, .int .u64 2, .int .u64 1, .int .i64 0] T.api_Member)) (.slice (some ⟨w1.heap.size, 0, none⟩) 2 2) exL := by
    have o : Ow (w1.alloc (.cells #[.int .u64 1, .int .u64 1, .int .i64 1, .int .u64 2, .int .u64 1, .int .i64 0] T.api_Member)) 0 T.api_Member 3 encM (.slice (some ⟨w1.heap.size, 0, none⟩) 2 2) exL :=
      ⟨rfl, .inr ⟨w1.heap.size, 2, _, rfl, Nat.zero_le _, by rw [alloc_heap, if_pos rfl], Nat.le_refl _, by decide, rfl, rfl⟩⟩
    exact o.sl encM_len
  have S2 : St w (w1.alloc (.cells #[.int .u64 1, .int .u64 1, .int .i64 1, .int .u64 2, .int .u64 1, .int .i64 0] T.api_Member)) (rdM (.slice (some ⟨w1.heap.size, 0, none⟩) 2 2) exL :: [nodeA p ex0]) :=
    S1.add ((Fr.refl _ w1).alloc _) (B := fun x => x = w1.heap.size) ⟨hs, fun x hx => by simpa [Value.ownBlock] using hx.symm⟩ fun x hx => by subst hx; rw [alloc_size]; omega
  refine hear_st (n := ex0) (l := exL) S2.swap ok0 (by omega) iL (fun w' L S => (S.perm List.perm_middle).rd) (by simp [exL]) fun w2 S3 => ?_
  rw [e1]
  generalize (ex0.hear 2 exL 1).1 = n1 at *
  simp
  refine self_st S3 ok1 fun w3 S4 => ?_
  have hself : n1.self = ⟨1, 2, 0⟩ := by unfold Nd.self; rw [e2, e3]; rfl
  rw [hself]
  rw [show aggM ⟨1, 2, 0⟩ = .agg #[.int .u64 1, .int .u64 2, .int .i64 0] from rfl]
  have he := eqlMem (.tmp 23) (.tmp 24) ⟨1, 2, 0⟩ ⟨1, 2, 0⟩ w3
  unfold aggM at he
  rw [he]
  simp
  refine view_st S4 ok1 fun w4 v4 S5 => ?_
  rw [S5.rd.len_ok (by kernel_rfl), e2]
  simp
  exact h w4 S5.fr

/-! ### A nil node -/
section
variable {w : World} {frm now pick lv : Value} {K : KV}
theorem nilHear (h : K (.int .i64 13) w) : fcallT P F.pgossip_Node_Hear [.pointer none, frm, lv, now] w K := by
  rw [M.pgossip_Node_Hear.fcall]
  apply M.pgossip_Node_Hear.calls
  unfold M.pgossip_Node_Hear
  simpa using h
theorem nilTick (h : K (.slice none 0 0) w) : fcallT P F.pgossip_Node_Tick [.pointer none, now, pick] w K := by
  rw [M.pgossip_Node_Tick.fcall]
  apply M.pgossip_Node_Tick.calls
  unfold M.pgossip_Node_Tick
  simpa using h
theorem nilView (h : K (.slice none 0 0) w) : fcallT P F.pgossip_Node_View [.pointer none] w K := by
  rw [M.pgossip_Node_View.fcall]
  apply M.pgossip_Node_View.calls
  unfold M.pgossip_Node_View
  simpa using h
theorem nilLeave (h : K (.tuple #[]) w) : fcallT P F.pgossip_Node_Leave [.pointer none] w K := by
  rw [M.pgossip_Node_Leave.fcall]
  apply M.pgossip_Node_Leave.calls
  unfold M.pgossip_Node_Leave
  simpa using h
theorem nilSelf (h : ∀ w', Fr (fun _ => False) w w' → K (aggM ⟨0, 0, 0⟩) w') : fcallT P F.pgossip_Node_Self [.pointer none] w K := by
  rw [M.pgossip_Node_Self.fcall]
  apply M.pgossip_Node_Self.calls
  unfold M.pgossip_Node_Self
  have hb0 : (w.alloc (.cells #[.int .u64 0, .int .u64 0, .int .i64 0] T.api_Member)).heap[w.heap.size]? = some (.cells #[.int .u64 0, .int .u64 0, .int .i64 0] T.api_Member (0, 0)) := by rw [alloc_heap, if_pos rfl]
  simp
  refine st3_ok (w0 := w) ⟨0, 0, 0⟩ hb0 rfl (Nat.le_refl _) ((Fr.refl _ w).alloc _) fun w3 f3 b3 => ?_
  rw [res_mem, ld3_ok b3]
  exact ⟨rfl, h w3 f3⟩
end
theorem GossipNils_law {W : World} {a0 : Int} (_h0 : (Lit.int .u64 a0).wf = true) {a1 : Int} (_h1 : (Lit.int .u64 a1).wf = true) {n2 : Nat} {v2 : Value} (h2 : TV P W n2 T.sl_api_Member [v2]) {K : KV}
    (h : ∀ w', Fr (fun _ => False) W w' → K (.bool true) w') : callT P F.winnowlaw10_GossipNils [.int .u64 a0, .int .u64 a1, v2] W K := by
  obtain ⟨l, hl⟩ := members_of h2
  apply M.winnowlaw10_GossipNils.calls
  unfold M.winnowlaw10_GossipNils
  rw [joinT_eq, hl.len_ok (by kernel_rfl)]
  by_cases g1 : 100 < l.length
  · have g1' : (100 : Int) < l.length := by omega
    simp [g1']
    exact alive10 h
  · have g1' : ¬ (100 : Int) < l.length := by omega
    simp [g1']
    unfold M.winnowlaw10_GossipNils.j0
    refine nilLeave ?_
    refine nilHear ?_
    simp
    refine nilTick ?_
    simp
    refine nilView ?_
    simp
    refine nilSelf fun w1 f1 => ?_
    rw [show aggM ⟨0, 0, 0⟩ = .agg #[.int .u64 0, .int .u64 0, .int .i64 0] from rfl]
    have he := eqlMem (.tmp 36) (.tmp 37) ⟨0, 0, 0⟩ ⟨0, 0, 0⟩ w1
    unfold aggM at he
    rw [he]
    simp
    exact alive10 fun w2 f2 => h w2 (f1.trans f2)
end Go.Proofs.Ytkjhekflgghbdaa
set_option maxRecDepth 100000
namespace Go.Proofs.Ytkjhekflgghbdaa
open Go.Eng
section
variable {w0 w : World} {R : List Asn}
theorem u64s_of {w : World} {n : Nat} {v : Value} (h : TV P w n T.sl_uint64 [v]) : ∃ l, Sl w 1 Suint64.encL v l ∧ ∀ x ∈ l, 0 ≤ x ∧ x < 18446744073709551616 := by
  obtain ⟨l, hl⟩ := sl_of_tv (sz := 1) (rd := fun w b o x => rdE Suint64.encL w b o x ∧ 0 ≤ x ∧ x < 18446744073709551616) (e := T.uint64) et.sl_uint64.ty (by kernel_rfl) (by decide) (fun n b o cs ht hl hc => by
    obtain ⟨x, hx, hw⟩ := tv_int (k := .u64) (by kernel_rfl) ht
    subst hx
    exact ⟨x, fun j u hj => hc j u hj, wf_u64'' hw⟩) h
  refine ⟨l, hl.mono fun b o x hx => hx.1, fun x hx => ?_⟩
  obtain ⟨j, hj, rfl⟩ := List.getElem_of_mem hx
  obtain ⟨a, cap, _, _, _, hx⟩ := hl
  obtain ⟨b, o, _, _, hr⟩ := hx j _ (List.getElem?_eq_getElem hj)
  exact hr.2
/-- One member, built. -/
theorem one2 (S : St w0 w R) : St w0 (w.alloc (.cells #[.int .u64 2, .int .u64 1, .int .i64 0] T.api_Member)) (rdM (.slice (some ⟨w.heap.size, 0, none⟩) 1 1) [⟨2, 1, 0⟩] :: R) :=
  S.add (a := rdM (.slice (some ⟨w.heap.size, 0, none⟩) 1 1) [⟨2, 1, 0⟩]) ((Fr.refl _ w).alloc _) (B := fun x => x = w.heap.size) ⟨Sl.one rfl rfl, fun x hx => by simpa [Value.ownBlock] using hx.symm⟩ fun x hx => by subst hx; rw [alloc_size]; omega
theorem boxM (S : St w0 w R) (z : Mem) {Q : World → Prop} (h : ∀ w', St w0 w' (blkA w.heap.size (encM z).toArray T.api_Member :: R) → Q w') : stN P w.heap.size 0 [.int .u64 z.id, .int .u64 z.inc, .int .i64 z.st] (w.alloc (.cells #[.int .u64 0, .int .u64 0, .int .i64 0] T.api_Member)) fun _ w => Q w := by
  have hbm : (w.alloc (.cells #[.int .u64 0, .int .u64 0, .int .i64 0] T.api_Member)).heap[w.heap.size]? = some (.cells #[.int .u64 0, .int .u64 0, .int .i64 0] T.api_Member (0, 0)) := by rw [alloc_heap, if_pos rfl]
  exact st3_ok (w0 := w) z hbm rfl (Nat.le_refl _) ((Fr.refl _ w).alloc _) fun w9 f9 b9 => h w9 (S.add f9 (B := fun y => y = w.heap.size) ⟨b9, rfl⟩ fun y hy => by subst hy; exact ⟨Nat.le_refl _, heap_lt b9⟩)
def HdI (W : World) (p : Nat) (per wait : Int) (l : List Int) : KL := fun x w1 => ∃ (u1 u2 : Value) (now s : Int) (n : Nd) (i : Nat), x = [.int .u64 now, u1, u2, .int .i64 (i : Nat)] ∧ i ≤ l.length ∧ 0 ≤ now ∧ now ≤ 1000 * (i : Int) ∧ HS n per wait now now s ∧ St W w1 [nodeA p n]
theorem heardJ4 {p : Nat} {per wait now s : Int} {n : Nd} {l : List Int} {a2 : Value} (hw : 1 ≤ wait ∧ wait ≤ 1000) (hp : 1 ≤ per ∧ per ≤ 1000) (hl : Sl w 1 Suint64.encL a2 l) (hr : ∀ x ∈ l, 0 ≤ x ∧ x < 18446744073709551616) (hfew : l.length ≤ 50) {i : Nat} (hi : i < l.length) (h0 : 0 ≤ now) (h1 : now ≤ 1000 * (i : Int)) (H : HS n per wait now now s) (S : St w0 w (nodeA p n :: R)) {u1 u2 : Value} {K3 : KL} {K : KV}
    (h : ∀ w' y0 y1 now' s' n', 0 ≤ now' → now' ≤ 1000 * ((i + 1 : Nat) : Int) → HS n' per wait now' now' s' → St w0 w' (nodeA p n' :: R) → K3 [.int .u64 now', y0, y1, .int .i64 ((i + 1 : Nat) : Int)] w') :
    M.winnowlaw10_GossipHeard.j4 a2 [.int .u64 now, u1, u2, .int .i64 (i : Nat)] (.int .u64 wait) (ptrN p) K3 w K := by
  unfold M.winnowlaw10_GossipHeard.j4
  have q0 : gv [.int .u64 now, u1, u2, .int .i64 (i : Nat)] 0 = .int .u64 now := rfl
  have q2 : gv [.int .u64 now, u1, u2, .int .i64 (i : Nat)] 2 = u2 := rfl
  have q3 : gv [.int .u64 now, u1, u2, .int .i64 (i : Nat)] 3 = .int .i64 (i : Nat) := rfl
  have hwi : IntKind.i64.wrap ((i : Int) + 1) = ((i + 1 : Nat) : Int) := by rw [wrap_id (by omega) (by omega)]; rfl
  obtain ⟨b, o, cap, hv, hb, _, hc⟩ := hl.at hi
  have c0 := hc 0 _ rfl
  simp only [Nat.mul_one, Nat.add_zero] at c0
  have hz := hr _ (List.getElem_mem hi)
  generalize l[i] = z at *
  have htm : z.tmod wait = z % wait := Int.tmod_eq_emod_of_nonneg hz.1
  have hm0 : 0 ≤ z % wait := Int.emod_nonneg _ (by omega)
  have hm1 : z % wait < wait := Int.emod_lt_of_pos _ (by omega)
  generalize hzw : z % wait = d at *
  have hadd : IntKind.u64.wrap (now + d) = now + d := wrap_u64 (by omega) (by omega)
  simp only [joinT_eq, q0, q2, q3]
  rw [hv]
  simp [hi, c0]
  rw [bin_rem (by omega), htm]
  simp [hadd]
  generalize ht : now + d = t at *
  refine tick_st S H.ok (by omega) (by omega) fun w1 v1 S1 => ?_
  obtain ⟨s', H1, _⟩ := hs_tick H (t := t) (by omega) h0 (by omega) (by omega) (by omega) 0
  have S2 := S1.drop
  generalize (n.tick t 0).1 = n1 at *
  refine view_st S2 H1.ok fun w2 v2 S3 => ?_
  refine refFind_ok S3.rd (by have := H1.ok.good.few; omega) fun w3 f3 => ?_
  have S4 := S3.step f3
  have hf2 : findM n1.v 2 = some ⟨2, 1, 0⟩ := by rw [H1.v]; rfl
  rw [hf2, findP_eq hf2]
  simp
  rw [show aggM ⟨2, 1, 0⟩ = .agg #[.int .u64 2, .int .u64 1, .int .i64 0] from rfl]
  simp
  refine boxM S4 ⟨2, 1, 0⟩ fun w4 S5 => ?_
  have d2 : cellOf w4 w3.heap.size 2 = some (.int .i64 0) := by rw [cellOf_of S5.blk]; rfl
  simp [d2]
  have S6 := one2 S5
  have S7 := S6.up3
  refine hear_st (l := [⟨2, 1, 0⟩]) S7 H1.ok (by omega) inc2 (fun w' L S => rd_mem S (by simp)) (by simp) fun w5 S8 => ?_
  have H2 := hs_hear H1 (t := t) (by omega) (by omega) (by omega)
  rw [hwi]
  refine h w5 _ _ t s' _ (by omega) (by omega) H2 S8.swap.drop.swap.drop.swap.drop
theorem heardJ2 {p : Nat} {per wait now s : Int} {n : Nd} (hw : 1 ≤ wait ∧ wait ≤ 1000) (hp : 1 ≤ per ∧ per ≤ 1000) (h0 : 0 ≤ now) (h1 : now ≤ 50000) (H : HS n per wait now now s) (S : St w0 w [nodeA p n]) {x2 : List Value} (hx : gv x2 1 = .int .u64 now) {K : KV}
    (h : ∀ w', Fr (fun _ => False) w0 w' → K (.bool true) w') : M.winnowlaw10_GossipHeard.j2 (.int .u64 wait) x2 (.int .u64 per) (ptrN p) w K := by
  unfold M.winnowlaw10_GossipHeard.j2
  have m1 : IntKind.u64.wrap (3 * wait) = 3 * wait := wrap_u64 (by omega) (by omega)
  have m2 : IntKind.u64.wrap (now + 3 * wait) = now + 3 * wait := wrap_u64 (by omega) (by omega)
  have m3 : IntKind.u64.wrap (3 * per) = 3 * per := wrap_u64 (by omega) (by omega)
  have m4 : IntKind.u64.wrap (now + 3 * wait + 3 * per) = now + 3 * wait + 3 * per := wrap_u64 (by omega) (by omega)
  generalize hla : now + 3 * wait + 3 * per = late at *
  have m5 : IntKind.u64.wrap (late + per) = late + per := wrap_u64 (by omega) (by omega)
  simp only [hx, bin_mul, m1, bin_add, m2, m3]
  rw [hla, m4]
  simp
  have S1 := one2 S
  refine hear_st (l := [⟨2, 1, 0⟩]) S1.swap H.ok (by omega) inc2 (fun w' L S => rd_mem S (by simp)) (by simp) fun w1 S2 => ?_
  have H1 := hs_hear H (t := late) (by omega) (by omega) (by omega)
  have S3 := S2.swap.drop
  have hdue1 : (n.hear 2 [⟨2, 1, 0⟩] late).1.due ≤ late := by rw [(hear_id n 2 late [⟨2, 1, 0⟩]).2.2.2.2.1]; have := H.due; omega
  generalize (n.hear 2 [⟨2, 1, 0⟩] late).1 = n1 at *
  refine tick_st S3 H1.ok (by omega) (by omega) fun w2 av S4 => ?_
  obtain ⟨s2, H2, k2⟩ := hs_tick H1 (t := late) (by omega) (by omega) (by omega) (by omega) (by omega) 0
  obtain ⟨e1, e2, e3⟩ := k2 hdue1
  rw [e3] at S4
  generalize (n1.tick late 0).1 = n2 at *
  have S5 := one2 S4
  simp only [m5]
  refine hear_st (l := [⟨2, 1, 0⟩]) S5.up2 H2.ok (by omega) inc2 (fun w' L S => rd_mem S (by simp)) (by simp) fun w3 S6 => ?_
  have H3 := hs_hear H2 (t := late + per) (by omega) (by omega) (by omega)
  have hdue2 : (n2.hear 2 [⟨2, 1, 0⟩] (late + per)).1.due = late + per := by rw [(hear_id n2 2 (late + per) [⟨2, 1, 0⟩]).2.2.2.2.1]; exact e2
  have S7 := S6.swap.drop
  generalize (n2.hear 2 [⟨2, 1, 0⟩] (late + per)).1 = n3 at *
  refine tick_st S7 H3.ok (by omega) (by omega) fun w4 bv S8 => ?_
  obtain ⟨s4, H4, k4⟩ := hs_tick H3 (t := late + per) (by omega) (by omega) (by omega) (by omega) (by omega) 0
  obtain ⟨e4, e5, e6⟩ := k4 (by omega)
  rw [e6] at S8
  have hs4 : s4 = 2 := by
    have := H.s0
    rw [e4, e1]
    unfold agest
    have d1 : wait ≤ late := by omega
    have d2 : ¬ late < 2 * wait := by omega
    have d3 : wait ≤ late + per := by omega
    have d4 : ¬ late + per < 2 * wait := by omega
    simp only [d1, d2, d3, d4, if_true, if_false]
    by_cases z0 : s = 0
    · simp [z0]
    · by_cases z1 : s = 1
      · simp [z1]
      · simp [z0, z1]; omega
  rw [hs4] at H4
  generalize (n3.tick (late + per) 0).1 = n4 at *
  have S9 : St w0 w4 (nodeA p n4 :: rowW bv [2, 3] :: [rowW av [2, 3]]) := S8.swap
  refine view_st S9 H4.ok fun w5 v5 S10 => ?_
  refine refFind_ok S10.rd (by have := H4.ok.good.few; omega) fun w6 f6 => ?_
  have S11 := S10.step f6
  have hf3 : findM n4.v 3 = some ⟨3, 1, 2⟩ := by rw [H4.v]; rfl
  have hf2 : findM n4.v 2 = some ⟨2, 1, 0⟩ := by rw [H4.v]; rfl
  rw [hf3, findP_eq hf3]
  simp
  rw [show aggM ⟨3, 1, 2⟩ = .agg #[.int .u64 3, .int .u64 1, .int .i64 2] from rfl]
  simp
  refine boxM S11 ⟨3, 1, 2⟩ fun w7 S12 => ?_
  generalize w6.heap.size = g1 at *
  refine view_st S12.up2 H4.ok fun w8 v8 S13 => ?_
  refine refFind_ok S13.rd (by have := H4.ok.good.few; omega) fun w9 f9 => ?_
  have S14 := S13.step f9
  rw [hf2, findP_eq hf2]
  simp
  rw [show aggM ⟨2, 1, 0⟩ = .agg #[.int .u64 2, .int .u64 1, .int .i64 0] from rfl]
  simp
  refine boxM S14 ⟨2, 1, 0⟩ fun w10 S15 => ?_
  generalize w9.heap.size = g2 at *
  have c1 : cellOf w10 g1 2 = some (.int .i64 2) := by rw [cellOf_of S15.up3.blk]; rfl
  have c2 : cellOf w10 g2 2 = some (.int .i64 0) := by rw [cellOf_of S15.blk]; rfl
  have ra : Sl w10 1 Suint64.encL av [2, 3] := (S15.perm (List.perm_middle (l₁ := [_, _, _, _, _, _]))).row fun _ => rfl
  have rb : Sl w10 1 Suint64.encL bv [2, 3] := (S15.perm (List.perm_middle (l₁ := [_, _, _, _, _]))).row fun _ => rfl
  have la : ∀ K', biT P .len #[T.sl_uint64] T.int [false] [av] w10 K' = K' (.int .i64 2) w10 := fun K' => ra.len_ok (by kernel_rfl) [false]
  have lb : ∀ K', biT P .len #[T.sl_uint64] T.int [false] [bv] w10 K' = K' (.int .i64 2) w10 := fun K' => rb.len_ok (by kernel_rfl) [false]
  obtain ⟨b, o, cap, hv, _, _, hc⟩ := rb.at (i := 0) (by simp)
  obtain ⟨b', o', cap', hv', _, _, hc'⟩ := rb.at (i := 1) (by simp)
  have hx := hv.symm.trans hv'
  cases hx
  have k0 := hc 0 _ rfl
  have k1 := hc' 0 _ rfl
  simp at k0 k1
  simp [c1, c2, la, lb]
  rw [hv]
  simp [k0, k1]
  exact alive10 fun w' f' => h w' (S15.fr.trans f')
theorem GossipHeard_law {W : World} {a0 : Int} (h0 : (Lit.int .u64 a0).wf = true) {a1 : Int} (h1 : (Lit.int .u64 a1).wf = true) {n2 : Nat} {v2 : Value} (h2 : TV P W n2 T.sl_uint64 [v2]) {K : KV}
    (h : ∀ w', Fr (fun _ => False) W w' → K (.bool true) w') : callT P F.winnowlaw10_GossipHeard [.int .u64 a0, .int .u64 a1, v2] W K := by
  obtain ⟨l, hl, hr⟩ := u64s_of h2
  have r0 := wf_u64'' h0
  have r1 := wf_u64'' h1
  apply M.winnowlaw10_GossipHeard.calls
  unfold M.winnowlaw10_GossipHeard
  have al : ∀ {w'}, Fr (fun _ => False) W w' → ∀ {K : KV}, (∀ w'', Fr (fun _ => False) W w'' → K (.bool true) w'') → fcallT P F.winnowlaw10_alive [] w' K := fun {w'} f {K} hK => alive10 fun w'' f' => hK w'' (f.trans f')
  rw [joinT_eq, hl.len_ok (by kernel_rfl)]
  by_cases g1 : 50 < l.length
  · have g1' : (50 : Int) < l.length := by omega
    simp [g1']
    exact al (Fr.refl _ _) h
  have g1' : ¬ (50 : Int) < l.length := by omega
  by_cases g2 : a0 < 1
  · simp [g1', g2]; exact al (Fr.refl _ _) h
  by_cases g3 : a1 < 1
  · simp [g1', g2, g3]; exact al (Fr.refl _ _) h
  by_cases g4 : 1000 < a0
  · simp [g1', g2, g3, g4]; exact al (Fr.refl _ _) h
  by_cases g5 : 1000 < a1
  · simp [g1', g2, g3, g4, g5]; exact al (Fr.refl _ _) h
  simp [g1', g2, g3, g4, g5]
  unfold M.winnowlaw10_GossipHeard.j0
  refine gnew_ok (St.start W) (by omega) (by omega) r0.1 r1.1 (fun h => by omega) fun _ _ p0 p1 w1 p S1 => ?_
  simp [ptrN]
  unfold M.winnowlaw10_GossipHeard.j1
  simp
  have ok0 : NdOk (Nd.new 1 1 a0 a1 0) := new_ok (by omega) (by omega) p0 p1 (by omega)
  have iL : IncR [⟨2, 1, 0⟩, ⟨3, 1, 0⟩] := by intro m hm; simp at hm; rcases hm with rfl | rfl <;> simp
  have hs : SlM (w1.alloc (.cells #[.int .u64 2, .int .u64 1, .int .i64 0, .int .u64 3, .int .u64 1, .int .i64 0] T.api_Member)) (.slice (some ⟨w1.heap.size, 0, none⟩) 2 2) [⟨2, 1, 0⟩, ⟨3, 1, 0⟩] := by
    have o : Ow (w1.alloc (.cells #[.int .u64 2, .int .u64 1, .int .i64 0, .int .u64 3, .int .u64 1, .int .i64 0] T.api_Member)) 0 T.api_Member 3 encM (.slice (some ⟨w1.heap.size, 0, none⟩) 2 2) [⟨2, 1, 0⟩, ⟨3, 1, 0⟩] :=
      ⟨rfl, .inr ⟨w1.heap.size, 2, _, rfl, Nat.zero_le _, by rw [alloc_heap, if_pos rfl], Nat.le_refl _, by decide, rfl, rfl⟩⟩
    exact o.sl encM_len
  have S2 : St W (w1.alloc (.cells #[.int .u64 2, .int .u64 1, .int .i64 0, .int .u64 3, .int .u64 1, .int .i64 0] T.api_Member)) (rdM (.slice (some ⟨w1.heap.size, 0, none⟩) 2 2) [⟨2, 1, 0⟩, ⟨3, 1, 0⟩] :: [nodeA p (Nd.new 1 1 a0 a1 0)]) :=
    S1.add ((Fr.refl _ w1).alloc _) (B := fun x => x = w1.heap.size) ⟨hs, fun x hx => by simpa [Value.ownBlock] using hx.symm⟩ fun x hx => by subst hx; rw [alloc_size]; omega
  refine hear_st (l := [⟨2, 1, 0⟩, ⟨3, 1, 0⟩]) S2.swap ok0 (by omega) iL (fun w' L S => rd_mem S (by simp)) (by simp) fun w2 S3 => ?_
  have H0 := hs_start a0 a1 (by omega) (by omega)
  have S4 := S3.swap.drop
  generalize ((Nd.new 1 1 a0 a1 0).hear 2 [⟨2, 1, 0⟩, ⟨3, 1, 0⟩] 0).1 = n at *
  refine ⟨HdI W p a0 a1 l, fun x _ => l.length - ms x 3, ⟨_, _, 0, 0, n, 0, rfl, Nat.zero_le _, by omega, by omega, H0, S4⟩, ?_⟩
  rintro x w3 ⟨u1, u2, now, s, n', i, rfl, hi, k0, k1, H, S5⟩
  have q3 : gv [.int .u64 now, u1, u2, .int .i64 (i : Nat)] 3 = .int .i64 (i : Nat) := rfl
  unfold M.winnowlaw10_GossipHeard.j3
  simp only [joinT_eq, q3]
  have hlw := S5.old hl
  rw [hlw.len_ok (by kernel_rfl)]
  by_cases hil : i < l.length
  · have hil' : (i : Int) < l.length := by omega
    simp [hil']
    refine heardJ4 (by omega) (by omega) hlw hr (by omega) hil k0 k1 H S5 fun w' y0 y1 now' s' n'' z0 z1 H' S' => ⟨⟨_, _, now', s', n'', i + 1, rfl, by omega, z0, z1, H', S'⟩, by simp [ms, gv]; omega⟩
  · have hil' : ¬ (i : Int) < l.length := by omega
    simp [hil']
    exact heardJ2 (by omega) (by omega) k0 (by omega) H S5 rfl h
end
end Go.Proofs.Ytkjhekflgghbdaa
set_option maxRecDepth 100000
namespace Go.Proofs.Ytkjhekflgghbdaa
open Go.Eng

structure GOp where
  kind : Int
  frm : Int
  now : Int
  lv : Value
  l : List Mem
  pick : Int
def opC (x : GOp) : List Value := [.int .i64 x.kind, .int .u64 x.frm, .int .u64 x.now, x.lv, .int .u64 x.pick]
structure GOk (x : GOp) : Prop where
  now : 0 ≤ x.now ∧ x.now < 18446744073709551616
  pick : 0 ≤ x.pick
  ids : ∀ m ∈ x.l, 0 ≤ m.id
  inc : IncR x.l
def gopRd (w : World) (b o : Nat) (x : GOp) : Prop := (∀ j u, (opC x)[j]? = some u → cellOf w b (o + j) = some u) ∧ SlM w x.lv x.l ∧ GOk x
theorem gops_of {w : World} {n : Nat} {v : Value} (h : TV P w n T.sl_winnowlaw10_Op [v]) : ∃ l, SlOf w 5 gopRd v l := by
  have hel := et.sl_winnowlaw10_Op
  refine sl_of_tv (sz := 5) (rd := gopRd) (e := T.winnowlaw10_Op) hel.ty (by kernel_rfl) (by decide) (fun n b o cs ht hl hc => ?_) h
  obtain ⟨_, hf⟩ := tv_struct Try.underlying61 ht
  obtain ⟨m0, t0⟩ : ∃ m, TV P w m T.int ((cs.drop 0).take (P.cellsOf T.int)) := hf 0 _ rfl
  obtain ⟨m1, t1⟩ : ∃ m, TV P w m T.uint64 ((cs.drop 1).take (P.cellsOf T.uint64)) := hf 1 _ rfl
  obtain ⟨m2, t2⟩ : ∃ m, TV P w m T.uint64 ((cs.drop 2).take (P.cellsOf T.uint64)) := hf 2 _ rfl
  obtain ⟨m3, t3⟩ : ∃ m, TV P w m T.sl_api_Member ((cs.drop 3).take (P.cellsOf T.sl_api_Member)) := hf 3 _ rfl
  obtain ⟨m4, t4⟩ : ∃ m, TV P w m T.uint64 ((cs.drop 4).take (P.cellsOf T.uint64)) := hf 4 _ rfl
  have c0 : P.cellsOf T.int = 1 := by kernel_rfl
  have c1 : P.cellsOf T.uint64 = 1 := by kernel_rfl
  have c2 : P.cellsOf T.sl_api_Member = 1 := by kernel_rfl
  match cs, hl with
  | [u0, u1, u2, u3, u4], _ =>
    simp only [c0, c1, c2, List.drop_zero, List.drop_succ_cons, List.take_succ_cons, List.take_zero] at t0 t1 t2 t3 t4
    obtain ⟨x0, e0, _⟩ := tv_int (k := .i64) (by kernel_rfl) t0
    obtain ⟨x1, e1, _⟩ := tv_int (k := .u64) (by kernel_rfl) t1
    obtain ⟨x2, e2, w2⟩ := tv_int (k := .u64) (by kernel_rfl) t2
    obtain ⟨l3, s3, i3, j3⟩ := members_of'' t3
    obtain ⟨x4, e4, w4⟩ := tv_int (k := .u64) (by kernel_rfl) t4
    simp only [List.cons.injEq, and_true] at e0 e1 e2 e4
    subst e0 e1 e2 e4
    exact ⟨⟨x0, x1, x2, u3, l3, x4⟩, hc, s3, wf_u64'' w2, wf_u64' w4, i3, j3⟩
section
variable {w0 w w' : World} {R : List Asn} {v : Value} {l : List GOp}
theorem gopRd_fr {b o : Nat} {x : GOp} (hb : b < w.heap.size) (h : gopRd w b o x) (hf : Fr (fun _ => False) w w') : gopRd w' b o x :=
  ⟨fun j u hj => by rw [cellOf_heap (hf.keep b hb fun h => h)]; exact h.1 j u hj, h.2.1.fr hf fun _ _ _ h => h, h.2.2⟩
theorem gops_fr (h : SlOf w 5 gopRd v l) (hf : Fr (fun _ => False) w w') : SlOf w' 5 gopRd v l := h.keep hf.size fun b o x hb hr => gopRd_fr hb hr hf
theorem gops_at (h : SlOf w 5 gopRd v l) {i : Nat} (hi : i < l.length) : ∃ b o cap, v = .slice (some ⟨b, o, none⟩) l.length cap ∧ b < w.heap.size ∧ gopRd w b (o + i * 5) l[i] := by
  obtain ⟨a, cap, hv, _, _, h3⟩ := h
  obtain ⟨b, o, rfl, hb, hr⟩ := h3 i l[i] (List.getElem?_eq_getElem hi)
  exact ⟨b, o, cap, hv, hb, hr⟩
theorem gop_cells {b o : Nat} {x : GOp} (h : gopRd w b o x) : cellOf w b o = some (.int .i64 x.kind) ∧ cellOf w b (o + 1) = some (.int .u64 x.frm) ∧ cellOf w b (o + 2) = some (.int .u64 x.now) ∧ cellOf w b (o + 3) = some x.lv ∧ cellOf w b (o + 4) = some (.int .u64 x.pick) :=
  ⟨h.1 0 _ rfl, h.1 1 _ rfl, h.1 2 _ rfl, h.1 3 _ rfl, h.1 4 _ rfl⟩
theorem gops_ok (h : SlOf w 5 gopRd v l) {x : GOp} (hx : x ∈ l) : GOk x ∧ SlM w x.lv x.l := by
  obtain ⟨i, hi, rfl⟩ := List.getElem_of_mem hx
  obtain ⟨_, _, _, _, _, hr⟩ := gops_at h hi
  exact ⟨hr.2.2, hr.2.1⟩
def LtI (w : World) (l : List GOp) : KL := fun x w1 => ∃ (u : Value) (i : Nat), x = [u, .int .i64 (i : Nat)] ∧ w1 = w ∧ i ≤ l.length ∧ ∀ (j : Nat) y, l[j]? = some y → j < i → y.l.length ≤ 100
theorem light10 (hs : SlOf w 5 gopRd v l) {K : KV} (h : ∀ bb, (bb = true → l.length ≤ 60 ∧ ∀ x ∈ l, x.l.length ≤ 100) → K (.bool bb) w) : fcallT P F.winnowlaw10_light [v] w K := by
  rw [M.winnowlaw10_light.fcall]
  apply M.winnowlaw10_light.calls
  unfold M.winnowlaw10_light
  simp only [joinT_eq]
  rw [hs.len_ok (by kernel_rfl)]
  by_cases hl : 60 < l.length
  · have : (60 : Int) < l.length := by omega
    simp [this]
    exact h false fun h => by cases h
  have hn : ¬ (60 : Int) < l.length := by omega
  simp [hn]
  unfold M.winnowlaw10_light.j0
  simp only [joinT_eq]
  refine ⟨LtI w l, fun x _ => l.length - ms x 1, ⟨_, 0, rfl, rfl, Nat.zero_le _, fun j k _ h => by omega⟩, ?_⟩
  rintro x w1 ⟨u, i, rfl, rfl, hi, hz⟩
  have q0 : gv [u, .int .i64 (i : Int)] 0 = u := rfl
  have q1 : gv [u, .int .i64 (i : Int)] 1 = .int .i64 (i : Int) := rfl
  simp only [q1]
  rw [hs.len_ok (by kernel_rfl)]
  by_cases hil : i < l.length
  · have hil' : (i : Int) < l.length := by omega
    obtain ⟨b, o, cap, hv, hb, hr⟩ := gops_at hs hil
    obtain ⟨k0, k1, k2, k3, k4⟩ := gop_cells hr
    have s1 := hr.2.1
    have hlen : ∀ K', biT P .len #[T.sl_api_Member] T.int [false] [l[i].lv] w1 K' = K' (.int .i64 l[i].l.length) w1 := fun K' => s1.len_ok (by kernel_rfl) [false]
    have hwi : IntKind.i64.wrap ((i : Int) + 1) = ((i + 1 : Nat) : Int) := by rw [wrap_id (by omega) (by omega)]; rfl
    subst hv
    simp [hil']
    unfold M.winnowlaw10_light.j3
    simp only [joinT_eq]
    by_cases h5 : 100 < l[i].l.length
    · have : (100 : Int) < l[i].l.length := by omega
      simp [hil, k3, hlen, this, q1]
      exact h false fun h => by cases h
    · have : ¬ (100 : Int) < l[i].l.length := by omega
      simp [hil, k3, hlen, this, q0, q1]
      rw [hwi]
      refine ⟨⟨_, i + 1, rfl, rfl, by omega, fun j y hj hlt => ?_⟩, by simp [ms, gv]; omega⟩
      by_cases hji : j = i
      · subst hji
        rw [List.getElem?_eq_getElem hil] at hj
        cases hj; omega
      · exact hz j y hj (by omega)
  · have hil' : ¬ (i : Int) < l.length := by omega
    simp [hil']
    refine h _ fun _ => ⟨by omega, fun x hx => ?_⟩
    obtain ⟨j, hj, rfl⟩ := List.getElem_of_mem hx
    exact hz j _ (List.getElem?_eq_getElem hj) (by omega)
end
/-- What an operation makes of a node. -/
def stepG (n : Nd) (o : GOp) : Nd := if o.kind = 0 then (n.hear o.frm o.l o.now).1 else if o.kind = 1 then (n.tick o.now o.pick).1 else if o.kind = 2 then n.leave else n
theorem stepG_ok {n : Nd} {o : GOp} (h : NdOk n) (ho : GOk o) : NdOk (stepG n o) := by
  unfold stepG
  split
  · exact hear_ok h ho.inc ho.now
  · split
    · exact tick_ok h ho.now
    · split
      · exact leave_ok h
      · exact h
theorem stepG_up {n : Nd} {o : GOp} (h : NdOk n) : BelowV n.v (stepG n o).v := by
  unfold stepG
  split
  · exact hear_up h
  · split
    · exact tick_up h
    · split
      · exact leave_up h
      · exact .refl h.good
theorem SelfI.mono {n : Nd} {B B' : Int} (h : SelfI n B) (hB : B ≤ B') : SelfI n B' := by
  obtain ⟨m, h1, h2, h3⟩ := h.is
  exact ⟨⟨m, h1, by omega, h3⟩⟩
theorem stepG_self {n : Nd} {o : GOp} {B C : Int} (h : NdOk n) (hs : SelfI n B) (hc : ∀ x ∈ o.l, x.id = n.id → x.inc ≤ C) (hcb : C ≤ B) (hB : B < 18446744073709551615) : SelfI (stepG n o) (B + 1) := by
  unfold stepG
  split
  · exact hear_self h hs hc hcb hB
  · split
    · exact (tick_self hs).mono (by omega)
    · split
      · exact (leave_self hs).mono (by omega)
      · exact hs.mono (by omega)
theorem stepG_id (n : Nd) (o : GOp) : (stepG n o).id = n.id ∧ (stepG n o).left = (n.left || decide (o.kind = 2)) := by
  unfold stepG
  split
  · rename_i h0
    have := hear_id n o.frm o.now o.l
    refine ⟨this.1, ?_⟩
    rw [this.2.1, h0]; simp
  · split
    · rename_i h1
      have := tick_id n o.now o.pick
      refine ⟨this.1, ?_⟩
      rw [this.2.1, h1]; simp
    · split
      · rename_i h2
        refine ⟨rfl, ?_⟩
        rw [h2]; simp [Nd.leave]
      · rename_i h2
        exact ⟨rfl, by simp [h2]⟩
end Go.Proofs.Ytkjhekflgghbdaa
set_option maxRecDepth 100000
namespace Go.Proofs.Ytkjhekflgghbdaa
open Go.Eng
def encP (p : Nat) : List Value := [.pointer (some ⟨p, 0, none⟩)]
theorem encP_len (p : Nat) : (encP p).length = 1 := rfl
theorem encP_one (p : Nat) : ∀ u ∈ encP p, oneC u = true := fun u hu => by simp [encP] at hu; subst hu; rfl
abbrev rowP (v : Value) (l : List Nat) : Asn := rowA T.p_gossip_Node 1 encP v l
def nodesA (ps : List Nat) (ns : List Nd) : Asn := allA (List.zipWith nodeA ps ns)
def nodesR (ps : List Nat) (ns : List Nd) (j : Nat) : Asn := allA ((List.zipWith nodeA ps ns).eraseIdx j)
section
variable {w0 w : World} {R : List Asn} {ps : List Nat} {ns : List Nd}
theorem nodes_at (hl : ps.length = ns.length) {j : Nat} (hj : j < ns.length) (S : St w0 w (nodesA ps ns :: R)) : St w0 w (nodeA (ps[j]'(by omega)) ns[j] :: nodesR ps ns j :: R) := by
  have h := St.listAt (j := j) (L := List.zipWith nodeA ps ns) (by simp; omega) S
  rw [List.getElem_zipWith] at h
  exact h
theorem nodes_set (hl : ps.length = ns.length) {j : Nat} (hj : j < ns.length) {n : Nd} (S : St w0 w (nodeA (ps[j]'(by omega)) n :: nodesR ps ns j :: R)) : St w0 w (nodesA ps (ns.set j n) :: R) := by
  have h := St.listSet (j := j) (L := List.zipWith nodeA ps ns) (by simp; omega) S
  have e : (List.zipWith nodeA ps ns).set j (nodeA (ps[j]'(by omega)) n) = List.zipWith nodeA ps (ns.set j n) := by
    apply List.ext_getElem?
    intro k
    simp only [List.getElem?_set, List.getElem?_zipWith]
    by_cases hk : j = k
    · subst hk
      have hj' : j < ps.length := by omega
      simp [hj, hl, List.getElem?_eq_getElem hj']
    · simp only [if_neg hk]
  rw [e] at h
  exact h
theorem nodes_same (hl : ps.length = ns.length) {j : Nat} (hj : j < ns.length) (S : St w0 w (nodeA (ps[j]'(by omega)) ns[j] :: nodesR ps ns j :: R)) : St w0 w (nodesA ps ns :: R) := by
  have h := nodes_set hl hj S
  rwa [List.set_getElem_self] at h
theorem nodes_snoc {p : Nat} {n : Nd} (hl : ps.length = ns.length) (S : St w0 w (nodeA p n :: nodesA ps ns :: R)) : St w0 w (nodesA (ps ++ [p]) (ns ++ [n]) :: R) := by
  have e : List.zipWith nodeA (ps ++ [p]) (ns ++ [n]) = List.zipWith nodeA ps ns ++ [nodeA p n] := by
    rw [List.zipWith_append hl]; rfl
  refine St.all.2 ?_
  rw [e, List.append_assoc]
  have S1 := St.all.1 S.swap
  exact S1
theorem nodes_nil (S : St w0 w R) : St w0 w (nodesA [] [] :: R) := St.all.2 S
end
/-! ### The nodes are made -/
structure MeetK (N : Nat) (B : Int) (ns : List Nd) : Prop where
  each : ∀ i (h : i < ns.length), MeetN N B i ns[i]
theorem meetK_snoc {N : Nat} {ns : List Nd} {inc : Int} (h : MeetK N 1000 ns) (hN : ns.length < N) (h1 : 1 ≤ inc ∧ inc ≤ 1000) (hn : N ≤ 6) : MeetK N 1000 (ns ++ [Nd.new ((ns.length + 1 : Nat) : Int) inc 5 100 0]) := by
  refine ⟨fun i hi => ?_⟩
  rw [List.length_append] at hi
  by_cases hi' : i < ns.length
  · rw [List.getElem_append_left hi']; exact h.each i hi'
  · have he : i = ns.length := by simp at hi; omega
    subst he
    have ok : NdOk (Nd.new ((ns.length + 1 : Nat) : Int) inc 5 100 0) := new_ok (by omega) (by omega) (by omega) (by omega) (by omega)
    have e : (ns ++ [Nd.new ((ns.length + 1 : Nat) : Int) inc 5 100 0])[ns.length] = Nd.new ((ns.length + 1 : Nat) : Int) inc 5 100 0 := by simp
    rw [e]
    refine ⟨ok, ⟨ok.good, ?_, ?_⟩, rfl, rfl, ⟨⟨((ns.length + 1 : Nat) : Int), inc, 0⟩, ?_, rfl⟩⟩
    · intro m hm; simp [Nd.new] at hm; subst hm; simp; omega
    · intro m hm; simp [Nd.new] at hm; subst hm; simp; omega
    · simp [Nd.new, findM]
def MmI (W : World) (N : Nat) : KL := fun x w1 => ∃ (u0 u1 u2 v : Value) (ps : List Nat) (ns : List Nd), x = [u0, u1, u2, v, .int .i64 (ns.length : Nat)] ∧ ns.length ≤ N ∧ ps.length = ns.length ∧ MeetK N 1000 ns ∧ St W w1 [nodesA ps ns, rowP v ps]
section
variable {w0 w : World} {R : List Asn}
theorem meetsJ3 {W : World} {l : List Int} {a0 : Value} (hl : Sl W 1 Suint64.encL a0 l) (hlen : l.length ≤ 6) {ps : List Nat} {ns : List Nd} (hi : ns.length < l.length) (hp : ps.length = ns.length) (hm : MeetK l.length 1000 ns) {v : Value} (S : St W w [nodesA ps ns, rowP v ps]) {u0 u1 u2 : Value} {K2 : KL} {K : KV}
    (hK : ∀ w', Fr (fun _ => False) W w' → K (.bool true) w')
    (h : ∀ w' y0 y1 y2 v' ps' ns', ns'.length = ns.length + 1 → ps'.length = ns'.length → MeetK l.length 1000 ns' → St W w' [nodesA ps' ns', rowP v' ps'] → K2 [y0, y1, y2, v', .int .i64 (ns'.length : Nat)] w') :
    M.winnowlaw10_GossipMeets.j3 a0 [u0, u1, u2, v, .int .i64 (ns.length : Nat)] K2 w K := by
  unfold M.winnowlaw10_GossipMeets.j3
  have q4 : gv [u0, u1, u2, v, .int .i64 (ns.length : Nat)] 4 = .int .i64 (ns.length : Nat) := rfl
  have q3 : gv [u0, u1, u2, v, .int .i64 (ns.length : Nat)] 3 = v := rfl
  have q0 : gv [u0, u1, u2, v, .int .i64 (ns.length : Nat)] 0 = u0 := rfl
  have hwi : IntKind.i64.wrap ((ns.length : Int) + 1) = ((ns.length + 1 : Nat) : Int) := by rw [wrap_id (by omega) (by omega)]; rfl
  have hwu : IntKind.u64.wrap ((ns.length + 1 : Nat) : Int) = ((ns.length + 1 : Nat) : Int) := wrap_u64 (by omega) (by omega)
  obtain ⟨b, o, cap, hv, hb, _, hc⟩ := (S.old hl).at hi
  have c0 := hc 0 _ rfl
  simp only [Nat.mul_one, Nat.add_zero] at c0
  generalize l[ns.length] = z at *
  simp only [joinT_eq, q4, q0, q3]
  rw [hv]
  by_cases g1 : z < 1
  · simp [hi, c0, g1]
    exact alive10 fun w' f => hK w' (S.fr.trans f)
  · by_cases g2 : 1000 < z
    · simp [hi, c0, g1, g2]
      exact alive10 fun w' f => hK w' (S.fr.trans f)
    · simp [hi, c0, g1, g2]
      unfold M.winnowlaw10_GossipMeets.j5
      simp only [q3, q4, q0, bin_add, hwi, joinT_eq]
      rw [cv_ints (ks := .i64) (kd := .u64) (by kernel_rfl) (by kernel_rfl), hwu]
      simp [hi, c0]
      refine gnew_ok S (by omega) (by omega) (by omega) (by omega) (fun h => by omega) fun _ _ _ _ w1 p S1 => ?_
      simp [ptrN]
      have S2 := nodes_snoc hp S1
      have S3 := S2.swap.step ((Fr.refl _ w1).alloc (.cells #[.pointer (some ⟨p, 0, none⟩)] T.p_gossip_Node))
      refine moreRow et.sl_p_gossip_Node encP_len encP_one S3 (l2 := [p]) (Sl.one rfl rfl) (by simp; omega) (by decide) fun w2 v2 S4 => ?_
      have hl2 : (ns ++ [Nd.new ((ns.length + 1 : Nat) : Int) z 5 100 0]).length = ns.length + 1 := by simp
      have fin := fun y0 y1 y2 => h w2 y0 y1 y2 v2 (ps ++ [p]) (ns ++ [Nd.new ((ns.length + 1 : Nat) : Int) z 5 100 0]) hl2 (by simp [hp]) (meetK_snoc hm hi (by omega) hlen) S4.swap
      rw [hl2] at fin
      exact fin _ _ _
end
end Go.Proofs.Ytkjhekflgghbdaa
set_option maxRecDepth 100000
namespace Go.Proofs.Ytkjhekflgghbdaa
open Go.Eng
theorem meet_op {N k : Nat} {B : Int} {n : Nd} {L : List Mem} (hN : N ≤ 16) (hB : 1000 ≤ B ∧ B < 18446744073709551000) (h : MeetN N B k n) (hi : IncR L) (hg : ∀ m ∈ L, m.inc ≤ 1000 ∧ m.id ≤ N) : MeetN N (B + 1) k (n.hear 0 L 0).1 := by
  by_cases hr : vright L = 0
  · have g := (vright_iff L).1 hr
    exact (meet_hear hN (by omega) h ⟨g, fun m hm => by have := hg m hm; have := hi m hm; omega, fun m hm => (hg m hm).2⟩ 0 (by omega)).2.1
  · have hk : (mergeV n.v L).2 ≠ 0 := fun hk => hr (merge_zero hk).2
    have ok := hear_ok (frm := 0) (now := 0) h.ok hi (by omega)
    have e : (n.hear 0 L 0).1 = { n with now := maxI n.now 0 } := by unfold Nd.hear; rw [if_pos hk]
    rw [e] at ok ⊢
    exact ⟨ok, h.few.mono (by omega), h.id, h.left, h.al⟩
section
variable {w0 w : World} {R : List Asn}
def MgI (w : World) (l : List Mem) (N : Nat) : KL := fun x w1 => ∃ (u : Value) (i : Nat), x = [u, .int .i64 (i : Nat)] ∧ w1 = w ∧ i ≤ l.length ∧ ∀ (j : Nat) y, l[j]? = some y → j < i → y.inc ≤ 1000 ∧ y.id ≤ N
theorem meetsG {a1 a0 : Value} {l : List GOp} {incs : List Int} (hl : SlOf w 5 gopRd a1 l) (hmm : ∀ x ∈ l, x.l.length ≤ 100) (ha : Sl w 1 Suint64.encL a0 incs) (hN : incs.length ≤ 6) {i : Nat} (hi : i < l.length) {x8 : List Value} (h8 : gv x8 2 = .int .i64 (i : Nat)) {u : Value} {K11 : KL} {K : KV}
    (hK : ∀ w', Fr (fun _ => False) w w' → K (.bool true) w') (h11 : (∀ m ∈ l[i].l, m.inc ≤ 1000 ∧ m.id ≤ incs.length) → ∀ y0 y1, K11 [y0, y1] w) :
    loopT [u, .int .i64 0] w fun K12 x12 w => M.winnowlaw10_GossipMeets.j12 a1 x8 x12 K11 a0 K12 w K := by
  obtain ⟨b, o, cap, hv, hb, hr⟩ := gops_at hl hi
  obtain ⟨_, _, _, c3, _⟩ := gop_cells hr
  have hx := hmm l[i] (List.getElem_mem hi)
  have hs := hr.2.1
  have hia : ∀ w' K', iaT P T.sl_winnowlaw10_Op a1 (.int .i64 (i : Nat)) w' K' = K' (.pointer (some ⟨b, o + i * 5, none⟩)) w' := fun w' K' => by rw [hv]; simp [hi]
  generalize l[i] = x at *
  refine ⟨MgI w x.l incs.length, fun y _ => x.l.length - ms y 1, ⟨_, 0, rfl, rfl, Nat.zero_le _, fun j k _ h => by omega⟩, ?_⟩
  rintro y w1 ⟨u, j, rfl, rfl, hj, hz⟩
  have q0 : gv [u, .int .i64 (j : Int)] 0 = u := rfl
  have q1 : gv [u, .int .i64 (j : Int)] 1 = .int .i64 (j : Int) := rfl
  unfold M.winnowlaw10_GossipMeets.j12
  have hlen : ∀ K', biT P .len #[T.sl_api_Member] T.int [false] [x.lv] w1 K' = K' (.int .i64 x.l.length) w1 := fun K' => hs.len_ok (by kernel_rfl) [false]
  have hla : ∀ K', biT P .len #[T.sl_uint64] T.int [false] [a0] w1 K' = K' (.int .i64 incs.length) w1 := fun K' => ha.len_ok (by kernel_rfl) [false]
  have hwl : IntKind.u64.wrap (incs.length : Int) = incs.length := wrap_u64 (by omega) (by omega)
  have hcv : ∀ K', cvT P T.int T.uint64 (.int .i64 (incs.length : Int)) w1 K' = K' (.int .u64 (incs.length : Int)) w1 := fun K' => by rw [cv_ints (ks := .i64) (kd := .u64) (by kernel_rfl) (by kernel_rfl), hwl]
  by_cases hil : j < x.l.length
  · have hil' : (j : Int) < x.l.length := by omega
    obtain ⟨b2, o2, cap2, hv2, _, _, hc⟩ := hs.at hil
    have d0 := hc 0 _ rfl
    have d1 := hc 1 _ rfl
    simp only [Nat.add_zero] at d0
    have hwi : IntKind.i64.wrap ((j : Int) + 1) = ((j + 1 : Nat) : Int) := by rw [wrap_id (by omega) (by omega)]; rfl
    simp [h8, hia, c3, hlen, q0, q1, hil']
    unfold M.winnowlaw10_GossipMeets.j13
    rw [hv2] at c3
    by_cases e1 : 1000 < x.l[j].inc
    · simp [h8, hia, c3, hil, q1, q0, d0, d1, e1]
      exact alive10 hK
    · by_cases e2 : (incs.length : Int) < x.l[j].id
      · simp [h8, hia, c3, hil, q1, q0, d0, d1, e1, hla, hcv, e2]
        exact alive10 hK
      · simp [h8, hia, c3, hil, q1, q0, d0, d1, e1, hla, hcv, e2, hwi]
        refine ⟨⟨_, j + 1, rfl, rfl, by omega, fun k y hk hlt => ?_⟩, by simp [ms, gv]; omega⟩
        by_cases hji : k = j
        · subst hji
          rw [List.getElem?_eq_getElem hil] at hk
          cases hk; omega
        · exact hz k y hk (by omega)
  · have hil' : ¬ (j : Int) < x.l.length := by omega
    simp [h8, hia, c3, hlen, q0, q1, hil']
    refine h11 (fun m hm => ?_) _ _
    obtain ⟨k, hk, rfl⟩ := List.getElem_of_mem hm
    exact hz k _ (List.getElem?_eq_getElem hk) (by omega)
/-- Nodes, in their row. -/
theorem rowP_read {ps : List Nat} {v : Value} (S : St w0 w (rowP v ps :: R)) {j : Nat} (hj : j < ps.length) : ∃ b o, (∀ w' K, iaT P T.sl_p_gossip_Node v (.int .i64 (j : Nat)) w' K = K (.pointer (some ⟨b, o, none⟩)) w') ∧ cellOf w b o = some (ptrN ps[j]) := by
  obtain ⟨b, o, cap, hv, _, _, hc⟩ := (S.row encP_len : Sl w 1 encP v ps).at hj
  have c0 := hc 0 _ rfl
  simp only [Nat.mul_one, Nat.add_zero] at c0
  exact ⟨b, o + j, fun w' K => by rw [hv]; simp [hj], c0⟩
theorem rowP_read2 {ps : List Nat} {v : Value} (S : St w0 w (rowP v ps :: R)) {j : Nat} (hj : j < ps.length) : ∃ b o, (∀ w' K, iaT P T.sl_p_gossip_Node v (.int .i64 (j : Nat)) w' K = K (.pointer (some ⟨b, o, none⟩)) w') ∧ ∀ {w1 : World} {R1 : List Asn}, St w0 w1 (rowP v ps :: R1) → cellOf w1 b o = some (ptrN ps[j]) := by
  obtain ⟨b, o, cap, hv, _, _, hc⟩ := (S.row encP_len : Sl w 1 encP v ps).at hj
  refine ⟨b, o + j, fun w' K => by rw [hv]; simp [hj], fun {w1 R1} S1 => ?_⟩
  obtain ⟨b', o', cap', hv', _, _, hc'⟩ := (S1.row encP_len : Sl w1 1 encP v ps).at hj
  have hx := hv.symm.trans hv'
  cases hx
  have c0 := hc' 0 _ rfl
  simp only [Nat.mul_one, Nat.add_zero] at c0
  exact c0
theorem meetsJ9 {W : World} {a1 a0 : Value} {l : List GOp} {incs : List Int} (hl : SlOf W 5 gopRd a1 l) (hfew : l.length ≤ 60) (hmm : ∀ x ∈ l, x.l.length ≤ 100) (ha : Sl W 1 Suint64.encL a0 incs) (hN : 2 ≤ incs.length ∧ incs.length ≤ 6) {i : Nat} (hi : i < l.length) {ps : List Nat} {ns : List Nd} (hp : ps.length = ns.length) (hm : Meet incs.length (1000 + (i : Int)) ns) {v : Value} (S : St W w [nodesA ps ns, rowP v ps])
    {x1 : List Value} (h1 : gv x1 4 = v) {u0 u1 : Value} {K8 : KL} {K : KV} (hK : ∀ w', Fr (fun _ => False) W w' → K (.bool true) w')
    (h : ∀ w' y0 y1 ns', Meet incs.length (1000 + ((i + 1 : Nat) : Int)) ns' → ps.length = ns'.length → St W w' [nodesA ps ns', rowP v ps] → K8 [y0, y1, .int .i64 ((i + 1 : Nat) : Int)] w') :
    M.winnowlaw10_GossipMeets.j9 [u0, u1, .int .i64 (i : Nat)] a1 a0 x1 K8 w K := by
  unfold M.winnowlaw10_GossipMeets.j9
  have q2 : gv [u0, u1, .int .i64 (i : Nat)] 2 = .int .i64 (i : Nat) := rfl
  have q1 : gv [u0, u1, .int .i64 (i : Nat)] 1 = u1 := rfl
  have hwi : IntKind.i64.wrap ((i : Int) + 1) = ((i + 1 : Nat) : Int) := by rw [wrap_id (by omega) (by omega)]; rfl
  have hlw := gops_fr hl S.fr
  simp only [joinT_eq]
  refine meetsG hlw hmm (S.old ha) hN.2 hi q2 (fun w' f => hK w' (S.fr.trans f)) fun hg y0 y1 => ?_
  obtain ⟨b, o, cap, hv, hb, hr⟩ := gops_at hlw hi
  obtain ⟨c0, c1, c2, c3, c4⟩ := gop_cells hr
  have hgo := gops_ok hl (List.getElem_mem hi)
  have hx := hmm l[i] (List.getElem_mem hi)
  have hia : ∀ w' K', iaT P T.sl_winnowlaw10_Op a1 (.int .i64 (i : Nat)) w' K' = K' (.pointer (some ⟨b, o + i * 5, none⟩)) w' := fun w' K' => by rw [hv]; simp [hi]
  have hsx : ∀ {w'}, Fr (fun _ => False) W w' → SlM w' l[i].lv l[i].l := fun f => hgo.2.fr f fun _ _ _ h => h
  generalize l[i] = x at *
  have hB : (1000 : Int) + (i : Int) + 1 = 1000 + ((i + 1 : Nat) : Int) := by omega
  unfold M.winnowlaw10_GossipMeets.j11
  have hnl := hm.len
  by_cases k0 : x.kind = 0
  · obtain ⟨jj, hjj⟩ : ∃ jj, i % incs.length = jj := ⟨_, rfl⟩
    have hj : jj < ns.length := by rw [hnl, ← hjj]; exact Nat.mod_lt _ (by omega)
    have S1 := S.step ((Fr.refl _ w).dr 1)
    obtain ⟨pb, po, hpa, hpc⟩ := rowP_read S1.swap (j := jj) (by omega)
    have hlen : ∀ w' K', biT P .len #[T.sl_p_gossip_Node] T.int [false] [v] w' K' = K' (.int .i64 ps.length) w' := fun w' K' => (S.swap.row encP_len : Sl w 1 encP v ps).len_ok (by kernel_rfl) [false]
    have hrem : ∀ w' K', binT P .rem T.int (.tmp 121) (.tmp 123) (.int .i64 (i : Int)) (.int .i64 (ps.length : Int)) w' K' = K' (.int .i64 (jj : Nat)) w' := fun w' K' => by
      rw [bin_rem (by omega), Int.tmod_eq_emod_of_nonneg (by omega), hp, hnl, ← hjj]; rfl
    have hpc' : cellOf w pb po = some (ptrN (ps[jj]'(by omega))) := hpc
    simp [q2, hia, c0, c3, k0, h1, hlen, hrem, hpa, hpc']
    have S2 := nodes_at hp hj S1
    have hmj := hm.each _ hj
    refine hear_st (l := x.l) (now := 0) (frm := 0) S2 hmj.ok (by omega) hgo.1.inc (fun w' L S => hsx S.fr) (by omega) fun w2 S3 => ?_
    have S4 := nodes_set hp hj S3
    rw [hwi]
    have hm' := hm.set (B' := 1000 + ((i + 1 : Nat) : Int)) (by omega) (j := jj) (n := (ns[jj].hear 0 x.l 0).1) (by
      rw [← hB]
      exact meet_op (by omega) (by omega) hmj hgo.1.inc hg)
    exact h w2 _ _ _ hm' (by rw [List.length_set]; exact hp) S4
  · simp [q2, hia, c0, k0]
    rw [hwi]
    exact h w _ _ ns (hm.mono (by omega)) hp S
end
end Go.Proofs.Ytkjhekflgghbdaa
