/-
  The library's heap over a line: up, down. No condition.
-/
import Derived.Test.YtgcpljghnlohbaaTim0
set_option maxRecDepth 100000
namespace Go.Proofs.Ytgcpljghnlohbaa
open Go.Eng
variable [HE]

def lineI (hb : Nat) : Value := .iface T.p_timers_line (.pointer (some ⟨hb, 0, none⟩))

omit [HE] in
/-- What may have turned of a line's memory, the line's block itself aside. -/
theorem fpL_perm {v : Value} {its its' : List It} (h : its'.Perm its) {b : Nat} (hf : fpL v its' b) : fpL v its b := by
  rcases hf with h' | ⟨t, ht, hp⟩
  · exact .inl h'
  · exact .inr ⟨t, h.mem_iff.1 ht, hp⟩

def UpI (w : World) (hb : Nat) (v mv : Value) (its : List It) (n : Nat) : KL := fun x w1 => ∃ j1 its1, x = [gv x 0, .int .i64 (j1 : Nat)] ∧ HL w1 hb v mv its1 ∧ its1.Perm its ∧ its1.length = its.length ∧ j1 < n ∧ UpInv (At its1) n j1 ∧ (∀ c, n ≤ c → At its1 c = At its c) ∧ Fr (fpL v its) w w1
theorem up_ok {w : World} {hb j : Nat} {v mv : Value} {its : List It} (H : HL w hb v mv its) (hj : j < its.length) (hlen : its.length ≤ 140737488355328) {n : Nat} (hn : n ≤ its.length) (hjn : j < n) (hU : UpInv (At its) n j) {K : KV}
    (h : ∀ w' its', HL w' hb v mv its' → its'.Perm its → its'.length = its.length → HeapN (At its') n → (∀ c, n ≤ c → At its' c = At its c) → Fr (fpL v its) w w' → K (.tuple #[]) w') :
    callT P F.heap_up [lineI hb, .int .i64 j] w K := by
  apply M.heap_up.calls
  unfold M.heap_up
  refine ⟨UpI w hb v mv its n, fun x _ => ms x 1, ⟨j, its, rfl, H, List.Perm.refl _, rfl, hjn, hU, fun _ _ => rfl, Fr.refl _ _⟩, ?_⟩
  rintro x w1 ⟨j1, its1, hx, H1, hp1, hl1, hjn1, hU1, hc1, hf1⟩
  rw [hx]
  unfold M.heap_up.j0
  have e1 : IntKind.i64.wrap ((j1 : Int) - 1) = (j1 : Int) - 1 := wrap_id (by omega) (by omega)
  have e2 : IntKind.i64.wrap (((j1 : Int) - 1).tdiv 2) = ((par j1 : Nat) : Int) := by
    unfold par
    by_cases h0 : j1 = 0
    · subst h0; decide
    · have : ((j1 : Int) - 1).tdiv 2 = (((j1 - 1) / 2 : Nat) : Int) := by
        rw [show (j1 : Int) - 1 = ((j1 - 1 : Nat) : Int) from by omega]
        rfl
      rw [this]; exact wrap_id (by omega) (by omega)
  by_cases h0 : j1 = 0
  · have e3 : ((par j1 : Nat) : Int) = (j1 : Int) := by subst h0; rfl
    simp [e1, e2, e3]
    exact h w1 its1 H1 hp1 hl1 (up_done hU1 (.inl h0)) hc1 hf1
  · have hpl := par_lt (c := j1) (by omega)
    have e3 : ¬ ((par j1 : Nat) : Int) = (j1 : Int) := by omega
    have g1 := at_some (its := its1) (i := j1) (by omega)
    have g2 := at_some (its := its1) (i := par j1) (by omega)
    by_cases hl : lessI (At its1 j1) (At its1 (par j1)) = true
    · simp [e1, e2, e3]
      refine inv_less H1 g1 g2 _ ?_
      simp [hl]
      refine inv_swap (H1.dr 1) g2 g1 (by omega) _ fun w2 H2 hf2 => ?_
      have hl' := (lessI_iff _ _).1 hl
      have b1 : par j1 < its1.length := by omega
      have b2 : j1 < its1.length := by omega
      refine ⟨⟨par j1, swapI its1 (par j1) j1 (At its1 (par j1)) (At its1 j1), rfl, H2, (swapI_perm b1 b2).trans hp1, by rw [swapI_len]; exact hl1, by omega, ?_, fun c hc => ?_, ?_⟩, ?_⟩
      · rw [At_swap_fun (by omega) (by omega)]
        exact up_step hU1 (by omega) hjn1 hl'
      · rw [At_swap (by omega) (by omega), ← hc1 c hc]
        simp only [sw]; rw [if_neg (by omega), if_neg (by omega)]
      · exact (hf1.dr 1).trans' hf2 fun b _ hb' => fpL_perm hp1 hb'
      · simp [ms, gv]; omega
    · have hl2 : lessI (At its1 j1) (At its1 (par j1)) = false := by simpa using hl
      simp [e1, e2, e3]
      refine inv_less H1 g1 g2 _ ?_
      simp [hl2]
      exact h _ its1 (H1.dr 1) hp1 hl1 (up_done hU1 (.inr ((lessI_false _ _).1 hl2))) hc1 (hf1.dr 1)

def DnI (w : World) (hb : Nat) (v mv : Value) (its : List It) (n i0 : Nat) : KL := fun x w1 => ∃ k its1, x = [gv x 0, gv x 1, gv x 2, .int .i64 (k : Nat)] ∧ HL w1 hb v mv its1 ∧ its1.Perm its ∧ its1.length = its.length ∧ k < n ∧ i0 ≤ k ∧ DInv (At its1) n i0 k ∧ (∀ c, n ≤ c → At its1 c = At its c) ∧ Fr (fpL v its) w w1

omit [HE] in
/-- The children of a place. -/
theorem par_cases {c k : Nat} (h0 : 0 < c) (h : par c = k) : c = 2 * k + 1 ∨ c = 2 * k + 2 := by unfold par at h; omega

theorem down_ok {w : World} {hb i0 n : Nat} {v mv : Value} {its : List It} (H : HL w hb v mv its) (hlen : its.length ≤ 140737488355328) (hn : n ≤ its.length) (hi : i0 < n) (hD : DInv (At its) n i0 i0) {K : KV}
    (h : ∀ w' its' b, HL w' hb v mv its' → its'.Perm its → its'.length = its.length → (b = true → HeapN (At its') n) → (b = false → UpInv (At its') n i0) → (∀ c, n ≤ c → At its' c = At its c) → Fr (fpL v its) w w' → K (.bool b) w') :
    callT P F.heap_down [lineI hb, .int .i64 i0, .int .i64 n] w K := by
  apply M.heap_down.calls
  unfold M.heap_down
  simp only [joinT_eq]
  refine ⟨DnI w hb v mv its n i0, fun x _ => n - ms x 3, ⟨i0, its, rfl, H, List.Perm.refl _, rfl, hi, Nat.le_refl _, hD, fun _ _ => rfl, Fr.refl _ _⟩, ?_⟩
  rintro x w1 ⟨k, its1, hx, H1, hp1, hl1, hkn, hik, hD1, hc1, hf1⟩
  rw [hx]
  have fin : ∀ (w2 : World) (K' : KV), HL w2 hb v mv its1 → Fr (fpL v its) w w2 → (∀ c, 0 < c → c < n → par c = k → le (At its1 k) (At its1 c)) → K (.bool (decide (i0 < k))) w2 := fun w2 _ H2 hf2 hd => by
    refine h w2 its1 _ H2 hp1 hl1 (fun hb => down_heap hD1 hd (by simpa using hb)) (fun hb => ?_) hc1 hf2
    have : k = i0 := by simp at hb; omega
    subst this
    exact down_up hD1 hd
  unfold M.heap_down.j1
  have e1 : IntKind.i64.wrap (2 * (k : Int)) = 2 * (k : Int) := wrap_id (by omega) (by omega)
  have e2 : IntKind.i64.wrap (2 * (k : Int) + 1) = 2 * (k : Int) + 1 := wrap_id (by omega) (by omega)
  have e3 : IntKind.i64.wrap (2 * (k : Int) + 1 + 1) = 2 * (k : Int) + 2 := by rw [wrap_id (by omega) (by omega)]; omega
  by_cases h1 : (n : Int) ≤ 2 * (k : Int) + 1
  · simp [e1, e2, h1]
    exact fin w1 K H1 hf1 fun c h0 hc hpc => by rcases par_cases h0 hpc with h | h <;> omega
  · have h1' : ¬ (2 * (k : Int) + 1 < 0) := by omega
    simp [e1, e2, h1, h1']
    -- what is done once the lesser child is known
    have go : ∀ (j : Nat) (z : Int) (w2 : World) (y : Value), z = (j : Nat) → j < n → par j = k → 0 < j → (∀ c, 0 < c → c < n → par c = k → le (At its1 j) (At its1 c)) → HL w2 hb v mv its1 → Fr (fpL v its) w w2 →
        M.heap_down.j3 (lineI hb) [y, .int .i64 z] [gv x 0, gv x 1, gv x 2, .int .i64 k]
          (fun x0 w => binT P .gtr T.int (.tmp 45) (.tmp 46) (gv x0 3) (.int .i64 i0) w fun t47 w => K t47 w) (.int .i64 (2 * (k : Int) + 1)) (fun x' w' => DnI w hb v mv its n i0 x' w' ∧ n - ms x' 3 < n - ms [gv x 0, gv x 1, gv x 2, .int .i64 k] 3) w2 K := by
      intro j z w2 y hz hj hpj h0j hmin H2 hf2
      subst hz
      have g1 := at_some (its := its1) (i := j) (by omega)
      have g2 := at_some (its := its1) (i := k) (by omega)
      have hkj : k < j := by rw [← hpj]; exact par_lt h0j
      unfold M.heap_down.j3
      by_cases hl : lessI (At its1 j) (At its1 k) = true
      · simp
        refine inv_less H2 g1 g2 _ ?_
        simp [hl]
        refine inv_swap (H2.dr 1) g2 g1 (by omega) _ fun w3 H3 hf3 => ?_
        have b1 : k < its1.length := by omega
        have b2 : j < its1.length := by omega
        refine ⟨⟨j, swapI its1 k j (At its1 k) (At its1 j), rfl, H3, (swapI_perm b1 b2).trans hp1, by rw [swapI_len]; exact hl1, hj, by omega, ?_, fun c hc => ?_, ?_⟩, ?_⟩
        · rw [At_swap_fun b1 b2]
          exact down_step hD1 h0j hj hpj hik hmin ((lessI_iff _ _).1 hl)
        · rw [At_swap b1 b2, ← hc1 c hc]
          simp only [sw]; rw [if_neg (by omega), if_neg (by omega)]
        · exact (hf2.dr 1).trans' hf3 fun b _ hb' => fpL_perm hp1 hb'
        · simp [ms, gv]; omega
      · have hl2 : lessI (At its1 j) (At its1 k) = false := by simpa using hl
        simp
        refine inv_less H2 g1 g2 _ ?_
        simp [hl2]
        exact fin _ K (H2.dr 1) (hf2.dr 1) fun c h0 hc hpc => le_trans ((lessI_false _ _).1 hl2) (hmin c h0 hc hpc)
    unfold M.heap_down.j2
    have p1 : par (2 * k + 1) = k := by unfold par; omega
    have p2 : par (2 * k + 2) = k := by unfold par; omega
    have z1 : 2 * (k : Int) + 1 = ((2 * k + 1 : Nat) : Int) := by omega
    have z2 : 2 * (k : Int) + 2 = ((2 * k + 2 : Nat) : Int) := by omega
    have q1 := at_some (its := its1) (i := 2 * k + 1) (by omega)
    by_cases h2 : 2 * (k : Int) + 2 < n
    · have q2 := at_some (its := its1) (i := 2 * k + 2) (by omega)
      simp [e3, h2]
      rw [z1, z2]
      refine inv_less H1 q2 q1 _ ?_
      by_cases hl : lessI (At its1 (2 * k + 2)) (At its1 (2 * k + 1)) = true
      · simp [hl]
        have hl' := le_of_not ((lessI_iff _ _).1 hl)
        refine go (2 * k + 2) _ _ _ (by omega) (by omega) p2 (by omega) (fun c h0 hc hpc => ?_) (H1.dr 1) (hf1.dr 1)
        rcases par_cases h0 hpc with rfl | rfl
        · exact hl'
        · exact le_refl _
      · have hl2 : lessI (At its1 (2 * k + 2)) (At its1 (2 * k + 1)) = false := by simpa using hl
        simp [hl2]
        refine go (2 * k + 1) _ _ _ (by omega) (by omega) p1 (by omega) (fun c h0 hc hpc => ?_) (H1.dr 1) (hf1.dr 1)
        rcases par_cases h0 hpc with rfl | rfl
        · exact le_refl _
        · exact (lessI_false _ _).1 hl2
    · simp [e3, h2]
      refine go (2 * k + 1) _ _ _ (by omega) (by omega) p1 (by omega) (fun c h0 hc hpc => ?_) H1 hf1
      rcases par_cases h0 hpc with rfl | rfl
      · exact le_refl _
      · omega
end Go.Proofs.Ytgcpljghnlohbaa
