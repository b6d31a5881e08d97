/-
  view.Version and the document's; the law ViewVersions. No condition.
  The law ViewJoins. No condition.
  The law ViewRises. No condition.
-/
import Derived.Test.YtbcamfheaonbaaaZSrtUF
set_option maxRecDepth 100000
namespace Go.Proofs.Ytbcamfheaonbaaa
open Go.Eng
def verV (l : List Mem) : Int × Int := if vright l ≠ 0 then (0, 6) else if 18446744073709551616 ≤ totM l then (0, 12) else (totM l, 0)
def IncOk (l : List Mem) : Prop := ∀ m ∈ l, 0 ≤ m.inc ∧ m.inc < 18446744073709551616
theorem totM_take {l : List Mem} {i : Nat} (hi : i < l.length) : totM (l.take (i + 1)) = totM (l.take i) + termM l[i] := by
  unfold totM
  rw [List.take_succ_eq_append_getElem hi, List.map_append, List.sum_append]; simp
theorem term_range {m : Mem} (h1 : oddM m = false) (h2 : 0 ≤ m.inc ∧ m.inc < 18446744073709551616) : 1 ≤ m.inc ∧ 0 ≤ m.st ∧ m.st ≤ 2 := by
  unfold oddM at h1
  simp at h1
  omega
theorem totM_nonneg {l : List Mem} (h : ∀ m ∈ l, 0 ≤ termM m) : 0 ≤ totM l := by
  unfold totM
  induction l with
  | nil => simp
  | cons x l ih =>
    have h1 := h x (by simp)
    have h2 := ih fun m hm => h m (by simp [hm])
    simp; omega
theorem totM_mono {l : List Mem} (h : ∀ m ∈ l, 0 ≤ termM m) (i : Nat) : totM (l.take i) ≤ totM l := by
  have h1 : totM l = totM (l.take i) + totM (l.drop i) := by
    unfold totM
    conv => lhs; rw [← List.take_append_drop i l, List.map_append, List.sum_append]
  have h2 := totM_nonneg (l := l.drop i) fun m hm => h m (List.mem_of_mem_drop hm)
  omega
def VsI (W : World) (l : List Mem) : KL := fun x w1 => ∃ (u0 u1 u2 u3 u4 u5 : Value) (s hg : Int) (i : Nat), x = [u0, u1, u2, u3, u4, u5, .int .u64 s, .int .u64 hg, .int .i64 (i : Nat)] ∧ i ≤ l.length ∧ 0 ≤ s ∧ s < 18446744073709551616 ∧ 0 ≤ hg ∧ hg ≤ 10 * i ∧ s + hg * 18446744073709551616 = totM (l.take i) ∧ Fr (fun _ => False) W w1
theorem version_ok {w : World} {v : Value} {l : List Mem} (hs : SlM w v l) (hlen : l.length ≤ 1000000) (hinc : IncOk l) {K : KV} (h : ∀ w', Fr (fun _ => False) w w' → K (.tuple #[.int .u64 (verV l).1, .int .i64 (verV l).2]) w') : fcallT P F.view_Version [v] w K := by
  rw [M.view_Version.fcall]
  apply M.view_Version.calls
  unfold M.view_Version
  rw [joinT_eq]
  refine vright_ok hs hlen fun w1 f1 => ?_
  unfold verV at h
  by_cases hv : vright l = 0
  · have g := (vright_iff l).1 hv
    rw [if_neg (by simp [hv])] at h
    simp [hv]
    unfold M.view_Version.j0
    simp only [joinT_eq]
    have hs1 := hs.fr f1 fun _ _ _ h => h
    rw [hs1.len_ok (by kernel_rfl)]
    refine ⟨VsI w l, fun x _ => l.length - ms x 8, ⟨_, _, _, _, _, _, 0, 0, 0, rfl, Nat.zero_le _, by omega, by omega, by omega, by omega, by simp [totM], f1⟩, ?_⟩
    rintro x w2 ⟨u0, u1, u2, u3, u4, u5, s, hg, i, rfl, hi, hs0, hs1', hg0, hg1, htot, f2⟩
    have q6 : gv [u0, u1, u2, u3, u4, u5, .int .u64 s, .int .u64 hg, .int .i64 (i : Nat)] 6 = .int .u64 s := rfl
    have q7 : gv [u0, u1, u2, u3, u4, u5, .int .u64 s, .int .u64 hg, .int .i64 (i : Nat)] 7 = .int .u64 hg := rfl
    have q8 : gv [u0, u1, u2, u3, u4, u5, .int .u64 s, .int .u64 hg, .int .i64 (i : Nat)] 8 = .int .i64 (i : Nat) := rfl
    have hs2 := hs.fr f2 fun _ _ _ h => h
    unfold M.view_Version.j2
    simp only [joinT_eq, q8]
    have hfew := g.few
    by_cases hil : i < l.length
    · have hil' : (i : Int) < l.length := by omega
      simp [hil']
      unfold M.view_Version.j3
      obtain ⟨b, o, cap, hv2, hb, _, hc⟩ := hs2.at hil
      have hld : ∀ K, ldN P 3 b (o + i * 3) w2 K = K (aggM l[i]) w2 := fun K => ldM hc K
      have hwi : IntKind.i64.wrap ((i : Int) + 1) = ((i + 1 : Nat) : Int) := by rw [wrap_id (by omega) (by omega)]; rfl
      have htk := totM_take hil
      have hrange := term_range (g.odd _ (List.getElem_mem hil)) (hinc _ (List.getElem_mem hil))
      have hinc' := hinc _ (List.getElem_mem hil)
      generalize l[i] = m at *
      simp only [joinT_eq, q6, q7, q8]
      rw [hv2]
      simp [hil, hld]
      rw [show aggM m = .agg #[.int .u64 m.id, .int .u64 m.inc, .int .i64 m.st] from rfl]
      simp
      have hba : (w2.alloc (.cells #[.int .u64 0, .int .u64 0, .int .i64 0] T.api_Member)).heap[w2.heap.size]? = some (.cells #[.int .u64 0, .int .u64 0, .int .i64 0] T.api_Member (0, 0)) := by rw [alloc_heap, if_pos rfl]
      refine stN_all (vs := [.int .u64 m.id, .int .u64 m.inc, .int .i64 m.st]) hba rfl (by simp) fun w3 b3 f3 => ?_
      have f3' : Fr (fun _ => False) w2 w3 := ((Fr.refl _ w2).alloc _).trans' f3 fun y hy he => by subst he; omega
      have c1 : cellOf w3 w2.heap.size 1 = some (.int .u64 m.inc) := by rw [cellOf_of b3]; rfl
      have c2 : cellOf w3 w2.heap.size 2 = some (.int .i64 m.st) := by rw [cellOf_of b3]; rfl
      have hsub : IntKind.u64.wrap (m.inc - 1) = (((m.inc - 1).toNat : Nat) : Int) := by rw [wrap_u64 (by omega) (by omega)]; omega
      have hcv : ∀ w K, cvT P T.int T.uint64 (.int .i64 m.st) w K = K (.int .u64 m.st) w := fun w K => by
        rw [cv_ints (ks := .i64) (kd := .u64) (by kernel_rfl) (by kernel_rfl), wrap_u64 (by omega) (by omega)]
      have hst1 : IntKind.u64.wrap (m.st + 1) = m.st + 1 := wrap_u64 (by omega) (by omega)
      simp [c1]
      rw [hsub]
      generalize hx : (m.inc - 1).toNat = x at *
      have hx' : m.inc = (x : Int) + 1 := by omega
      refine mul64_ok (by omega) ?_
      simp [c2, hcv, hst1]
      refine add64_ok (by omega) (by omega) ?_
      simp
      refine add64_ok hs0 (by omega) ?_
      simp
      have hi16 : (i : Int) ≤ 16 := by omega
      have wa : IntKind.u64.wrap (hg + 3 * (x : Int) / 18446744073709551616) = hg + 3 * (x : Int) / 18446744073709551616 := wrap_u64 (by omega) (by omega)
      have wb : IntKind.u64.wrap (hg + 3 * (x : Int) / 18446744073709551616 + (3 * (x : Int) % 18446744073709551616 + (m.st + 1)) / 18446744073709551616) = hg + 3 * (x : Int) / 18446744073709551616 + (3 * (x : Int) % 18446744073709551616 + (m.st + 1)) / 18446744073709551616 := wrap_u64 (by omega) (by omega)
      have wc : IntKind.u64.wrap (hg + 3 * (x : Int) / 18446744073709551616 + (3 * (x : Int) % 18446744073709551616 + (m.st + 1)) / 18446744073709551616 + (s + (3 * (x : Int) + (m.st + 1)) % 18446744073709551616) / 18446744073709551616) = hg + 3 * (x : Int) / 18446744073709551616 + (3 * (x : Int) % 18446744073709551616 + (m.st + 1)) / 18446744073709551616 + (s + (3 * (x : Int) + (m.st + 1)) % 18446744073709551616) / 18446744073709551616 := wrap_u64 (by omega) (by omega)
      rw [wa, wb, wc, hwi]
      have ht : termM m = 3 * (x : Int) + m.st + 1 := by unfold termM; rw [hx']; omega
      rw [ht] at htk
      exact ⟨⟨_, _, _, _, _, _, _, _, i + 1, rfl, by omega, by omega, by omega, by omega, by omega, by rw [htk]; omega, f2.trans f3'⟩, by simp [ms, gv]; omega⟩
    · have hil' : ¬ (i : Int) < l.length := by omega
      simp [hil']
      unfold M.view_Version.j1
      rw [List.take_of_length_le (by omega)] at htot
      have g10 : ∀ a b c d e f g h i hh k : Value, gv [a, b, c, d, e, f, g, h, i, hh, k] 10 = k := fun _ _ _ _ _ _ _ _ _ _ _ => rfl
      have g9 : ∀ a b c d e f g h i hh k : Value, gv [a, b, c, d, e, f, g, h, i, hh, k] 9 = hh := fun _ _ _ _ _ _ _ _ _ _ _ => rfl
      simp only [joinT_eq, g10, g9]
      by_cases hh0 : 0 < hg
      · have hT : 18446744073709551616 ≤ totM l := by omega
        rw [if_pos hT] at h
        simp [hh0]
        exact h w2 f2
      · have hT : ¬ 18446744073709551616 ≤ totM l := by omega
        have hs' : s = totM l := by omega
        rw [if_neg hT] at h
        simp [hh0]
        rw [hs']
        exact h w2 f2
  · have hv6 : vright l = 6 := (vright_cases l).resolve_left hv
    rw [if_pos hv] at h
    simp [hv6]
    exact h w1 f1
def RvI (W : World) (l : List Mem) : KL := fun x w1 => ∃ (u0 u1 u2 : Value) (i : Nat), x = [u0, u1, u2, .int .u64 (totM (l.take i)), .int .i64 (i : Nat)] ∧ i ≤ l.length ∧ totM (l.take i) < 18446744073709551616 ∧ Fr (fun _ => False) W w1
theorem refVersion_ok {w : World} {v : Value} {l : List Mem} (hs : SlM w v l) (hlen : l.length ≤ 1000000) (hinc : IncOk l) (hid : ∀ m ∈ l, 0 ≤ m.id) {K : KV} (h : ∀ w', Fr (fun _ => False) w w' → K (.tuple #[.int .u64 (verV l).1, .int .i64 (verV l).2]) w') : fcallT P F.winnowref09_Version [v] w K := by
  rw [M.winnowref09_Version.fcall]
  apply M.winnowref09_Version.calls
  unfold M.winnowref09_Version
  rw [joinT_eq]
  refine refRight_ok hs hlen hid fun w1 f1 => ?_
  unfold verV at h
  by_cases hv : vright l = 0
  · have g := (vright_iff l).1 hv
    rw [if_neg (by simp [hv])] at h
    simp [hv]
    refine ⟨RvI w l, fun x _ => l.length - ms x 4, ⟨_, _, _, 0, rfl, Nat.zero_le _, by simp [totM], f1⟩, ?_⟩
    rintro x w2 ⟨u0, u1, u2, i, rfl, hi, hlt, f2⟩
    have hfew := g.few
    have hnn : ∀ m ∈ l, 0 ≤ termM m := fun m hm => by
      have := term_range (g.odd m hm) (hinc m hm)
      unfold termM; omega
    have h0 := totM_nonneg (l := l.take i) fun m hm => hnn m (List.mem_of_mem_take hm)
    have q3 : gv [u0, u1, u2, .int .u64 (totM (l.take i)), .int .i64 (i : Nat)] 3 = .int .u64 (totM (l.take i)) := rfl
    have q4 : gv [u0, u1, u2, .int .u64 (totM (l.take i)), .int .i64 (i : Nat)] 4 = .int .i64 (i : Nat) := rfl
    have hs2 := hs.fr f2 fun _ _ _ h => h
    unfold M.winnowref09_Version.j2
    simp only [joinT_eq, q4]
    rw [hs2.len_ok (by kernel_rfl)]
    by_cases hil : i < l.length
    · have hil' : (i : Int) < l.length := by omega
      simp [hil']
      unfold M.winnowref09_Version.j3
      obtain ⟨b, o, cap, hv2, hb, _, hc⟩ := hs2.at hil
      have c1 := hc 1 _ rfl
      have c2 := hc 2 _ rfl
      have hwi : IntKind.i64.wrap ((i : Int) + 1) = ((i + 1 : Nat) : Int) := by rw [wrap_id (by omega) (by omega)]; rfl
      have htk := totM_take hil
      have hrange := term_range (g.odd _ (List.getElem_mem hil)) (hinc _ (List.getElem_mem hil))
      have hinc' := hinc _ (List.getElem_mem hil)
      have hmono := totM_mono hnn (i + 1)
      have hterm : termM l[i] = 3 * (l[i].inc - 1) + l[i].st + 1 := rfl
      generalize l[i] = m at *
      have hsub : IntKind.u64.wrap (m.inc - 1) = m.inc - 1 := wrap_u64 (by omega) (by omega)
      have hcv : ∀ w K, cvT P T.int T.uint64 (.int .i64 m.st) w K = K (.int .u64 m.st) w := fun w K => by
        rw [cv_ints (ks := .i64) (kd := .u64) (by kernel_rfl) (by kernel_rfl), wrap_u64 (by omega) (by omega)]
      simp only [joinT_eq, q3, q4]
      rw [hv2]
      by_cases e1 : 6148914691236517204 < m.inc - 1
      · have hT : 18446744073709551616 ≤ totM l := by omega
        rw [if_pos hT] at h
        simp [hil, c1, hsub, e1]
        exact h w2 f2
      · have hmul : IntKind.u64.wrap (3 * (m.inc - 1)) = 3 * (m.inc - 1) := wrap_u64 (by omega) (by omega)
        have hadd : IntKind.u64.wrap (3 * (m.inc - 1) + m.st) = 3 * (m.inc - 1) + m.st := wrap_u64 (by omega) (by omega)
        have hadd1 : IntKind.u64.wrap (3 * (m.inc - 1) + m.st + 1) = 3 * (m.inc - 1) + m.st + 1 := wrap_u64 (by omega) (by omega)
        have hmx : IntKind.u64.wrap (18446744073709551615 - totM (l.take i)) = 18446744073709551615 - totM (l.take i) := wrap_u64 (by omega) (by omega)
        simp [hil, c1, hsub, e1]
        unfold M.winnowref09_Version.j5
        have fd : Fr (fun _ => False) w (Eng.dr w2 1) := f2.dr 1
        by_cases e2 : 18446744073709551615 - totM (l.take i) < 3 * (m.inc - 1) + m.st + 1
        · have hT : 18446744073709551616 ≤ totM l := by omega
          rw [if_pos hT] at h
          simp [q3, q4, hil, c1, c2, hsub, hcv, hmul, hadd, hadd1, hmx, e2]
          exact h _ fd
        · have hs' : IntKind.u64.wrap (totM (l.take i) + (3 * (m.inc - 1) + m.st + 1)) = totM (l.take (i + 1)) := by rw [wrap_u64 (by omega) (by omega), htk, hterm]
          simp [q3, q4, hil, c1, c2, hsub, hcv, hmul, hadd, hadd1, hmx, e2, hwi, hs']
          exact ⟨⟨_, _, _, i + 1, rfl, by omega, by omega, fd⟩, by simp [ms, gv]; omega⟩
    · have hil' : ¬ (i : Int) < l.length := by omega
      simp [hil']
      rw [List.take_of_length_le (by omega)] at hlt ⊢
      have hT : ¬ 18446744073709551616 ≤ totM l := by omega
      rw [if_neg hT] at h
      exact h w2 f2
  · have hv6 : vright l = 6 := (vright_cases l).resolve_left hv
    rw [if_pos hv] at h
    simp [hv6]
    exact h w1 f1
section
variable {w0 w : World} {R : List Asn}
theorem refLive_st {v : Value} {l : List Mem} (S : St w0 w R) (hs : ∀ w' L, St w0 w' (L ++ R) → SlM w' v l) (hlen : l.length ≤ 1000000) (hid : ∀ m ∈ l, 0 ≤ m.id) {K : KV} (h : ∀ w' v', St w0 w' (rowW v' (liveV l) :: R) → K v' w') : fcallT P F.winnowref09_Live [v] w K := by
  rw [M.winnowref09_Live.fcall]
  apply M.winnowref09_Live.calls
  unfold M.winnowref09_Live
  rw [joinT_eq]
  refine refRight_ok (hs w [] S) hlen hid fun w1 f1 => ?_
  have S1 := S.step f1
  unfold liveV at h
  by_cases hv : vright l = 0
  · rw [if_pos hv] at h
    simp [hv]
    unfold M.winnowref09_Live.j0
    simp only [joinT_eq]
    refine ⟨LvI w0 l R, fun x _ => l.length - ms x 1, ⟨_, 0, rfl, Nat.zero_le _, nilRowW S1⟩, ?_⟩
    rintro x w2 ⟨v2, i, rfl, hi, S2⟩
    have q0 : gv [v2, .int .i64 (i : Nat)] 0 = v2 := rfl
    have q1 : gv [v2, .int .i64 (i : Nat)] 1 = .int .i64 (i : Nat) := rfl
    have hs2 := hs w2 [rowW v2 (liveM (l.take i))] S2
    simp only [q1]
    rw [hs2.len_ok (by kernel_rfl)]
    by_cases hil : i < l.length
    · have hil' : (i : Int) < l.length := by omega
      simp [hil']
      unfold M.winnowref09_Live.j3
      obtain ⟨b, o, cap, hv2, hb, _, hc⟩ := hs2.at hil
      have c0 := hc 0 _ rfl
      have c2 := hc 2 _ rfl
      simp only [Nat.add_zero] at c0
      have hwi : IntKind.i64.wrap ((i : Int) + 1) = ((i + 1 : Nat) : Int) := by rw [wrap_id (by omega) (by omega)]; rfl
      have htk := liveM_take hil
      have hll := liveM_len (l.take i)
      rw [List.length_take] at hll
      generalize l[i] = m at *
      simp only [joinT_eq, q1, bin_add, hwi]
      rw [hv2]
      by_cases hst : m.st = 2
      · simp [hil, c2, hst, q0]
        refine ⟨⟨v2, i + 1, rfl, by omega, ?_⟩, by simp [ms, gv]; omega⟩
        rw [htk]; simp [hst]; exact S2
      · simp [hil, c0, c2, hst, q0]
        have S4 := S2.step ((Fr.refl _ w2).alloc (.cells #[.int .u64 m.id] T.uint64))
        refine moreRowW S4 (l2 := [m.id]) (Sl.one rfl rfl) (by simp; omega) fun w5 v5 S5 => ?_
        refine ⟨⟨v5, i + 1, rfl, by omega, ?_⟩, by simp [ms, gv]; omega⟩
        rw [htk]; simp [hst]; exact S5
    · have hil' : ¬ (i : Int) < l.length := by omega
      simp [hil']
      rw [List.take_of_length_le (by omega)] at S2
      exact h w2 v2 S2
  · rw [if_neg hv] at h
    simp [hv]
    exact h w1 _ (nilRowW S1)
end
def UqI (w0 : World) (n : Nat) : KL := fun x w1 => ∃ (u : Value) (i : Nat), x = [u, .int .i64 (i : Nat)] ∧ Fr (fun _ => False) w0 w1 ∧ i ≤ n
theorem uints09 {w : World} {v1 v2 : Value} {l : List Int} (s1 : Sl w 1 Suint64.encL v1 l) (s2 : Sl w 1 Suint64.encL v2 l) (hl : l.length ≤ 1000000000) {K : KV} (h : ∀ w', Fr (fun _ => False) w w' → K (.bool true) w') : fcallT P F.winnowlaw09_uints [v1, v2] w K := by
  rw [M.winnowlaw09_uints.fcall]
  apply M.winnowlaw09_uints.calls
  unfold M.winnowlaw09_uints
  simp only [joinT_eq]
  rw [s1.len_ok (by kernel_rfl), s2.len_ok (by kernel_rfl)]
  simp
  unfold M.winnowlaw09_uints.j0
  simp only [joinT_eq]
  refine ⟨UqI w l.length, fun x _ => l.length - ms x 1, ⟨_, 0, rfl, Fr.refl _ _, Nat.zero_le _⟩, ?_⟩
  rintro x w1 ⟨u, i, rfl, f1, hi⟩
  have q1 : gv [u, .int .i64 (i : Int)] 1 = .int .i64 (i : Int) := rfl
  have t1 : Sl w1 1 Suint64.encL v1 l := s1.fr f1 fun _ _ _ h => h
  have t2 : Sl w1 1 Suint64.encL v2 l := s2.fr f1 fun _ _ _ h => h
  simp only [q1]
  rw [t1.len_ok (by kernel_rfl)]
  by_cases hil : i < l.length
  · have hil' : (i : Int) < l.length := by omega
    simp [hil']
    unfold M.winnowlaw09_uints.j3
    obtain ⟨b1, o1, cap1, rfl, _, _, e1⟩ := t1.at hil
    obtain ⟨b2, o2, cap2, rfl, _, _, e2⟩ := t2.at hil
    have d1 := e1 0 _ rfl
    have d2 := e2 0 _ rfl
    simp only [Nat.mul_one, Nat.add_zero] at d1 d2
    have hwi : IntKind.i64.wrap ((i : Int) + 1) = ((i + 1 : Nat) : Int) := by rw [wrap_id (by omega) (by omega)]; rfl
    simp [q1, hil, d1, d2]
    rw [hwi]
    exact ⟨⟨_, i + 1, rfl, f1.dr 1, by omega⟩, by simp [ms, gv]; omega⟩
  · have hil' : ¬ (i : Int) < l.length := by omega
    simp [hil']
    exact h w1 f1
theorem wf_u64'' {x : Int} (h : (Lit.int .u64 x).wf = true) : 0 ≤ x ∧ x < 18446744073709551616 := by
  simp [Lit.wf, IntKind.min, IntKind.max, IntKind.bits, IntKind.signed] at h
  omega
theorem mem_of'' {w : World} {n : Nat} {c : List Value} (ht : TV P w n T.api_Member c) : ∃ m, c = encM m ∧ 0 ≤ m.id ∧ 0 ≤ m.inc ∧ m.inc < 18446744073709551616 := by
  obtain ⟨hl, hf⟩ := tv_struct Try.underlying24 ht
  have hl3 : Try.prog.cellsOf T.api_Member = 3 := by kernel_rfl
  rw [hl3] at hl
  obtain ⟨m0, t0⟩ := hf 0 _ rfl
  obtain ⟨m1, t1⟩ := hf 1 _ rfl
  obtain ⟨m2, t2⟩ := hf 2 _ rfl
  obtain ⟨x0, e0, g0⟩ := tv_int (k := .u64) (by kernel_rfl) t0
  obtain ⟨x1, e1, g1⟩ := tv_int (k := .u64) (by kernel_rfl) t1
  obtain ⟨x2, e2, _⟩ := tv_int (k := .i64) (by kernel_rfl) t2
  have c0 : Try.prog.cellsOf T.uint64 = 1 := by kernel_rfl
  have c1 : Try.prog.cellsOf T.int = 1 := by kernel_rfl
  match c, hl with
  | [u0, u1, u2], _ =>
    simp [c0, c1] at e0 e1 e2
    subst e0 e1 e2
    exact ⟨⟨x0, x1, x2⟩, rfl, (wf_u64'' g0).1, wf_u64'' g1⟩
theorem members_of'' {w : World} {n : Nat} {v : Value} (h : TV P w n T.sl_api_Member [v]) : ∃ l, SlM w v l ∧ (∀ m ∈ l, 0 ≤ m.id) ∧ IncOk l := by
  obtain ⟨l, hl⟩ := sl_of_tv (sz := 3) (rd := fun w b o m => rdE encM w b o m ∧ 0 ≤ m.id ∧ 0 ≤ m.inc ∧ m.inc < 18446744073709551616) et.sl_api_Member.ty (by kernel_rfl) (by decide) (fun n b o cs ht hl hc => by
    obtain ⟨m, hm, h0⟩ := mem_of'' ht
    subst hm
    exact ⟨m, fun j u hj => hc j u hj, h0⟩) h
  have key : ∀ m ∈ l, 0 ≤ m.id ∧ 0 ≤ m.inc ∧ m.inc < 18446744073709551616 := fun m hm => by
    obtain ⟨j, hj, rfl⟩ := List.getElem_of_mem hm
    obtain ⟨a, cap, _, _, _, hx⟩ := hl
    obtain ⟨b, o, _, _, hr⟩ := hx j _ (List.getElem?_eq_getElem hj)
    exact hr.2
  exact ⟨l, hl.mono fun b o x hx => hx.1, fun m hm => (key m hm).1, fun m hm => (key m hm).2⟩
theorem ViewVersions_law {W : World} {n0 : Nat} {v0 : Value} (h0 : TV P W n0 T.sl_api_Member [v0]) {K : KV}
    (h : ∀ w', Fr (fun _ => False) W w' → K (.bool true) w') : callT P F.winnowlaw09_ViewVersions [v0] W K := by
  obtain ⟨l, hl, hid, hinc⟩ := members_of'' h0
  apply M.winnowlaw09_ViewVersions.calls
  unfold M.winnowlaw09_ViewVersions
  rw [joinT_eq, hl.len_ok (by kernel_rfl)]
  by_cases g1 : 200 < l.length
  · have g1' : (200 : Int) < l.length := by omega
    simp [g1']
    exact alive9 h
  have g1' : ¬ (200 : Int) < l.length := by omega
  simp [g1']
  unfold M.winnowlaw09_ViewVersions.j0
  refine version_ok hl (by omega) hinc fun w1 f1 => ?_
  refine refVersion_ok (hl.fr f1 fun _ _ _ h => h) (by omega) hinc hid fun w2 f2 => ?_
  have S2 := (St.start W).step (f1.trans f2)
  simp
  refine live_st S2 (fun w' L S => S.old hl) (by omega) fun w3 v3 S3 => ?_
  try simp
  refine refLive_st S3 (fun w' L S => S.old hl) (by omega) hid fun w4 v4 S4 => ?_
  have hll : (liveV l).length ≤ 1000000000 := by
    unfold liveV
    split
    · have := liveM_len l; omega
    · simp
  try simp
  refine uints09 (l := liveV l) (S4.swap.row fun _ => rfl) (S4.row fun _ => rfl) hll fun w5 f5 => ?_
  simp
  exact alive9 fun w6 f6 => h w6 ((S4.fr.trans f5).trans f6)
end Go.Proofs.Ytbcamfheaonbaaa
set_option maxRecDepth 100000
namespace Go.Proofs.Ytbcamfheaonbaaa
open Go.Eng
theorem row_mem {v : Value} {l : List Mem} {w0 w : World} {L : List Asn} (S : St w0 w L) (h : rowM v l ∈ L) : SlM w v l := by
  obtain ⟨s, t, rfl⟩ := List.append_of_mem h
  exact (S.perm List.perm_middle).row encM_len
def BwI (W : World) (n : Nat) : KL := fun x w1 => ∃ (u0 u1 : Value) (i : Nat), x = [u0, u1, .int .i64 (i : Nat)] ∧ i ≤ n ∧ Fr (fun _ => False) W w1
theorem below_ok {w : World} {v1 v2 : Value} {l1 l2 : List Mem} (s1 : SlM w v1 l1) (s2 : SlM w v2 l2) (n1 : l1.length ≤ 1000000) (n2 : l2.length ≤ 1000000) (hb : ∀ x ∈ l1, ∃ m, findM l2 x.id = some m ∧ newerM x m = false) {K : KV} (h : ∀ w', Fr (fun _ => False) w w' → K (.bool true) w') : fcallT P F.winnowlaw09_below [v1, v2] w K := by
  rw [M.winnowlaw09_below.fcall]
  apply M.winnowlaw09_below.calls
  unfold M.winnowlaw09_below
  rw [joinT_eq]
  refine ⟨BwI w l1.length, fun x _ => l1.length - ms x 2, ⟨_, _, 0, rfl, Nat.zero_le _, Fr.refl _ _⟩, ?_⟩
  rintro x w1 ⟨u0, u1, i, rfl, hi, f1⟩
  have q2 : gv [u0, u1, .int .i64 (i : Nat)] 2 = .int .i64 (i : Nat) := rfl
  have t1 := s1.fr f1 fun _ _ _ h => h
  have t2 := s2.fr f1 fun _ _ _ h => h
  unfold M.winnowlaw09_below.j1
  simp only [joinT_eq, q2]
  rw [t1.len_ok (by kernel_rfl)]
  by_cases hil : i < l1.length
  · have hil' : (i : Int) < l1.length := by omega
    simp [hil']
    unfold M.winnowlaw09_below.j2
    obtain ⟨b, o, cap, hv, hbb, _, hc⟩ := t1.at hil
    have c0 := hc 0 _ rfl
    simp only [Nat.add_zero] at c0
    have hwi : IntKind.i64.wrap ((i : Int) + 1) = ((i + 1 : Nat) : Int) := by rw [wrap_id (by omega) (by omega)]; rfl
    obtain ⟨m, hm, hnw⟩ := hb l1[i] (List.getElem_mem hil)
    have hldx : ∀ {w'}, Fr (fun _ => False) w1 w' → ∀ K, ldN P 3 b (o + i * 3) w' K = K (aggM l1[i]) w' := fun f K => ldM (fun k u hk => by rw [cellOf_heap (f.keep b hbb fun h => h)]; exact hc k u hk) K
    simp only [joinT_eq, q2, bin_add, hwi]
    rw [hv]
    simp [hil, c0]
    refine refFind_ok t2 n2 fun w2 f2 => ?_
    have hfp : findP l2 l1[i].id = m := by unfold findP; rw [hm]; rfl
    rw [hfp, hm]
    simp
    rw [show aggM m = .agg #[.int .u64 m.id, .int .u64 m.inc, .int .i64 m.st] from rfl]
    simp
    have hbm : (w2.alloc (.cells #[.int .u64 0, .int .u64 0, .int .i64 0] T.api_Member)).heap[w2.heap.size]? = some (.cells #[.int .u64 0, .int .u64 0, .int .i64 0] T.api_Member (0, 0)) := by rw [alloc_heap, if_pos rfl]
    refine st3_ok (w0 := w2) m hbm rfl (Nat.le_refl _) ((Fr.refl _ w2).alloc _) fun w3 f3 b3 => ?_
    have fd : Fr (fun _ => False) w3 (Eng.dr w3 1) := (Fr.refl _ w3).dr 1
    simp [hil]
    rw [hldx ((f2.trans f3).trans fd)]
    refine ⟨rfl, ?_⟩
    rw [ld3_ok (fd.heap b3 fun h => h)]
    refine ⟨rfl, ?_⟩
    refine refNewer_ok l1[i] m fun w4 f4 => ?_
    rw [hnw]
    simp
    exact ⟨⟨_, _, i + 1, rfl, by omega, (((f1.trans f2).trans f3).trans fd).trans f4⟩, by simp [ms, gv]; omega⟩
  · have hil' : ¬ (i : Int) < l1.length := by omega
    simp [hil']
    exact h w1 f1
theorem mergeV_len (a b : List Mem) : (mergeV a b).1.length ≤ a.length + b.length := by
  unfold mergeV
  split
  · simp
  · split
    · simp
    · have h1 := mergeA_len (a ++ b)
      rw [List.length_append] at h1
      show (outM _).length ≤ _
      unfold outM
      rw [List.length_map, (Suint64.srtd_perm _).length_eq, List.length_map]; exact h1
theorem joinsJ0 {W w : World} {v0 v1 v2 : Value} {a b c : List Mem} (S : St W w []) (ha : SlM W v0 a) (hb : SlM W v1 b) (hc : SlM W v2 c) (ga : vright a = 0) (gb : vright b = 0) (gc : vright c = 0) {x0 : List Value} {K : KV} (h : ∀ w', Fr (fun _ => False) W w' → K (.bool true) w') :
    M.winnowlaw09_ViewJoins.j0 v0 v1 v2 x0 w K := by
  unfold M.winnowlaw09_ViewJoins.j0
  have al : ∀ {w' L}, St W w' L → ∀ {K : KV}, (∀ w'', Fr (fun _ => False) W w'' → K (.bool true) w'') → fcallT P F.winnowlaw09_alive [] w' K := fun {w' L} S {K} hK => alive9 fun w'' f => hK w'' (S.fr.trans f)
  have na := ((vright_iff a).1 ga).few
  have nb := ((vright_iff b).1 gb).few
  have nc := ((vright_iff c).1 gc).few
  refine merge_st S (fun w' L S => S.old ha) (fun w' L S => S.old ha) (by omega) (by omega) fun w1 vaa S1 => ?_
  rw [mergeV_self ga] at S1 ⊢
  refine merge_st S1 (fun w' L S => S.old ha) (fun w' L S => S.old hb) (by omega) (by omega) fun w2 vab S2 => ?_
  refine merge_st S2 (fun w' L S => S.old hb) (fun w' L S => S.old ha) (by omega) (by omega) fun w3 vba S3 => ?_
  rw [mergeV_comm b a] at S3 ⊢
  refine merge_st S3 (fun w' L S => S.old hb) (fun w' L S => S.old hc) (by omega) (by omega) fun w4 vbc S4 => ?_
  have hab := fun h => mergeV_ok (a := a) (b := b) ga gb h
  have hbc := fun h => mergeV_ok (a := b) (b := c) gb gc h
  have hass := fun h1 h2 => mergeV_assoc (a := a) (b := b) (c := c) ga gb gc h1 h2
  have hbe := fun h => mergeV_below (a := a) (b := b) ga gb h
  have hbe' := fun h => mergeV_below (a := b) (b := a) gb ga h
  rw [mergeV_comm b a] at hbe'
  have nab : (mergeV a b).1.length ≤ 16 := by
    by_cases h0 : (mergeV a b).2 = 0
    · exact ((vright_iff _).1 (hab h0).2.1).few
    · have : (mergeV a b).1 = [] := by
        unfold mergeV at h0 ⊢
        split
        · rfl
        · split
          · rfl
          · rename_i h1 h2; rw [if_neg h1, if_neg h2] at h0; exact absurd rfl h0
      rw [this]; simp
  generalize mergeV a b = rab at *
  obtain ⟨ab, kab⟩ := rab
  generalize hrbc : mergeV b c = rbc at *
  obtain ⟨bc, kbc⟩ := rbc
  simp only [ex_2_0, ex_2_1, joinT_eq] at *
  simp
  refine same_ok (row_mem S4 (by simp) : SlM w4 vaa a) (S4.old ha) (by omega) fun w5 f5 => ?_
  have S5 := S4.step f5
  simp
  refine same_ok (row_mem S5 (by simp) : SlM w5 vab ab) (row_mem S5 (by simp) : SlM w5 vba ab) (by omega) fun w6 f6 => ?_
  have S6 := S5.step f6
  simp
  refine refSame_ok (row_mem S6 (by simp) : SlM w6 vab ab) (row_mem S6 (by simp) : SlM w6 vba ab) (by omega) fun w7 f7 => ?_
  have S7 := S6.step f7
  simp
  unfold M.winnowlaw09_ViewJoins.j1
  by_cases k1 : kab = 0
  · by_cases k2 : kbc = 0
    · subst k1 k2
      simp
      unfold M.winnowlaw09_ViewJoins.j2
      have nbc := ((vright_iff _).1 (hbc rfl).2.1).few
      refine merge_st S7 (fun w' L S => row_mem (l := ab) S (by simp)) (fun w' L S => S.old hc) (by omega) (by omega) fun w8 v8 S8 => ?_
      refine merge_st S8 (fun w' L S => S.old ha) (fun w' L S => row_mem (l := bc) S (by simp)) (by omega) (by omega) fun w9 v9 S9 => ?_
      rw [hass rfl rfl] at S9 ⊢
      have nres := mergeV_len a bc
      generalize mergeV a bc = res at *
      obtain ⟨abc, kabc⟩ := res
      simp only [ex_2_0, ex_2_1] at *
      simp
      refine refSame_ok (row_mem S9 (by simp) : SlM w9 v8 abc) (row_mem S9 (by simp) : SlM w9 v9 abc) (by omega) fun w10 f10 => ?_
      have S10 := S9.step f10
      simp
      refine below_ok (S10.old ha) (row_mem S10 (by simp) : SlM w10 vab ab) (by omega) (by omega) (hbe trivial) fun w11 f11 => ?_
      have S11 := S10.step f11
      simp
      refine below_ok (S11.old hb) (row_mem S11 (by simp) : SlM w11 vab ab) (by omega) (by omega) (hbe' trivial) fun w12 f12 => ?_
      have S12 := S11.step f12
      simp
      exact al S12 h
    · simp [k1, k2]
      exact al S7 h
  · simp [k1]
    exact al S7 h
theorem ViewJoins_law {W : World} {n0 : Nat} {v0 : Value} (h0 : TV P W n0 T.sl_api_Member [v0]) {n1 : Nat} {v1 : Value} (h1 : TV P W n1 T.sl_api_Member [v1]) {n2 : Nat} {v2 : Value} (h2 : TV P W n2 T.sl_api_Member [v2]) {K : KV}
    (h : ∀ w', Fr (fun _ => False) W w' → K (.bool true) w') : callT P F.winnowlaw09_ViewJoins [v0, v1, v2] W K := by
  obtain ⟨a, ha, ia⟩ := members_of' h0
  obtain ⟨b, hb, ib⟩ := members_of' h1
  obtain ⟨c, hc, ic⟩ := members_of' h2
  apply M.winnowlaw09_ViewJoins.calls
  unfold M.winnowlaw09_ViewJoins
  have al : ∀ {w'}, Fr (fun _ => False) W w' → ∀ {K : KV}, (∀ w'', Fr (fun _ => False) W w'' → K (.bool true) w'') → fcallT P F.winnowlaw09_alive [] w' K := fun {w'} f {K} hK => alive9 fun w'' f' => hK w'' (f.trans f')
  have la : ∀ w' K', biT P .len #[T.sl_api_Member] T.int [false] [v0] w' K' = K' (.int .i64 a.length) w' := fun w' K' => ha.len_ok (by kernel_rfl) [false]
  have lb : ∀ w' K', biT P .len #[T.sl_api_Member] T.int [false] [v1] w' K' = K' (.int .i64 b.length) w' := fun w' K' => hb.len_ok (by kernel_rfl) [false]
  have lc : ∀ w' K', biT P .len #[T.sl_api_Member] T.int [false] [v2] w' K' = K' (.int .i64 c.length) w' := fun w' K' => hc.len_ok (by kernel_rfl) [false]
  rw [joinT_eq, la]
  by_cases g1 : 16 < a.length
  · have g1' : (16 : Int) < a.length := by omega
    simp [g1']
    exact al (Fr.refl _ _) h
  have g1' : ¬ (16 : Int) < a.length := by omega
  by_cases g2 : 16 < b.length
  · have g2' : (16 : Int) < b.length := by omega
    simp [lb, g1', g2']
    exact al (Fr.refl _ _) h
  have g2' : ¬ (16 : Int) < b.length := by omega
  by_cases g3 : 16 < c.length
  · have g3' : (16 : Int) < c.length := by omega
    simp [lb, lc, g1', g2', g3']
    exact al (Fr.refl _ _) h
  have g3' : ¬ (16 : Int) < c.length := by omega
  simp [lb, lc, g1', g2', g3']
  refine refRight_ok ha (by omega) ia fun w1 f1 => ?_
  by_cases ra : vright a = 0
  · simp [ra]
    refine refRight_ok (hb.fr f1 fun _ _ _ h => h) (by omega) ib fun w2 f2 => ?_
    by_cases rb : vright b = 0
    · simp [rb]
      refine refRight_ok (hc.fr (f1.trans f2) fun _ _ _ h => h) (by omega) ic fun w3 f3 => ?_
      by_cases rc : vright c = 0
      · simp [rc]
        exact joinsJ0 ((St.start W).step ((f1.trans f2).trans f3)) ha hb hc ra rb rc h
      · simp [rc]
        exact al ((f1.trans f2).trans f3) h
    · simp [rb]
      exact al (f1.trans f2) h
  · simp [ra]
    exact al f1 h
end Go.Proofs.Ytbcamfheaonbaaa
set_option maxRecDepth 100000
namespace Go.Proofs.Ytbcamfheaonbaaa
open Go.Eng
theorem totM_cons (x : Mem) (l : List Mem) : totM (x :: l) = termM x + totM l := by unfold totM; simp
theorem totM_mid (s t : List Mem) (y : Mem) : totM (s ++ y :: t) = termM y + totM (s ++ t) := by
  unfold totM; simp [List.map_append, List.sum_append]; omega
theorem tot_le : ∀ (a m : List Mem), (a.map Mem.id).Nodup → (∀ x ∈ a, ∃ y ∈ m, y.id = x.id ∧ termM x ≤ termM y ∧ (termM x = termM y → x = y)) → (m.map Mem.id).Nodup → (∀ y ∈ m, 1 ≤ termM y) → totM a ≤ totM m ∧ (totM a = totM m → a.Perm m)
  | [], m, _, _, _, h3 => by
    have h0 := totM_nonneg (l := m) fun y hy => by have := h3 y hy; omega
    refine ⟨h0, fun he => ?_⟩
    cases m with
    | nil => exact List.Perm.refl _
    | cons y m =>
      have h1 := h3 y (by simp)
      have h2 := totM_nonneg (l := m) fun z hz => by have := h3 z (by simp [hz]); omega
      rw [totM_cons] at he
      have : totM [] = 0 := rfl
      omega
  | x :: a, m, h1, h2, hm, h3 => by
    obtain ⟨y, hy, hid, hle, heq⟩ := h2 x (by simp)
    obtain ⟨s, t, rfl⟩ := List.append_of_mem hy
    rw [List.map_cons, List.nodup_cons] at h1
    have hm' : ((y :: (s ++ t)).map Mem.id).Nodup := ((List.perm_middle (l₁ := s) (a := y) (l₂ := t)).map Mem.id).nodup_iff.1 hm
    rw [List.map_cons, List.nodup_cons] at hm'
    obtain ⟨i1, i2⟩ := tot_le a (s ++ t) h1.2 (fun z hz => by
      obtain ⟨y', hy', hid', hr⟩ := h2 z (by simp [hz])
      refine ⟨y', ?_, hid', hr⟩
      have : y' ≠ y := fun he => h1.1 (by
        rw [← hid, ← he, hid']
        exact List.mem_map_of_mem hz)
      simp at hy' ⊢
      rcases hy' with h | h | h
      · exact .inl h
      · exact absurd h this
      · exact .inr h) hm'.2 fun z hz => h3 z (by simp at hz ⊢; rcases hz with h | h <;> simp [h])
    rw [totM_cons, totM_mid]
    refine ⟨by omega, fun he => ?_⟩
    have e1 : termM x = termM y := by omega
    have e2 := heq e1
    subst e2
    exact (List.Perm.cons _ (i2 (by omega))).trans List.perm_middle.symm
theorem rises {a m : List Mem} (ga : GoodV a) (gm : GoodV m) (ia : IncOk a) (im : IncOk m) (hb : ∀ x ∈ a, ∃ y, findM m x.id = some y ∧ newerM x y = false) : totM a ≤ totM m ∧ (totM a = totM m ↔ a = m) := by
  obtain ⟨h1, h2⟩ := tot_le a m ga.nd (fun x hx => by
    obtain ⟨y, hy, hn⟩ := hb x hx
    have hym : y ∈ m := List.mem_of_find?_eq_some (show m.find? _ = some y from hy)
    have rx := term_range (ga.odd x hx) (ia x hx)
    have ry := term_range (gm.odd y hym) (im y hym)
    have hid := findM_id hy
    refine ⟨y, hym, hid, ?_, fun he => ?_⟩
    · unfold newerM at hn
      simp at hn
      unfold termM
      omega
    · unfold termM at he
      obtain ⟨p, q, r⟩ := x
      obtain ⟨p', q', r'⟩ := y
      simp at *
      refine ⟨hid.symm, ?_, ?_⟩ <;> omega) gm.nd fun y hy => by
    have := term_range (gm.odd y hy) (im y hy)
    unfold termM; omega
  refine ⟨h1, fun he => ?_, fun he => by rw [he]⟩
  have s1 := List.pairwise_map.1 ga.rise
  have s2 := List.pairwise_map.1 gm.rise
  exact List.Perm.eq_of_pairwise (fun x y _ _ h1 h2 => by omega) s1 s2 (h2 he)
theorem ViewRises_law {W : World} {n0 : Nat} {v0 : Value} (h0 : TV P W n0 T.sl_api_Member [v0]) {n1 : Nat} {v1 : Value} (h1 : TV P W n1 T.sl_api_Member [v1]) {K : KV}
    (h : ∀ w', Fr (fun _ => False) W w' → K (.bool true) w') : callT P F.winnowlaw09_ViewRises [v0, v1] W K := by
  obtain ⟨a, ha, ia, ca⟩ := members_of'' h0
  obtain ⟨b, hb, ib, cb⟩ := members_of'' h1
  apply M.winnowlaw09_ViewRises.calls
  unfold M.winnowlaw09_ViewRises
  have al : ∀ {w'}, Fr (fun _ => False) W w' → ∀ {K : KV}, (∀ w'', Fr (fun _ => False) W w'' → K (.bool true) w'') → fcallT P F.winnowlaw09_alive [] w' K := fun {w'} f {K} hK => alive9 fun w'' f' => hK w'' (f.trans f')
  have la : ∀ w' K', biT P .len #[T.sl_api_Member] T.int [false] [v0] w' K' = K' (.int .i64 a.length) w' := fun w' K' => ha.len_ok (by kernel_rfl) [false]
  have lb : ∀ w' K', biT P .len #[T.sl_api_Member] T.int [false] [v1] w' K' = K' (.int .i64 b.length) w' := fun w' K' => hb.len_ok (by kernel_rfl) [false]
  rw [joinT_eq, la]
  by_cases g1 : 16 < a.length
  · have g1' : (16 : Int) < a.length := by omega
    simp [g1']
    exact al (Fr.refl _ _) h
  have g1' : ¬ (16 : Int) < a.length := by omega
  by_cases g2 : 16 < b.length
  · have g2' : (16 : Int) < b.length := by omega
    simp [lb, g1', g2']
    exact al (Fr.refl _ _) h
  have g2' : ¬ (16 : Int) < b.length := by omega
  simp [lb, g1', g2']
  refine refRight_ok ha (by omega) ia fun w1 f1 => ?_
  by_cases ra : vright a = 0
  · simp [ra]
    refine refRight_ok (hb.fr f1 fun _ _ _ h => h) (by omega) ib fun w2 f2 => ?_
    by_cases rb : vright b = 0
    · simp [rb]
      unfold M.winnowlaw09_ViewRises.j0
      have S2 := (St.start W).step (f1.trans f2)
      refine merge_st S2 (fun w' L S => S.old ha) (fun w' L S => S.old hb) (by omega) (by omega) fun w3 vm S3 => ?_
      simp only [ex_2_0, ex_2_1, joinT_eq]
      have hml := mergeV_len a b
      by_cases k0 : (mergeV a b).2 = 0
      · obtain ⟨e, p1, p2⟩ := mergeV_ok ra rb k0
        have hbe := mergeV_below ra rb k0
        have cm : IncOk (mergeV a b).1 := fun y hy => by
          rw [e] at hy
          rcases List.mem_append.1 (mergeA_mem ((out_mem (mergeA_nd _)).1 hy)) with hy | hy
          · exact ca y hy
          · exact cb y hy
        rw [k0]
        generalize (mergeV a b).1 = m at *
        have gm := (vright_iff m).1 p1
        obtain ⟨r1, r2⟩ := rises ((vright_iff a).1 ra) gm ca cm hbe
        simp
        unfold M.winnowlaw09_ViewRises.j1
        refine version_ok (S3.old ha) (by omega) ca fun w4 f4 => ?_
        have S4 := S3.step f4
        refine version_ok (row_mem S4 (by simp) : SlM w4 vm m) (by omega) cm fun w5 f5 => ?_
        have S5 := S4.step f5
        simp only [ex_2_0, ex_2_1, joinT_eq]
        by_cases hT : 18446744073709551616 ≤ totM m
        · have ev : verV m = (0, 12) := by unfold verV; rw [if_neg (by simp [p1]), if_pos hT]
          rw [ev]
          simp
          exact al S5.fr h
        · have ev : verV m = (totM m, 0) := by unfold verV; rw [if_neg (by simp [p1]), if_neg hT]
          have ea : verV a = (totM a, 0) := by unfold verV; rw [if_neg (by simp [ra]), if_neg (by omega)]
          rw [ev, ea]
          simp
          unfold M.winnowlaw09_ViewRises.j2
          simp [r1]
          refine refSame_ok (S5.old ha) (row_mem S5 (by simp) : SlM w5 vm m) (by omega) fun w6 f6 => ?_
          have S6 := S5.step f6
          rw [bin_eqlB (by kernel_rfl)]
          have : (decide (totM a = totM m) == decide (a = m)) = true := by
            by_cases hx : a = m
            · rw [decide_eq_true hx, decide_eq_true (r2.2 hx)]; rfl
            · rw [decide_eq_false hx, decide_eq_false fun h => hx (r2.1 h)]; rfl
          rw [this]
          simp
          exact al S6.fr h
      · have k4 : (mergeV a b).2 = 4 := by
          unfold mergeV at k0 ⊢
          rw [if_neg (by simp [ra, rb])] at k0 ⊢
          split at k0
          · rename_i h16; rw [if_pos h16]
          · exact absurd rfl k0
        rw [k4]
        simp
        exact al S3.fr h
    · simp [rb]
      exact al (f1.trans f2) h
  · simp [ra]
    exact al f1 h
end Go.Proofs.Ytbcamfheaonbaaa
