/-
  The document's answers for the timers: a list without a key, when a key is due. No condition.
-/
import Derived.Test.YtiolnbhnahlphaaTim8
import Derived.Test.YtiolnbhnahlphaaEngSl
namespace Go.Proofs.Ytiolnbhnahlphaa
open Go.Eng

def encD (p : Int × Int) : List Value := [.int .u64 p.1, .int .u64 p.2]
theorem encD_len (p : Int × Int) : (encD p).length = 2 := rfl
theorem encD_one (p : Int × Int) : ∀ u ∈ encD p, oneC u = true := fun u hu => by
  simp only [encD, List.mem_cons, List.not_mem_nil, or_false] at hu
  rcases hu with rfl | rfl <;> rfl
abbrev SlD (w : World) (v : Value) (l : List (Int × Int)) : Prop := Sl w 2 encD v l
abbrev OwD (w : World) (base : Nat) (v : Value) (l : List (Int × Int)) : Prop := Ow w base T.winnowref15_Due 2 encD v l
theorem slD_of {w : World} {v : Value} {l : List (Int × Int)} (h : SlOf w 2 rdDue v l) : SlD w v l := SlOf.mono h fun b o x hr j u hu => by
  obtain ⟨r0, r1, _⟩ := hr
  match j with
  | 0 => simp [encD] at hu; subst hu; exact r0
  | 1 => simp [encD] at hu; subst hu; exact r1
  | j + 2 => simp [encD] at hu
theorem slD_at {w : World} {v : Value} {l : List (Int × Int)} (h : SlD w v l) {i : Nat} (hi : i < l.length) : ∃ b o cap, v = .slice (some ⟨b, o, none⟩) l.length cap ∧ b < w.heap.size ∧ cellOf w b (o + i * 2) = some (.int .u64 l[i].1) ∧ cellOf w b (o + i * 2 + 1) = some (.int .u64 l[i].2) := by
  obtain ⟨b, o, cap, hv, hb, _, hr⟩ := h.at hi
  exact ⟨b, o, cap, hv, hb, hr 0 _ rfl, hr 1 _ rfl⟩

theorem split_del {l : CT} (hn : (ckeys l).Nodup) {i : Nat} {k a : Int} (hi : l[i]? = some (k, a)) : l.take i ++ l.drop (i + 1) = cdel l k := by
  have hlt := (List.getElem?_eq_some_iff.1 hi).1
  have he := (List.getElem?_eq_some_iff.1 hi).2
  have hsp : l = l.take i ++ (k, a) :: l.drop (i + 1) := by
    have := (List.take_append_drop i l).symm
    rw [List.drop_eq_getElem_cons hlt, he] at this
    exact this
  have hk : ∀ p, p ∈ l.take i ∨ p ∈ l.drop (i + 1) → p.1 ≠ k := by
    intro p hp hpk
    rw [hsp] at hn
    unfold ckeys at hn
    simp only [List.map_append, List.map_cons, List.nodup_append, List.nodup_cons] at hn
    rcases hp with hp | hp
    · exact hn.2.2 _ (List.mem_map_of_mem hp) _ (List.mem_cons_self) hpk
    · exact hn.2.1.1 (by rw [← hpk]; exact List.mem_map_of_mem hp)
  conv => rhs; rw [hsp]
  unfold cdel
  rw [List.filter_append, List.filter_cons]
  simp only [decide_true, Bool.not_true, Bool.false_eq_true, if_false]
  rw [List.filter_eq_self.2 fun p hp => by simpa using hk p (.inl hp), List.filter_eq_self.2 fun p hp => by simpa using hk p (.inr hp)]

def RdelI (w : World) (l : CT) (k : Int) : KL := fun x w1 => ∃ (a b : Value) (i : Nat), x = [a, b, .int .i64 (i : Nat)] ∧ w1 = w ∧ i ≤ l.length ∧ ∀ (j : Nat) p, l[j]? = some p → j < i → p.1 ≠ k
theorem rkey {l : CT} {k : Int} (h : ∀ (j : Nat) p, l[j]? = some p → j < l.length → p.1 ≠ k) : k ∉ ckeys l := fun hk => by
  obtain ⟨p, hp, hpk⟩ := List.mem_map.1 hk
  obtain ⟨j, hj, rfl⟩ := List.mem_iff_getElem.1 hp
  exact h j _ (List.getElem?_eq_getElem hj) hj hpk
theorem rstep {l : CT} {k : Int} {i : Nat} (h : ∀ (j : Nat) p, l[j]? = some p → j < i → p.1 ≠ k) (hi : i < l.length) (hne : l[i].1 ≠ k) : ∀ (j : Nat) p, l[j]? = some p → j < i + 1 → p.1 ≠ k := fun j p hp hj => by
  by_cases hji : j = i
  · subst hji
    rw [List.getElem?_eq_getElem hi] at hp
    cases hp
    exact hne
  · exact h j p hp (by omega)

theorem rdel_ok {w : World} {v : Value} {l : CT} (hs : SlD w v l) (hn : (ckeys l).Nodup) (hlen : l.length ≤ 1000000) (k : Int) {K : KV} (h0 : k ∉ ckeys l → K (.tuple #[v, .bool false]) w)
    (h1 : k ∈ ckeys l → ∀ w' v', OwD w' w.heap.size v' (cdel l k) → Fr (fun _ => False) w w' → K (.tuple #[v', .bool true]) w') : callT P F.winnowref15_Del [v, .int .u64 k] w K := by
  apply M.winnowref15_Del.calls
  unfold M.winnowref15_Del
  simp only [joinT_eq]
  refine ⟨RdelI w l k, fun x _ => l.length - ms x 2, ⟨_, _, 0, rfl, rfl, Nat.zero_le _, fun j p _ h => by omega⟩, ?_⟩
  rintro x w1 ⟨a, b, i, rfl, rfl, hi, hne⟩
  unfold M.winnowref15_Del.j1
  have gv2 : gv [a, b, .int .i64 (i : Int)] 2 = .int .i64 (i : Int) := rfl
  simp only [joinT_eq, gv2]
  rw [hs.len_ok (by simp)]
  by_cases hil : i < l.length
  · obtain ⟨bb, o, cap, rfl, hb, e0, e1⟩ := slD_at hs hil
    have hw : IntKind.i64.wrap ((i : Int) + 1) = ((i + 1 : Nat) : Int) := by rw [wrap_id (by omega) (by omega)]; rfl
    simp [hil]
    unfold M.winnowref15_Del.j2
    simp only [joinT_eq, gv2]
    by_cases hk : l[i].1 = k
    · have hmem : k ∈ ckeys l := by rw [← hk]; exact List.mem_map_of_mem (List.getElem_mem hil)
      obtain ⟨v1, s1, p1, q1⟩ := hs.sub (P := P) (t := T.sl_winnowref15_Due) (lo := none) (hi := some (.int .i64 (i : Int))) (i := 0) (j := i) (by simp) (by simp) (.inl ⟨rfl, rfl⟩) (.inr ⟨_, rfl⟩) (Nat.zero_le _) hi
      obtain ⟨v2, s2, p2, q2⟩ := hs.sub (P := P) (t := T.sl_winnowref15_Due) (lo := some (.int .i64 ((i + 1 : Nat) : Int))) (hi := none) (i := i + 1) (j := l.length) (by simp) (by simp) (.inr ⟨_, rfl⟩) (.inl ⟨rfl, rfl⟩) (by omega) (Nat.le_refl _)
      push_cast at q2
      simp [hil, e0, hk, hw, q1, q2]
      have ow0 : OwD ((dr w1 1).alloc (.cells #[] T.winnowref15_Due)) w1.heap.size (.slice (some ⟨w1.heap.size, 0, none⟩) 0 0) [] := Ow.empty (by rw [alloc_heap]; simp) (Nat.le_refl _)
      have f0 : Fr (fun _ => False) w1 ((dr w1 1).alloc (.cells #[] T.winnowref15_Due)) := ((Fr.refl _ w1).dr 1).alloc _
      refine app_sl et.sl_winnowref15_Due encD_len encD_one ow0 (s1.fr f0 fun _ _ _ h => h) (by simp; omega) (by decide) (by simp) _ fun v3 w3 o3 f3 g3 => ?_
      have f3' : Fr (fun _ => False) w1 w3 := f0.trans' f3 fun g hg he => by simp [Value.ownBlock] at he; omega
      refine app_sl et.sl_winnowref15_Due encD_len encD_one o3 (s2.fr f3' fun _ _ _ h => h) (by simp; omega) (by decide) f3'.size _ fun v4 w4 o4 f4 g4 => ?_
      refine h1 hmem w4 v4 ?_ (f3'.trans' f4 fun g hg he => by have := (o3.lt he).1; omega)
      have hd : (([] : CT) ++ List.take (i - 0) (List.drop 0 l)) ++ List.take (l.length - (i + 1)) (List.drop (i + 1) l) = cdel l k := by
        rw [← split_del (a := l[i].2) hn (by rw [List.getElem?_eq_getElem hil, ← hk]), List.nil_append, Nat.sub_zero, List.drop_zero, List.take_of_length_le (l := List.drop (i + 1) l) (by simp)]
      rw [hd] at o4
      exact o4
    · simp [hil, e0, hk, hw]
      exact ⟨⟨_, _, i + 1, rfl, rfl, by omega, rstep hne hil hk⟩, by simp [ms, gv]; omega⟩
  · simp [hil]
    have : i = l.length := by omega
    subst this
    exact h0 (rkey hne)

theorem rat_ok {w : World} {v : Value} {l : CT} (hs : SlD w v l) (hn : (ckeys l).Nodup) (hlen : l.length ≤ 1000000) (k : Int) {K : KV} (h0 : cget l k = none → K (.tuple #[.int .u64 0, .bool false]) w)
    (h1 : ∀ a, cget l k = some a → K (.tuple #[.int .u64 a, .bool true]) w) : callT P F.winnowref15_At [v, .int .u64 k] w K := by
  apply M.winnowref15_At.calls
  unfold M.winnowref15_At
  simp only [joinT_eq]
  refine ⟨RdelI w l k, fun x _ => l.length - ms x 2, ⟨_, _, 0, rfl, rfl, Nat.zero_le _, fun j p _ h => by omega⟩, ?_⟩
  rintro x w1 ⟨a, b, i, rfl, rfl, hi, hne⟩
  unfold M.winnowref15_At.j1
  have gv2 : gv [a, b, .int .i64 (i : Int)] 2 = .int .i64 (i : Int) := rfl
  simp only [joinT_eq, gv2]
  rw [hs.len_ok (by simp)]
  by_cases hil : i < l.length
  · obtain ⟨bb, o, cap, rfl, hb, e0, e1⟩ := slD_at hs hil
    have hw : IntKind.i64.wrap ((i : Int) + 1) = ((i + 1 : Nat) : Int) := by rw [wrap_id (by omega) (by omega)]; rfl
    simp [hil]
    unfold M.winnowref15_At.j2
    simp only [joinT_eq, gv2]
    by_cases hk : l[i].1 = k
    · simp [hil, e0, e1, hk]
      exact h1 _ (cget_of_mem hn (by rw [← hk]; exact List.getElem_mem hil))
    · simp [hil, e0, hk, hw]
      exact ⟨⟨_, _, i + 1, rfl, rfl, by omega, rstep hne hil hk⟩, by simp [ms, gv]; omega⟩
  · simp [hil]
    have : i = l.length := by omega
    subst this
    exact h0 ((cget_none_iff _ _).2 (rkey hne))
end Go.Proofs.Ytiolnbhnahlphaa
