/-
  The document's answers for the timers: a list with a key in its place, what is due. No condition.
-/
import Derived.Test.YtiolnbhnahlphaaTim10
namespace Go.Proofs.Ytiolnbhnahlphaa
open Go.Eng

abbrev Srtd (m : CT) : Prop := m.Pairwise fun a b => leP a b = true
def ltB (k a : Int) (p : Int × Int) : Bool := decide (p.2 < a) || (decide (p.2 = a) && decide (p.1 < k))
theorem ltB_le {k a : Int} {p : Int × Int} (h : ltB k a p = true) : leP p (k, a) = true := by
  simp only [ltB, leP, Bool.or_eq_true, Bool.and_eq_true, decide_eq_true_eq] at h ⊢; omega
theorem ltB_ge {k a : Int} {p : Int × Int} (h : ¬ ltB k a p = true) : leP (k, a) p = true := by
  simp only [ltB, leP, Bool.or_eq_true, Bool.and_eq_true, decide_eq_true_eq] at h ⊢; omega
theorem cdel_srtd {m : CT} (h : Srtd m) (k : Int) : Srtd (cdel m k) := h.filter _
theorem put_srt {d : CT} (hd : Srtd d) (k a : Int) {i : Nat} (hi : i ≤ d.length) (hb : ∀ (j : Nat) p, d[j]? = some p → j < i → ltB k a p = true) (ha : ∀ p, d[i]? = some p → ¬ ltB k a p = true) :
    d.take i ++ [(k, a)] ++ d.drop i = srt ((k, a) :: d) := by
  refine sorted_eq ?_ ?_ (srt_pw _)
  · refine List.Perm.trans ?_ (srt_perm _).symm
    rw [List.append_assoc]
    refine List.perm_middle.trans ?_
    exact List.Perm.of_eq (congrArg (List.cons _) (List.take_append_drop i d))
  · have hsp : Srtd (d.take i ++ d.drop i) := by rw [List.take_append_drop]; exact hd
    obtain ⟨h1, h2, h3⟩ := List.pairwise_append.1 hsp
    have hdr : ∀ q ∈ d.drop i, leP (k, a) q = true := by
      intro q hq
      cases hdi : d.drop i with
      | nil => rw [hdi] at hq; cases hq
      | cons q0 r =>
        have h0 : d[i]? = some q0 := by have := List.getElem?_drop (xs := d) (i := i) (j := 0); rw [hdi] at this; simpa using this.symm
        have hq0 := ltB_ge (ha q0 h0)
        rw [hdi] at hq h2
        rcases List.mem_cons.1 hq with rfl | hq
        · exact hq0
        · exact leP_trans _ _ _ hq0 ((List.pairwise_cons.1 h2).1 q hq)
    have htk : ∀ p ∈ d.take i, leP p (k, a) = true := by
      intro p hp
      obtain ⟨j, hj, he⟩ := List.mem_iff_getElem.1 hp
      have hj' : j < i := by rw [List.length_take] at hj; omega
      refine ltB_le (hb j p ?_ hj')
      rw [← List.getElem?_take_of_lt hj', List.getElem?_eq_getElem hj, he]
    rw [List.append_assoc]
    refine List.pairwise_append.2 ⟨h1, List.pairwise_append.2 ⟨by simp, h2, fun x hx q hq => ?_⟩, fun p hp q hq => ?_⟩
    · simp at hx; subst hx; exact hdr q hq
    · rcases List.mem_append.1 hq with hq | hq
      · simp at hq; subst hq; exact htk p hp
      · exact h3 p hp q hq

def RsetI (w : World) (d : CT) (k a : Int) : KL := fun x w1 => ∃ (i : Nat), x = [.int .i64 (i : Nat)] ∧ w1 = w ∧ i ≤ d.length ∧ ∀ (j : Nat) p, d[j]? = some p → j < i → ltB k a p = true

theorem rset_end {w : World} {v : Value} {d : CT} (hs : SlD w v d) (hg : ∀ g, v.ownBlock = some g → g < w.heap.size) (hlen : d.length ≤ 1000000) (k a : Int) {i : Nat} (hi : i ≤ d.length) {K : KV}
    (h : ∀ w' v', OwD w' w.heap.size v' (d.take i ++ [(k, a)] ++ d.drop i) → Fr (fun _ => False) w w' → K v' w') : M.winnowref15_Set.j0 v [.int .i64 (i : Nat)] (.int .u64 k) (.int .u64 a) w K := by
  unfold M.winnowref15_Set.j0
  obtain ⟨v1, s1, p1, q1⟩ := hs.sub (P := P) (t := T.sl_winnowref15_Due) (lo := none) (hi := some (.int .i64 (i : Int))) (i := 0) (j := i) (by simp) (by simp) (.inl ⟨rfl, rfl⟩) (.inr ⟨_, rfl⟩) (Nat.zero_le _) hi
  obtain ⟨v2, s2, p2, q2⟩ := hs.sub (P := P) (t := T.sl_winnowref15_Due) (lo := some (.int .i64 (i : Int))) (hi := none) (i := i) (j := d.length) (by simp) (by simp) (.inr ⟨_, rfl⟩) (.inl ⟨rfl, rfl⟩) hi (Nat.le_refl _)
  have g14 : ∀ (b0 b1 b2 b3 b4 b5 b6 b7 b8 b9 b10 b11 b12 b13 b14 : Value), gv [b0, b1, b2, b3, b4, b5, b6, b7, b8, b9, b10, b11, b12, b13, b14] 14 = b14 := fun _ _ _ _ _ _ _ _ _ _ _ _ _ _ _ => rfl
  have e1 : List.take (i - 0) (List.drop 0 d) = d.take i := by simp
  have e2 : List.take (d.length - i) (List.drop i d) = d.drop i := List.take_of_length_le (by simp)
  rw [e1] at s1
  rw [e2] at s2
  have l1 : (d.take i).length ≤ d.length := by simp; omega
  have l2 : (d.drop i).length ≤ d.length := by simp
  have fin : ∀ {w' v'}, OwD w' w.heap.size v' ([] ++ d.take i ++ [(k, a)] ++ d.drop i) → Fr (fun _ => False) w w' → K v' w' := fun o f => h _ _ (by simpa using o) f
  simp [q1, q2, g14]
  refine ⟨⟨?_, ?_⟩, ?_⟩
  · have f0 : Fr (fun _ => False) w ((dr w 1).alloc (.cells #[] T.winnowref15_Due)) := ((Fr.refl _ w).dr 1).alloc _
    refine app_sl et.sl_winnowref15_Due encD_len encD_one (base := w.heap.size) (Ow.empty (by rw [alloc_heap]; simp) (Nat.le_refl _)) (s1.fr f0 fun _ _ _ h => h) (by simp; omega) (by decide) (by simp) _ fun v3 w3 o3 f3 g3 => ?_
    have f3' : Fr (fun _ => False) w w3 := f0.trans' f3 fun g hg he => by simp [Value.ownBlock] at he; omega
    have fa : Fr (fun _ => False) w3 (w3.alloc (.cells #[.int .u64 k, .int .u64 a] T.winnowref15_Due)) := (Fr.refl _ w3).alloc _
    have hz := f3'.size
    refine app_sl2 et.sl_winnowref15_Due encD_len encD_one (o3.fr fa fun _ _ h => h) (Sl.one (x := (k, a)) rfl rfl) ((s2.fr f3' fun _ _ _ h => h).fr fa fun _ _ _ h => h) (fun b hb hlt hv => ?_) (by simp; omega) (by decide) (by simp; omega) _ _ fun v4 w4 o4 f4 => ?_
    · have := (o3.lt hv).1; have := hg b (p2 b hb); omega
    · exact fin o4 ((f3'.trans fa).trans' f4 fun b hb hv => by have := (o3.lt hv).1; omega)
  · have f0 : Fr (fun _ => False) w ((dr w 1).alloc (.cells #[] T.winnowref15_Due)) := ((Fr.refl _ w).dr 1).alloc _
    generalize hwa : (dr w 1).alloc (.cells #[] T.winnowref15_Due) = wa at *
    have hsa : wa.heap.size = w.heap.size + 1 := by rw [← hwa]; simp
    have hba : wa.heap[w.heap.size]? = some (.cells #[] T.winnowref15_Due (0, 0)) := by rw [← hwa, alloc_heap]; simp
    have fa : Fr (fun _ => False) wa (wa.alloc (.cells #[.int .u64 k, .int .u64 a] T.winnowref15_Due)) := (Fr.refl _ wa).alloc _
    have hlit : SlD (wa.alloc (.cells #[.int .u64 k, .int .u64 a] T.winnowref15_Due)) (.slice (some ⟨wa.heap.size, 0, none⟩) 1 1) [(k, a)] := Sl.one (x := (k, a)) rfl rfl
    rw [hsa] at hlit
    refine app_sl3 et.sl_winnowref15_Due encD_len encD_one (base := w.heap.size) (Ow.empty (fa.heap hba fun h => h) (Nat.le_refl _)) (s1.fr (f0.trans fa) fun _ _ _ h => h) hlit (s2.fr (f0.trans fa) fun _ _ _ h => h) (fun b hb hlt hv => ?_) (fun b hb hlt hv => ?_) (by simp; omega) (by decide) (by simp; omega) _ _ _ (fun b hb => ?_) fun v4 w4 o4 f4 => ?_
    · simp [Value.ownBlock] at hb hv; omega
    · have := hg b (p2 b hb); simp [Value.ownBlock] at hv; omega
    · have := hg b (p2 b hb); simp; omega
    · exact fin o4 ((f0.trans fa).trans' f4 fun b hb hv => by simp [Value.ownBlock] at hv; omega)
  · have f0 : Fr (fun _ => False) w ((dr w 1).alloc (.cells #[.int .u64 k, .int .u64 a] T.winnowref15_Due)) := ((Fr.refl _ w).dr 1).alloc _
    have hlit : SlD ((dr w 1).alloc (.cells #[.int .u64 k, .int .u64 a] T.winnowref15_Due)) (.slice (some ⟨w.heap.size, 0, none⟩) 1 1) [(k, a)] := Sl.one (w := dr w 1) (x := (k, a)) rfl rfl
    generalize hwa : (dr w 1).alloc (.cells #[.int .u64 k, .int .u64 a] T.winnowref15_Due) = wa at *
    have hsa : wa.heap.size = w.heap.size + 1 := by rw [← hwa]; simp
    have fa : Fr (fun _ => False) wa (wa.alloc (.cells #[] T.winnowref15_Due)) := (Fr.refl _ wa).alloc _
    refine app_sl3 et.sl_winnowref15_Due encD_len encD_one (base := w.heap.size) (Ow.empty (by rw [alloc_heap, hsa, if_pos rfl]) (Nat.le_succ _)) (s1.fr (f0.trans fa) fun _ _ _ h => h) (hlit.fr fa fun _ _ _ h => h) (s2.fr (f0.trans fa) fun _ _ _ h => h) (fun b hb hlt hv => ?_) (fun b hb hlt hv => ?_) (by simp; omega) (by decide) (by simp; omega) _ _ _ (fun b hb => ?_) fun v4 w4 o4 f4 => ?_
    · simp [Value.ownBlock] at hb hv; omega
    · have := hg b (p2 b hb); simp [Value.ownBlock] at hv; omega
    · have := hg b (p2 b hb); simp; omega
    · exact fin o4 ((f0.trans fa).trans' f4 fun b hb hv => by simp [Value.ownBlock] at hv; omega)

theorem rset_ok {w : World} {v : Value} {m : CT} (hs : SlD w v m) (hg : ∀ g, v.ownBlock = some g → g < w.heap.size) (hn : (ckeys m).Nodup) (hsd : Srtd m) (hlen : m.length ≤ 100000) (k a : Int) {K : KV}
    (h : ∀ w' v', OwD w' w.heap.size v' (srt (cset m k a)) → Fr (fun _ => False) w w' → K v' w') : callT P F.winnowref15_Set [v, .int .u64 k, .int .u64 a] w K := by
  apply M.winnowref15_Set.calls
  unfold M.winnowref15_Set
  simp only [joinT_eq]
  rw [M.winnowref15_Del.fcall]
  have hsd' := cdel_srtd hsd k
  have hdl := cdel_len m k
  -- behind Del
  have rest : ∀ w1 v1, SlD w1 v1 (cdel m k) → (∀ g, v1.ownBlock = some g → g < w1.heap.size) → Fr (fun _ => False) w w1 →
      loopT [.int .i64 0] w1 fun K1 x1 w => M.winnowref15_Set.j1 v1 x1 (.int .u64 a) (.int .u64 k) (fun x0 w => M.winnowref15_Set.j0 v1 x0 (.int .u64 k) (.int .u64 a) w K) K1 w K := by
    intro w1 v1 s1 hg1 f1
    unfold cset at h
    generalize cdel m k = d at *
    refine ⟨RsetI w1 d k a, fun x _ => d.length - ms x 0, ⟨0, rfl, rfl, Nat.zero_le _, fun j p _ h => by omega⟩, ?_⟩
    rintro x w2 ⟨i, rfl, rfl, hi, hb⟩
    unfold M.winnowref15_Set.j1
    simp only [joinT_eq, gv_0]
    rw [s1.len_ok (by simp)]
    have out : (∀ p, d[i]? = some p → ¬ ltB k a p = true) → M.winnowref15_Set.j0 v1 [.int .i64 (i : Nat)] (.int .u64 k) (.int .u64 a) w2 K := fun ha =>
      rset_end s1 hg1 (by omega) k a hi fun w' v' o' f' => h w' v' (by rw [put_srt hsd' k a hi hb ha] at o'; exact o'.mono f1.size) (f1.trans f')
    by_cases hil : i < d.length
    · obtain ⟨bb, o, cap, rfl, hbb, e0, e1⟩ := slD_at s1 hil
      have hw : IntKind.i64.wrap ((i : Int) + 1) = ((i + 1 : Nat) : Int) := by rw [wrap_id (by omega) (by omega)]; rfl
      have hst : ltB k a d[i] = true → (RsetI w2 d k a [.int .i64 ((i + 1 : Nat) : Int)] w2) ∧ d.length - ms [.int .i64 ((i + 1 : Nat) : Int)] 0 < d.length - ms [.int .i64 ((i : Nat) : Int)] 0 := fun hlt => ⟨⟨i + 1, rfl, rfl, by omega, fun j p hp hj => by
        by_cases hji : j = i
        · subst hji
          rw [List.getElem?_eq_getElem hil] at hp
          cases hp
          exact hlt
        · exact hb j p hp (by omega)⟩, by simp [ms, gv]; omega⟩
      have hno : ¬ ltB k a d[i] = true → ∀ p, d[i]? = some p → ¬ ltB k a p = true := fun h p hp => by
        rw [List.getElem?_eq_getElem hil] at hp; cases hp; exact h
      by_cases c1 : d[i].2 < a
      · simp [hil, e0, e1, c1, hw]
        exact hst (by simp [ltB, c1])
      · by_cases c2 : d[i].2 = a
        · by_cases c3 : d[i].1 < k
          · simp [hil, e0, e1, c1, c2, c3, hw]
            exact hst (by simp [ltB, c1, c2, c3])
          · simp [hil, e0, e1, c1, c2, c3, hw]
            exact out (hno (by simp [ltB, c1, c2, c3]))
        · simp [hil, e0, e1, c1, c2, hw]
          exact out (hno (by simp [ltB, c1, c2]))
    · simp [hil]
      exact out fun p hp => by have := (List.getElem?_eq_some_iff.1 hp).1; omega
  refine rdel_ok hs hn (by omega) k (fun hk => ?_) fun hk w2 v2 o2 f2 => ?_
  · simp
    exact rest w v (by rw [cdel_none hk]; exact hs) hg (Fr.refl _ _)
  · simp
    exact rest w2 v2 (o2.sl encD_len) (fun g hg => (o2.lt hg).2) f2

/-! ### What is due -/
def encU (k : Int) : List Value := [.int .u64 k]
theorem encU_len (p : Int) : (encU p).length = 1 := rfl
theorem encU_one (p : Int) : ∀ u ∈ encU p, oneC u = true := fun u hu => by
  simp only [encU, List.mem_cons, List.not_mem_nil, or_false] at hu
  subst hu; rfl
abbrev u64row (w : World) (base : Nat) (v : Value) (l : List Int) : Prop := Ow w base T.uint64 1 encU v l
theorem u64row_row {w : World} {base : Nat} {v : Value} {l : List Int} (h : u64row w base v l) : w.ownsRow base T.uint64 1 v l.length (u64s l) := by
  have : l.flatMap encU = u64s l := by
    clear h
    unfold u64s
    induction l with
    | nil => rfl
    | cons x l ih => rw [List.flatMap_cons, List.map_cons, ih]; rfl
  unfold u64row Ow at h
  rw [this] at h; exact h
def mlen (x : List Value) (k : Nat) : Nat := match gv x k with
  | .slice _ n _ => n
  | _ => 0
theorem due_split {m : CT} (hs : Srtd m) {now : Int} {i : Nat} (hi : i ≤ m.length) (hb : ∀ (j : Nat) p, m[j]? = some p → j < i → p.2 ≤ now) (ha : ∀ p, m[i]? = some p → now < p.2) :
    (m.take i).map (·.1) = (m.filter fun p => decide (p.2 ≤ now)).map (·.1) ∧ m.drop i = m.filter fun p => decide (now < p.2) := by
  have h1 : ∀ p ∈ m.take i, p.2 ≤ now := fun p hp => by
    obtain ⟨j, hj, he⟩ := List.mem_iff_getElem.1 hp
    have hj' : j < i := by rw [List.length_take] at hj; omega
    refine hb j p ?_ hj'
    rw [← List.getElem?_take_of_lt hj', List.getElem?_eq_getElem hj, he]
  have h2 : ∀ p ∈ m.drop i, now < p.2 := fun p hp => by
    have hsp : Srtd (m.take i ++ m.drop i) := by rw [List.take_append_drop]; exact hs
    obtain ⟨_, h2, _⟩ := List.pairwise_append.1 hsp
    cases hdi : m.drop i with
    | nil => rw [hdi] at hp; cases hp
    | cons q0 r =>
      have h0 : m[i]? = some q0 := by have := List.getElem?_drop (xs := m) (i := i) (j := 0); rw [hdi] at this; simpa using this.symm
      have hq0 := ha q0 h0
      rw [hdi] at hp h2
      rcases List.mem_cons.1 hp with rfl | hp
      · exact hq0
      · have := (List.pairwise_cons.1 h2).1 p hp
        simp only [leP, Bool.or_eq_true, Bool.and_eq_true, decide_eq_true_eq] at this
        omega
  constructor
  · conv => rhs; rw [← List.take_append_drop i m]
    rw [List.filter_append, List.filter_eq_self.2 fun p hp => by simpa using h1 p hp, List.filter_eq_nil_iff.2 fun p hp => by simpa using h2 p hp, List.append_nil]
  · conv => rhs; rw [← List.take_append_drop i m]
    rw [List.filter_append, List.filter_eq_nil_iff.2 fun p hp => by simpa using h1 p hp, List.filter_eq_self.2 fun p hp => by simpa using h2 p hp, List.nil_append]

def RpopI (w : World) (v : Value) (m : CT) (now : Int) : KL := fun x w1 => ∃ (i : Nat) (ov rv : Value), x = [ov, rv] ∧ i ≤ m.length ∧ (∀ (j : Nat) p, m[j]? = some p → j < i → p.2 ≤ now) ∧ SlD w1 rv (m.drop i) ∧ (∀ g, rv.ownBlock = some g → v.ownBlock = some g) ∧ u64row w1 w.heap.size ov ((m.take i).map (·.1)) ∧ Fr (fun _ => False) w w1

theorem rpop_ok {w : World} {v : Value} {m : CT} (hs : SlD w v m) (hg : ∀ g, v.ownBlock = some g → g < w.heap.size) (hsd : Srtd m) (hlen : m.length ≤ 100000) (now : Int) {K : KV}
    (h : ∀ w' ov rv, u64row w' w.heap.size ov ((m.filter fun p => decide (p.2 ≤ now)).map (·.1)) → SlD w' rv (m.filter fun p => decide (now < p.2)) → (∀ g, rv.ownBlock = some g → v.ownBlock = some g) → Fr (fun _ => False) w w' → K (.tuple #[ov, rv]) w') : callT P F.winnowref15_Pop [v, .int .u64 now] w K := by
  apply M.winnowref15_Pop.calls
  unfold M.winnowref15_Pop
  simp only [joinT_eq]
  refine ⟨RpopI w v m now, fun x w1 => mlen x 1, ⟨0, _, _, rfl, Nat.zero_le _, fun j p _ h => by omega, by simpa using hs, fun g hg => hg, Ow.none, Fr.refl _ _⟩, ?_⟩
  rintro x w1 ⟨i, ov, rv, rfl, hi, hb, sr, hrv, ow, fr⟩
  unfold M.winnowref15_Pop.j1
  have g0 : gv [ov, rv] 0 = ov := rfl
  have g1 : gv [ov, rv] 1 = rv := rfl
  simp only [joinT_eq, g0, g1]
  rw [sr.len_ok (by simp)]
  have out : (∀ p, m[i]? = some p → now < p.2) → K (.tuple #[ov, rv]) w1 := fun ha => by
    obtain ⟨e1, e2⟩ := due_split hsd hi hb ha
    exact h w1 ov rv (by rw [← e1]; exact ow) (by rw [← e2]; exact sr) hrv fr
  by_cases hil : i < m.length
  · have hlt : 0 < (m.drop i).length := by simp; omega
    have hgt : (0 : Int) < ((m.drop i).length : Int) := by omega
    have hd0 : (m.drop i)[0] = m[i] := by simp
    obtain ⟨bb, o, cap, rfl, hbb, e0, e1⟩ := slD_at sr hlt
    rw [hd0] at e0 e1
    simp only [Nat.zero_mul, Nat.add_zero] at e0 e1
    have sr' := sr.sub (P := P) (t := T.sl_winnowref15_Due) (lo := some (.int .i64 1)) (hi := none) (i := 1) (j := (m.drop i).length) (by simp) (by simp) (.inr ⟨_, rfl⟩) (.inl ⟨rfl, rfl⟩) hlt (Nat.le_refl _)
    obtain ⟨v', s', p', q'⟩ := sr'
    have ed : List.take ((m.drop i).length - 1) (List.drop 1 (m.drop i)) = m.drop (i + 1) := by
      rw [List.take_of_length_le (by simp; omega), List.drop_drop]
    rw [ed] at s'
    clear hd0
    generalize hnn : (m.drop i).length = nn at *
    by_cases hdue : m[i].2 ≤ now
    · simp [hlt, e0, e1, hdue]
      unfold M.winnowref15_Pop.j2
      have g0' : gv [ov, .slice (some ⟨bb, o, none⟩) nn cap] 0 = ov := rfl
      have g1' : gv [ov, .slice (some ⟨bb, o, none⟩) nn cap] 1 = .slice (some ⟨bb, o, none⟩) nn cap := rfl
      simp [g0', g1', hlt, e0]
      have fa : Fr (fun _ => False) w1 (w1.alloc (.cells #[.int .u64 m[i].1] T.uint64)) := (Fr.refl _ w1).alloc _
      have lt1 : ((m.take i).map (·.1)).length ≤ i := by simp; omega
      have hz := fr.size
      refine app_sl et.sl_uint64 encU_len encU_one (ow.fr fa fun _ _ h => h) (Sl.one (x := m[i].1) rfl rfl) (by simp; omega) (by decide) (by simp; omega) _ fun v3 w3 o3 f3 g3 => ?_
      rw [q']
      refine ⟨⟨i + 1, v3, v', rfl, by omega, fun j p hp hj => ?_, (s'.fr fa fun _ _ _ h => h).fr f3 fun b hb hlt hv => ?_, fun g hg => hrv g (p' g hg), ?_, (fr.trans fa).trans' f3 fun b hb hv => by have := (ow.lt hv).1; omega⟩, ?_⟩
      · by_cases hji : j = i
        · subst hji
          rw [List.getElem?_eq_getElem hil] at hp
          cases hp
          exact hdue
        · exact hb j p hp (by omega)
      · have := hg b (hrv b (p' b hb))
        have := (ow.lt hv).1
        omega
      · have : (m.take (i + 1)).map (·.1) = (m.take i).map (·.1) ++ [m[i].1] := by
          rw [List.take_succ_eq_append_getElem hil, List.map_append]; rfl
        rw [this]; exact o3
      · obtain ⟨a, cap', hv', _⟩ := s'
        rw [hv']
        simp [mlen, gv]
        have : nn = m.length - i := by rw [← hnn]; simp
        omega
    · simp [hlt, e0, e1, hdue]
      exact out fun p hp => by rw [List.getElem?_eq_getElem hil] at hp; cases hp; omega
  · have hz : (m.drop i).length = 0 := by simp; omega
    rw [hz]
    simp
    exact out fun p hp => by have := (List.getElem?_eq_some_iff.1 hp).1; omega
end Go.Proofs.Ytiolnbhnahlphaa
