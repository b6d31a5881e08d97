/-
  The law TimersSorted. No condition.
-/
import Derived.Test.YtiolnbhnahlphaaTim9
namespace Go.Proofs.Ytiolnbhnahlphaa
open Go.Eng

/-- A heap with the pairs c beside a list of them. -/
structure Lst (w0 w : World) (hb : Nat) (mv : Value) (c m : CT) : Prop where
  ex : ∃ O, Hp w hb O c ∧ (∀ b, O b → w0.heap.size ≤ b) ∧ ∀ g, mv.ownBlock = some g → ¬ O g
  ow : OwD w w0.heap.size mv m
  fr : Fr (fun _ => False) w0 w

def Sort1 (w0 : World) (hb : Nat) (l : CT) : KL := fun x w1 => ∃ (mv : Value) (i : Nat) (c m : CT), x = [mv, .int .i64 (i : Nat)] ∧ i ≤ l.length ∧ m.length ≤ i ∧ m.Perm c ∧ (ckeys m).Nodup ∧ Lst w0 w1 hb mv c m

theorem lst_step {w0 w : World} {hb : Nat} {mv : Value} {c m : CT} (L : Lst w0 w hb mv c m) (hp : m.Perm c) (hn : (ckeys m).Nodup) (hm : m.length ≤ 1000) {a0 : Value} {l : CT} (hs : SlD w0 a0 l) {i : Nat} (hi : i < l.length) (x0 : Value) (hx0 : x0 = .int .i64 (i : Nat)) {K2 : KL} {K : KV}
    (h : ∀ w' mv', Lst w0 w' hb mv' (cset c l[i].1 l[i].2) (cdel m l[i].1 ++ [l[i]]) → K2 [mv', .int .i64 ((i + 1 : Nat) : Int)] w') : M.winnowlaw15_TimersSorted.j3 a0 [mv, x0] (ptrH hb) K2 w K := by
  subst hx0
  obtain ⟨⟨O, H, hO, hd⟩, ow, fr⟩ := L
  obtain ⟨b, o, cap, rfl, hb', e0, e1⟩ := slD_at hs hi
  have hil : i < 9223372036854775807 := by
    obtain ⟨a, cap', hv, h1, h2, _⟩ := hs
    unfold maxLen at h2; omega
  have hw : IntKind.i64.wrap ((i : Int) + 1) = ((i + 1 : Nat) : Int) := by rw [wrap_id (by omega) (by omega)]; rfl
  have hc : c.length ≤ 1000 := by rw [← hp.length_eq]; exact hm
  have d0 : cellOf w b (o + i * 2) = some (.int .u64 l[i].1) := by rw [cellOf_heap (fr.keep b hb' fun h => h)]; exact e0
  have d1 : cellOf w b (o + i * 2 + 1) = some (.int .u64 l[i].2) := by rw [cellOf_heap (fr.keep b hb' fun h => h)]; exact e1
  unfold M.winnowlaw15_TimersSorted.j3
  simp [hi, d0, d1]
  rw [M.ptimers_Heap_Set.fcall]
  refine set_ok (H.keep ((Fr.refl (fun _ => False) w).dr 1) fun _ _ h => h) (by omega) _ _ fun w1 O1 H1 f1 p1 => ?_
  have f1' : Fr O w w1 := ⟨f1.size, f1.keep, f1.tape, f1.os, f1.output⟩
  have fr1 : Fr (fun _ => False) w0 w1 := fr.trans' f1' fun g hg h => by have := hO g h; omega
  have hO1 : ∀ g, O1 g → w0.heap.size ≤ g := fun g hg => by
    rcases p1 g hg with h' | h'
    · exact hO g h'
    · have := fr.size; simp [dr_heap] at h'; omega
  have hd1 : ∀ g, mv.ownBlock = some g → ¬ O1 g := fun g hg h' => by
    rcases p1 g h' with h' | h'
    · exact hd g hg h'
    · have := (ow.lt hg).2; simp [dr_heap] at h'; omega
  have c0 : cellOf w1 b (o + i * 2) = some (.int .u64 l[i].1) := by rw [cellOf_heap (fr1.keep b hb' fun h => h)]; exact e0
  have c1 : cellOf w1 b (o + i * 2 + 1) = some (.int .u64 l[i].2) := by rw [cellOf_heap (fr1.keep b hb' fun h => h)]; exact e1
  have ow1 : OwD w1 w0.heap.size mv m := ow.fr f1' hd
  simp [hi, c0]
  rw [M.winnowref15_Del.fcall]
  -- behind Del
  have rest : ∀ (w2 : World) (v2 : Value) (bb : Bool), OwD w2 w0.heap.size v2 (cdel m l[i].1) → Fr (fun _ => False) w1 w2 → (∀ g, v2.ownBlock = some g → ¬ O1 g) → ldN P 2 b (o + i * 2) w2 fun t54 w =>
      bsT P T.sl_winnowref15_Due 1 #[(0, t54)] w fun t55 w => biT P .append #[T.sl_winnowref15_Due, T.sl_winnowref15_Due] T.sl_winnowref15_Due [false, false] [v2, t55] w fun t56 w => K2 [t56, .int .i64 (IntKind.i64.wrap ((i : Int) + 1))] w := by
    intro w2 v2 bb o2 f2 q2
    have fr2 := fr1.trans f2
    have u0 : cellOf w2 b (o + i * 2) = some (.int .u64 l[i].1) := by rw [cellOf_heap (fr2.keep b hb' fun h => h)]; exact e0
    have u1 : cellOf w2 b (o + i * 2 + 1) = some (.int .u64 l[i].2) := by rw [cellOf_heap (fr2.keep b hb' fun h => h)]; exact e1
    have H2 := H1.keep f2 fun _ _ h => h
    rw [ldN2 u0 u1]
    simp
    have fa : Fr (fun _ => False) w2 (w2.alloc (.cells #[.int .u64 l[i].1, .int .u64 l[i].2] T.winnowref15_Due)) := (Fr.refl _ w2).alloc _
    have hs0 := fr2.size
    have l1 := List.length_filter_le (fun p : Int × Int => !decide (p.1 = l[i].1)) m
    refine app_sl et.sl_winnowref15_Due encD_len encD_one (o2.fr fa fun _ _ h => h) (Sl.one (x := l[i]) rfl rfl) (by simp [cdel]; omega) (by decide) (by simp; omega) _ fun v3 w3 o3 f3 g3 => ?_
    rw [hw]
    refine h w3 v3 ⟨⟨O1, (H2.keep fa fun _ _ h => h).keep f3 fun g hg he => q2 g he hg, hO1, fun g hg h' => ?_⟩, o3, (fr2.trans fa).trans' f3 fun g hg he => by have := (o2.lt he).1; omega⟩
    rcases g3 with g3 | ⟨g', h1, h2⟩
    · exact q2 g (by rw [← g3]; exact hg) h'
    · rw [hg] at h1; cases h1
      have := H2.lt g h'; simp at h2; omega
  refine rdel_ok (ow1.sl encD_len) hn (by omega) _ (fun hk => ?_) fun hk w2 v2 o2 f2 => ?_
  · simp [hi]
    have := rest w1 mv false (by rw [cdel_none hk]; exact ow1) (Fr.refl _ _) hd1
    exact this
  · simp [hi]
    have hsz := fr1.size
    exact rest w2 v2 true (o2.mono hsz) f2 fun g hg h' => by have := (o2.lt hg).1; have := H1.lt g h'; omega

/-- Behind the first loop: the pair that came last stands at block bl. -/
structure Srt (w0 w : World) (hb : Nat) (mv : Value) (bl : Nat) (c m : CT) (lk la : Int) : Prop where
  ex : ∃ O, Hp w hb O c ∧ (∀ b, O b → w0.heap.size ≤ b) ∧ (∀ g, mv.ownBlock = some g → ¬ O g) ∧ ¬ O bl
  ow : OwD w w0.heap.size mv m
  fr : Fr (fun _ => False) w0 w
  blk : w.heap[bl]? = some (.cells #[.int .u64 lk, .int .u64 la] T.winnowref15_Due (0, 0))
  ne : mv.ownBlock ≠ some bl
  ge : w0.heap.size ≤ bl

def Sort2 (w0 : World) (hb : Nat) (mv : Value) (bl : Nat) (m : CT) : KL := fun x w1 => ∃ (y0 y1 y2 y3 y4 y5 : Value) (n : Nat) (c : CT) (lk la : Int), x = [y0, y1, y2, y3, y4, y5, .int .i64 (n : Nat)] ∧ c.length + n = m.length ∧ (∀ p ∈ c, p ∈ m) ∧ (n = 0 ∨ ∀ p ∈ c, leP (lk, la) p = true ∧ p.1 ≠ lk) ∧ Srt w0 w1 hb mv bl c m lk la

theorem cdel_mem {c : CT} {k : Int} {p : Int × Int} (h : p ∈ cdel c k) : p ∈ c ∧ p.1 ≠ k := by
  unfold cdel at h
  rw [List.mem_filter] at h
  exact ⟨h.1, by simpa using h.2⟩
theorem cdel_len' {c : CT} (hn : (ckeys c).Nodup) {k a : Int} (h : (k, a) ∈ c) : (cdel c k).length + 1 = c.length := by
  obtain ⟨i, hi, he⟩ := List.mem_iff_getElem.1 h
  have := split_del hn (i := i) (k := k) (a := a) (by rw [List.getElem?_eq_getElem hi, he])
  rw [← this]; simp; omega

theorem srt_end {w0 w : World} {hb : Nat} {mv : Value} {bl : Nat} {m : CT} {lk la : Int} (L : Srt w0 w hb mv bl [] m lk la) {K : KV} (h : ∀ w', Fr (fun _ => False) w0 w' → K (.bool true) w') : M.winnowlaw15_TimersSorted.j5 (ptrH hb) w K := by
  obtain ⟨⟨O, H, hO, hd, hbl⟩, ow, fr, blk, ne, ge⟩ := L
  unfold M.winnowlaw15_TimersSorted.j5
  rw [M.ptimers_Heap_Next.fcall]
  refine next_ok H (by simp) (fun _ => ?_) fun k a hm => by simp at hm
  simp
  rw [M.ptimers_Heap_Len.fcall]
  refine len_ok H ?_
  simp
  rw [M.ptimers_Heap_Pop.fcall]
  refine pop_ok H (by simp) _ fun w1 v1 H1 r1 f1 => ?_
  have hc : cdue [] 18446744073709551615 = [] := cdue_none fun q hq => by simp at hq
  rw [hc] at r1
  obtain ⟨a, cap, hv, _⟩ : ∃ a cap, v1 = .slice a 0 cap ∧ 0 ≤ cap := by
    rcases r1.2 with ⟨h, _⟩ | ⟨g, cap, cur, h, _⟩
    · exact ⟨_, _, h, Nat.le_refl _⟩
    · exact ⟨_, _, h, Nat.zero_le _⟩
  subst hv
  simp
  rw [M.winnowlaw15_alive.fcall]
  have F1 := fr.trans' f1 fun g hg h' => by have := hO g h'; omega
  exact alive_ok fun w2 f2 => by simpa using h w2 (F1.trans f2)

theorem srt_step {w0 w : World} {hb : Nat} {mv : Value} {bl : Nat} {m : CT} (hm : m.length ≤ 1000) (hn : (ckeys m).Nodup) (x0 : Value) {x : List Value} {K5 K6 : KL} {K : KV} (h : Sort2 w0 hb mv bl m x w) (h5 : ∀ w' x', Fr (fun _ => False) w0 w' → (∃ lk la, Srt w0 w' hb mv bl [] m lk la) → K5 x' w')
    (h6 : ∀ w' x', Sort2 w0 hb mv bl m x' w' → m.length - ms x' 6 < m.length - ms x 6 → K6 x' w') : M.winnowlaw15_TimersSorted.j6 [x0, mv] x K5 (ptrH hb) (.pointer (some ⟨bl, 0, none⟩)) K6 w K := by
  obtain ⟨y0, y1, y2, y3, y4, y5, n, c, lk, la, rfl, hl, hsub, hmin, L⟩ := h
  have L' := L
  obtain ⟨⟨O, H, hO, hd, hbl⟩, ow, fr, blk, ne, ge⟩ := L
  unfold M.winnowlaw15_TimersSorted.j6
  have g1 : gv [x0, mv] 1 = mv := rfl
  have g6 : gv [y0, y1, y2, y3, y4, y5, .int .i64 (n : Int)] 6 = .int .i64 (n : Int) := rfl
  simp only [joinT_eq, g1, g6]
  rw [(ow.sl encD_len).len_ok (by simp)]
  by_cases hnl : n < m.length
  · simp [hnl]
    unfold M.winnowlaw15_TimersSorted.j7
    simp only [joinT_eq, g1, g6]
    rw [M.ptimers_Heap_Next.fcall]
    have hw : IntKind.i64.wrap ((n : Int) + 1) = ((n + 1 : Nat) : Int) := by rw [wrap_id (by omega) (by omega)]; rfl
    refine next_ok H (by omega) (fun hc => by subst hc; simp at hl; omega) fun k t hkt hkm => ?_
    have fd : Fr (fun _ => False) w (dr w 1) := (Fr.refl _ w).dr 1
    have Hd := H.keep fd fun _ _ h => h
    have owd : OwD (dr w 1) w0.heap.size mv m := ow.fr fd fun _ _ h => h
    simp
    rw [M.winnowref15_At.fcall]
    have hget := cget_of_mem hn (hsub _ hkt)
    refine rat_ok (owd.sl encD_len) hn (by omega) k (fun h => by rw [hget] at h; cases h) fun a ha => ?_
    rw [hget] at ha; cases ha
    obtain ⟨b0, b1⟩ := cells2 blk
    simp [b0, b1]
    -- the comparison with the last one
    have hgetc := cget_of_mem H.nd hkt
    have fin : ∀ {K' : KV}, (∀ w2, Hp w2 hb O (cdel c k) → Fr O w w2 → K' (.bool true) w2) → callT P F.ptimers_Heap_Del [ptrH hb, .int .u64 k] (dr w 1) K' := fun h => del_some Hd (by omega) k t hgetc fun w2 H2 f2 => h w2 H2 ⟨f2.size, f2.keep, f2.tape, f2.os, f2.output⟩
    have last : ∀ w2, Hp w2 hb O (cdel c k) → Fr O w w2 → stN P bl 0 [.int .u64 k, .int .u64 t] w2 fun _ w => K6 [.int .u64 k, .int .u64 t, .bool true, .int .u64 t, .bool true, y5, .int .i64 ((n + 1 : Nat) : Int)] w := by
      intro w2 H2 f2
      have hb2 : w2.heap[bl]? = some (.cells #[.int .u64 lk, .int .u64 la] T.winnowref15_Due (0, 0)) := f2.heap blk hbl
      refine stN_all (vs := [.int .u64 k, .int .u64 t]) hb2 rfl (by simp) fun w3 b3 f3 => ?_
      have hlen := cdel_len' H.nd hkt
      refine h6 w3 _ ⟨_, _, _, _, _, _, n + 1, cdel c k, k, t, rfl, by omega, fun p hp => hsub p (cdel_mem hp).1, .inr fun p hp => ⟨hkm p (cdel_mem hp).1, (cdel_mem hp).2⟩, ⟨⟨O, H2.keep f3 fun b hb' h' => hbl (h' ▸ hb'), hO, hd, hbl⟩, (ow.fr f2 hd).fr f3 fun g hg h' => ne (by rw [hg, h']), (fr.trans' f2 fun g hg h' => by have := hO g h'; omega).trans' f3 fun g hg h' => by have := ge; omega, b3, ne, ge⟩⟩ ?_
      simp [ms, gv]; omega
    by_cases hn0 : n = 0
    · simp [hn0]
      rw [M.ptimers_Heap_Del.fcall]
      refine fin fun w2 H2 f2 => ?_
      simp
      rw [M.ptimers_Heap_Del.fcall]
      refine del_none H2 k (cget_cdel_same _ _) ?_
      have := last w2 H2 f2
      subst hn0
      have hw1 : IntKind.i64.wrap 1 = 1 := wrap_id (by omega) (by omega)
      simpa [hw1] using this
    · have hpos : 0 < n := by omega
      rcases hmin with h0 | hmin
      · omega
      obtain ⟨m1, m2⟩ := hmin _ hkt
      simp only [leP, Bool.or_eq_true, Bool.and_eq_true, decide_eq_true_eq] at m1
      have c1 : ¬ t < la := by omega
      have fin2 : la = t → ¬ k ≤ lk := fun h => by omega
      by_cases hlt : la = t
      · have c2 := fin2 hlt
        subst hlt
        simp [hpos, b0, b1, c2]
        rw [M.ptimers_Heap_Del.fcall]
        refine fin fun w2 H2 f2 => ?_
        simp
        rw [M.ptimers_Heap_Del.fcall]
        refine del_none H2 k (cget_cdel_same _ _) ?_
        have := last w2 H2 f2
        simpa [hw] using this
      · simp [hpos, b0, b1, c1, hlt]
        rw [M.ptimers_Heap_Del.fcall]
        refine fin fun w2 H2 f2 => ?_
        simp
        rw [M.ptimers_Heap_Del.fcall]
        refine del_none H2 k (cget_cdel_same _ _) ?_
        have := last w2 H2 f2
        simpa [hw] using this
  · simp [hnl]
    have hc : c = [] := List.eq_nil_of_length_eq_zero (by omega)
    subst hc
    exact h5 w _ fr ⟨lk, la, L'⟩

theorem sorted_ok {w : World} {v : Value} {l : CT} (hs : SlD w v l) {K : KV} (h : ∀ w', Fr (fun _ => False) w w' → K (.bool true) w') : callT P F.winnowlaw15_TimersSorted [v] w K := by
  apply M.winnowlaw15_TimersSorted.calls
  unfold M.winnowlaw15_TimersSorted
  simp only [joinT_eq]
  rw [hs.len_ok (by simp)]
  by_cases hbig : 200 < l.length
  · have hb' : (200 : Int) < l.length := by omega
    simp [hb']
    rw [M.winnowlaw15_alive.fcall]
    exact alive_ok h
  · have hb' : ¬ (200 : Int) < l.length := by omega
    simp [hb']
    unfold M.winnowlaw15_TimersSorted.j0
    simp
    generalize hw1 : w.alloc (.cells #[.slice none 0 0, .map none] T.timers_Heap) = w1
    have hb1 : w1.heap[w.heap.size]? = some (.cells #[.slice none 0 0, .map none] T.timers_Heap (0, 0)) := by
      rw [← hw1, alloc_heap, if_pos rfl]
    have hf1 : Fr (fun _ => False) w w1 := by rw [← hw1]; exact (Fr.refl _ w).alloc _
    refine ⟨Sort1 w w.heap.size l, fun x _ => l.length - ms x 1, ⟨_, 0, [], [], rfl, Nat.zero_le _, Nat.le_refl _, List.Perm.refl _, by simp [ckeys], ⟨⟨_, Hp.new hb1, fun b hb => by omega, fun g hg => by simp [Value.ownBlock] at hg⟩, Ow.none, hf1⟩⟩, ?_⟩
    rintro x w2 ⟨mv, i, c, m, rfl, hi, hmi, hp, hn, L⟩
    unfold M.winnowlaw15_TimersSorted.j2
    have g1 : gv [mv, .int .i64 (i : Int)] 1 = .int .i64 (i : Int) := rfl
    have g0 : gv [mv, .int .i64 (i : Int)] 0 = mv := rfl
    simp only [joinT_eq, g1, g0]
    rw [hs.len_ok (by simp)]
    by_cases hil : i < l.length
    · simp [hil]
      refine lst_step L hp hn (by omega) hs hil _ rfl fun w3 mv' L3 => ⟨⟨mv', i + 1, _, _, rfl, by omega, ?_, ?_, ?_, L3⟩, ?_⟩
      · have := List.length_filter_le (fun p : Int × Int => !decide (p.1 = l[i].1)) m
        simp [cdel]; omega
      · exact (List.perm_append_comm).trans ((cdel_perm hp _).cons _)
      · have hn2 := cdel_nodup hn l[i].1
        have hn3 := cdel_not_mem m l[i].1
        unfold ckeys at hn2 hn3 ⊢
        rw [List.map_append, List.nodup_append]
        refine ⟨hn2, by simp, fun a ha b hb => ?_⟩
        simp at hb; subst hb
        intro hab; subst hab
        exact hn3 ha
      · simp [ms, gv]; omega
    · simp [hil]
      unfold M.winnowlaw15_TimersSorted.j1
      simp
      generalize hwa : w2.alloc (.cells #[.int .u64 0, .int .u64 0] T.winnowref15_Due) = wa
      obtain ⟨⟨O, H, hO, hd⟩, ow, fr⟩ := L
      have hba : wa.heap[w2.heap.size]? = some (.cells #[.int .u64 0, .int .u64 0] T.winnowref15_Due (0, 0)) := by rw [← hwa, alloc_heap, if_pos rfl]
      have hfa : Fr (fun _ => False) w2 wa := by rw [← hwa]; exact (Fr.refl _ w2).alloc _
      refine stN_all (vs := [.int .u64 0, .int .u64 0]) hba rfl (by simp) fun wb hbb fb => ?_
      have fb' : Fr (fun _ => False) w2 wb := hfa.trans' fb fun g hg h' => by omega
      have hlm := hp.length_eq
      have hge := fr.size
      refine ⟨Sort2 w w.heap.size mv w2.heap.size m, fun x _ => m.length - ms x 6, ⟨_, _, _, _, _, _, 0, c, 0, 0, rfl, by omega, fun p hp' => hp.mem_iff.2 hp', .inl rfl, ⟨⟨O, H.keep fb' fun _ _ h => h, hO, hd, fun h' => by have := H.lt _ h'; omega⟩, ow.fr fb' fun _ _ h => h, fr.trans fb', hbb, fun h' => by have := (ow.lt h').2; omega, hge⟩⟩, ?_⟩
      intro x3 w3 h3
      exact srt_step (by omega) hn _ h3 (fun w4 x4 f4 ⟨lk, la, L4⟩ => srt_end L4 h) fun w4 x4 h4 hlt => ⟨h4, hlt⟩

theorem TimersSorted_law {W : World} {n0 : Nat} {v0 : Value} (h0 : TV P W n0 T.sl_winnowref15_Due [v0]) {K : KV} (h : ∀ w', Fr (fun _ => False) W w' → K (.bool true) w') : callT P F.winnowlaw15_TimersSorted [v0] W K := by
  obtain ⟨l, hl⟩ := dues h0
  exact sorted_ok (slD_of hl) h
end Go.Proofs.Ytiolnbhnahlphaa
