/-
  winnowref16's buffer: Due. No condition.
  A buffer: Due, Delay and Take, with what stands beside it. No condition.
  Sorting a row of whole numbers (uint64): the row, and the insertion sort. No condition.
  Sorting a row of whole numbers (uint64): the heap sort. No condition.
  Sorting a row of whole numbers (uint64): the partitions. No condition.
  Sorting a row of whole numbers (uint64): the partial insertion sort, the range turned round. No condition.
  math/bits.Len at small numbers, the next power of two, and what xorshift gives. No condition.
  Sorting a row of whole numbers (uint64): the pivot, the patterns. No condition.
  Sorting a row of whole numbers (uint64): the recursion, and slices.Sort. No condition.
  slices.Sorted (uint64) against whatever iterator. No condition.
  slices.Sorted(maps.Keys(m)) at the map type map_uint64_p_buffer_entry. No condition.
  A buffer's traces. No condition.
  A buffer and the document's: alike, in plain Lean. No condition.
-/
import Derived.Test.YtkjhekflgghbdaaZBuf4
import Derived.Test.YtkjhekflgghbdaaM
import Derived.Test.YtkjhekflgghbdaaFacts
import Derived.Test.YtkjhekflgghbdaaZEngSimp
import Derived.Sort.AssemblyPlain
set_option maxRecDepth 100000
namespace Go.Proofs.Ytkjhekflgghbdaa
open Go.Eng
def ltD (a b : RC) : Prop := a.1.due < b.1.due ∨ (a.1.due = b.1.due ∧ a.1.id < b.1.id)
/-- A trace is put where its time is. -/
theorem ins_sorted {l : List RC} {t : RC} {k : Nat} (hk : k ≤ l.length) (h : l.Pairwise ltD) (hid : ∀ x ∈ l, x.1.id < t.1.id) (h1 : k = 0 ∨ ∃ h : k - 1 < l.length, l[k - 1].1.due ≤ t.1.due) (h2 : ∀ j (hj : j < l.length), k ≤ j → t.1.due < l[j].1.due) : (l.take k ++ [t] ++ l.drop k).Pairwise ltD := by
  have hle : ∀ j (hj : j < l.length), j < k → l[j].1.due ≤ t.1.due := fun j hj hjk => by
    rcases h1 with rfl | ⟨hk1, hd⟩
    · omega
    · by_cases e : j = k - 1
      · subst e; exact hd
      · have := List.pairwise_iff_getElem.1 h j (k - 1) hj hk1 (by omega)
        rcases this with h | ⟨h, _⟩ <;> omega
  rw [List.pairwise_append, List.pairwise_append]
  refine ⟨⟨h.sublist (List.take_sublist _ _), List.pairwise_singleton _ _, fun a ha b hb => ?_⟩, h.sublist (List.drop_sublist _ _), fun a ha b hb => ?_⟩
  · rw [List.mem_singleton.1 hb]
    obtain ⟨j, hj, rfl⟩ := List.getElem_of_mem ha
    simp only [List.length_take] at hj
    rw [List.getElem_take]
    have := hle j (by omega) (by omega)
    have := hid _ (List.getElem_mem (show j < l.length by omega))
    unfold ltD; omega
  · obtain ⟨m, hm, rfl⟩ := List.getElem_of_mem hb
    simp only [List.length_drop] at hm
    rw [List.getElem_drop]
    rcases List.mem_append.1 ha with ha | ha
    · obtain ⟨j, hj, rfl⟩ := List.getElem_of_mem ha
      simp only [List.length_take] at hj
      rw [List.getElem_take]
      exact List.pairwise_iff_getElem.1 h j (k + m) (by omega) (by omega) (by omega)
    · rw [List.mem_singleton.1 ha]
      exact .inl (h2 (k + m) (by omega) (by omega))
def InD (w0 : World) (l : List RC) (d : Int) : KL := fun x w1 => ∃ (k : Nat), x = [.int .i64 (k : Nat)] ∧ Fr (fun _ => False) w0 w1 ∧ k ≤ l.length ∧ ∀ j (hj : j < l.length), k ≤ j → d < l[j].1.due
section
variable {w0 w : World} {R : List Asn} {p : Nat} {g : Cfg} {v lv : Value} {cs l : List RC}
def coreD (p : Nat) (g : Cfg) (v : Value) (cs : List RC) (lv : Value) (l : List RC) (R : List Asn) : List Asn := blkA p (headR16 g v) T.winnowref16_Buffer :: rowA T.winnowref16_Trace 4 encRC v cs :: rowA T.winnowref16_Trace 4 encRC lv l :: R
def aggRC (t : RC) : Value := .agg #[.int .u64 t.1.id, .int .u64 t.1.due, .slice t.2.a t.2.n t.2.c, .bool t.1.over]
theorem coreD_cells {i : Nat} (hi : i < cs.length) {b cap : Nat} (hv : v = .slice (some ⟨b, 0, none⟩) cs.length cap) {W : World} (S : St w0 W (coreD p g v cs lv l R)) : cellOf W p 3 = some v ∧ cellOf W b (i * 4 + 1) = some (.int .u64 cs[i].1.due) ∧ ∀ K, ldN P 4 b (i * 4) W K = K (aggRC cs[i]) W := by
  obtain ⟨_, _, _, c3, _⟩ := rb_cells S.blk
  have hs : Sl W 4 encRC v cs := S.swap.row encRC_len
  obtain ⟨b2, o2, cap2, hv2, _, _, hc⟩ := hs.at hi
  have hx := hv.symm.trans hv2
  cases hx
  rw [Nat.zero_add] at hc
  exact ⟨c3, hc 1 _ rfl, fun K => ldN_eq (encRC cs[i]) 4 rfl hc K⟩
/-- The three orders of an insertion. -/
theorem dins_st {i k : Nat} (hi : i < cs.length) (hk : k ≤ l.length) (hl : cs.length ≤ 1000) (hll : l.length ≤ 1000) (S : St w0 w (coreD p g v cs lv l R)) {x1 : List Value} (e1 : gv x1 1 = lv) (e2 : gv x1 2 = .int .i64 (i : Nat)) {K3 : KL} {K : KV}
    (h : ∀ w' v' y, St w0 w' (coreD p g v cs v' (l.take k ++ [cs[i]] ++ l.drop k) R) → K3 [y, v'] w') : M.pwinnowref16_Buffer_Due.j5 x1 [.int .i64 (k : Nat)] (.pointer (some ⟨p, 0, none⟩)) K3 w K := by
  unfold M.pwinnowref16_Buffer_Due.j5
  have S0 : St w0 (dr w 1) (coreD p g v cs lv l R) := S.step ((Fr.refl _ w).dr 1)
  obtain ⟨b, cap, hv⟩ := rb_row S.swap hi
  have hia : ∀ w' K, iaT P T.sl_winnowref16_Trace v (.int .i64 (i : Nat)) w' K = K (.pointer (some ⟨b, i * 4, none⟩)) w' := fun w' K => by rw [hv]; simp [hi]
  have hs : Sl w 4 encRC lv l := S.up2.row encRC_len
  obtain ⟨va, ha, ra0⟩ := sub_any (t := T.sl_winnowref16_Trace) hs (by kernel_rfl) (by kernel_rfl) (lo := none) (hi := some (.int .i64 (k : Nat))) (i := 0) (j := k) (.inl ⟨rfl, rfl⟩) (.inr ⟨_, rfl⟩) (Nat.zero_le _) hk
  obtain ⟨vb, hb, rb0⟩ := sub_any (t := T.sl_winnowref16_Trace) hs (by kernel_rfl) (by kernel_rfl) (lo := some (.int .i64 (k : Nat))) (hi := none) (i := k) (j := l.length) (.inr ⟨_, rfl⟩) (.inl ⟨rfl, rfl⟩) hk (Nat.le_refl _)
  have ra : ∀ {w1}, Sl w1 4 encRC lv l → Sl w1 4 encRC va (l.take k) := fun h => by have := ra0 h; rwa [List.drop_zero, Nat.sub_zero] at this
  have rb : ∀ {w1}, Sl w1 4 encRC lv l → Sl w1 4 encRC vb (l.drop k) := fun h => by have := rb0 h; rwa [List.take_of_length_le (by simp)] at this
  have g0 : gv [Value.int .i64 (k : Nat)] 0 = .int .i64 (k : Nat) := rfl
  have cells : ∀ {W : World}, St w0 W (coreD p g v cs lv l R) → cellOf W p 3 = some v ∧ cellOf W b (i * 4 + 1) = some (.int .u64 cs[i].1.due) ∧ ∀ K, ldN P 4 b (i * 4) W K = K (aggRC cs[i]) W := fun S' => coreD_cells hi hv S'
  have hnil : ∀ {W : World} {L : List Asn}, St w0 W L → St w0 (W.alloc (.cells #[] T.winnowref16_Trace)) (rowA T.winnowref16_Trace 4 encRC (.slice (some ⟨W.heap.size, 0, none⟩) 0 0) ([] : List RC) :: L) := fun S' => St.newRow (l := ([] : List RC)) S' encRC_len rfl (by simp)
  have htr : ∀ {W : World} {L : List Asn}, St w0 W L → St w0 (W.alloc (.cells #[.int .u64 cs[i].1.id, .int .u64 cs[i].1.due, .slice cs[i].2.a cs[i].2.n cs[i].2.c, .bool cs[i].1.over] T.winnowref16_Trace)) (rowA T.winnowref16_Trace 4 encRC (.slice (some ⟨W.heap.size, 0, none⟩) 1 1) [cs[i]] :: L) := fun S' => St.newRow (l := [cs[i]]) S' encRC_len (by simp [encRC, RS.v]) (by simp [maxLen])
  obtain ⟨c3, c1, cl⟩ := cells S0
  have S1 := hnil S0
  have S1x := htr S1
  have Sx := htr S0
  have Sx1 := hnil Sx
  have y0 : (dr w 1).heap.size = w.heap.size := rfl
  have z1 : ((dr w 1).alloc (.cells #[] T.winnowref16_Trace)).heap.size = w.heap.size + 1 := by rw [alloc_size]; rfl
  have z2 : ((dr w 1).alloc (.cells #[.int .u64 cs[i].1.id, .int .u64 cs[i].1.due, .slice cs[i].2.a cs[i].2.n cs[i].2.c, .bool cs[i].1.over] T.winnowref16_Trace)).heap.size = w.heap.size + 1 := by rw [alloc_size]; rfl
  rw [y0] at S1 S1x Sx Sx1
  rw [z1] at S1x
  rw [z2] at Sx1
  obtain ⟨a3, _, al⟩ := cells S1.drop
  obtain ⟨b3, _, bl⟩ := cells S1x.drop.drop
  obtain ⟨e3, _, el⟩ := cells Sx.drop
  obtain ⟨f3, _, fl⟩ := cells Sx1.drop.drop
  simp only [aggRC] at cl al bl el fl
  have tail : ∀ {W : World} {vt vx : Value}, St w0 W (rowA T.winnowref16_Trace 4 encRC vt (l.take k) :: rowA T.winnowref16_Trace 4 encRC vx [cs[i]] :: coreD p g v cs lv l R) → biT P .append #[T.sl_winnowref16_Trace, T.sl_winnowref16_Trace] T.sl_winnowref16_Trace [false, false] [vt, vx] W fun t65 w => biT P .append #[T.sl_winnowref16_Trace, T.sl_winnowref16_Trace] T.sl_winnowref16_Trace [false, false] [t65, vb] w fun t69 w => K3 [.int .i64 (k : Nat), t69] w := by
    intro W vt vx T1
    refine Go.Eng.moreRow et.sl_winnowref16_Trace encRC_len encRC_one T1 (T1.swap.row encRC_len) (by simp; omega) (by decide) fun w2 v2 T2 => ?_
    refine Go.Eng.moreRow et.sl_winnowref16_Trace encRC_len encRC_one T2 (rb ((T2.drop.drop.up2).row encRC_len)) (by simp; omega) (by decide) fun w3 v3 T3 => ?_
    have T4 : St w0 w3 (rowA T.winnowref16_Trace 4 encRC v3 (l.take k ++ [cs[i]] ++ l.drop k) :: coreD p g v cs lv l R) := T3.swap.drop
    have T5 : St w0 w3 (rowA T.winnowref16_Trace 4 encRC v3 (l.take k ++ [cs[i]] ++ l.drop k) :: blkA p (headR16 g v) T.winnowref16_Buffer :: rowA T.winnowref16_Trace 4 encRC v cs :: R) := T4.up3.drop
    exact h w3 v3 _ T5.dn2
  simp only [e1, e2, g0]
  simp (maxSteps := 4000000) [c3, cl, ha, hb, hia]
  refine ⟨⟨by simp [al], by simp [a3], ?_, ?_⟩, by simp [fl], by simp [f3], ?_⟩
  · refine Go.Eng.moreRow et.sl_winnowref16_Trace encRC_len encRC_one S1 (ra (S1.drop.up2.row encRC_len)) (by simp; omega) (by decide) fun w2 v2 T1 => ?_
    rw [List.nil_append] at T1
    obtain ⟨g3, _, gl⟩ := cells T1.drop
    simp only [aggRC] at gl
    exact ⟨by simp [gl], by simp [g3], tail (htr T1).swap⟩
  · refine Go.Eng.moreRow et.sl_winnowref16_Trace encRC_len encRC_one S1x.swap (ra (S1x.drop.drop.up2.row encRC_len)) (by simp; omega) (by decide) fun w2 v2 T1 => ?_
    rw [List.nil_append] at T1
    obtain ⟨g3, _, gl⟩ := cells T1.drop.drop
    simp only [aggRC] at gl
    exact ⟨by simp [gl], by simp [g3], tail T1⟩
  · refine Go.Eng.moreRow et.sl_winnowref16_Trace encRC_len encRC_one Sx1 (ra (Sx1.drop.drop.up2.row encRC_len)) (by simp; omega) (by decide) fun w2 v2 T1 => ?_
    rw [List.nil_append] at T1
    obtain ⟨g3, _, gl⟩ := cells T1.drop.drop
    simp only [aggRC] at gl
    exact ⟨by simp [gl], by simp [g3], tail T1⟩
def dueP (now : Int) (t : RC) : Bool := decide (t.1.due ≤ now)
def DueR (w0 : World) (p : Nat) (g : Cfg) (v : Value) (cs : List RC) (now : Int) (R : List Asn) : KL := fun x w1 => ∃ (u lv : Value) (i : Nat) (l : List RC), x = [u, lv, .int .i64 (i : Nat)] ∧ i ≤ cs.length ∧ l.Pairwise ltD ∧ l.Perm ((cs.take i).filter (dueP now)) ∧ St w0 w1 (coreD p g v cs lv l R)
def OutI (w0 : World) (p : Nat) (g : Cfg) (v : Value) (cs : List RC) (lv : Value) (l : List RC) (R : List Asn) : KL := fun x w1 => ∃ (ov : Value) (i : Nat), x = [ov, .int .i64 (i : Nat)] ∧ i ≤ l.length ∧ St w0 w1 (rowA T.uint64 1 encU ov ((l.take i).map fun t => t.1.id) :: coreD p g v cs lv l R)
theorem rdue_st (S : St w0 w (blkA p (headR16 g v) T.winnowref16_Buffer :: rowA T.winnowref16_Trace 4 encRC v cs :: R)) (hl : cs.length ≤ 1000) (hasc : cs.Pairwise fun a b => a.1.id < b.1.id) (now : Int) {K : KV}
    (h : ∀ w' ov (l : List RC), l.Pairwise ltD → l.Perm (cs.filter (dueP now)) → St w0 w' (rowA T.uint64 1 encU ov (l.map fun t => t.1.id) :: blkA p (headR16 g v) T.winnowref16_Buffer :: rowA T.winnowref16_Trace 4 encRC v cs :: R) → K ov w') :
    fcallT P F.pwinnowref16_Buffer_Due [.pointer (some ⟨p, 0, none⟩), .int .u64 now] w K := by
  rw [M.pwinnowref16_Buffer_Due.fcall]
  apply M.pwinnowref16_Buffer_Due.calls
  unfold M.pwinnowref16_Buffer_Due
  simp
  have S0 : St w0 w (coreD p g v cs (.slice none 0 0) [] R) := (Eng.nilRow S).dn2
  refine ⟨DueR w0 p g v cs now R, fun x _ => cs.length - ms x 2, ⟨_, _, 0, [], rfl, Nat.zero_le _, .nil, by simp, S0⟩, ?_⟩
  rintro x w1 ⟨u, lv, i, l, rfl, hi, hsrt, hperm, S1⟩
  have hll : l.length ≤ 1000 := by
    have h1 := hperm.length_eq
    have h2 : ((cs.take i).filter (dueP now)).length ≤ (cs.take i).length := List.length_filter_le _ _
    simp only [List.length_take] at h2
    omega
  obtain ⟨_, _, _, c3, _⟩ := rb_cells S1.blk
  have hlen := fun w' K => rb_len S1.swap w' K
  have hlenl := fun w' K => rb_len S1.up2 w' K
  unfold M.pwinnowref16_Buffer_Due.j1
  have hw : IntKind.i64.wrap ((i : Int) + 1) = ((i + 1 : Nat) : Int) := by rw [wrap_id (by omega) (by omega)]; omega
  by_cases hil : i < cs.length
  · have hili : (i : Int) < (cs.length : Int) := by omega
    obtain ⟨b, cap, hv⟩ := rb_row S1.swap hil
    have hia : ∀ w' K, iaT P T.sl_winnowref16_Trace v (.int .i64 (i : Nat)) w' K = K (.pointer (some ⟨b, i * 4, none⟩)) w' := fun w' K => by rw [hv]; simp [hil]
    obtain ⟨_, c1, _⟩ := coreD_cells hil hv S1
    simp [c3, hlen, hil]
    unfold M.pwinnowref16_Buffer_Due.j2
    simp [c3, hia, c1]
    have htk : (cs.take (i + 1)).filter (dueP now) = (cs.take i).filter (dueP now) ++ (if cs[i].1.due ≤ now then [cs[i]] else []) := by
      rw [List.take_succ_eq_append_getElem hil, List.filter_append]
      congr 1
      unfold dueP
      split <;> rename_i hh <;> simp [hh]
    by_cases hd : now < cs[i].1.due
    · simp [hd]
      rw [hw]
      rw [if_neg (by omega), List.append_nil] at htk
      exact ⟨⟨_, lv, i + 1, l, rfl, hil, hsrt, by rw [htk]; exact hperm, S1⟩, by simp [ms, gv]; omega⟩
    · simp [hd, hlenl]
      rw [if_pos (by omega)] at htk
      refine ⟨InD w1 l cs[i].1.due, fun x _ => ms x 0, ⟨l.length, rfl, Fr.refl _ _, Nat.le_refl _, fun j hj hk => by omega⟩, ?_⟩
      rintro x w2 ⟨k, rfl, f2, hk, hz⟩
      have S2 := S1.step f2
      obtain ⟨d3, d1, _⟩ := coreD_cells hil hv S2
      have g0 : gv [Value.int .i64 (k : Nat)] 0 = .int .i64 (k : Nat) := rfl
      have done : ∀ {w3 : World}, St w0 w3 (coreD p g v cs lv l R) → (k = 0 ∨ ∃ h : k - 1 < l.length, l[k - 1].1.due ≤ cs[i].1.due) → M.pwinnowref16_Buffer_Due.j5 [u, lv, .int .i64 (i : Nat)] [.int .i64 (k : Nat)] (.pointer (some ⟨p, 0, none⟩)) (fun x3 w => DueR w0 p g v cs now R [gv x3 0, gv x3 1, .int .i64 ((i + 1 : Nat) : Int)] w ∧ cs.length - ms [gv x3 0, gv x3 1, .int .i64 ((i + 1 : Nat) : Int)] 2 < cs.length - ms [u, lv, .int .i64 (i : Nat)] 2) w3 K := fun {w3} S3 hlast => by
        refine dins_st hil hk hl hll S3 rfl rfl fun w4 v4 y S4 => ⟨⟨y, v4, i + 1, _, rfl, hil, ?_, ?_, S4⟩, by simp [ms, gv]; omega⟩
        · refine ins_sorted hk hsrt (fun x hx => ?_) hlast hz
          have hx2 := (List.mem_filter.1 (hperm.mem_iff.1 hx)).1
          obtain ⟨j, hj, rfl⟩ := List.getElem_of_mem hx2
          simp only [List.length_take] at hj
          rw [List.getElem_take]
          exact List.pairwise_iff_getElem.1 hasc j i (by omega) hil (by omega)
        · rw [htk]
          refine List.Perm.trans ?_ (List.Perm.append_right _ hperm)
          have : l = l.take k ++ l.drop k := (List.take_append_drop k l).symm
          conv => rhs; rw [this]
          rw [List.append_assoc, List.append_assoc]
          exact List.Perm.append_left _ List.perm_append_comm
      unfold M.pwinnowref16_Buffer_Due.j6
      by_cases hk0 : 0 < k
      · have hk0i : (0 : Int) < (k : Int) := by omega
        have hk1 : k - 1 < l.length := by omega
        have hw1 : IntKind.i64.wrap ((k : Int) - 1) = ((k - 1 : Nat) : Int) := by rw [wrap_id (by omega) (by omega)]; omega
        obtain ⟨b4, o4, hib, _, q1, _⟩ := rb_at S2.up2 hk1
        simp [hk0, hw1, hib, q1, d3, hia, d1]
        by_cases hgt : cs[i].1.due < l[k - 1].1.due
        · simp [hgt]
          refine ⟨⟨k - 1, rfl, f2.dr 1, by omega, fun j hj hkj => ?_⟩, by simp [ms, gv]; omega⟩
          by_cases e : j = k - 1
          · subst e; exact hgt
          · exact hz j hj (by omega)
        · simp [hgt]
          rw [hw]
          exact done (S2.step ((Fr.refl _ w2).dr 1)) (.inr ⟨hk1, by omega⟩)
      · have hk00 : k = 0 := by omega
        subst hk00
        simp
        rw [hw]
        exact done (S2.step ((Fr.refl _ w2).dr 1)) (.inl rfl)
  · have hili : ¬ (i : Int) < (cs.length : Int) := by omega
    rw [List.take_of_length_le (by omega)] at hperm
    simp [c3, hlen, hil]
    have So : St w0 w1 (rowA T.uint64 1 encU (.slice none 0 0) (((l.take 0).map fun t => t.1.id)) :: coreD p g v cs lv l R) := Eng.nilRow S1
    refine ⟨OutI w0 p g v cs lv l R, fun x _ => l.length - ms x 1, ⟨_, 0, rfl, Nat.zero_le _, So⟩, ?_⟩
    rintro x w2 ⟨ov, j, rfl, hj, S2⟩
    unfold M.pwinnowref16_Buffer_Due.j10
    have hlenl2 := fun w' K => rb_len S2.up3 w' K
    by_cases hjl : j < l.length
    · have hjli : (j : Int) < (l.length : Int) := by omega
      obtain ⟨b4, o4, hib, q0, _⟩ := rb_at S2.up3 hjl
      have hwj : IntKind.i64.wrap ((j : Int) + 1) = ((j + 1 : Nat) : Int) := by rw [wrap_id (by omega) (by omega)]; omega
      simp [hlenl2, hjl]
      unfold M.pwinnowref16_Buffer_Due.j11
      simp [hib, q0]
      have S3 : St w0 (w2.alloc (.cells #[.int .u64 l[j].1.id] T.uint64)) (rowA T.uint64 1 encU (.slice (some ⟨w2.heap.size, 0, none⟩) 1 1) [l[j].1.id] :: _) := St.newRow (l := [l[j].1.id]) S2 encU_len rfl (by simp [maxLen])
      refine Go.Eng.moreRow et.sl_uint64 encU_len encU_one S3.swap (S3.row encU_len) (by simp; omega) (by decide) fun w3 v3 S4 => ?_
      try simp
      rw [hwj]
      have e : ((l.take j).map fun t => t.1.id) ++ [l[j].1.id] = (l.take (j + 1)).map fun t => t.1.id := by rw [List.take_succ_eq_append_getElem hjl, List.map_append]; rfl
      rw [e] at S4
      exact ⟨⟨v3, j + 1, rfl, hjl, S4.swap.drop⟩, by simp [ms, gv]; omega⟩
    · have hjli : ¬ (j : Int) < (l.length : Int) := by omega
      rw [List.take_of_length_le (by omega)] at S2
      simp [hlenl2, hjl]
      exact h w2 ov l hsrt hperm S2.up3.drop
end
end Go.Proofs.Ytkjhekflgghbdaa
set_option maxRecDepth 100000
namespace Go.Proofs.Ytkjhekflgghbdaa
open Go.Eng
theorem cset_keys_in {c : CT} (hn : (ckeys c).Nodup) {k : Int} (hk : k ∈ ckeys c) (a : Int) : (ckeys (cset c k a)).Perm (ckeys c) := by
  have e : ckeys (cset c k a) = k :: (ckeys c).erase k := by
    rw [List.Nodup.erase_eq_filter hn]
    unfold cset cdel ckeys
    rw [List.map_cons, List.filter_map]
    congr 2
  rw [e]
  exact (List.perm_cons_erase hk).symm
section
variable {w0 w : World} {hb : Nat} {g : Cfg} {A : List AE} {c : CT} {R : List Asn}
theorem take2_st (S : St w0 w (bufA hb g A c :: R)) (hA : A.length ≤ 1000) (k : Int) {K : KV}
    (h0 : (∀ e ∈ A, e.t ≠ k) → K (.slice none 0 0) w)
    (h1 : ∀ e ∈ A, e.t = k → ∀ w' v, St w0 w' (rdA 8 encS v e.l :: bufA hb g (without A k) (cdel c k) :: R) → K v w') : fcallT P F.pbuffer_Buffer_Take [.pointer (some ⟨hb, 0, none⟩), .int .u64 k] w K := by
  obtain ⟨B, I, hB, cl⟩ := S.open
  have I' : Buf w hb g B A c := I
  rw [M.pbuffer_Buffer_Take.fcall]
  refine take_ok I' hA k h0 fun e he het w' v B' hI hs hn hsub hf => h1 e he het w' v (cl w' [rdA 8 encS v e.l, bufA hb g _ _] hf ⟨fun x => v.ownBlock = some x, ⟨hs, fun b hb => hb⟩, fun b hb => .inl (hn b hb).2.2, B', hI, fun b hb => ⟨.inl (hsub b hb), fun hv => (hn b hv).2.1 hb⟩, trivial⟩)
theorem delay_st (S : St w0 w (bufA hb g A c :: R)) (hA : A.length ≤ 1000) {k t : Int} {e : AE} (he : e ∈ A) (het : e.t = k) {K : KV} (h : ∀ w', St w0 w' (bufA hb g A (cset c k t) :: R) → K (.bool true) w') : fcallT P F.pbuffer_Buffer_Delay [.pointer (some ⟨hb, 0, none⟩), .int .u64 k, .int .u64 t] w K := by
  obtain ⟨B, I, hBB, cl⟩ := S.open
  obtain ⟨⟨O, r, m, es, hAe, J, hB⟩, hlt⟩ := (I : Buf w hb g B A c)
  rw [M.pbuffer_Buffer_Delay.fcall]
  apply M.pbuffer_Buffer_Delay.calls
  unfold M.pbuffer_Buffer_Delay
  simp only [joinT_eq]
  obtain ⟨_, _, _, q5⟩ := J.cells
  simp [q5]
  rw [lu_eq mt.map_uint64_p_buffer_entry J.mp]
  rw [hAe] at he
  obtain ⟨e', he', rfl⟩ := List.mem_map.1 he
  have hg := J.mg e' he'
  have het' : e'.t = k := het
  rw [het'] at hg
  rw [hg]
  have e1 : e'.ptr = .pointer (some ⟨e'.p, 0, none⟩) := rfl
  simp [e1]
  have hcl : c.length = es.length := by
    have := J.ck.length_eq
    simpa [ckeys] using this
  have hAl : A.length = es.length := by rw [hAe, List.length_map]
  rw [M.ptimers_Heap_Set.fcall]
  refine @set_ok (bufE g r) _ _ _ _ J.hp (by omega) _ _ _ fun w5 O5 H5 f5 p5 => ?_
  have f5' : Fr O w w5 := ⟨f5.size, f5.keep, f5.tape, f5.os, f5.output⟩
  have hkt : k ∈ ckeys c := J.ck.mem_iff.2 (by rw [← het']; exact List.mem_map_of_mem he')
  have hnd : (ckeys c).Nodup := @Hp.nd (bufE g r) _ _ _ _ J.hp
  have hck : (ckeys (cset c k t)).Perm (es.map Ent.t) := (cset_keys_in hnd hkt t).trans J.ck
  have J5 := J.heap f5' H5 p5 hck
  refine h w5 (cl w5 [bufA hb g A (cset c k t)] (f5'.mono fun b _ hb => hB b (.inl hb)) (Rs.one (B := fun b => fpB O5 r es b) ⟨⟨O5, r, m, es, hAe, J5, fun b hb => hb⟩, fun b hb => J5.lt hb⟩ fun b hb => ?_))
  rcases hb with hb | hb
  · rcases p5 b hb with hb | hb
    · exact .inl (hB b (.inl hb))
    · exact .inr ⟨hb, J5.lt (.inl (by assumption))⟩
  · exact .inl (hB b (.inr hb))
theorem due_st (S : St w0 w (bufA hb g A c :: R)) (hA : A.length ≤ 1000) (now : Int) {K : KV} (h : ∀ w' v, St w0 w' (rdA 1 encU v (cdue c now) :: bufA hb g A c :: R) → K v w') : fcallT P F.pbuffer_Buffer_Due [.pointer (some ⟨hb, 0, none⟩), .int .u64 now] w K := by
  obtain ⟨B, I, hBB, cl⟩ := S.open
  rw [M.pbuffer_Buffer_Due.fcall]
  refine due_ok (I : Buf w hb g B A c) hA now fun w' v B' hI ho hn hf hs => ?_
  have ow := owU_of_row ho
  refine h w' v (cl w' [rdA 1 encU v (cdue c now), bufA hb g A c] hf ⟨fun x => v.ownBlock = some x, ⟨ow.sl encU_len, fun b hb => hb⟩, fun b hb => .inr (ow.lt hb), B', hI, fun b hb => ⟨?_, fun hv => hn b hv hb⟩, trivial⟩)
  rcases hs b hb with h1 | h1
  · exact .inl h1
  · exact .inr ⟨h1, hI.lt b hb⟩
end
end Go.Proofs.Ytkjhekflgghbdaa
set_option maxRecDepth 100000
namespace Go.Proofs.Ytkjhekflgghbdaa.Suint64
open Go.Eng Go.Sort

/-- A row in block g, whose first cells are these. -/
def Rw (w : World) (g : Nat) (e : TypeId) (cap : Nat) (d : Array Int) : Prop := ∃ cur : Array Value, w.heap[g]? = some (.cells cur e (0, 0)) ∧ cur.size = cap ∧ d.size ≤ cap ∧ ∀ j, j < d.size → cur[j]? = some (.int .u64 d[j]!)
section
variable {w w' : World} {g cap : Nat} {e : TypeId} {d : Array Int} {S : Nat → Prop}
theorem Rw.at (h : Rw w g e cap d) {j : Nat} (hj : j < d.size) : cellOf w g j = some (.int .u64 d[j]!) := by
  obtain ⟨cur, h1, _, _, h4⟩ := h
  rw [cellOf_of h1]; exact h4 j hj
theorem Rw.frz (h : Rw w g e cap d) (j : Nat) : frzOf w g j = false := by
  obtain ⟨cur, h1, _⟩ := h
  exact frzOf_of h1 j
theorem Rw.lt (h : Rw w g e cap d) : g < w.heap.size := by
  obtain ⟨cur, h1, _⟩ := h
  exact heap_lt h1
theorem Rw.heap (h : Rw w g e cap d) (he : w'.heap[g]? = w.heap[g]?) : Rw w' g e cap d := by
  obtain ⟨cur, h1, h2⟩ := h
  exact ⟨cur, he.trans h1, h2⟩
theorem Rw.fr (h : Rw w g e cap d) (hf : Fr S w w') (hn : ¬ S g) : Rw w' g e cap d := h.heap (hf.keep g h.lt hn)
theorem getSet (d : Array Int) {i : Nat} (hi : i < d.size) (x : Int) (j : Nat) : (d.setIfInBounds i x)[j]! = if i = j then x else d[j]! := by
  by_cases h : i = j
  · subst h; simp [hi]
  · simp [h, getElem!_def, Array.getElem?_setIfInBounds]
theorem Rw.set (h : Rw w g e cap d) {i : Nat} (hi : i < d.size) (x : Int) : Rw (w.setCell ⟨g, i, none⟩ (.int .u64 x)) g e cap (d.setIfInBounds i x) := by
  obtain ⟨cur, h1, h2, h3, h4⟩ := h
  refine ⟨cur.setIfInBounds i (.int .u64 x), setCell_at h1, by simpa using h2, by simpa using h3, fun j hj => ?_⟩
  have hj' : j < d.size := by simpa using hj
  rw [getSet d hi, Array.getElem?_setIfInBounds]
  by_cases hij : i = j
  · subst hij; simp [h2]; omega
  · rw [if_neg hij, if_neg hij]; exact h4 j hj'
theorem Rw.swp (h : Rw w g e cap d) {i j : Nat} (hi : i < d.size) (hj : j < d.size) : Rw ((w.setCell ⟨g, i, none⟩ (.int .u64 d[j]!)).setCell ⟨g, j, none⟩ (.int .u64 d[i]!)) g e cap (Sort.swp d i j) := by
  have := (h.set hi d[j]!).set (i := j) (by simpa using hj) d[i]!
  exact this
theorem Rw.dr (h : Rw w g e cap d) (n : Nat) : Rw (Eng.dr w n) g e cap d := h.heap rfl
/-- Behind a step that turns the row alone. -/
structure Rf (w w' : World) (g : Nat) (e : TypeId) (cap : Nat) (d : Array Int) : Prop where
  row : Rw w' g e cap d
  fr : Fr (fun b => b = g) w w'
theorem Rw.self (h : Rw w g e cap d) : Rf w w g e cap d := ⟨h, Fr.refl _ _⟩
theorem Rf.dr (h : Rf w w' g e cap d) (n : Nat) : Rf w (Eng.dr w' n) g e cap d := ⟨h.row.dr n, h.fr.dr n⟩
theorem Rf.swp (h : Rf w w' g e cap d) {i j : Nat} (hi : i < d.size) (hj : j < d.size) : Rf w ((w'.setCell ⟨g, i, none⟩ (.int .u64 d[j]!)).setCell ⟨g, j, none⟩ (.int .u64 d[i]!)) g e cap (Sort.swp d i j) :=
  ⟨h.row.swp hi hj, (h.fr.setCell (.inl rfl) _ _).setCell (.inl rfl) _ _⟩
theorem Rf.trans {w'' : World} {d' : Array Int} (h : Rf w w' g e cap d) (h' : Rf w' w'' g e cap d') : Rf w w'' g e cap d' := ⟨h'.row, h.fr.trans h'.fr⟩
end

theorem less_ok {w : World} (x y : Int) {K : KV} (h : K (.bool (ltInt x y)) w) : fcallT P F.cmp_Less_uint64 [.int .u64 x, .int .u64 y] w K := by
  have nan : ∀ (z : Int) {K : KV}, K (.bool false) w → fcallT P F.cmp_isNaN_uint64 [.int .u64 z] w K := fun z K hK => by
    rw [M.cmp_isNaN_uint64.fcall]
    apply M.cmp_isNaN_uint64.calls
    unfold M.cmp_isNaN_uint64
    simp
    exact hK
  rw [M.cmp_Less_uint64.fcall]
  apply M.cmp_Less_uint64.calls
  unfold M.cmp_Less_uint64
  refine nan x ?_
  simp
  exact h

theorem wrapN {x : Nat} (h : x < 1000000) : IntKind.i64.wrap (x : Int) = x := wrap_id (by omega) (by omega)
theorem wrap1 {x : Nat} (h : x < 1000000) : IntKind.i64.wrap ((x : Int) + 1) = ((x + 1 : Nat) : Int) := by rw [wrap_id (by omega) (by omega)]; rfl
theorem wrapS {x y : Nat} (h : y ≤ x) (hx : x < 1000000) : IntKind.i64.wrap ((x : Int) - y) = ((x - y : Nat) : Int) := by rw [wrap_id (by omega) (by omega)]; omega

def InI (w : World) (g : Nat) (e : TypeId) (cap n a : Nat) (R : Array Int) : KL := fun x w1 => ∃ (j : Nat) (d : Array Int), x = [.int .i64 (j : Int)] ∧ Rf w w1 g e cap d ∧ d.size = n ∧ j < n ∧ insInner ltInt a j d = R
def InO (w : World) (g : Nat) (e : TypeId) (cap n a b : Nat) (R : Array Int) : KL := fun x w1 => ∃ (u : Value) (i : Nat) (d : Array Int), x = [u, .int .i64 (i : Int)] ∧ Rf w w1 g e cap d ∧ d.size = n ∧ insOuter ltInt a b i d = R
theorem size_insInner (a : Nat) : ∀ (j : Nat) (d : Array Int), (insInner ltInt a j d).size = d.size
  | 0, _ => rfl
  | j + 1, d => by
    unfold insInner
    split
    · rw [size_insInner a j, size_swp]
    · rfl
theorem insertion_ok {w : World} {g cap n : Nat} {e : TypeId} {d : Array Int} (H : Rw w g e cap d) (hn : d.size = n) (h6 : n < 100000) {a b : Nat} (hb : b ≤ n) (ha : a ≤ n) {K : KV}
    (h : ∀ w', Rf w w' g e cap (insertionSort ltInt d a b) → K (.tuple #[]) w') : callT P F.slices_insertionSortOrdered_uint64 [.slice (some ⟨g, 0, none⟩) n cap, .int .i64 a, .int .i64 b] w K := by
  apply M.slices_insertionSortOrdered_uint64.calls
  unfold M.slices_insertionSortOrdered_uint64
  simp only [bin_add, wrap1 (show a < 1000000 by omega)]
  refine ⟨InO w g e cap n a b (insertionSort ltInt d a b), fun x _ => b - ms x 1, ⟨_, a + 1, d, rfl, H.self, hn, rfl⟩, ?_⟩
  rintro x w1 ⟨u, i, d1, rfl, H1, hn1, hR⟩
  have g1 : ∀ u v : Value, gv [u, v] 1 = v := fun _ _ => rfl
  have g0 : ∀ u : Value, gv [u] 0 = u := fun _ => rfl
  unfold M.slices_insertionSortOrdered_uint64.j0
  simp only [joinT_eq, g1]
  unfold insOuter at hR
  by_cases hi : i < b
  · simp [hi] at hR ⊢
    generalize hT : insInner ltInt a i d1 = T at *
    refine ⟨InI w g e cap n a T, fun x _ => ms x 0, ⟨i, d1, rfl, H1, hn1, by omega, hT⟩, ?_⟩
    rintro x w2 ⟨j, d2, rfl, H2, hn2, hj, hR2⟩
    have done : d2 = T → ∀ v w2, Rf w w2 g e cap d2 → InO w g e cap n a b (insertionSort ltInt d a b) [v, .int .i64 (IntKind.i64.wrap ((i : Int) + 1))] w2 ∧ b - ms [v, .int .i64 (IntKind.i64.wrap ((i : Int) + 1))] 1 < b - ms [u, .int .i64 (i : Int)] 1 := by
      intro hd v w2 H2
      rw [wrap1 (by omega)]
      refine ⟨⟨v, i + 1, d2, rfl, H2, hn2, by rw [hd]; exact hR⟩, ?_⟩
      simp [ms, gv]; omega
    unfold M.slices_insertionSortOrdered_uint64.j3
    simp only [joinT_eq, g0]
    cases j with
    | zero =>
      simp [insInner] at hR2
      have := done hR2 (.int .i64 0) _ (H2.dr 1)
      have hz : ¬ (a : Int) < 0 := by omega
      simp [hz]
      simpa using this
    | succ j =>
      unfold insInner at hR2
      have hw := wrapN (show j < 1000000 by omega)
      by_cases hja : a < j + 1
      · have hja' : (a : Int) < (j : Int) + 1 := by omega
        have c1 := H2.row.at (show j + 1 < d2.size by omega)
        have c0 := H2.row.at (show j < d2.size by omega)
        have hjn : (j : Int) < n := by omega
        have hjn' : (j : Int) + 1 < n := by omega
        have z1 : (0 : Int) ≤ (j : Int) + 1 := by omega
        simp [hja, hja', hw, c0, c1, hjn, hjn', z1] at hR2 ⊢
        refine less_ok _ _ ?_
        cases hl : ltInt d2[j + 1]! d2[j]! with
        | true =>
          simp [hl] at hR2 ⊢
          unfold M.slices_insertionSortOrdered_uint64.j4
          have f1 := H2.row.frz (j + 1)
          have f0 := H2.row.frz j
          simp [hw, c0, c1, hjn, hjn', z1, f0, f1, cellOf_setCell, frzOf_setCell]
          refine ⟨⟨j, _, rfl, ((H2.dr 1).dr 1).swp (by omega) (by omega), by rw [size_swp]; exact hn2, by omega, hR2⟩, ?_⟩
          simp [ms, gv]
        | false =>
          simp [hl] at hR2 ⊢
          have := done hR2 (.int .i64 ((j : Int) + 1)) _ (H2.dr 1)
          simpa using this
      · have hja' : ¬ (a : Int) < (j : Int) + 1 := by omega
        simp [hja, hja'] at hR2 ⊢
        have := done hR2 (.int .i64 ((j : Int) + 1)) _ (H2.dr 1)
        simpa using this
  · simp [hi] at hR ⊢
    subst hR
    exact h w1 H1
end Go.Proofs.Ytkjhekflgghbdaa.Suint64
set_option maxRecDepth 100000
namespace Go.Proofs.Ytkjhekflgghbdaa.Suint64
open Go.Eng Go.Sort

theorem size_siftDown (hi first : Nat) : ∀ (n root : Nat) (d : Array Int), hi - root ≤ n → (siftDown ltInt hi first root d).size = d.size
  | 0, root, d, h => by
    unfold siftDown
    rw [dif_pos (by omega)]
  | n + 1, root, d, h => by
    unfold siftDown
    split
    · rfl
    split
    · split
      · rfl
      split
      · rw [size_siftDown hi first n _ _ (by omega), size_swp]
      · rfl
    · split
      · rfl
      · rw [size_siftDown hi first n _ _ (by omega), size_swp]

def SfI (w : World) (g : Nat) (e : TypeId) (cap n hi first : Nat) (R : Array Int) : KL := fun x w1 => ∃ (u : Value) (root : Nat) (d : Array Int), x = [u, .int .i64 (root : Int)] ∧ Rf w w1 g e cap d ∧ d.size = n ∧ root ≤ hi ∧ siftDown ltInt hi first root d = R
theorem sift_ok {w : World} {g cap n : Nat} {e : TypeId} {d : Array Int} (H : Rw w g e cap d) (hn : d.size = n) (h6 : n < 100000) {lo hi first : Nat} (hb : first + hi ≤ n) (hlo : lo ≤ hi) {K : KV}
    (h : ∀ w', Rf w w' g e cap (siftDown ltInt hi first lo d) → K (.tuple #[]) w') : callT P F.slices_siftDownOrdered_uint64 [.slice (some ⟨g, 0, none⟩) n cap, .int .i64 lo, .int .i64 hi, .int .i64 first] w K := by
  apply M.slices_siftDownOrdered_uint64.calls
  unfold M.slices_siftDownOrdered_uint64
  generalize hR0 : siftDown ltInt hi first lo d = R0 at *
  refine ⟨SfI w g e cap n hi first R0, fun x _ => hi - ms x 1, ⟨_, lo, d, rfl, H.self, hn, hlo, hR0⟩, ?_⟩
  clear hR0
  rintro x w1 ⟨u, root, d1, rfl, H1, hn1, hro, hR⟩
  have g1 : ∀ u v : Value, gv [u, v] 1 = v := fun _ _ => rfl
  have g0 : ∀ u : Value, gv [u] 0 = u := fun _ => rfl
  have w2 : IntKind.i64.wrap (2 * (root : Int)) = ((2 * root : Nat) : Int) := by rw [wrap_id (by omega) (by omega)]; omega
  have w3 : IntKind.i64.wrap (((2 * root : Nat) : Int) + 1) = ((2 * root + 1 : Nat) : Int) := wrap1 (by omega)
  have w4 : IntKind.i64.wrap (((2 * root + 1 : Nat) : Int) + 1) = ((2 * root + 2 : Nat) : Int) := wrap1 (by omega)
  unfold M.slices_siftDownOrdered_uint64.j0
  simp only [joinT_eq, g1, bin_mul, bin_add, bin_geq, w2, w3]
  unfold siftDown at hR
  by_cases h0 : 2 * root + 1 ≥ hi
  · have h0' : (hi : Int) ≤ ((2 * root + 1 : Nat) : Int) := by omega
    rw [dif_pos h0] at hR
    subst hR
    simp only [h0', decide_true, Eng.cond_true]
    exact h w1 H1
  rw [dif_neg h0] at hR
  have h0' : ¬ (hi : Int) ≤ ((2 * root + 1 : Nat) : Int) := by omega
  simp only [h0', decide_false, Eng.cond_false]
  unfold M.slices_siftDownOrdered_uint64.j1
  have wf : ∀ k : Nat, k < hi → IntKind.i64.wrap ((first : Int) + (k : Int)) = ((first + k : Nat) : Int) := fun k hk => by rw [wrap_id (by omega) (by omega)]; omega
  -- behind the choice of the child
  have tail : ∀ (c : Nat) (w2 : World), Rf w w2 g e cap d1 → c < hi → root < c → (if !ltInt d1[first + root]! d1[first + c]! then d1 else siftDown ltInt hi first c (Sort.swp d1 (first + root) (first + c))) = R0 →
      M.slices_siftDownOrdered_uint64.j2 (.int .i64 first) [u, .int .i64 root] (.slice (some ⟨g, 0, none⟩) n cap) [.int .i64 c] (fun x' w' => SfI w g e cap n hi first R0 x' w' ∧ hi - ms x' 1 < hi - ms [u, .int .i64 (root : Int)] 1) w2 K := by
    intro c w2 H2 hc hrc hR
    unfold M.slices_siftDownOrdered_uint64.j2
    have a1 := H2.row.at (show first + root < d1.size by omega)
    have a2 := H2.row.at (show first + c < d1.size by omega)
    have b1 : ((first + root : Nat) : Int) < n := by omega
    have b2 : ((first + c : Nat) : Int) < n := by omega
    have wr := wf root (by omega)
    have wc := wf c hc
    simp only [joinT_eq, drawT_eq, quietT_eq, g1, g0, bin_add, wr, wc, true_and, and_true]
    simp [b1, b2, a1, a2, -Int.natCast_add]
    refine less_ok _ _ ?_
    cases hl : ltInt d1[first + root]! d1[first + c]! with
    | false =>
      simp [hl] at hR ⊢
      subst hR
      exact h _ (H2.dr 1)
    | true =>
      simp [hl] at hR ⊢
      unfold M.slices_siftDownOrdered_uint64.j3
      have f1 := H2.row.frz (first + root)
      have f2 := H2.row.frz (first + c)
      simp only [joinT_eq, drawT_eq, quietT_eq, stabT_eq, g1, g0, bin_add, wr, wc, true_and, and_true]
      simp [b1, b2, a1, a2, f1, f2, cellOf_setCell, frzOf_setCell, -Int.natCast_add]
      refine ⟨⟨_, c, _, rfl, ((H2.dr 1).dr 1).swp (by omega) (by omega), by rw [size_swp]; exact hn1, by omega, hR⟩, ?_⟩
      simp [ms, gv]; omega
  have v1 : IntKind.i64.wrap ((first : Int) + ((2 * root + 1 : Nat) : Int)) = ((first + (2 * root + 1) : Nat) : Int) := wf _ (by omega)
  simp only [joinT_eq, drawT_eq, quietT_eq, bin_add, bin_lss, w4, true_and, and_true, isB_bool]
  by_cases h1 : 2 * root + 1 + 1 < hi
  · have h1' : ((2 * root + 2 : Nat) : Int) < hi := by omega
    have v2 : IntKind.i64.wrap (((first + (2 * root + 1) : Nat) : Int) + 1) = ((first + (2 * root + 2) : Nat) : Int) := by rw [wrap_id (by omega) (by omega)]; omega
    have a1 := H1.row.at (show first + (2 * root + 1) < d1.size by omega)
    have a2 := H1.row.at (show first + (2 * root + 2) < d1.size by omega)
    have b1 : ((first + (2 * root + 1) : Nat) : Int) < n := by omega
    have b2 : ((first + (2 * root + 2) : Nat) : Int) < n := by omega
    have e2 : first + (2 * root + 1) + 1 = first + (2 * root + 2) := by omega
    simp only [h1', decide_true, beq_self_eq_true, guard_true, bin_add, v1, v2]
    simp [b1, b2, a1, a2, -Int.natCast_add]
    refine less_ok _ _ ?_
    rw [e2] at hR
    cases hl : ltInt d1[first + (2 * root + 1)]! d1[first + (2 * root + 2)]! with
    | true =>
      simp only [h1, hl, decide_true, Bool.and_self, if_true] at hR
      have hx : 2 * root + 2 < hi := by omega
      simp only [hx, dif_pos] at hR
      simp [-Int.natCast_add]
      exact tail (2 * root + 2) _ (H1.dr 1) (by omega) (by omega) hR
    | false =>
      simp only [hl, Bool.and_false, Bool.false_eq_true, if_false] at hR
      simp [-Int.natCast_add]
      exact tail (2 * root + 1) _ (H1.dr 1) (by omega) (by omega) hR
  · have h1' : ¬ ((2 * root + 2 : Nat) : Int) < hi := by omega
    simp only [h1, decide_false, Bool.false_and, Bool.false_eq_true, if_false] at hR
    simp only [h1', decide_false]
    simp [-Int.natCast_add]
    exact tail (2 * root + 1) _ (H1.dr 1) (by omega) (by omega) hR

theorem size_heapBuild (hi first : Nat) : ∀ (k : Nat) (d : Array Int), (heapBuild ltInt hi first k d).size = d.size
  | 0, _ => rfl
  | k + 1, d => by unfold heapBuild; rw [size_heapBuild hi first k, size_siftDown _ _ _ _ _ (Nat.le_refl _)]
theorem size_heapPop (first : Nat) : ∀ (k : Nat) (d : Array Int), (heapPop ltInt first k d).size = d.size
  | 0, _ => rfl
  | k + 1, d => by unfold heapPop; rw [size_heapPop first k, size_siftDown _ _ _ _ _ (Nat.le_refl _), size_swp]
def HbI (w : World) (g : Nat) (e : TypeId) (cap n hi first : Nat) (R : Array Int) : KL := fun x w1 => ∃ (k : Nat) (d : Array Int), x = [.int .i64 ((k : Int) - 1)] ∧ Rf w w1 g e cap d ∧ d.size = n ∧ k ≤ hi + 1 ∧ (k ≤ hi ∨ hi = 0) ∧ heapBuild ltInt hi first k d = R
def HpI (w : World) (g : Nat) (e : TypeId) (cap n hi first : Nat) (R : Array Int) : KL := fun x w1 => ∃ (k : Nat) (d : Array Int), x = [.int .i64 ((k : Int) - 1)] ∧ Rf w w1 g e cap d ∧ d.size = n ∧ k ≤ hi ∧ heapPop ltInt first k d = R
def mp (x : List Value) (i : Nat) : Nat := match gv x i with
  | .int _ k => (k + 1).toNat
  | _ => 0
theorem heapSort_ok {w : World} {g cap n : Nat} {e : TypeId} {d : Array Int} (H : Rw w g e cap d) (hn : d.size = n) (h6 : n < 100000) {a b : Nat} (hb : b ≤ n) (hab : a < b) {K : KV}
    (h : ∀ w', Rf w w' g e cap (heapSort ltInt d a b) → K (.tuple #[]) w') : callT P F.slices_heapSortOrdered_uint64 [.slice (some ⟨g, 0, none⟩) n cap, .int .i64 a, .int .i64 b] w K := by
  apply M.slices_heapSortOrdered_uint64.calls
  unfold M.slices_heapSortOrdered_uint64
  have hw0 : IntKind.i64.wrap ((b : Int) - a) = ((b - a : Nat) : Int) := wrapS (by omega) (by omega)
  generalize hhi : b - a = hi at *
  have hw1 : IntKind.i64.wrap ((hi : Int) - 1) = ((hi - 1 : Nat) : Int) := by rw [wrap_id (by omega) (by omega)]; omega
  have hw2 : IntKind.i64.wrap (((hi - 1 : Nat) : Int).tdiv 2) = (((hi - 1) / 2 : Nat) : Int) := by
    rw [Int.tdiv_eq_ediv_of_nonneg (by omega), wrap_id (by omega) (by omega)]; omega
  have hw3 : (((hi - 1) / 2 : Nat) : Int) = (((hi - 1) / 2 + 1 : Nat) : Int) - 1 := by omega
  simp only [bin_sub, hw0, joinT_eq, hw1, bin_quo2, hw2]
  have g0 : ∀ u : Value, gv [u] 0 = u := fun _ => rfl
  generalize hZ : heapBuild ltInt hi a ((hi - 1) / 2 + 1) d = Z
  refine ⟨HbI w g e cap n hi a Z, fun x _ => mp x 0, ⟨(hi - 1) / 2 + 1, d, by rw [hw3], H.self, hn, by omega, by omega, hZ⟩, ?_⟩
  rintro x w1 ⟨k, d1, rfl, H1, hn1, hk, hk2, hR⟩
  unfold M.slices_heapSortOrdered_uint64.j1
  simp only [joinT_eq, g0, bin_geq]
  cases k with
  | succ k =>
    have hk0 : (0 : Int) ≤ ((k + 1 : Nat) : Int) - 1 := by omega
    have hk1 : ((k + 1 : Nat) : Int) - 1 = (k : Int) := by omega
    simp only [hk0, decide_true, Eng.cond_true, hk1]
    rw [M.slices_siftDownOrdered_uint64.fcall]
    refine sift_ok H1.row hn1 h6 (by omega) (by omega) fun w2 H2 => ?_
    have hw4 : IntKind.i64.wrap ((k : Int) - 1) = (k : Int) - 1 := wrap_id (by omega) (by omega)
    simp only [bin_sub, hw4]
    refine ⟨⟨k, _, rfl, H1.trans H2, by rw [size_siftDown _ _ _ _ _ (Nat.le_refl _)]; exact hn1, by omega, by omega, hR⟩, ?_⟩
    simp [mp, gv]
  | zero =>
    have hk0 : ¬ (0 : Int) ≤ ((0 : Nat) : Int) - 1 := by omega
    simp only [hk0, decide_false, Eng.cond_false]
    unfold heapBuild at hR
    unfold M.slices_heapSortOrdered_uint64.j0
    have hw5 : ((hi - 1 : Nat) : Int) = (hi : Int) - 1 := by omega
    simp only [bin_sub, hw1, hw5]
    have hR2 : heapPop ltInt a hi d1 = heapSort ltInt d a b := by
      unfold heapSort
      rw [hhi, hZ, ← hR]
    refine ⟨HpI w g e cap n hi a (heapSort ltInt d a b), fun x _ => mp x 0, ⟨hi, d1, rfl, H1, hn1, Nat.le_refl _, hR2⟩, ?_⟩
    rintro x w2 ⟨k, d2, rfl, H2, hn2, hk, hR3⟩
    simp only [joinT_eq, g0, bin_geq]
    cases k with
    | zero =>
      have hk0 : ¬ (0 : Int) ≤ ((0 : Nat) : Int) - 1 := by omega
      simp only [hk0, decide_false, Eng.cond_false]
      unfold heapPop at hR3
      subst hR3
      exact h w2 H2
    | succ k =>
      have hk0 : (0 : Int) ≤ ((k + 1 : Nat) : Int) - 1 := by omega
      have hk1 : ((k + 1 : Nat) : Int) - 1 = (k : Int) := by omega
      simp only [hk0, decide_true, Eng.cond_true, hk1]
      unfold heapPop at hR3
      unfold M.slices_heapSortOrdered_uint64.j5
      have wr : IntKind.i64.wrap ((a : Int) + (k : Int)) = ((a + k : Nat) : Int) := by rw [wrap_id (by omega) (by omega)]; omega
      have a1 := H2.row.at (show a < d2.size by omega)
      have a2 := H2.row.at (show a + k < d2.size by omega)
      have b1 : (a : Int) < n := by omega
      have b2 : ((a + k : Nat) : Int) < n := by omega
      have f1 := H2.row.frz a
      have f2 := H2.row.frz (a + k)
      have hw4 : IntKind.i64.wrap ((k : Int) - 1) = (k : Int) - 1 := wrap_id (by omega) (by omega)
      simp only [joinT_eq, drawT_eq, quietT_eq, stabT_eq, g0, bin_add, bin_sub, wr, hw4, true_and, and_true]
      simp [b1, b2, a1, a2, f1, f2, cellOf_setCell, frzOf_setCell, -Int.natCast_add]
      have H3 := (H2.dr 1).swp (i := a) (j := a + k) (by omega) (by omega)
      rw [M.slices_siftDownOrdered_uint64.fcall]
      refine sift_ok (lo := 0) H3.row (by rw [size_swp]; exact hn2) h6 (by omega) (by omega) fun w4 H4 => ?_
      refine ⟨⟨k, _, rfl, H3.trans H4, by rw [size_siftDown _ _ _ _ _ (Nat.le_refl _), size_swp]; exact hn2, by omega, hR3⟩, ?_⟩
      simp [mp, gv]
end Go.Proofs.Ytkjhekflgghbdaa.Suint64
set_option maxRecDepth 100000
namespace Go.Proofs.Ytkjhekflgghbdaa.Suint64
open Go.Eng Go.Sort

section
variable {w : World} {g cap n : Nat} {e : TypeId} {d : Array Int}
def UpI (w : World) (g : Nat) (e : TypeId) (cap : Nat) (d : Array Int) (p : Int → Bool) (j r : Nat) : KL := fun x w1 => ∃ i : Nat, x = [.int .i64 (i : Int)] ∧ Rf w w1 g e cap d ∧ i ≤ j + 2 ∧ scanUp p d j i = r
def DnI (w : World) (g : Nat) (e : TypeId) (cap : Nat) (d : Array Int) (p : Int → Bool) (i n r : Nat) : KL := fun x w1 => ∃ j : Nat, x = [.int .i64 (j : Int)] ∧ Rf w w1 g e cap d ∧ j < n ∧ scanDown p d i j = r
theorem scan_up {p : Int → Bool} {i j : Nat} (H : Rw w g e cap d) (hi : i ≤ j + 2) {K0 : KL} {body : KL → KL → KL}
    (hB : ∀ (k : Nat) w1 (Kn : KL), k ≤ j + 2 → Rf w w1 g e cap d → ((k ≤ j ∧ p d[k]! = true) → ∀ w2, Rf w w2 g e cap d → Kn [.int .i64 ((k + 1 : Nat) : Int)] w2) → (¬ (k ≤ j ∧ p d[k]! = true) → ∀ w2, Rf w w2 g e cap d → K0 [.int .i64 (k : Int)] w2) → body K0 Kn [.int .i64 (k : Int)] w1)
    (h : ∀ w', Rf w w' g e cap d → K0 [.int .i64 (scanUp p d j i : Nat)] w') : joinT (fun K0 => loopT [.int .i64 (i : Int)] w (body K0)) K0 := by
  rw [joinT_eq]
  generalize hr : scanUp p d j i = r at *
  refine ⟨UpI w g e cap d p j r, fun x _ => j + 2 - ms x 0, ⟨i, rfl, H.self, hi, hr⟩, ?_⟩
  clear hr
  rintro x w1 ⟨k, rfl, H1, hk, hR⟩
  unfold scanUp at hR
  refine hB k w1 _ hk H1 (fun hc w2 H2 => ?_) fun hc w2 H2 => ?_
  · rw [if_pos (by simpa using hc)] at hR
    refine ⟨⟨k + 1, rfl, H2, by omega, hR⟩, ?_⟩
    simp [ms, gv]; omega
  · rw [if_neg (by simpa using hc)] at hR
    rw [← hR] at h
    exact h w2 H2
theorem scan_down {p : Int → Bool} {i j : Nat} (H : Rw w g e cap d) (hj : j < n) (hi : 1 ≤ i) {K0 : KL} {body : KL → KL → KL}
    (hB : ∀ (k : Nat) w1 (Kn : KL), k < n → Rf w w1 g e cap d → ((i ≤ k ∧ p d[k]! = true) → ∀ w2, Rf w w2 g e cap d → Kn [.int .i64 ((k - 1 : Nat) : Int)] w2) → (¬ (i ≤ k ∧ p d[k]! = true) → ∀ w2, Rf w w2 g e cap d → K0 [.int .i64 (k : Int)] w2) → body K0 Kn [.int .i64 (k : Int)] w1)
    (h : ∀ w', Rf w w' g e cap d → K0 [.int .i64 (scanDown p d i j : Nat)] w') : joinT (fun K0 => loopT [.int .i64 (j : Int)] w (body K0)) K0 := by
  rw [joinT_eq]
  generalize hr : scanDown p d i j = r at *
  refine ⟨DnI w g e cap d p i n r, fun x _ => ms x 0, ⟨j, rfl, H.self, hj, hr⟩, ?_⟩
  clear hr
  rintro x w1 ⟨k, rfl, H1, hk, hR⟩
  refine hB k w1 _ hk H1 (fun hc w2 H2 => ?_) fun hc w2 H2 => ?_
  · cases k with
    | zero => omega
    | succ k =>
      unfold scanDown at hR
      rw [if_pos (by simpa using hc)] at hR
      refine ⟨⟨k, rfl, H2, by omega, hR⟩, ?_⟩
      simp [ms, gv]
  · have : scanDown p d i k = k := by
      cases k with
      | zero => rfl
      | succ k => unfold scanDown; rw [if_neg (by simpa using hc)]
    rw [this] at hR
    rw [← hR] at h
    exact h w2 H2
theorem scanUp_le (p : Int → Bool) (d : Array Int) (j i : Nat) : scanUp p d j i ≤ max i (j + 1) := by
  by_cases h : i ≤ j + 1
  · have := (scanUp_spec p d j _ i rfl).2.1 h
    omega
  · unfold scanUp
    rw [if_neg (by simp; omega)]
    omega
theorem g0 (u : Value) : gv [u] 0 = u := rfl
theorem g20 (u v : Value) : gv [u, v] 0 = u := rfl
theorem g21 (u v : Value) : gv [u, v] 1 = v := rfl
theorem part_j1 {w0 w1 : World} {a k j : Nat} {K0 Kn : KL} {K : KV} (H1 : Rf w0 w1 g e cap d) (hn : d.size = n) (h6 : n < 100000) (ha : a < n) (hj : j < n) (hk : k ≤ j + 2)
    (k1 : (k ≤ j ∧ ltInt d[k]! d[a]! = true) → ∀ w2, Rf w0 w2 g e cap d → Kn [.int .i64 ((k + 1 : Nat) : Int)] w2) (k2 : ¬ (k ≤ j ∧ ltInt d[k]! d[a]! = true) → ∀ w2, Rf w0 w2 g e cap d → K0 [.int .i64 (k : Int)] w2) :
    M.slices_partitionOrdered_uint64.j1 [.int .i64 (k : Int)] (.int .i64 (j : Int)) (.slice (some ⟨g, 0, none⟩) n cap) (.int .i64 (a : Int)) K0 Kn w1 K := by
  unfold M.slices_partitionOrdered_uint64.j1
  by_cases hkj : k ≤ j
  · have a1 := H1.row.at (show k < d.size by omega)
    have a2 := H1.row.at (show a < d.size by omega)
    have b1 : (k : Int) < n := by omega
    have b2 : (a : Int) < n := by omega
    have b3 : (k : Int) ≤ j := by omega
    simp [g0, g21, b1, b2, b3, a1, a2]
    refine less_ok _ _ ?_
    cases hl : ltInt d[k]! d[a]! with
    | true =>
      simp [wrap1 (show k < 1000000 by omega)]
      have := k1 ⟨hkj, hl⟩ _ (H1.dr 1)
      simpa using this
    | false =>
      simp [wrap1 (show k < 1000000 by omega)]
      have := k2 (fun h => by simp [hl] at h) _ (H1.dr 1)
      simpa using this
  · have b3 : ¬ (k : Int) ≤ j := by omega
    simp [g0, g21, b3]
    have := k2 (fun h => hkj h.1) _ (H1.dr 1)
    simpa using this
theorem part_j4 {w0 w1 : World} {a k i : Nat} {K0 Kn : KL} {K : KV} (H1 : Rf w0 w1 g e cap d) (hn : d.size = n) (h6 : n < 100000) (hai : a < n ∧ 1 ≤ i) (hk : k < n)
    (k1 : (i ≤ k ∧ (!ltInt d[k]! d[a]!) = true) → ∀ w2, Rf w0 w2 g e cap d → Kn [.int .i64 ((k - 1 : Nat) : Int)] w2) (k2 : ¬ (i ≤ k ∧ (!ltInt d[k]! d[a]!) = true) → ∀ w2, Rf w0 w2 g e cap d → K0 [.int .i64 (k : Int)] w2) :
    M.slices_partitionOrdered_uint64.j4 [.int .i64 (i : Int)] [.int .i64 (k : Int)] (.slice (some ⟨g, 0, none⟩) n cap) (.int .i64 (a : Int)) K0 Kn w1 K := by
  unfold M.slices_partitionOrdered_uint64.j4
  by_cases hik : i ≤ k
  · have a1 := H1.row.at (show k < d.size by omega)
    have a2 := H1.row.at (show a < d.size by omega)
    have b1 : (k : Int) < n := by omega
    have b2 : (a : Int) < n := by omega
    have b3 : (i : Int) ≤ k := by omega
    have hw : IntKind.i64.wrap ((k : Int) - 1) = ((k - 1 : Nat) : Int) := by rw [wrap_id (by omega) (by omega)]; omega
    simp [g0, b1, b2, b3, a1, a2]
    refine less_ok _ _ ?_
    cases hl : ltInt d[k]! d[a]! with
    | true =>
      simp [hw]
      have := k2 (fun h => by simp [hl] at h) _ (H1.dr 1)
      simpa using this
    | false =>
      simp [hw]
      have := k1 ⟨hik, by simp [hl]⟩ _ (H1.dr 1)
      simpa using this
  · have b3 : ¬ (i : Int) ≤ k := by omega
    simp [g0, b3]
    have := k2 (fun h => hik h.1) _ (H1.dr 1)
    simpa using this
theorem part_j10 {w0 w1 : World} {vi : Value} {a k j : Nat} {K0 Kn : KL} {K : KV} (H1 : Rf w0 w1 g e cap d) (hn : d.size = n) (h6 : n < 100000) (ha : a < n) (hj : j < n) (hk : k ≤ j + 2)
    (k1 : (k ≤ j ∧ ltInt d[k]! d[a]! = true) → ∀ w2, Rf w0 w2 g e cap d → Kn [.int .i64 ((k + 1 : Nat) : Int)] w2) (k2 : ¬ (k ≤ j ∧ ltInt d[k]! d[a]! = true) → ∀ w2, Rf w0 w2 g e cap d → K0 [.int .i64 (k : Int)] w2) :
    M.slices_partitionOrdered_uint64.j10 [.int .i64 (k : Int)] [vi, .int .i64 (j : Int)] (.slice (some ⟨g, 0, none⟩) n cap) (.int .i64 (a : Int)) K0 Kn w1 K := by
  unfold M.slices_partitionOrdered_uint64.j10
  by_cases hkj : k ≤ j
  · have a1 := H1.row.at (show k < d.size by omega)
    have a2 := H1.row.at (show a < d.size by omega)
    have b1 : (k : Int) < n := by omega
    have b2 : (a : Int) < n := by omega
    have b3 : (k : Int) ≤ j := by omega
    simp [g0, g21, b1, b2, b3, a1, a2]
    refine less_ok _ _ ?_
    cases hl : ltInt d[k]! d[a]! with
    | true =>
      simp [wrap1 (show k < 1000000 by omega)]
      have := k1 ⟨hkj, hl⟩ _ (H1.dr 1)
      simpa using this
    | false =>
      simp [wrap1 (show k < 1000000 by omega)]
      have := k2 (fun h => by simp [hl] at h) _ (H1.dr 1)
      simpa using this
  · have b3 : ¬ (k : Int) ≤ j := by omega
    simp [g0, g21, b3]
    have := k2 (fun h => hkj h.1) _ (H1.dr 1)
    simpa using this
theorem part_j13 {w0 w1 : World} {a k i : Nat} {K0 Kn : KL} {K : KV} (H1 : Rf w0 w1 g e cap d) (hn : d.size = n) (h6 : n < 100000) (hai : a < n ∧ 1 ≤ i) (hk : k < n)
    (k1 : (i ≤ k ∧ (!ltInt d[k]! d[a]!) = true) → ∀ w2, Rf w0 w2 g e cap d → Kn [.int .i64 ((k - 1 : Nat) : Int)] w2) (k2 : ¬ (i ≤ k ∧ (!ltInt d[k]! d[a]!) = true) → ∀ w2, Rf w0 w2 g e cap d → K0 [.int .i64 (k : Int)] w2) :
    M.slices_partitionOrdered_uint64.j13 [.int .i64 (i : Int)] [.int .i64 (k : Int)] (.slice (some ⟨g, 0, none⟩) n cap) (.int .i64 (a : Int)) K0 Kn w1 K := by
  unfold M.slices_partitionOrdered_uint64.j13
  by_cases hik : i ≤ k
  · have a1 := H1.row.at (show k < d.size by omega)
    have a2 := H1.row.at (show a < d.size by omega)
    have b1 : (k : Int) < n := by omega
    have b2 : (a : Int) < n := by omega
    have b3 : (i : Int) ≤ k := by omega
    have hw : IntKind.i64.wrap ((k : Int) - 1) = ((k - 1 : Nat) : Int) := by rw [wrap_id (by omega) (by omega)]; omega
    simp [g0, b1, b2, b3, a1, a2]
    refine less_ok _ _ ?_
    cases hl : ltInt d[k]! d[a]! with
    | true =>
      simp [hw]
      have := k2 (fun h => by simp [hl] at h) _ (H1.dr 1)
      simpa using this
    | false =>
      simp [hw]
      have := k1 ⟨hik, by simp [hl]⟩ _ (H1.dr 1)
      simpa using this
  · have b3 : ¬ (i : Int) ≤ k := by omega
    simp [g0, b3]
    have := k2 (fun h => hik h.1) _ (H1.dr 1)
    simpa using this
theorem part_e3 {w0 w1 : World} {vi : Value} {a k j : Nat} {K0 Kn : KL} {K : KV} (H1 : Rf w0 w1 g e cap d) (hn : d.size = n) (h6 : n < 100000) (ha : a < n) (hj : j < n) (hk : k ≤ j + 2)
    (k1 : (k ≤ j ∧ (!ltInt d[a]! d[k]!) = true) → ∀ w2, Rf w0 w2 g e cap d → Kn [.int .i64 ((k + 1 : Nat) : Int)] w2) (k2 : ¬ (k ≤ j ∧ (!ltInt d[a]! d[k]!) = true) → ∀ w2, Rf w0 w2 g e cap d → K0 [.int .i64 (k : Int)] w2) :
    M.slices_partitionEqualOrdered_uint64.j3 [.int .i64 (k : Int)] [vi, .int .i64 (j : Int)] (.slice (some ⟨g, 0, none⟩) n cap) (.int .i64 (a : Int)) K0 Kn w1 K := by
  unfold M.slices_partitionEqualOrdered_uint64.j3
  by_cases hkj : k ≤ j
  · have a1 := H1.row.at (show k < d.size by omega)
    have a2 := H1.row.at (show a < d.size by omega)
    have b1 : (k : Int) < n := by omega
    have b2 : (a : Int) < n := by omega
    have b3 : (k : Int) ≤ j := by omega
    simp [g0, g21, b1, b2, b3, a1, a2]
    refine less_ok _ _ ?_
    cases hl : ltInt d[a]! d[k]! with
    | true =>
      simp [wrap1 (show k < 1000000 by omega)]
      have := k2 (fun h => by simp [hl] at h) _ (H1.dr 1)
      simpa using this
    | false =>
      simp [wrap1 (show k < 1000000 by omega)]
      have := k1 ⟨hkj, by simp [hl]⟩ _ (H1.dr 1)
      simpa using this
  · have b3 : ¬ (k : Int) ≤ j := by omega
    simp [g0, g21, b3]
    have := k2 (fun h => hkj h.1) _ (H1.dr 1)
    simpa using this
theorem part_e6 {w0 w1 : World} {a k i : Nat} {K0 Kn : KL} {K : KV} (H1 : Rf w0 w1 g e cap d) (hn : d.size = n) (h6 : n < 100000) (hai : a < n ∧ 1 ≤ i) (hk : k < n)
    (k1 : (i ≤ k ∧ ltInt d[a]! d[k]! = true) → ∀ w2, Rf w0 w2 g e cap d → Kn [.int .i64 ((k - 1 : Nat) : Int)] w2) (k2 : ¬ (i ≤ k ∧ ltInt d[a]! d[k]! = true) → ∀ w2, Rf w0 w2 g e cap d → K0 [.int .i64 (k : Int)] w2) :
    M.slices_partitionEqualOrdered_uint64.j6 [.int .i64 (i : Int)] [.int .i64 (k : Int)] (.slice (some ⟨g, 0, none⟩) n cap) (.int .i64 (a : Int)) K0 Kn w1 K := by
  unfold M.slices_partitionEqualOrdered_uint64.j6
  by_cases hik : i ≤ k
  · have a1 := H1.row.at (show k < d.size by omega)
    have a2 := H1.row.at (show a < d.size by omega)
    have b1 : (k : Int) < n := by omega
    have b2 : (a : Int) < n := by omega
    have b3 : (i : Int) ≤ k := by omega
    have hw : IntKind.i64.wrap ((k : Int) - 1) = ((k - 1 : Nat) : Int) := by rw [wrap_id (by omega) (by omega)]; omega
    simp [g0, b1, b2, b3, a1, a2]
    refine less_ok _ _ ?_
    cases hl : ltInt d[a]! d[k]! with
    | true =>
      simp [hw]
      have := k1 ⟨hik, hl⟩ _ (H1.dr 1)
      simpa using this
    | false =>
      simp [hw]
      have := k2 (fun h => by simp [hl] at h) _ (H1.dr 1)
      simpa using this
  · have b3 : ¬ (i : Int) ≤ k := by omega
    simp [g0, b3]
    have := k2 (fun h => hik h.1) _ (H1.dr 1)
    simpa using this
end

/-! ### partitionOrdered -/
def PlI (w : World) (g : Nat) (e : TypeId) (cap n a b : Nat) (R : Nat × Array Int) : KL := fun x w1 => ∃ (i j : Nat) (d : Array Int), x = [.int .i64 (i : Int), .int .i64 (j : Int)] ∧ Rf w w1 g e cap d ∧ d.size = n ∧ a < i ∧ i ≤ j + 2 ∧ j < b ∧ partLoop ltInt a i j d = R
theorem partition_ok {w : World} {g cap n : Nat} {e : TypeId} {d : Array Int} (H : Rw w g e cap d) (hn : d.size = n) (h6 : n < 100000) {a b pv : Nat} (hb : b ≤ n) (ha : a ≤ pv) (hp : pv < b) {K : KV}
    (h : ∀ w', Rf w w' g e cap (partition ltInt d a b pv).2.2 → K (.tuple #[.int .i64 ((partition ltInt d a b pv).1 : Nat), .bool (partition ltInt d a b pv).2.1]) w') :
    callT P F.slices_partitionOrdered_uint64 [.slice (some ⟨g, 0, none⟩) n cap, .int .i64 a, .int .i64 b, .int .i64 pv] w K := by
  apply M.slices_partitionOrdered_uint64.calls
  unfold M.slices_partitionOrdered_uint64
  have a1 := H.at (show a < d.size by omega)
  have a2 := H.at (show pv < d.size by omega)
  have b1 : (a : Int) < n := by omega
  have b2 : (pv : Int) < n := by omega
  have f1 := H.frz a
  have f2 := H.frz pv
  have hw1 : IntKind.i64.wrap ((a : Int) + 1) = ((a + 1 : Nat) : Int) := wrap1 (by omega)
  have hw2 : IntKind.i64.wrap ((b : Int) - 1) = ((b - 1 : Nat) : Int) := by rw [wrap_id (by omega) (by omega)]; omega
  simp [b1, b2, a1, a2, f1, f2, cellOf_setCell, frzOf_setCell, hw1, hw2, -Int.natCast_add, -joinT_eq]
  have H1 := (H.self.dr 1).swp (i := a) (j := pv) (by omega) (by omega)
  generalize ((dr w 1).setCell ⟨g, a, none⟩ (.int .u64 d[pv]!)).setCell ⟨g, pv, none⟩ (.int .u64 d[a]!) = w1 at *
  clear a1 a2 f1 f2
  unfold partition at h
  have hn1 : (Sort.swp d a pv).size = n := by rw [size_swp]; exact hn
  generalize Sort.swp d a pv = d1 at *
  try simp only at h
  refine scan_up (p := fun x => ltInt x d1[a]!) (i := a + 1) (j := b - 1) H1.row (by omega) (fun k w2 Kn hk H2 k1 k2 => by refine part_j1 H2 hn1 h6 (by omega) (by omega) hk ?_ ?_ <;> first | exact k1 | exact k2) fun w2 H2 => ?_
  have hge := scanUp_ge (fun x => ltInt x d1[a]!) d1 (b - 1) (a + 1)
  have hle := scanUp_le (fun x => ltInt x d1[a]!) d1 (b - 1) (a + 1)
  generalize scanUp (fun x => ltInt x d1[a]!) d1 (b - 1) (a + 1) = i at *
  refine scan_down (n := n) (p := fun x => !ltInt x d1[a]!) H2.row (by omega) (i := i) (j := b - 1) (by omega) (fun k w3 Kn hk H3 k1 k2 => by refine part_j4 H3 hn1 h6 (by omega) hk ?_ ?_ <;> first | exact k1 | exact k2) fun w3 H3 => ?_
  have hdl := scanDown_le (fun x => !ltInt x d1[a]!) d1 i (b - 1)
  generalize scanDown (fun x => !ltInt x d1[a]!) d1 i (b - 1) = j at *
  have H3' := H1.trans (H2.trans H3)
  unfold M.slices_partitionOrdered_uint64.j3
  have c1 := H3.row.at (show a < d1.size by omega)
  have c2 := H3.row.at (show j < d1.size by omega)
  have e1 : (j : Int) < n := by omega
  have f1 := H3.row.frz a
  have f2 := H3.row.frz j
  simp only [joinT_eq, g0]
  by_cases hij : i > j
  · have hij' : (j : Int) < i := by omega
    rw [if_pos hij] at h
    simp [hij', b1, e1, c1, c2, f1, f2, cellOf_setCell, frzOf_setCell, -Int.natCast_add]
    exact h _ ((H3'.dr 1).swp (by omega) (by omega))
  · have hij' : ¬ (j : Int) < i := by omega
    rw [if_neg hij] at h
    simp only [bin_gtr, hij', decide_false, Eng.cond_false]
    unfold M.slices_partitionOrdered_uint64.j6
    have c3 := H3.row.at (show i < d1.size by omega)
    have e2 : (i : Int) < n := by omega
    have f3 := H3.row.frz i
    have hw3 : IntKind.i64.wrap ((i : Int) + 1) = ((i + 1 : Nat) : Int) := wrap1 (by omega)
    have hw4 : IntKind.i64.wrap ((j : Int) - 1) = ((j - 1 : Nat) : Int) := by rw [wrap_id (by omega) (by omega)]; omega
    simp [g0, e1, e2, c2, c3, f2, f3, cellOf_setCell, frzOf_setCell, hw3, hw4, -Int.natCast_add, -joinT_eq]
    rw [joinT_eq]
    have H4 := (H3'.dr 1).swp (i := i) (j := j) (by omega) (by omega)
    generalize ((dr w3 1).setCell ⟨g, i, none⟩ (.int .u64 d1[j]!)).setCell ⟨g, j, none⟩ (.int .u64 d1[i]!) = w4 at *
    have hn2 : (Sort.swp d1 i j).size = n := by rw [size_swp]; exact hn1
    generalize Sort.swp d1 i j = d2 at *
    generalize hr : partLoop ltInt a (i + 1) (j - 1) d2 = r at *
    refine ⟨PlI w g e cap n a b r, fun x _ => ms x 1 + 2 - ms x 0, ⟨i + 1, j - 1, d2, rfl, H4, hn2, by omega, by omega, by omega, hr⟩, ?_⟩
    rintro x w5 ⟨i5, j5, d5, rfl, H5, hn5, ha5, hij5, hj5, hR⟩
    rw [partLoop_eq] at hR
    refine scan_up (p := fun x => ltInt x d5[a]!) (i := i5) (j := j5) H5.row hij5 (fun k w6 Kn hk H6 k1 k2 => by refine part_j10 H6 hn5 h6 (by omega) (by omega) hk ?_ ?_ <;> first | exact k1 | exact k2) fun w6 H6 => ?_
    have hge := scanUp_ge (fun x => ltInt x d5[a]!) d5 j5 i5
    have hle := scanUp_le (fun x => ltInt x d5[a]!) d5 j5 i5
    generalize scanUp (fun x => ltInt x d5[a]!) d5 j5 i5 = i6 at *
    unfold M.slices_partitionOrdered_uint64.j9
    simp only [g21]
    refine scan_down (n := n) (p := fun x => !ltInt x d5[a]!) H6.row (by omega) (i := i6) (j := j5) (by omega) (fun k w7 Kn hk H7 k1 k2 => by refine part_j13 H7 hn5 h6 (by omega) hk ?_ ?_ <;> first | exact k1 | exact k2) fun w7 H7 => ?_
    have hdl := scanDown_le (fun x => !ltInt x d5[a]!) d5 i6 j5
    generalize scanDown (fun x => !ltInt x d5[a]!) d5 i6 j5 = j6 at *
    have H7' := H5.trans (H6.trans H7)
    try simp only at hR
    simp only [g0, joinT_eq]
    by_cases hgt : i6 > j6
    · have hgt' : (j6 : Int) < i6 := by omega
      rw [if_pos hgt] at hR
      simp only [bin_gtr, hgt', decide_true, Eng.cond_true]
      unfold M.slices_partitionOrdered_uint64.j7
      have c1 := H7.row.at (show a < d5.size by omega)
      have c2 := H7.row.at (show j6 < d5.size by omega)
      have e1 : (j6 : Int) < n := by omega
      have f1 := H7.row.frz a
      have f2 := H7.row.frz j6
      simp [g21, b1, e1, c1, c2, f1, f2, cellOf_setCell, frzOf_setCell, -Int.natCast_add]
      subst hR
      exact h _ ((H7'.dr 1).swp (by omega) (by omega))
    · have hgt' : ¬ (j6 : Int) < i6 := by omega
      rw [if_neg hgt] at hR
      simp only [bin_gtr, hgt', decide_false, Eng.cond_false]
      unfold M.slices_partitionOrdered_uint64.j15
      have c1 := H7.row.at (show i6 < d5.size by omega)
      have c2 := H7.row.at (show j6 < d5.size by omega)
      have e1 : (j6 : Int) < n := by omega
      have e2 : (i6 : Int) < n := by omega
      have f1 := H7.row.frz i6
      have f2 := H7.row.frz j6
      have hw3 : IntKind.i64.wrap ((i6 : Int) + 1) = ((i6 + 1 : Nat) : Int) := wrap1 (by omega)
      have hw4 : IntKind.i64.wrap ((j6 : Int) - 1) = ((j6 - 1 : Nat) : Int) := by rw [wrap_id (by omega) (by omega)]; omega
      simp [g0, e1, e2, c1, c2, f1, f2, cellOf_setCell, frzOf_setCell, hw3, hw4, -Int.natCast_add]
      refine ⟨⟨i6 + 1, j6 - 1, _, rfl, (H7'.dr 1).swp (by omega) (by omega), by rw [size_swp]; exact hn5, by omega, by omega, by omega, hR⟩, ?_⟩
      simp [ms, gv]; omega

/-! ### partitionEqualOrdered -/
def PeI (w : World) (g : Nat) (e : TypeId) (cap n a b : Nat) (R : Nat × Array Int) : KL := fun x w1 => ∃ (i j : Nat) (d : Array Int), x = [.int .i64 (i : Int), .int .i64 (j : Int)] ∧ Rf w w1 g e cap d ∧ d.size = n ∧ a < i ∧ i ≤ j + 2 ∧ j < b ∧ partEqLoop ltInt a i j d = R
theorem partitionEqual_ok {w : World} {g cap n : Nat} {e : TypeId} {d : Array Int} (H : Rw w g e cap d) (hn : d.size = n) (h6 : n < 100000) {a b pv : Nat} (hb : b ≤ n) (ha : a ≤ pv) (hp : pv < b) {K : KV}
    (h : ∀ w', Rf w w' g e cap (partitionEqual ltInt d a b pv).2 → K (.int .i64 ((partitionEqual ltInt d a b pv).1 : Nat)) w') :
    callT P F.slices_partitionEqualOrdered_uint64 [.slice (some ⟨g, 0, none⟩) n cap, .int .i64 a, .int .i64 b, .int .i64 pv] w K := by
  apply M.slices_partitionEqualOrdered_uint64.calls
  unfold M.slices_partitionEqualOrdered_uint64
  have a1 := H.at (show a < d.size by omega)
  have a2 := H.at (show pv < d.size by omega)
  have b1 : (a : Int) < n := by omega
  have b2 : (pv : Int) < n := by omega
  have f1 := H.frz a
  have f2 := H.frz pv
  have hw1 : IntKind.i64.wrap ((a : Int) + 1) = ((a + 1 : Nat) : Int) := wrap1 (by omega)
  have hw2 : IntKind.i64.wrap ((b : Int) - 1) = ((b - 1 : Nat) : Int) := by rw [wrap_id (by omega) (by omega)]; omega
  simp [b1, b2, a1, a2, f1, f2, cellOf_setCell, frzOf_setCell, hw1, hw2, -Int.natCast_add, -joinT_eq]
  have H1 := (H.self.dr 1).swp (i := a) (j := pv) (by omega) (by omega)
  generalize ((dr w 1).setCell ⟨g, a, none⟩ (.int .u64 d[pv]!)).setCell ⟨g, pv, none⟩ (.int .u64 d[a]!) = w1 at *
  clear a1 a2 f1 f2
  unfold partitionEqual at h
  have hn1 : (Sort.swp d a pv).size = n := by rw [size_swp]; exact hn
  generalize Sort.swp d a pv = d1 at *
  generalize hr : partEqLoop ltInt a (a + 1) (b - 1) d1 = r at *
  rw [joinT_eq]
  refine ⟨PeI w g e cap n a b r, fun x _ => ms x 1 + 2 - ms x 0, ⟨a + 1, b - 1, d1, rfl, H1, hn1, by omega, by omega, by omega, hr⟩, ?_⟩
  rintro x w5 ⟨i5, j5, d5, rfl, H5, hn5, ha5, hij5, hj5, hR⟩
  rw [partEqLoop_eq] at hR
  simp only [g20]
  refine scan_up (p := fun x => !ltInt d5[a]! x) (i := i5) (j := j5) H5.row hij5 (fun k w6 Kn hk H6 k1 k2 => by refine part_e3 H6 hn5 h6 (by omega) (by omega) hk ?_ ?_ <;> first | exact k1 | exact k2) fun w6 H6 => ?_
  have hge := scanUp_ge (fun x => !ltInt d5[a]! x) d5 j5 i5
  have hle := scanUp_le (fun x => !ltInt d5[a]! x) d5 j5 i5
  generalize scanUp (fun x => !ltInt d5[a]! x) d5 j5 i5 = i6 at *
  unfold M.slices_partitionEqualOrdered_uint64.j2
  simp only [g21]
  refine scan_down (n := n) (p := fun x => ltInt d5[a]! x) H6.row (by omega) (i := i6) (j := j5) (by omega) (fun k w7 Kn hk H7 k1 k2 => by refine part_e6 H7 hn5 h6 (by omega) hk ?_ ?_ <;> first | exact k1 | exact k2) fun w7 H7 => ?_
  have hdl := scanDown_le (fun x => ltInt d5[a]! x) d5 i6 j5
  generalize scanDown (fun x => ltInt d5[a]! x) d5 i6 j5 = j6 at *
  have H7' := H5.trans (H6.trans H7)
  try simp only at hR
  simp only [g0, joinT_eq]
  by_cases hgt : i6 > j6
  · have hgt' : (j6 : Int) < i6 := by omega
    rw [if_pos hgt] at hR
    simp only [bin_gtr, hgt', decide_true, Eng.cond_true, g20]
    subst hR
    exact h _ H7'
  · have hgt' : ¬ (j6 : Int) < i6 := by omega
    rw [if_neg hgt] at hR
    simp only [bin_gtr, hgt', decide_false, Eng.cond_false]
    unfold M.slices_partitionEqualOrdered_uint64.j8
    have c1 := H7.row.at (show i6 < d5.size by omega)
    have c2 := H7.row.at (show j6 < d5.size by omega)
    have e1 : (j6 : Int) < n := by omega
    have e2 : (i6 : Int) < n := by omega
    have f1 := H7.row.frz i6
    have f2 := H7.row.frz j6
    have hw3 : IntKind.i64.wrap ((i6 : Int) + 1) = ((i6 + 1 : Nat) : Int) := wrap1 (by omega)
    have hw4 : IntKind.i64.wrap ((j6 : Int) - 1) = ((j6 - 1 : Nat) : Int) := by rw [wrap_id (by omega) (by omega)]; omega
    simp [g0, e1, e2, c1, c2, f1, f2, cellOf_setCell, frzOf_setCell, hw3, hw4, -Int.natCast_add]
    refine ⟨⟨i6 + 1, j6 - 1, _, rfl, (H7'.dr 1).swp (by omega) (by omega), by rw [size_swp]; exact hn5, by omega, by omega, by omega, hR⟩, ?_⟩
    simp [ms, gv]; omega
end Go.Proofs.Ytkjhekflgghbdaa.Suint64
set_option maxRecDepth 100000
namespace Go.Proofs.Ytkjhekflgghbdaa.Suint64
open Go.Eng Go.Sort

/-! ### reverseRangeOrdered -/
def RvI (w : World) (g : Nat) (e : TypeId) (cap n : Nat) (R : Array Int) : KL := fun x w1 => ∃ (i j : Nat) (d : Array Int), x = [.int .i64 (i : Int), .int .i64 (j : Int)] ∧ Rf w w1 g e cap d ∧ d.size = n ∧ i ≤ n ∧ j < n ∧ reverseLoop i j d = R
theorem reverse_ok {w : World} {g cap n : Nat} {e : TypeId} {d : Array Int} (H : Rw w g e cap d) (hn : d.size = n) (h6 : n < 100000) {a b : Nat} (hb : b ≤ n) (hab : a < b) {K : KV}
    (h : ∀ w', Rf w w' g e cap (reverseRange d a b) → K (.tuple #[]) w') : callT P F.slices_reverseRangeOrdered_uint64 [.slice (some ⟨g, 0, none⟩) n cap, .int .i64 a, .int .i64 b] w K := by
  apply M.slices_reverseRangeOrdered_uint64.calls
  unfold M.slices_reverseRangeOrdered_uint64
  have hw2 : IntKind.i64.wrap ((b : Int) - 1) = ((b - 1 : Nat) : Int) := by rw [wrap_id (by omega) (by omega)]; omega
  simp only [bin_sub, hw2]
  unfold reverseRange at h
  generalize hR : reverseLoop a (b - 1) d = R at *
  refine ⟨RvI w g e cap n R, fun x _ => ms x 1 - ms x 0, ⟨a, b - 1, d, rfl, H.self, hn, by omega, by omega, hR⟩, ?_⟩
  clear hR
  rintro x w1 ⟨i, j, d1, rfl, H1, hn1, hi, hj, hR⟩
  simp only [joinT_eq, g20, g21]
  unfold reverseLoop at hR
  by_cases hij : i < j
  · have hij' : (i : Int) < j := by omega
    rw [if_pos hij] at hR
    simp only [bin_lss, hij', decide_true, Eng.cond_true]
    unfold M.slices_reverseRangeOrdered_uint64.j1
    have c1 := H1.row.at (show i < d1.size by omega)
    have c2 := H1.row.at (show j < d1.size by omega)
    have e1 : (i : Int) < n := by omega
    have e2 : (j : Int) < n := by omega
    have f1 := H1.row.frz i
    have f2 := H1.row.frz j
    have hw3 : IntKind.i64.wrap ((i : Int) + 1) = ((i + 1 : Nat) : Int) := wrap1 (by omega)
    have hw4 : IntKind.i64.wrap ((j : Int) - 1) = ((j - 1 : Nat) : Int) := by rw [wrap_id (by omega) (by omega)]; omega
    simp [g20, g21, e1, e2, c1, c2, f1, f2, cellOf_setCell, frzOf_setCell, hw3, hw4, -Int.natCast_add]
    refine ⟨⟨i + 1, j - 1, _, rfl, (H1.dr 1).swp (by omega) (by omega), by rw [size_swp]; exact hn1, by omega, by omega, hR⟩, ?_⟩
    simp [ms, gv]; omega
  · have hij' : ¬ (i : Int) < j := by omega
    rw [if_neg hij] at hR
    subst hR
    simp only [bin_lss, hij', decide_false, Eng.cond_false]
    exact h w1 H1

/-! ### partialInsertionSortOrdered -/
theorem scanSorted_le (d : Array Int) (b : Nat) : ∀ m i, b - i ≤ m → i ≤ b → i ≤ scanSorted ltInt d b i ∧ scanSorted ltInt d b i ≤ b := by
  intro m
  induction m with
  | zero =>
    intro i hm hi
    unfold scanSorted
    rw [if_neg (by simp; omega)]
    omega
  | succ m ih =>
    intro i hm hi
    unfold scanSorted
    split
    · rename_i h
      simp at h
      have := ih (i + 1) (by omega) (by omega)
      omega
    · omega
theorem size_shiftDown : ∀ (j : Nat) (d : Array Int), (shiftDown ltInt j d).size = d.size
  | 0, _ => rfl
  | j + 1, d => by
    unfold shiftDown
    split
    · rfl
    · rw [size_shiftDown j, size_swp]
theorem size_shiftUp (b : Nat) : ∀ (m j : Nat) (d : Array Int), b - j ≤ m → (shiftUp ltInt b j d).size = d.size := by
  intro m
  induction m with
  | zero =>
    intro j d hm
    unfold shiftUp
    rw [if_neg (by omega)]
  | succ m ih =>
    intro j d hm
    unfold shiftUp
    split
    · split
      · rfl
      · rw [ih _ _ (by omega), size_swp]
    · rfl
section
variable {w : World} {g cap n : Nat} {e : TypeId} {d : Array Int}
def SsI (w : World) (g : Nat) (e : TypeId) (cap : Nat) (d : Array Int) (a b r : Nat) : KL := fun x w1 => ∃ i : Nat, x = [.int .i64 (i : Int)] ∧ Rf w w1 g e cap d ∧ a < i ∧ i ≤ b ∧ scanSorted ltInt d b i = r
theorem ssort_ok (H : Rw w g e cap d) (hn : d.size = n) (h6 : n < 100000) {a b i : Nat} (hb : b ≤ n) (ha : a < i) (hi : i ≤ b) {K4 : KL} {K : KV}
    (h : ∀ w', Rf w w' g e cap d → K4 [.int .i64 (scanSorted ltInt d b i : Nat)] w') :
    joinT (fun K4 => loopT [.int .i64 (i : Int)] w fun K5 x5 w => M.slices_partialInsertionSortOrdered_uint64.j5 x5 (.int .i64 (b : Int)) (.slice (some ⟨g, 0, none⟩) n cap) K4 K5 w K) K4 := by
  rw [joinT_eq]
  generalize hr : scanSorted ltInt d b i = r at *
  refine ⟨SsI w g e cap d a b r, fun x _ => b - ms x 0, ⟨i, rfl, H.self, ha, hi, hr⟩, ?_⟩
  clear hr
  rintro x w1 ⟨k, rfl, H1, hak, hkb, hR⟩
  unfold M.slices_partialInsertionSortOrdered_uint64.j5
  unfold scanSorted at hR
  by_cases hk : k < b
  · have a1 := H1.row.at (show k < d.size by omega)
    have a2 := H1.row.at (show k - 1 < d.size by omega)
    have b1 : (k : Int) < n := by omega
    have b2 : ((k - 1 : Nat) : Int) < n := by omega
    have b3 : (k : Int) < b := by omega
    have hw : IntKind.i64.wrap ((k : Int) - 1) = ((k - 1 : Nat) : Int) := by rw [wrap_id (by omega) (by omega)]; omega
    simp [g0, b1, b2, b3, a1, a2, hw]
    refine less_ok _ _ ?_
    cases hl : ltInt d[k]! d[k - 1]! with
    | true =>
      rw [if_neg (by simp [hl])] at hR
      simp
      rw [← hR] at h
      exact h _ (H1.dr 1)
    | false =>
      rw [if_pos (by simp [hl, hk])] at hR
      simp [wrap1 (show k < 1000000 by omega)]
      refine ⟨⟨k + 1, by simp, H1.dr 1, by omega, by omega, hR⟩, ?_⟩
      simp [ms, gv]; omega
  · have b3 : ¬ (k : Int) < b := by omega
    rw [if_neg (by simp [hk])] at hR
    simp [g0, b3]
    rw [← hR] at h
    exact h _ (H1.dr 1)

def SdI (w : World) (g : Nat) (e : TypeId) (cap n : Nat) (R : Array Int) : KL := fun x w1 => ∃ (j : Nat) (d : Array Int), x = [.int .i64 (j : Int)] ∧ Rf w w1 g e cap d ∧ d.size = n ∧ j < n ∧ shiftDown ltInt j d = R
theorem sdown_ok (H : Rw w g e cap d) (hn : d.size = n) (h6 : n < 100000) {j : Nat} (hj : j < n) {K9 : KL} {K : KV}
    (h : ∀ w' v, Rf w w' g e cap (shiftDown ltInt j d) → K9 [v] w') :
    loopT [.int .i64 (j : Int)] w fun K10 x10 w => joinT (fun K11 => binT P .geq T.int (.tmp 64) (.const (.int .i64 1)) (gv x10 0) (.int .i64 1) w fun t65 w => condT t65 (K11 [] w) (K9 [(gv x10 0)] w)) fun x11 w => M.slices_partialInsertionSortOrdered_uint64.j11 (.slice (some ⟨g, 0, none⟩) n cap) x10 K9 K10 w K := by
  generalize hr : shiftDown ltInt j d = R at *
  refine ⟨SdI w g e cap n R, fun x _ => ms x 0, ⟨j, d, rfl, H.self, hn, hj, hr⟩, ?_⟩
  clear hr
  rintro x w1 ⟨k, d1, rfl, H1, hn1, hk, hR⟩
  simp only [joinT_eq, g0, bin_geq]
  cases k with
  | zero =>
    have hk0 : ¬ (1 : Int) ≤ ((0 : Nat) : Int) := by omega
    simp only [hk0, decide_false, Eng.cond_false]
    unfold shiftDown at hR
    subst hR
    exact h _ _ H1
  | succ k =>
    have hk0 : (1 : Int) ≤ ((k + 1 : Nat) : Int) := by omega
    simp only [hk0, decide_true, Eng.cond_true]
    unfold M.slices_partialInsertionSortOrdered_uint64.j11
    unfold shiftDown at hR
    have a1 := H1.row.at (show k + 1 < d1.size by omega)
    have a2 := H1.row.at (show k < d1.size by omega)
    have b1 : ((k + 1 : Nat) : Int) < n := by omega
    have b2 : (k : Int) < n := by omega
    have f1 := H1.row.frz (k + 1)
    have f2 := H1.row.frz k
    have hw : IntKind.i64.wrap (((k + 1 : Nat) : Int) - 1) = (k : Int) := by rw [wrap_id (by omega) (by omega)]; omega
    simp [g0, b1, b2, a1, a2, hw, -Int.natCast_add]
    refine less_ok _ _ ?_
    cases hl : ltInt d1[k + 1]! d1[k]! with
    | false =>
      rw [if_pos (by simp [hl])] at hR
      subst hR
      simp
      exact h _ _ (H1.dr 1)
    | true =>
      rw [if_neg (by simp [hl])] at hR
      simp [-Int.natCast_add]
      unfold M.slices_partialInsertionSortOrdered_uint64.j13
      simp [g0, b1, b2, a1, a2, f1, f2, hw, cellOf_setCell, frzOf_setCell, -Int.natCast_add]
      refine ⟨⟨k, _, rfl, ((H1.dr 1).dr 1).swp (by omega) (by omega), by rw [size_swp]; exact hn1, by omega, hR⟩, ?_⟩
      simp [ms, gv]

def SuI (w : World) (g : Nat) (e : TypeId) (cap n b : Nat) (R : Array Int) : KL := fun x w1 => ∃ (j : Nat) (d : Array Int), x = [.int .i64 (j : Int)] ∧ Rf w w1 g e cap d ∧ d.size = n ∧ 1 ≤ j ∧ j ≤ b ∧ shiftUp ltInt b j d = R
theorem sup_ok (H : Rw w g e cap d) (hn : d.size = n) (h6 : n < 100000) {j b : Nat} (hb : b ≤ n) (hj : 1 ≤ j) (hjb : j ≤ b) {K3 : KL} {x4 x8 x9 : List Value} {K : KV}
    (h : ∀ w' v, Rf w w' g e cap (shiftUp ltInt b j d) → K3 [gv x4 0, gv x8 0, gv x9 0, v] w') :
    loopT [.int .i64 (j : Int)] w fun K14 x14 w => M.slices_partialInsertionSortOrdered_uint64.j14 x14 (.int .i64 (b : Int)) K3 x4 x8 x9 (.slice (some ⟨g, 0, none⟩) n cap) K14 w K := by
  generalize hr : shiftUp ltInt b j d = R at *
  refine ⟨SuI w g e cap n b R, fun x _ => b - ms x 0, ⟨j, d, rfl, H.self, hn, hj, hjb, hr⟩, ?_⟩
  clear hr
  rintro x w1 ⟨k, d1, rfl, H1, hn1, hk1, hk, hR⟩
  unfold M.slices_partialInsertionSortOrdered_uint64.j14
  simp only [joinT_eq, g0, bin_lss]
  unfold shiftUp at hR
  by_cases hkb : k < b
  · have hkb' : (k : Int) < b := by omega
    rw [if_pos hkb] at hR
    simp only [hkb', decide_true, Eng.cond_true]
    unfold M.slices_partialInsertionSortOrdered_uint64.j15
    have a1 := H1.row.at (show k < d1.size by omega)
    have a2 := H1.row.at (show k - 1 < d1.size by omega)
    have b1 : (k : Int) < n := by omega
    have b2 : ((k - 1 : Nat) : Int) < n := by omega
    have f1 := H1.row.frz k
    have f2 := H1.row.frz (k - 1)
    have hw : IntKind.i64.wrap ((k : Int) - 1) = ((k - 1 : Nat) : Int) := by rw [wrap_id (by omega) (by omega)]; omega
    simp [g0, b1, b2, a1, a2, hw]
    refine less_ok _ _ ?_
    cases hl : ltInt d1[k]! d1[k - 1]! with
    | false =>
      rw [if_pos (by simp [hl])] at hR
      subst hR
      simp
      exact h _ _ (H1.dr 1)
    | true =>
      rw [if_neg (by simp [hl])] at hR
      simp
      unfold M.slices_partialInsertionSortOrdered_uint64.j17
      simp [g0, b1, b2, a1, a2, f1, f2, hw, cellOf_setCell, frzOf_setCell, wrap1 (show k < 1000000 by omega)]
      refine ⟨⟨k + 1, _, by simp, ((H1.dr 1).dr 1).swp (by omega) (by omega), by rw [size_swp]; exact hn1, by omega, by omega, hR⟩, ?_⟩
      simp [ms, gv]; omega
  · have hkb' : ¬ (k : Int) < b := by omega
    rw [if_neg hkb] at hR
    simp only [hkb', decide_false, Eng.cond_false]
    subst hR
    exact h _ _ H1
end
def PiI (w : World) (g : Nat) (e : TypeId) (cap n a b : Nat) (R : Array Int × Bool) : KL := fun x w1 => ∃ (u1 u2 u3 : Value) (i s : Nat) (d : Array Int), x = [.int .i64 (i : Int), u1, u2, u3, .int .i64 ((5 - s : Nat) : Int)] ∧ Rf w w1 g e cap d ∧ d.size = n ∧ s ≤ 5 ∧ a < i ∧ i ≤ b ∧ partialIns ltInt a b s i d = R
theorem partialIns_ok {w : World} {g cap n : Nat} {e : TypeId} {d : Array Int} (H : Rw w g e cap d) (hn : d.size = n) (h6 : n < 100000) {a b : Nat} (hb : b ≤ n) (hab : a < b) {K : KV}
    (h : ∀ w', Rf w w' g e cap (partialInsertionSort ltInt d a b).1 → K (.bool (partialInsertionSort ltInt d a b).2) w') : callT P F.slices_partialInsertionSortOrdered_uint64 [.slice (some ⟨g, 0, none⟩) n cap, .int .i64 a, .int .i64 b] w K := by
  apply M.slices_partialInsertionSortOrdered_uint64.calls
  unfold M.slices_partialInsertionSortOrdered_uint64
  simp only [bin_add, wrap1 (show a < 1000000 by omega), joinT_eq]
  unfold partialInsertionSort at h
  generalize hR : partialIns ltInt a b 5 (a + 1) d = R at *
  refine ⟨PiI w g e cap n a b R, fun x _ => 5 - ms x 4, ⟨_, _, _, a + 1, 5, d, rfl, H.self, hn, by omega, by omega, by omega, hR⟩, ?_⟩
  clear hR
  rintro x w1 ⟨u1, u2, u3, i, s, d1, rfl, H1, hn1, hs, hai, hib, hR⟩
  have q0 : ∀ a b c d e : Value, gv [a, b, c, d, e] 0 = a := fun _ _ _ _ _ => rfl
  have q1 : ∀ a b c d e : Value, gv [a, b, c, d, e] 1 = b := fun _ _ _ _ _ => rfl
  have q2 : ∀ a b c d e : Value, gv [a, b, c, d, e] 2 = c := fun _ _ _ _ _ => rfl
  have q3 : ∀ a b c d e : Value, gv [a, b, c, d, e] 3 = d := fun _ _ _ _ _ => rfl
  have q4 : ∀ a b c d e : Value, gv [a, b, c, d, e] 4 = e := fun _ _ _ _ _ => rfl
  unfold M.slices_partialInsertionSortOrdered_uint64.j1
  simp only [joinT_eq, q0, q1, q2, q3, q4, bin_lss]
  cases s with
  | zero =>
    simp
    unfold partialIns at hR
    subst hR
    exact h _ H1
  | succ s =>
    rw [show 5 - (s + 1) = 4 - s from by omega]
    have hs5 : ((4 - s : Nat) : Int) < 5 := by omega
    simp only [hs5, decide_true, Eng.cond_true]
    unfold M.slices_partialInsertionSortOrdered_uint64.j2
    unfold partialIns at hR
    simp only at hR
    rw [joinT_eq]
    simp only [q0, q1, q2, q3, q4]
    refine ssort_ok (a := a) H1.row hn1 h6 hb hai hib fun w2 H2 => ?_
    have hsc := scanSorted_le d1 b _ i (Nat.le_refl _) hib
    generalize scanSorted ltInt d1 b i = i2 at *
    have H2' := H1.trans H2
    simp only [joinT_eq, g0, bin_eql]
    by_cases hib2 : i2 = b
    · have : (i2 : Int) = b := by omega
      rw [if_pos hib2] at hR
      simp only [this, decide_true, Eng.cond_true]
      subst hR
      exact h _ H2'
    have hib2' : ¬ (i2 : Int) = b := by omega
    rw [if_neg hib2] at hR
    simp only [hib2', decide_false, Eng.cond_false]
    unfold M.slices_partialInsertionSortOrdered_uint64.j7
    have hw0 : IntKind.i64.wrap ((b : Int) - a) = ((b - a : Nat) : Int) := wrapS (by omega) (by omega)
    simp only [joinT_eq, bin_sub, hw0, bin_lss]
    by_cases h50 : b - a < 50
    · have : ((b - a : Nat) : Int) < 50 := by omega
      rw [if_pos h50] at hR
      simp only [this, decide_true, Eng.cond_true]
      subst hR
      exact h _ H2'
    have h50' : ¬ ((b - a : Nat) : Int) < 50 := by omega
    rw [if_neg h50] at hR
    simp only [h50', decide_false, Eng.cond_false]
    unfold M.slices_partialInsertionSortOrdered_uint64.j8
    have a1 := H2.row.at (show i2 < d1.size by omega)
    have a2 := H2.row.at (show i2 - 1 < d1.size by omega)
    have b1 : (i2 : Int) < n := by omega
    have b2 : ((i2 - 1 : Nat) : Int) < n := by omega
    have f1 := H2.row.frz i2
    have f2 := H2.row.frz (i2 - 1)
    have hw : IntKind.i64.wrap ((i2 : Int) - 1) = ((i2 - 1 : Nat) : Int) := by rw [wrap_id (by omega) (by omega)]; omega
    have hwa : IntKind.i64.wrap ((i2 : Int) - a) = ((i2 - a : Nat) : Int) := wrapS (by omega) (by omega)
    simp [g0, b1, b2, a1, a2, f1, f2, hw, hwa, cellOf_setCell, frzOf_setCell, -joinT_eq]
    have H3 := (H2'.dr 1).swp (i := i2) (j := i2 - 1) (by omega) (by omega)
    generalize ((dr w2 1).setCell ⟨g, i2, none⟩ (.int .u64 d1[i2 - 1]!)).setCell ⟨g, i2 - 1, none⟩ (.int .u64 d1[i2]!) = w3 at *
    have hn3 : (Sort.swp d1 i2 (i2 - 1)).size = n := by rw [size_swp]; exact hn1
    generalize Sort.swp d1 i2 (i2 - 1) = d3 at *
    -- behind the shift down
    have tail : ∀ (x9 : List Value) (w4 : World) (d4 : Array Int), Rf w w4 g e cap d4 → d4.size = n → partialIns ltInt a b s i2 (if b - i2 ≥ 2 then shiftUp ltInt b (i2 + 1) d4 else d4) = R → ∀ (K3 : KL) (x8 x1 : List Value),
        (∀ w' v, ∀ d5, Rf w w' g e cap d5 → d5.size = n → partialIns ltInt a b s i2 d5 = R → K3 [.int .i64 (i2 : Int), gv x8 0, gv x9 0, v] w') →
        M.slices_partialInsertionSortOrdered_uint64.j9 (.int .i64 b) [.int .i64 i2] K3 x8 x9 (.slice (some ⟨g, 0, none⟩) n cap) x1 w4 K := by
      intro x9 w4 d4 H4 hn4 hR4 K3 x8 x1 hK
      unfold M.slices_partialInsertionSortOrdered_uint64.j9
      have hwb : IntKind.i64.wrap ((b : Int) - i2) = ((b - i2 : Nat) : Int) := wrapS (by omega) (by omega)
      simp only [g0, bin_sub, hwb, bin_geq]
      by_cases h2 : b - i2 ≥ 2
      · have h2' : (2 : Int) ≤ ((b - i2 : Nat) : Int) := by omega
        rw [if_pos h2] at hR4
        simp only [h2', decide_true, Eng.cond_true, bin_add, wrap1 (show i2 < 1000000 by omega)]
        refine sup_ok H4.row hn4 h6 hb (by omega) (by omega) fun w5 v H5 => ?_
        exact hK _ v _ (H4.trans H5) (by rw [size_shiftUp _ _ _ _ (Nat.le_refl _)]; exact hn4) hR4
      · have h2' : ¬ (2 : Int) ≤ ((b - i2 : Nat) : Int) := by omega
        rw [if_neg h2] at hR4
        simp only [h2', decide_false, Eng.cond_false]
        exact hK _ _ _ H4 hn4 hR4
    have fin : ∀ w' (x : List Value) d5, gv x 0 = .int .i64 i2 → Rf w w' g e cap d5 → d5.size = n → partialIns ltInt a b s i2 d5 = R →
        PiI w g e cap n a b R [gv x 0, gv x 1, gv x 2, gv x 3, .int .i64 (IntKind.i64.wrap (((4 - s : Nat) : Int) + 1))] w' ∧ 5 - ms [gv x 0, gv x 1, gv x 2, gv x 3, .int .i64 (IntKind.i64.wrap (((4 - s : Nat) : Int) + 1))] 4 < 5 - ms [.int .i64 (i : Int), u1, u2, u3, .int .i64 ((4 - s : Nat) : Int)] 4 := by
      intro w' x d5 hx H5 hn5 hR5
      have : IntKind.i64.wrap (((4 - s : Nat) : Int) + 1) = ((5 - s : Nat) : Int) := by rw [wrap_id (by omega) (by omega)]; omega
      rw [this, hx]
      refine ⟨⟨_, _, _, i2, s, d5, rfl, H5, hn5, by omega, by omega, by omega, hR5⟩, ?_⟩
      simp only [ms, q4]; omega
    by_cases h2 : i2 - a ≥ 2
    · have h2' : (2 : Int) ≤ ((i2 - a : Nat) : Int) := by omega
      rw [if_pos h2] at hR
      simp only [joinT_eq, h2', decide_true, Eng.cond_true]
      refine sdown_ok H3.row hn3 h6 (by omega) fun w4 v H4 => ?_
      refine tail _ _ _ (H3.trans H4) (by rw [size_shiftDown]; exact hn3) hR _ _ _ fun w' v d5 H5 hn5 hR5 => ?_
      exact fin w' [.int .i64 (i2 : Int), _, _, v] d5 rfl H5 hn5 hR5
    · have h2' : ¬ (2 : Int) ≤ ((i2 - a : Nat) : Int) := by omega
      rw [if_neg h2] at hR
      simp only [joinT_eq, h2', decide_false, Eng.cond_false]
      refine tail _ _ _ H3 hn3 hR _ _ _ fun w' v d5 H5 hn5 hR5 => ?_
      exact fin w' [.int .i64 (i2 : Int), _, _, v] d5 rfl H5 hn5 hR5
end Go.Proofs.Ytkjhekflgghbdaa.Suint64
set_option maxRecDepth 100000
namespace Go.Proofs.Ytkjhekflgghbdaa
open Go.Eng

theorem tblLen : ∀ v : Fin 256, ((⟨#[0, 1, 2, 2, 3, 3, 3, 3, 4, 4, 4, 4, 4, 4, 4, 4, 5, 5, 5, 5, 5, 5, 5, 5, 5, 5, 5, 5, 5, 5, 5, 5, 6, 6, 6, 6, 6, 6, 6, 6, 6, 6, 6, 6, 6, 6, 6, 6, 6, 6, 6, 6, 6, 6, 6, 6, 6, 6, 6, 6, 6, 6, 6, 6, 7, 7, 7, 7, 7, 7, 7, 7, 7, 7, 7, 7, 7, 7, 7, 7, 7, 7, 7, 7, 7, 7, 7, 7, 7, 7, 7, 7, 7, 7, 7, 7, 7, 7, 7, 7, 7, 7, 7, 7, 7, 7, 7, 7, 7, 7, 7, 7, 7, 7, 7, 7, 7, 7, 7, 7, 7, 7, 7, 7, 7, 7, 7, 7, 8, 8, 8, 8, 8, 8, 8, 8, 8, 8, 8, 8, 8, 8, 8, 8, 8, 8, 8, 8, 8, 8, 8, 8, 8, 8, 8, 8, 8, 8, 8, 8, 8, 8, 8, 8, 8, 8, 8, 8, 8, 8, 8, 8, 8, 8, 8, 8, 8, 8, 8, 8, 8, 8, 8, 8, 8, 8, 8, 8, 8, 8, 8, 8, 8, 8, 8, 8, 8, 8, 8, 8, 8, 8, 8, 8, 8, 8, 8, 8, 8, 8, 8, 8, 8, 8, 8, 8, 8, 8, 8, 8, 8, 8, 8, 8, 8, 8, 8, 8, 8, 8, 8, 8, 8, 8, 8, 8, 8, 8, 8, 8, 8, 8, 8, 8, 8, 8, 8, 8, 8, 8, 8, 8, 8, 8, 8, 8]⟩ : ByteArray).get! v.val).toNat = Sort.bitsLen v.val := by decide +kernel
theorem strT' : isStrB P T.string = true := by refine Eq.trans ?_ rfl; kernel_rfl
theorem len64_ok {w : World} {x : Nat} (hx : x < 65536) {K : KV} (h : K (.int .i64 (Sort.bitsLen x : Nat)) w) : callT P F.math_bits_Len64 [.int .u64 x] w K := by
  apply M.math_bits_Len64.calls
  unfold M.math_bits_Len64
  have h1 : ¬ (4294967296 : Int) ≤ x := by omega
  simp only [joinT_eq, bin_geq, h1, decide_false, Eng.cond_false]
  unfold M.math_bits_Len64.j0
  have q0 : ∀ a b : Value, gv [a, b] 0 = a := fun _ _ => rfl
  have q1 : ∀ a b : Value, gv [a, b] 1 = b := fun _ _ => rfl
  have h2 : ¬ (65536 : Int) ≤ x := by omega
  simp only [joinT_eq, q0, q1, bin_geq, h2, decide_false, Eng.cond_false]
  unfold M.math_bits_Len64.j1
  have u64B : intB P T.uint64 .u64 = true := by kernel_rfl
  have u8B : intB P T.uint8 .u8 = true := by kernel_rfl
  have i64B : intB P T.int .i64 = true := by kernel_rfl
  have fin : ∀ (y z : Nat), y < 256 → z + Sort.bitsLen y = Sort.bitsLen x → z < 1000 → M.math_bits_Len64.j2 [.int .u64 y, .int .i64 z] w K := by
    intro y z hy hz hz1
    unfold M.math_bits_Len64.j2
    simp only [q0, q1]
    rw [cv_ints u64B u8B, wrap8 hy, ix_strs strT' (by exact hy)]
    have ht := tblLen ⟨y, hy⟩
    simp only at ht
    rw [ht, cv_ints u8B i64B]
    have hb : Sort.bitsLen y ≤ 16 := (Sort.bitsLen_le_iff y 16).2 (by omega)
    rw [wrapI (by omega), bin_add]
    have : ((z : Nat) : Int) + (Sort.bitsLen y : Nat) = ((Sort.bitsLen x : Nat) : Int) := by omega
    simp only [this]
    rw [wrapI (by omega)]
    exact h
  simp only [joinT_eq, q0, q1, bin_geq]
  by_cases h3 : 256 ≤ x
  · have h3' : (256 : Int) ≤ x := by omega
    have hs : binT P .shr T.uint64 (.tmp 15) (.const (.int .u64 8)) (.int .u64 (x : Int)) (.int .u64 8) w = fun K => K (.int .u64 ((x / 256 : Nat) : Int)) w := by
      funext K
      rw [bin_shr (by decide)]
      have : (min (8 : Int).toNat IntKind.u64.bits) = 8 := by decide
      rw [this, shr_nat]
    have ha : IntKind.i64.wrap (0 + 8) = ((8 : Nat) : Int) := by decide
    simp only [h3', decide_true, Eng.cond_true, hs, bin_add, ha]
    exact fin (x / 256) 8 (by omega) (bitsLen_big h3).symm (by decide)
  · have h3' : ¬ (256 : Int) ≤ x := by omega
    simp only [h3', decide_false, Eng.cond_false]
    exact fin x 0 (by omega) (by omega) (by decide)
theorem len_ok' {w : World} {x : Nat} (hx : x < 65536) {K : KV} (h : K (.int .i64 (Sort.bitsLen x : Nat)) w) : callT P F.math_bits_Len [.int .u64 x] w K := by
  apply M.math_bits_Len.calls
  unfold M.math_bits_Len
  simp only [joinT_eq, Eng.cond_false]
  rw [M.math_bits_Len64.fcall]
  exact len64_ok hx h
theorem pow2_ok {w : World} {x : Nat} (hx : x < 65536) {K : KV} (h : K (.int .u64 ((2 ^ Sort.bitsLen x : Nat) : Int)) w) : callT P F.slices_nextPowerOfTwo [.int .i64 x] w K := by
  apply M.slices_nextPowerOfTwo.calls
  unfold M.slices_nextPowerOfTwo
  have uB : intB P T.uint .u64 = true := by kernel_rfl
  have i64B : intB P T.int .i64 = true := by kernel_rfl
  rw [cv_ints i64B uB, wrapU (by omega), M.math_bits_Len.fcall]
  refine len_ok' hx ?_
  have hb : Sort.bitsLen x ≤ 16 := (Sort.bitsLen_le_iff x 16).2 (by omega)
  have hp : 2 ^ Sort.bitsLen x ≤ 2 ^ 16 := Nat.pow_le_pow_right (by decide) hb
  rw [bin_shl (by omega)]
  have e1 : (((Sort.bitsLen x : Nat) : Int)).toNat = Sort.bitsLen x := by omega
  have e2 : min (Sort.bitsLen x) IntKind.u64.bits = Sort.bitsLen x := by
    have : IntKind.u64.bits = 64 := rfl
    omega
  have e3 : (1 : Int) * 2 ^ Sort.bitsLen x = ((2 ^ Sort.bitsLen x : Nat) : Int) := by simp
  rw [e1, e2, e3, wrapU (by omega)]
  exact h
theorem setDr_at {w : World} {b : Nat} {x v : Value} {e : TypeId} (h : w.heap[b]? = some (.cells #[x] e (0, 0))) : ((dr w 1).setCell ⟨b, 0, none⟩ v).heap[b]? = some (.cells #[v] e (0, 0)) :=
  setCell_at (w := dr w 1) h
theorem xorNext_ok {w : World} {sb : Nat} {x : Int} {e : TypeId} (hb : w.heap[sb]? = some (.cells #[.int .u64 x] e (0, 0))) {K : KV}
    (h : ∀ w' (y : Int), 0 ≤ y → y < 18446744073709551616 → w'.heap[sb]? = some (.cells #[.int .u64 y] e (0, 0)) → Fr (fun b => b = sb) w w' → K (.int .u64 y) w') : callT P F.pslices_xorshift_Next [.pointer (some ⟨sb, 0, none⟩)] w K := by
  apply M.pslices_xorshift_Next.calls
  unfold M.pslices_xorshift_Next
  have s13 : ∀ (x : Int) (w : World) (K : KV) (t : TypeId) (rx ry : Operand), binT P .shl t rx ry (.int .u64 x) (.int .u64 13) w K = K (.int .u64 (IntKind.u64.wrap (x * 2 ^ min (13 : Int).toNat IntKind.u64.bits))) w := fun x w K t rx ry => bin_shl (by decide)
  have s7 : ∀ (x : Int) (w : World) (K : KV) (t : TypeId) (rx ry : Operand), binT P .shr t rx ry (.int .u64 x) (.int .u64 7) w K = K (.int .u64 (x.fdiv (2 ^ min (7 : Int).toNat IntKind.u64.bits))) w := fun x w K t rx ry => bin_shr (by decide)
  have s17 : ∀ (x : Int) (w : World) (K : KV) (t : TypeId) (rx ry : Operand), binT P .shl t rx ry (.int .u64 x) (.int .u64 17) w K = K (.int .u64 (IntKind.u64.wrap (x * 2 ^ min (17 : Int).toNat IntKind.u64.bits))) w := fun x w K t rx ry => bin_shl (by decide)
  have c0 := cellOf_of hb 0
  have f0 := frzOf_of hb 0
  simp only [List.size_toArray, List.getElem?_toArray, List.getElem?_cons_zero] at c0
  simp [c0, f0, s13, s7, s17, bin_xor, cellOf_setCell, frzOf_setCell]
  refine h _ _ (wrapU_range _).1 (wrapU_range _).2 ?_ ?_
  · exact setDr_at (setDr_at (setDr_at hb))
  · exact (((((((Fr.refl (fun b => b = sb) w).dr 1).setCell (.inl rfl) _ _).dr 1).setCell (.inl rfl) _ _).dr 1).setCell (.inl rfl) _ _)
end Go.Proofs.Ytkjhekflgghbdaa
set_option maxRecDepth 100000
namespace Go.Proofs.Ytkjhekflgghbdaa.Suint64
open Go.Eng Go.Sort

theorem Rf.side {w w' w'' : World} {g cap sb : Nat} {e : TypeId} {d : Array Int} (h : Rf w w' g e cap d) (f : Fr (fun b => b = sb) w' w'') (hs : w.heap.size ≤ sb) (hne : sb ≠ g) : Rf w w'' g e cap d :=
  ⟨h.row.fr f fun h => hne h.symm, h.fr.trans' f fun b hb he => by omega⟩
theorem Rf.new {w w' : World} {g cap : Nat} {e : TypeId} {d : Array Int} (h : Rf w w' g e cap d) (o : Obj) : Rf w (w'.alloc o) g e cap d :=
  ⟨h.row.fr ((Fr.refl (fun _ => False) w').alloc o) fun h => h, h.fr.alloc o⟩

def Sw (w : World) (sb : Nat) : Prop := ∃ x e, w.heap[sb]? = some (.cells #[.int .i64 x] e (0, 0))
theorem order2_ok {w : World} {g cap n sb : Nat} {e : TypeId} {d : Array Int} (H : Rw w g e cap d) (hn : d.size = n) (S : Sw w sb) (hne : sb ≠ g) {a b : Nat} (ha : a < n) (hb : b < n) {K : KV}
    (h : ∀ w' x y, (x = a ∧ y = b ∨ x = b ∧ y = a) → Sw w' sb → Fr (fun b => b = sb) w w' → K (.tuple #[.int .i64 (x : Nat), .int .i64 (y : Nat)]) w') :
    fcallT P F.slices_order2Ordered_uint64 [.slice (some ⟨g, 0, none⟩) n cap, .int .i64 a, .int .i64 b, .pointer (some ⟨sb, 0, none⟩)] w K := by
  rw [M.slices_order2Ordered_uint64.fcall]
  apply M.slices_order2Ordered_uint64.calls
  unfold M.slices_order2Ordered_uint64
  have a1 := H.at (show a < d.size by omega)
  have a2 := H.at (show b < d.size by omega)
  have b1 : (a : Int) < n := by omega
  have b2 : (b : Int) < n := by omega
  simp [b1, b2, a1, a2]
  refine less_ok _ _ ?_
  obtain ⟨x, e', hx⟩ := S
  cases hl : ltInt d[b]! d[a]! with
  | false =>
    simp
    exact h _ a b (.inl ⟨rfl, rfl⟩) ⟨x, e', hx⟩ ((Fr.refl _ _).dr 1)
  | true =>
    have c0 := cellOf_of hx 0
    have f0 := frzOf_of hx 0
    simp only [List.size_toArray, List.getElem?_toArray, List.getElem?_cons_zero] at c0
    simp [c0, f0]
    exact h _ b a (.inr ⟨rfl, rfl⟩) ⟨IntKind.i64.wrap (x + 1), e', setDr_at hx⟩ (((Fr.refl (fun b => b = sb) w).dr 1).setCell (.inl rfl) _ _)
theorem median_ok {w : World} {g cap n sb : Nat} {e : TypeId} {d : Array Int} (H : Rw w g e cap d) (hn : d.size = n) (S : Sw w sb) (hne : sb ≠ g) {a b c : Nat} (ha : a < n) (hb : b < n) (hc : c < n) {K : KV}
    (h : ∀ w' x, (x = a ∨ x = b ∨ x = c) → Sw w' sb → Fr (fun b => b = sb) w w' → K (.int .i64 (x : Nat)) w') :
    fcallT P F.slices_medianOrdered_uint64 [.slice (some ⟨g, 0, none⟩) n cap, .int .i64 a, .int .i64 b, .int .i64 c, .pointer (some ⟨sb, 0, none⟩)] w K := by
  rw [M.slices_medianOrdered_uint64.fcall]
  apply M.slices_medianOrdered_uint64.calls
  unfold M.slices_medianOrdered_uint64
  refine order2_ok H hn S hne ha hb fun w1 x1 y1 h1 S1 f1 => ?_
  simp
  have H1 := H.fr f1 fun h => hne h.symm
  refine order2_ok H1 hn S1 hne (a := y1) (b := c) (by omega) hc fun w2 x2 y2 h2 S2 f2 => ?_
  simp
  have H2 := H1.fr f2 fun h => hne h.symm
  refine order2_ok H2 hn S2 hne (a := x1) (b := x2) (by omega) (by omega) fun w3 x3 y3 h3 S3 f3 => ?_
  simp
  exact h w3 y3 (by omega) S3 ((f1.trans f2).trans f3)
theorem adj_ok {w : World} {g cap n sb : Nat} {e : TypeId} {d : Array Int} (H : Rw w g e cap d) (hn : d.size = n) (h6 : n < 100000) (S : Sw w sb) (hne : sb ≠ g) {a : Nat} (ha : 1 ≤ a) (hb : a + 1 < n) {K : KV}
    (h : ∀ w' x, (x = a - 1 ∨ x = a ∨ x = a + 1) → Sw w' sb → Fr (fun b => b = sb) w w' → K (.int .i64 (x : Nat)) w') :
    fcallT P F.slices_medianAdjacentOrdered_uint64 [.slice (some ⟨g, 0, none⟩) n cap, .int .i64 a, .pointer (some ⟨sb, 0, none⟩)] w K := by
  rw [M.slices_medianAdjacentOrdered_uint64.fcall]
  apply M.slices_medianAdjacentOrdered_uint64.calls
  unfold M.slices_medianAdjacentOrdered_uint64
  have hw1 : IntKind.i64.wrap ((a : Int) - 1) = ((a - 1 : Nat) : Int) := by rw [wrap_id (by omega) (by omega)]; omega
  have hw2 : IntKind.i64.wrap ((a : Int) + 1) = ((a + 1 : Nat) : Int) := wrap1 (by omega)
  simp only [bin_sub, bin_add, hw1, hw2]
  refine median_ok H hn S hne (by omega) (by omega) (by omega) fun w' x hx S' f' => ?_
  exact h w' x hx S' f'

theorem pivot_ok {w : World} {g cap n : Nat} {e : TypeId} {d : Array Int} (H : Rw w g e cap d) (hn : d.size = n) (h6 : n < 100000) {a b : Nat} (hb : b ≤ n) (hab : a + 12 < b) {K : KV}
    (h : ∀ w' (p hint : Nat), a ≤ p → p < b → hint ≤ 2 → Rf w w' g e cap d → K (.tuple #[.int .i64 (p : Nat), .int .i64 (hint : Nat)]) w') :
    callT P F.slices_choosePivotOrdered_uint64 [.slice (some ⟨g, 0, none⟩) n cap, .int .i64 a, .int .i64 b] w K := by
  apply M.slices_choosePivotOrdered_uint64.calls
  unfold M.slices_choosePivotOrdered_uint64
  have hw0 : IntKind.i64.wrap ((b : Int) - a) = ((b - a : Nat) : Int) := wrapS (by omega) (by omega)
  generalize hl : b - a = l at *
  have q4 : IntKind.i64.wrap (((l : Nat) : Int).tdiv 4) = ((l / 4 : Nat) : Int) := by rw [Int.tdiv_eq_ediv_of_nonneg (by omega), wrap_id (by omega) (by omega)]; omega
  have m1 : IntKind.i64.wrap (((l / 4 : Nat) : Int) * 1) = ((l / 4 : Nat) : Int) := by rw [wrap_id (by omega) (by omega)]; omega
  have m2 : IntKind.i64.wrap (((l / 4 : Nat) : Int) * 2) = ((l / 4 * 2 : Nat) : Int) := by rw [wrap_id (by omega) (by omega)]; omega
  have m3 : IntKind.i64.wrap (((l / 4 : Nat) : Int) * 3) = ((l / 4 * 3 : Nat) : Int) := by rw [wrap_id (by omega) (by omega)]; omega
  have s1 : IntKind.i64.wrap ((a : Int) + ((l / 4 : Nat) : Int)) = ((a + l / 4 : Nat) : Int) := by rw [wrap_id (by omega) (by omega)]; omega
  have s2 : IntKind.i64.wrap ((a : Int) + ((l / 4 * 2 : Nat) : Int)) = ((a + l / 4 * 2 : Nat) : Int) := by rw [wrap_id (by omega) (by omega)]; omega
  have s3 : IntKind.i64.wrap ((a : Int) + ((l / 4 * 3 : Nat) : Int)) = ((a + l / 4 * 3 : Nat) : Int) := by rw [wrap_id (by omega) (by omega)]; omega
  have bq : ∀ (x : Int) (t : TypeId) (rx ry : Operand) (w : World) (K : KV), binT P .quo t rx ry (.int .i64 x) (.int .i64 4) w K = K (.int .i64 (IntKind.i64.wrap (x.tdiv 4))) w := fun x t rx ry w K => bin_quo (by decide)
  have al : ∀ (w : World) (K : KV), alT P T.int w K = K (.pointer (some ⟨w.heap.size, 0, none⟩)) (w.alloc (.cells #[.int .i64 0] T.int)) := fun w K => by refine Eq.trans ?_ rfl; kernel_rfl
  have c8 : (8 : Int) ≤ (l : Int) := by omega
  simp only [bin_sub, bin_add, bin_mul, bq, hw0, q4, m1, m2, m3, s1, s2, s3, al, bin_geq, c8, decide_true, Eng.cond_true]
  clear q4 m1 m2 m3 s1 s2 s3 bq al c8 hw0
  have H0 := H.self.new (.cells #[.int .i64 0] T.int)
  have S0 : Sw (w.alloc (.cells #[.int .i64 0] T.int)) w.heap.size := ⟨0, T.int, by rw [alloc_heap, if_pos rfl]⟩
  have hne : w.heap.size ≠ g := by have := H.lt; omega
  generalize w.alloc (.cells #[.int .i64 0] T.int) = w0 at *
  have fin : ∀ (w1 : World) (p : Nat) (v1 v2 : Value), a ≤ p → p < b → Rf w w1 g e cap d → Sw w1 w.heap.size → M.slices_choosePivotOrdered_uint64.j0 (.pointer (some ⟨w.heap.size, 0, none⟩)) [v1, .int .i64 (p : Nat), v2] w1 K := by
    intro w1 p v1 v2 hp1 hp2 H1 S1
    obtain ⟨x, e', hx⟩ := S1
    unfold M.slices_choosePivotOrdered_uint64.j0
    have c0 := cellOf_of hx 0
    simp only [List.size_toArray, List.getElem?_toArray, List.getElem?_cons_zero] at c0
    have q1 : ∀ a b c : Value, gv [a, b, c] 1 = b := fun _ _ _ => rfl
    by_cases x0 : x = 0
    · simp [c0, q1, x0]
      exact h w1 p 1 hp1 hp2 (by decide) H1
    by_cases x12 : x = 12
    · simp [c0, q1, x12]
      exact h w1 p 2 hp1 hp2 (by decide) H1
    · simp [c0, q1, x0, x12]
      exact h w1 p 0 hp1 hp2 (by decide) H1
  simp only [joinT_eq]
  have last : ∀ (w1 : World) (x y z : Nat), a ≤ x → x < b → a ≤ y → y < b → a ≤ z → z < b → Rf w w1 g e cap d → Sw w1 w.heap.size →
      fcallT P F.slices_medianOrdered_uint64 [.slice (some ⟨g, 0, none⟩) n cap, gv [.int .i64 (x : Int), .int .i64 (y : Int), .int .i64 (z : Int)] 0, gv [.int .i64 (x : Int), .int .i64 (y : Int), .int .i64 (z : Int)] 1, gv [.int .i64 (x : Int), .int .i64 (y : Int), .int .i64 (z : Int)] 2, .pointer (some ⟨w.heap.size, 0, none⟩)] w1 fun t48 w' =>
        M.slices_choosePivotOrdered_uint64.j0 (.pointer (some ⟨w.heap.size, 0, none⟩)) [gv [.int .i64 (x : Int), .int .i64 (y : Int), .int .i64 (z : Int)] 0, t48, gv [.int .i64 (x : Int), .int .i64 (y : Int), .int .i64 (z : Int)] 2] w' K := by
    intro w1 x y z hx1 hx2 hy1 hy2 hz1 hz2 H1 S1
    refine median_ok H1.row hn S1 hne (a := x) (b := y) (c := z) (by omega) (by omega) (by omega) fun w2 p hp S2 f2 => ?_
    exact fin w2 p _ _ (by omega) (by omega) (H1.side f2 (Nat.le_refl _) hne) S2
  by_cases h50 : 50 ≤ l
  · have h50' : (50 : Int) ≤ (l : Int) := by omega
    simp only [h50', decide_true, Eng.cond_true]
    refine adj_ok H0.row hn h6 S0 hne (by omega) (by omega) fun w1 x hx S1 f1 => ?_
    have H1 := H0.side f1 (Nat.le_refl _) hne
    refine adj_ok H1.row hn h6 S1 hne (by omega) (by omega) fun w2 y hy S2 f2 => ?_
    have H2 := H1.side f2 (Nat.le_refl _) hne
    refine adj_ok H2.row hn h6 S2 hne (by omega) (by omega) fun w3 z hz S3 f3 => ?_
    have H3 := H2.side f3 (Nat.le_refl _) hne
    exact last w3 x y z (by omega) (by omega) (by omega) (by omega) (by omega) (by omega) H3 S3
  · have h50' : ¬ (50 : Int) ≤ (l : Int) := by omega
    simp only [h50', decide_false, Eng.cond_false]
    exact last w0 (a + l / 4) (a + l / 4 * 2) (a + l / 4 * 3) (by omega) (by omega) (by omega) (by omega) (by omega) (by omega) H0 S0

/-! ### breakPatternsOrdered: some places change -/
def BpI (w : World) (g : Nat) (e : TypeId) (cap n a b idx0 : Nat) (d : Array Int) : KL := fun x w1 => ∃ (u : Value) (k : Nat) (d1 : Array Int) (r : Int), x = [u, .int .i64 ((idx0 + k : Nat) : Int)] ∧ Rf w w1 g e cap d1 ∧ d1.size = n ∧ k ≤ 3 ∧ PermIn a b d d1 ∧ 0 ≤ r ∧ r < 18446744073709551616 ∧ w1.heap[w.heap.size]? = some (.cells #[.int .u64 r] T.slices_xorshift (0, 0))
theorem break_ok {w : World} {g cap n : Nat} {e : TypeId} {d : Array Int} (H : Rw w g e cap d) (hn : d.size = n) (h6 : n < 60000) {a b : Nat} (hb : b ≤ n) (hab : a + 12 < b) {K : KV}
    (h : ∀ w' d', PermIn a b d d' → Rf w w' g e cap d' → K (.tuple #[]) w') :
    callT P F.slices_breakPatternsOrdered_uint64 [.slice (some ⟨g, 0, none⟩) n cap, .int .i64 a, .int .i64 b] w K := by
  apply M.slices_breakPatternsOrdered_uint64.calls
  unfold M.slices_breakPatternsOrdered_uint64
  have hw0 : IntKind.i64.wrap ((b : Int) - a) = ((b - a : Nat) : Int) := wrapS (by omega) (by omega)
  have hlb : a + (b - a) = b := by omega
  generalize hl : b - a = l at *
  have bq : ∀ (x : Int) (t : TypeId) (rx ry : Operand) (w : World) (K : KV), binT P .quo t rx ry (.int .i64 x) (.int .i64 4) w K = K (.int .i64 (IntKind.i64.wrap (x.tdiv 4))) w := fun x t rx ry w K => bin_quo (by decide)
  have q4 : IntKind.i64.wrap (((l : Nat) : Int).tdiv 4) = ((l / 4 : Nat) : Int) := by rw [Int.tdiv_eq_ediv_of_nonneg (by omega), wrap_id (by omega) (by omega)]; omega
  have m2 : IntKind.i64.wrap (((l / 4 : Nat) : Int) * 2) = ((l / 4 * 2 : Nat) : Int) := by rw [wrap_id (by omega) (by omega)]; omega
  have s2 : IntKind.i64.wrap ((a : Int) + ((l / 4 * 2 : Nat) : Int)) = ((a + l / 4 * 2 : Nat) : Int) := by rw [wrap_id (by omega) (by omega)]; omega
  have s3 : IntKind.i64.wrap (((a + l / 4 * 2 : Nat) : Int) - 1) = ((a + l / 4 * 2 - 1 + 0 : Nat) : Int) := by rw [wrap_id (by omega) (by omega)]; omega
  have s4 : IntKind.i64.wrap (((a + l / 4 * 2 : Nat) : Int) + 1) = ((a + l / 4 * 2 + 1 : Nat) : Int) := wrap1 (by omega)
  have c8 : (8 : Int) ≤ (l : Int) := by omega
  have i64B : intB P T.int .i64 = true := by kernel_rfl
  have uB : intB P T.uint .u64 = true := by kernel_rfl
  have xB : intB P T.slices_xorshift .u64 = true := by kernel_rfl
  simp only [bin_sub, hw0, bin_geq, c8, decide_true, Eng.cond_true]
  rw [cv_ints i64B xB, wrapU (by omega)]
  have hx0 : (w.alloc (.cells #[.int .u64 0] T.slices_xorshift)).heap[w.heap.size]? = some (.cells #[.int .u64 0] T.slices_xorshift (0, 0)) := by rw [alloc_heap, if_pos rfl]
  have H0 := H.self.new (.cells #[.int .u64 0] T.slices_xorshift)
  have hne : w.heap.size ≠ g := by have := H.lt; omega
  have c0 := cellOf_of hx0 0
  have f0 := frzOf_of hx0 0
  simp only [List.size_toArray, List.getElem?_toArray, List.getElem?_cons_zero] at c0
  simp [c0, f0, -joinT_eq]
  have hx1 : ((w.alloc (.cells #[.int .u64 0] T.slices_xorshift)).setCell ⟨w.heap.size, 0, none⟩ (.int .u64 l)).heap[w.heap.size]? = some (.cells #[.int .u64 l] T.slices_xorshift (0, 0)) := setCell_at hx0
  have H1 := H0.side ((Fr.refl (fun b => b = w.heap.size) _).setCell (.inl rfl) 0 (.int .u64 (l : Int))) (Nat.le_refl _) hne
  generalize (w.alloc (.cells #[.int .u64 0] T.slices_xorshift)).setCell ⟨w.heap.size, 0, none⟩ (.int .u64 (l : Int)) = w1 at *
  rw [M.slices_nextPowerOfTwo.fcall]
  refine pow2_ok (by omega) ?_
  have hp2 : 2 ^ bitsLen l ≤ 2 * l := two_pow_bitsLen_le (by omega)
  have hp1 : 0 < 2 ^ bitsLen l := Nat.pow_pos (by decide)
  simp only [bq, q4, bin_mul, m2, bin_add, s2, bin_sub, s3]
  generalize 2 ^ bitsLen l = md at *
  generalize hi0 : a + l / 4 * 2 - 1 = i0 at *
  refine ⟨BpI w g e cap n a b i0 d, fun x _ => i0 + 3 - ms x 1, ⟨_, 0, d, l, rfl, H1, hn, by omega, permIn_refl d a b, by omega, by omega, hx1⟩, ?_⟩
  rintro x w2 ⟨u, k, d2, r, rfl, H2, hn2, hk, hP, hr0, hr1, hx2⟩
  unfold M.slices_breakPatternsOrdered_uint64.j0
  simp only [joinT_eq, bq, q4, bin_mul, m2, bin_add, s2, s4, g21, bin_leq]
  by_cases hk3 : k < 3
  · have hle : ((i0 + k : Nat) : Int) ≤ ((a + l / 4 * 2 + 1 : Nat) : Int) := by omega
    simp only [hle, decide_true, Eng.cond_true]
    unfold M.slices_breakPatternsOrdered_uint64.j1
    simp only [joinT_eq, g21]
    rw [M.pslices_xorshift_Next.fcall]
    refine xorNext_ok hx2 fun w3 y hy0 hy1 hx3 f3 => ?_
    have H3 := H2.side f3 (Nat.le_refl _) hne
    obtain ⟨z, rfl⟩ : ∃ z : Nat, y = z := ⟨y.toNat, by omega⟩
    have hm1 : IntKind.u64.wrap ((md : Int) - 1) = ((md - 1 : Nat) : Int) := by rw [wrap_u64 (by omega) (by omega)]; omega
    have hand : (BitVec.ofInt IntKind.u64.bits (z : Int) &&& BitVec.ofInt IntKind.u64.bits ((md - 1 : Nat) : Int)).toNat ≤ md - 1 := and_le (x := z) (y := md - 1) (by omega) (by omega)
    simp only [bin_sub, hm1, bin_and]
    generalize (BitVec.ofInt IntKind.u64.bits (z : Int) &&& BitVec.ofInt IntKind.u64.bits ((md - 1 : Nat) : Int)).toNat = o at *
    rw [wrapU (by omega), cv_ints uB i64B, wrapI (by omega)]
    have tail : ∀ (o : Nat), o < l → M.slices_breakPatternsOrdered_uint64.j3 (.int .i64 a) [.int .i64 (o : Nat)] (.slice (some ⟨g, 0, none⟩) n cap) [u, .int .i64 ((i0 + k : Nat) : Int)] (fun x2 w' => BpI w g e cap n a b i0 d [gv x2 0, .int .i64 (IntKind.i64.wrap (((i0 + k : Nat) : Int) + 1))] w' ∧ i0 + 3 - ms [gv x2 0, .int .i64 (IntKind.i64.wrap (((i0 + k : Nat) : Int) + 1))] 1 < i0 + 3 - ms [u, .int .i64 ((i0 + k : Nat) : Int)] 1) w3 K := by
      intro o ho
      unfold M.slices_breakPatternsOrdered_uint64.j3
      have wr : IntKind.i64.wrap ((a : Int) + (o : Int)) = ((a + o : Nat) : Int) := by rw [wrap_id (by omega) (by omega)]; omega
      have a1 := H3.row.at (show i0 + k < d2.size by omega)
      have a2 := H3.row.at (show a + o < d2.size by omega)
      have b1 : ((i0 + k : Nat) : Int) < n := by omega
      have b2 : ((a + o : Nat) : Int) < n := by omega
      have f1 := H3.row.frz (i0 + k)
      have f2 := H3.row.frz (a + o)
      simp [g0, g21, wr, b1, b2, a1, a2, f1, f2, cellOf_setCell, frzOf_setCell, -Int.natCast_add]
      have hw5 : IntKind.i64.wrap (((i0 + k : Nat) : Int) + 1) = ((i0 + (k + 1) : Nat) : Int) := by rw [wrap_id (by omega) (by omega)]; omega
      rw [hw5]
      refine ⟨⟨_, k + 1, _, z, rfl, (H3.dr 1).swp (by omega) (by omega), by rw [size_swp]; exact hn2, by omega, permIn_trans _ _ _ a b hP (swp_permIn _ a b _ _ (by omega) (by omega) (by omega) (by omega) (by omega)), by omega, by omega, ?_⟩, ?_⟩
      · rw [setCell_ne (by omega), setCell_ne (by omega)]; exact hx3
      · simp only [ms, g21]; omega
    simp only [joinT_eq, bin_geq, bin_add]
    by_cases hol : l ≤ o
    · have hol' : (l : Int) ≤ o := by omega
      have hwo : IntKind.i64.wrap ((o : Int) - l) = ((o - l : Nat) : Int) := wrapS (by omega) (by omega)
      simp only [hol', decide_true, Eng.cond_true, bin_sub, hwo]
      exact tail (o - l) (by omega)
    · have hol' : ¬ (l : Int) ≤ o := by omega
      simp only [hol', decide_false, Eng.cond_false]
      exact tail o (by omega)
  · have hle : ¬ ((i0 + k : Nat) : Int) ≤ ((a + l / 4 * 2 + 1 : Nat) : Int) := by omega
    simp only [hle, decide_false, Eng.cond_false]
    exact h w2 d2 hP H2
end Go.Proofs.Ytkjhekflgghbdaa.Suint64
set_option maxRecDepth 100000
namespace Go.Proofs.Ytkjhekflgghbdaa.Suint64
open Go.Eng Go.Sort

section
theorem f5 (a0 a1 a2 a3 a4 a5 a6 a7 a8 a9 a10 a11 a12 a13 : Value) : gv [a0, a1, a2, a3, a4, a5, a6, a7, a8, a9, a10, a11, a12, a13] 5 = a5 := rfl
theorem f1' (a0 a1 a2 a3 a4 a5 a6 a7 a8 a9 a10 a11 a12 a13 : Value) : gv [a0, a1, a2, a3, a4, a5, a6, a7, a8, a9, a10, a11, a12, a13] 1 = a1 := rfl
theorem f8 (a0 a1 a2 a3 a4 a5 a6 a7 a8 a9 a10 a11 a12 a13 : Value) : gv [a0, a1, a2, a3, a4, a5, a6, a7, a8, a9, a10, a11, a12, a13] 8 = a8 := rfl
theorem f12 (a0 a1 a2 a3 a4 a5 a6 a7 a8 a9 a10 a11 a12 a13 : Value) : gv [a0, a1, a2, a3, a4, a5, a6, a7, a8, a9, a10, a11, a12, a13] 12 = a12 := rfl
theorem f13 (a0 a1 a2 a3 a4 a5 a6 a7 a8 a9 a10 a11 a12 a13 : Value) : gv [a0, a1, a2, a3, a4, a5, a6, a7, a8, a9, a10, a11, a12, a13] 13 = a13 := rfl
end

/-- The loop: what is left to sort is [a, b). -/
structure PdSt (w w1 : World) (g : Nat) (e : TypeId) (cap n a0 b0 : Nat) (d0 : Array Int) (a b limit : Nat) (wb wp : Bool) (d : Array Int) : Prop where
  rf : Rf w w1 g e cap d
  sz : d.size = n
  ab : a ≤ b
  bb : b - a ≤ b0 - a0
  bn : b ≤ n
  be : Below ltInt a b d
  fin : ∀ R, PermIn a b d R → SortedIn ltInt a b R → PermIn a0 b0 d0 R ∧ SortedIn ltInt a0 b0 R
def PdI (w : World) (g : Nat) (e : TypeId) (cap n a0 b0 : Nat) (d0 : Array Int) : KL := fun x w1 => ∃ (u0 u2 u3 u4 u6 u7 u9 u10 u11 : Value) (a b limit : Nat) (wb wp : Bool) (d : Array Int),
  x = [u0, .int .i64 (limit : Nat), u2, u3, u4, .int .i64 (a : Nat), u6, u7, .bool wp, u9, u10, u11, .bool wb, .int .i64 (b : Nat)] ∧ limit < 1000 ∧ PdSt w w1 g e cap n a0 b0 d0 a b limit wb wp d

def IH (m : Nat) : Prop := ∀ {w : World} {g cap n : Nat} {e : TypeId} {d : Array Int} (_ : Rw w g e cap d) (_ : d.size = n) (_ : n < 60000) {a b limit : Nat} (_ : b - a ≤ m) (_ : a ≤ b) (_ : b ≤ n) (_ : limit < 1000) (_ : Below ltInt a b d) {K : KV}
    (_ : ∀ w' d', PermIn a b d d' → SortedIn ltInt a b d' → Rf w w' g e cap d' → K (.tuple #[]) w'), callT P F.slices_pdqsortOrdered_uint64 [.slice (some ⟨g, 0, none⟩) n cap, .int .i64 a, .int .i64 b, .int .i64 limit] w K
section
variable {m : Nat} {w : World} {g cap n : Nat} {e : TypeId} {d d5 : Array Int} {a0 b0 a b pv hint4 lim2 : Nat} {wb wp : Bool} {x0 : List Value} {K : KV}
theorem pd_part (ih : IH m) (h6 : n < 60000) (hm : b0 - a0 ≤ m + 1) (hbb : b - a ≤ b0 - a0) (hbn : b ≤ n) (hab : a ≤ b) (hpv1 : a ≤ pv) (hpv2 : pv < b) (hlim2 : lim2 < 1000) {w5 : World} (H5 : Rf w w5 g e cap d5) (hn5 : d5.size = n) (B5 : Below ltInt a b d5)
    (hfin5 : ∀ R, PermIn a b d5 R → SortedIn ltInt a b R → PermIn a0 b0 d R ∧ SortedIn ltInt a0 b0 R) (e5 : gv x0 5 = .int .i64 (a : Nat)) (e8 : gv x0 8 = .bool wp) (e12 : gv x0 12 = .bool wb) (e13 : gv x0 13 = .int .i64 (b : Nat)) (m5 : ms x0 5 = a) (m13 : ms x0 13 = b) (v0 : Value) :
    M.slices_pdqsortOrdered_uint64.j6 (.slice (some ⟨g, 0, none⟩) n cap) [v0, .int .i64 (a : Nat)] x0 [.int .i64 (pv : Nat), .int .i64 (hint4 : Nat)] (.int .i64 ((b - a : Nat) : Int)) [.int .i64 (lim2 : Nat)] (fun x' w' => PdI w g e cap n a0 b0 d x' w' ∧ ms x' 13 - ms x' 5 < ms x0 13 - ms x0 5) w5 K := by
  unfold M.slices_pdqsortOrdered_uint64.j6
  simp only [g20, g21, e13]
  rw [M.slices_partitionOrdered_uint64.fcall]
  refine partition_ok H5.row hn5 (by omega) hbn hpv1 hpv2 fun w7 H7 => ?_
  have H7' := H5.trans H7
  obtain ⟨r1, r2, r3, rBa, rBr, rL, rR⟩ := round_part swo_ltInt (partition_holds ltInt) hpv1 hpv2 (by omega) B5 (show partition ltInt d5 a b pv = ((partition ltInt d5 a b pv).1, (partition ltInt d5 a b pv).2.1, (partition ltInt d5 a b pv).2.2) from rfl)
  generalize (partition ltInt d5 a b pv).1 = mid at *
  generalize (partition ltInt d5 a b pv).2.1 = ap at *
  generalize (partition ltInt d5 a b pv).2.2 = d7 at *
  have hn7 : d7.size = n := by omega
  have wl : IntKind.i64.wrap ((mid : Int) - a) = ((mid - a : Nat) : Int) := wrapS (by omega) (by omega)
  have wr : IntKind.i64.wrap ((b : Int) - mid) = ((b - mid : Nat) : Int) := wrapS (by omega) (by omega)
  have wm : IntKind.i64.wrap ((mid : Int) + 1) = ((mid + 1 : Nat) : Int) := wrap1 (by omega)
  have bq : ∀ (x : Int) (t : TypeId) (rx ry : Operand) (w : World) (K : KV), binT P .quo t rx ry (.int .i64 x) (.int .i64 8) w K = K (.int .i64 (IntKind.i64.wrap (x.tdiv 8))) w := fun x t rx ry w K => bin_quo (by decide)
  simp only [ex_2_0, ex_2_1, g0, bin_sub, wl, wr, bq, bin_lss, bin_geq]
  by_cases hlt : mid - a < b - mid
  · have hlt' : ((mid - a : Nat) : Int) < ((b - mid : Nat) : Int) := by omega
    simp only [hlt', decide_true, Eng.cond_true]
    rw [M.slices_pdqsortOrdered_uint64.fcall]
    refine ih H7.row hn7 h6 (by omega) r1 (by omega) hlim2 rBa fun w8 d8 P8 S8 H8 => ?_
    obtain ⟨hBL, hfinL⟩ := rL d8 P8 S8
    simp only [bin_add, wm]
    refine ⟨⟨_, _, _, _, _, _, _, _, _, mid + 1, b, lim2, _, ap, d8, rfl, hlim2, ⟨H7'.trans H8, by rw [P8.1]; exact hn7, by omega, by omega, hbn, hBL, fun R h1 h2 => ?_⟩⟩, ?_⟩
    · obtain ⟨k1, k2⟩ := hfinL R h1 h2
      exact hfin5 R k1 k2
    · have : ∀ y0 y1 y2 y3 y4 y6 y7 y8 y9 y10 y11 y12 : Value, ms [y0, y1, y2, y3, y4, .int .i64 ((mid + 1 : Nat) : Int), y6, y7, y8, y9, y10, y11, y12, .int .i64 (b : Nat)] 13 = b ∧ ms [y0, y1, y2, y3, y4, .int .i64 ((mid + 1 : Nat) : Int), y6, y7, y8, y9, y10, y11, y12, .int .i64 (b : Nat)] 5 = mid + 1 := fun _ _ _ _ _ _ _ _ _ _ _ _ => ⟨rfl, rfl⟩
      rw [(this _ _ _ _ _ _ _ _ _ _ _ _).1, (this _ _ _ _ _ _ _ _ _ _ _ _).2, m5, m13]; omega
  · have hlt' : ¬ ((mid - a : Nat) : Int) < ((b - mid : Nat) : Int) := by omega
    simp only [hlt', decide_false, Eng.cond_false, bin_add, wm]
    rw [M.slices_pdqsortOrdered_uint64.fcall]
    refine ih H7.row hn7 h6 (by omega) (by omega) hbn hlim2 rBr fun w8 d8 P8 S8 H8 => ?_
    obtain ⟨hBL, hfinL⟩ := rR d8 P8 S8
    refine ⟨⟨_, _, _, _, _, _, _, _, _, a, mid, lim2, _, ap, d8, rfl, hlim2, ⟨H7'.trans H8, by rw [P8.1]; exact hn7, by omega, by omega, by omega, hBL, fun R h1 h2 => ?_⟩⟩, ?_⟩
    · obtain ⟨k1, k2⟩ := hfinL R h1 h2
      exact hfin5 R k1 k2
    · have : ∀ y0 y1 y2 y3 y4 y6 y7 y8 y9 y10 y11 y12 : Value, ms [y0, y1, y2, y3, y4, .int .i64 (a : Nat), y6, y7, y8, y9, y10, y11, y12, .int .i64 (mid : Nat)] 13 = mid ∧ ms [y0, y1, y2, y3, y4, .int .i64 (a : Nat), y6, y7, y8, y9, y10, y11, y12, .int .i64 (mid : Nat)] 5 = a := fun _ _ _ _ _ _ _ _ _ _ _ _ => ⟨rfl, rfl⟩
      rw [(this _ _ _ _ _ _ _ _ _ _ _ _).1, (this _ _ _ _ _ _ _ _ _ _ _ _).2, m5, m13]; omega
theorem pd_eq (ih : IH m) (h6 : n < 60000) (hm : b0 - a0 ≤ m + 1) (hbb : b - a ≤ b0 - a0) (hbn : b ≤ n) (hab : a ≤ b) (hpv1 : a ≤ pv) (hpv2 : pv < b) (hlim2 : lim2 < 1000) {w5 : World} (H5 : Rf w w5 g e cap d5) (hn5 : d5.size = n) (B5 : Below ltInt a b d5)
    (hfin5 : ∀ R, PermIn a b d5 R → SortedIn ltInt a b R → PermIn a0 b0 d R ∧ SortedIn ltInt a0 b0 R) (e5 : gv x0 5 = .int .i64 (a : Nat)) (e8 : gv x0 8 = .bool wp) (e12 : gv x0 12 = .bool wb) (e13 : gv x0 13 = .int .i64 (b : Nat)) (m5 : ms x0 5 = a) (m13 : ms x0 13 = b) :
    M.slices_pdqsortOrdered_uint64.j5 x0 (.slice (some ⟨g, 0, none⟩) n cap) [.int .i64 (pv : Nat), .int .i64 (hint4 : Nat)] (fun x' w' => PdI w g e cap n a0 b0 d x' w' ∧ ms x' 13 - ms x' 5 < ms x0 13 - ms x0 5) (.int .i64 ((b - a : Nat) : Int)) [.int .i64 (lim2 : Nat)] w5 K := by
  unfold M.slices_pdqsortOrdered_uint64.j5
  simp only [joinT_eq, drawT_eq, quietT_eq, e5, e13, g20, true_and, and_true, bin_gtr, isB_bool]
  by_cases ha0 : 0 < a
  · have ha0' : (0 : Int) < (a : Int) := by omega
    have hwa : IntKind.i64.wrap ((a : Int) - 1) = ((a - 1 : Nat) : Int) := by rw [wrap_id (by omega) (by omega)]; omega
    have a1 := H5.row.at (show a - 1 < d5.size by omega)
    have a2 := H5.row.at (show pv < d5.size by omega)
    have b1 : ((a - 1 : Nat) : Int) < n := by omega
    have b2 : (pv : Int) < n := by omega
    simp [ha0, ha0', hwa, a1, a2, b1, b2]
    refine less_ok _ _ ?_
    cases hl : ltInt d5[a - 1]! d5[pv]! with
    | true =>
      simp
      exact pd_part ih h6 hm hbb hbn hab hpv1 hpv2 hlim2 (H5.dr 1) hn5 B5 hfin5 e5 e8 e12 e13 m5 m13 _
    | false =>
      simp
      rw [M.slices_partitionEqualOrdered_uint64.fcall]
      refine partitionEqual_ok (H5.dr 1).row hn5 (by omega) hbn hpv1 hpv2 fun w7 H7 => ?_
      have H7' := (H5.dr 1).trans H7
      obtain ⟨r1, r2, r3, rB, rF⟩ := round_eq swo_ltInt (partitionEqual_holds ltInt) ha0 hpv1 hpv2 (by omega) B5 hl (show partitionEqual ltInt d5 a b pv = ((partitionEqual ltInt d5 a b pv).1, (partitionEqual ltInt d5 a b pv).2) from rfl)
      generalize (partitionEqual ltInt d5 a b pv).1 = mid at *
      generalize (partitionEqual ltInt d5 a b pv).2 = d7 at *
      have hn7 : d7.size = n := by omega
      refine ⟨⟨_, _, _, _, _, _, _, _, _, mid, b, lim2, wb, wp, d7, by rw [e8, e12], hlim2, ⟨H7', hn7, r2, by omega, hbn, rB, fun R h1 h2 => ?_⟩⟩, ?_⟩
      · obtain ⟨k1, k2⟩ := rF R h1 h2
        exact hfin5 R k1 k2
      · have : ∀ y0 y1 y2 y3 y4 y6 y7 y8 y9 y10 y11 y12 : Value, ms [y0, y1, y2, y3, y4, .int .i64 (mid : Nat), y6, y7, y8, y9, y10, y11, y12, .int .i64 (b : Nat)] 13 = b ∧ ms [y0, y1, y2, y3, y4, .int .i64 (mid : Nat), y6, y7, y8, y9, y10, y11, y12, .int .i64 (b : Nat)] 5 = mid := fun _ _ _ _ _ _ _ _ _ _ _ _ => ⟨rfl, rfl⟩
        rw [(this _ _ _ _ _ _ _ _ _ _ _ _).1, (this _ _ _ _ _ _ _ _ _ _ _ _).2, m5, m13]; omega
  · have ha0' : ¬ (0 : Int) < (a : Int) := by omega
    simp [ha0, ha0']
    exact pd_part ih h6 hm hbb hbn hab hpv1 hpv2 hlim2 (H5.dr 1) hn5 B5 hfin5 e5 e8 e12 e13 m5 m13 _
theorem pd_four {d1 : Array Int} (ih : IH m) (h6 : n < 60000) (hm : b0 - a0 ≤ m + 1) (hbb : b - a ≤ b0 - a0) (hbn : b ≤ n) (hab : a ≤ b) (hlim2 : lim2 < 1000) (h12 : ¬ b - a ≤ 12) (hn1 : d1.size = n) (hB1 : Below ltInt a b d1)
    (hfin : ∀ R, PermIn a b d1 R → SortedIn ltInt a b R → PermIn a0 b0 d R ∧ SortedIn ltInt a0 b0 R) (h : ∀ w' d', PermIn a0 b0 d d' → SortedIn ltInt a0 b0 d' → Rf w w' g e cap d' → K (.tuple #[]) w')
    (e5 : gv x0 5 = .int .i64 (a : Nat)) (e8 : gv x0 8 = .bool wp) (e12 : gv x0 12 = .bool wb) (e13 : gv x0 13 = .int .i64 (b : Nat)) (m5 : ms x0 5 = a) (m13 : ms x0 13 = b) {w4 : World} {d4 : Array Int} (H4 : Rf w w4 g e cap d4) (P4 : PermIn a b d1 d4) (hpv1 : a ≤ pv) (hpv2 : pv < b) :
    M.slices_pdqsortOrdered_uint64.j4 x0 [.int .i64 (pv : Nat), .int .i64 (hint4 : Nat)] (.slice (some ⟨g, 0, none⟩) n cap) (fun x' w' => PdI w g e cap n a0 b0 d x' w' ∧ ms x' 13 - ms x' 5 < ms x0 13 - ms x0 5) (.int .i64 ((b - a : Nat) : Int)) [.int .i64 (lim2 : Nat)] w4 K := by
  have hn4 : d4.size = n := by rw [P4.1]; exact hn1
  have B4 := hB1.perm (by omega) P4
  have st5 : ∀ (w5 : World) (d5 : Array Int), Rf w w5 g e cap d5 → PermIn a b d1 d5 →
      M.slices_pdqsortOrdered_uint64.j5 x0 (.slice (some ⟨g, 0, none⟩) n cap) [.int .i64 (pv : Nat), .int .i64 (hint4 : Nat)] (fun x' w' => PdI w g e cap n a0 b0 d x' w' ∧ ms x' 13 - ms x' 5 < ms x0 13 - ms x0 5) (.int .i64 ((b - a : Nat) : Int)) [.int .i64 (lim2 : Nat)] w5 K := fun w5 d5 H5 P5 =>
    pd_eq ih h6 hm hbb hbn hab hpv1 hpv2 hlim2 H5 (by rw [P5.1]; exact hn1) (hB1.perm (by omega) P5) (fun R h1 h2 => hfin R (permIn_trans _ _ _ a b P5 h1) h2) e5 e8 e12 e13 m5 m13
  unfold M.slices_pdqsortOrdered_uint64.j4
  simp only [joinT_eq, e5, e8, e12, e13, isB_bool, g21]
  cases wb with
  | false => simp; exact st5 w4 d4 H4 P4
  | true =>
    cases wp with
    | false => simp; exact st5 w4 d4 H4 P4
    | true =>
      by_cases hh1 : hint4 = 1
      · have hd : decide ((hint4 : Int) = 1) = true := by rw [decide_eq_true_eq]; omega
        simp only [isB_bool, pick_eq, guard_true, beq_self_eq_true, _root_.cond_true, bin_eql, hd, Eng.cond_true]
        rw [M.slices_partialInsertionSortOrdered_uint64.fcall]
        refine partialIns_ok H4.row hn4 (by omega) hbn (by omega) fun w5 H5 => ?_
        have hpi := partialInsertionSort_holds swo_ltInt d4 a b (by omega) (by omega) B4
        cases hr : (partialInsertionSort ltInt d4 a b).2 with
        | true =>
          simp
          obtain ⟨p1, p2⟩ := hfin _ (permIn_trans _ _ _ a b P4 hpi.1) (hpi.2 hr)
          exact h w5 _ p1 p2 (H4.trans H5)
        | false =>
          simp
          exact st5 w5 _ (H4.trans H5) (permIn_trans _ _ _ a b P4 hpi.1)
      · have hd : decide ((hint4 : Int) = 1) = false := by rw [decide_eq_false_iff_not]; omega
        simp only [isB_bool, pick_eq, guard_true, beq_self_eq_true, _root_.cond_true, bin_eql, hd, Eng.cond_false]
        exact st5 w4 d4 H4 P4
theorem pd_three {d1 : Array Int} (ih : IH m) (h6 : n < 60000) (hm : b0 - a0 ≤ m + 1) (hbb : b - a ≤ b0 - a0) (hbn : b ≤ n) (hab : a ≤ b) (hlim2 : lim2 < 1000) (h12 : ¬ b - a ≤ 12) (hn1 : d1.size = n) (hB1 : Below ltInt a b d1)
    (hfin : ∀ R, PermIn a b d1 R → SortedIn ltInt a b R → PermIn a0 b0 d R ∧ SortedIn ltInt a0 b0 R) (h : ∀ w' d', PermIn a0 b0 d d' → SortedIn ltInt a0 b0 d' → Rf w w' g e cap d' → K (.tuple #[]) w')
    (e5 : gv x0 5 = .int .i64 (a : Nat)) (e8 : gv x0 8 = .bool wp) (e12 : gv x0 12 = .bool wb) (e13 : gv x0 13 = .int .i64 (b : Nat)) (m5 : ms x0 5 = a) (m13 : ms x0 13 = b) {w2 : World} {d2 : Array Int} (H2 : Rf w w2 g e cap d2) (P2 : PermIn a b d1 d2) :
    M.slices_pdqsortOrdered_uint64.j3 (.slice (some ⟨g, 0, none⟩) n cap) x0 (fun x' w' => PdI w g e cap n a0 b0 d x' w' ∧ ms x' 13 - ms x' 5 < ms x0 13 - ms x0 5) (.int .i64 ((b - a : Nat) : Int)) [.int .i64 (lim2 : Nat)] w2 K := by
  have hn2 : d2.size = n := by rw [P2.1]; exact hn1
  have B2 := hB1.perm (by omega) P2
  unfold M.slices_pdqsortOrdered_uint64.j3
  simp only [e5, e13, joinT_eq]
  rw [M.slices_choosePivotOrdered_uint64.fcall]
  refine pivot_ok H2.row hn2 (by omega) hbn (by omega) fun w3 p hint hp1 hp2 hh H3 => ?_
  have H3' := H2.trans H3
  simp only [ex_2_0, ex_2_1, bin_eql]
  by_cases hh2 : hint = 2
  · have hh2' : (hint : Int) = 2 := by omega
    simp only [hh2', decide_true, Eng.cond_true]
    rw [M.slices_reverseRangeOrdered_uint64.fcall]
    refine reverse_ok H3.row hn2 (by omega) hbn (by omega) fun w4 H4 => ?_
    have hrev := reverseRange_holds d2 a b hab (by omega)
    have w1' : IntKind.i64.wrap ((b : Int) - 1) = ((b - 1 : Nat) : Int) := by rw [wrap_id (by omega) (by omega)]; omega
    have w2' : IntKind.i64.wrap ((p : Int) - a) = ((p - a : Nat) : Int) := wrapS (by omega) (by omega)
    have w3' : IntKind.i64.wrap (((b - 1 : Nat) : Int) - ((p - a : Nat) : Int)) = ((b - 1 - (p - a) : Nat) : Int) := wrapS (by omega) (by omega)
    simp only [bin_sub, w1', w2', w3']
    exact pd_four (hint4 := 1) ih h6 hm hbb hbn hab hlim2 h12 hn1 hB1 hfin h e5 e8 e12 e13 m5 m13 (H3'.trans H4) (permIn_trans _ _ _ a b P2 hrev) (by omega) (by omega)
  · have hh2' : ¬ (hint : Int) = 2 := by omega
    simp only [hh2', decide_false, Eng.cond_false]
    exact pd_four ih h6 hm hbb hbn hab hlim2 h12 hn1 hB1 hfin h e5 e8 e12 e13 m5 m13 H3' P2 hp1 hp2
end

theorem pdq_ok : ∀ (m : Nat), IH m := by
  intro m
  induction m with
  | zero =>
    intro w g cap n e d H hn h6 a b limit hm hab hb hlim hB K h
    -- nothing to sort
    have hba : b = a := by omega
    subst hba
    apply M.slices_pdqsortOrdered_uint64.calls
    unfold M.slices_pdqsortOrdered_uint64
    refine ⟨fun x w1 => x = [undef, .int .i64 (limit : Nat), undef, undef, undef, .int .i64 (b : Nat), undef, undef, .bool true, undef, undef, undef, .bool true, .int .i64 (b : Nat)] ∧ w1 = w, fun _ _ => 0, ⟨rfl, rfl⟩, ?_⟩
    rintro x w1 ⟨rfl, rfl⟩
    unfold M.slices_pdqsortOrdered_uint64.j0
    have hw0 : IntKind.i64.wrap ((b : Int) - b) = 0 := by rw [wrap_id (by omega) (by omega)]; omega
    simp only [f13, f5, bin_sub, hw0, joinT_eq, bin_leq]
    rw [M.slices_insertionSortOrdered_uint64.fcall]
    simp
    refine insertion_ok H hn (by omega) hb hb fun w2 H2 => ?_
    have hi := insertionSort_holds swo_ltInt d b b (Nat.le_refl _) (by omega)
    exact h w2 _ hi.1 hi.2 H2
  | succ m ih =>
    intro w g cap n e d H hn h6 a0 b0 limit0 hm hab0 hb0 hlim0 hB K h
    apply M.slices_pdqsortOrdered_uint64.calls
    unfold M.slices_pdqsortOrdered_uint64
    refine ⟨PdI w g e cap n a0 b0 d, fun x _ => ms x 13 - ms x 5, ⟨_, _, _, _, _, _, _, _, _, a0, b0, limit0, true, true, d, rfl, hlim0, ⟨H.self, hn, hab0, Nat.le_refl _, hb0, hB, fun R h1 h2 => ⟨h1, h2⟩⟩⟩, ?_⟩
    rintro x w1 ⟨u0, u2, u3, u4, u6, u7, u9, u10, u11, a, b, limit, wb, wp, d1, rfl, hlim, ⟨H1, hn1, hab, hbb, hbn, hB1, hfin⟩⟩
    generalize hx0 : [u0, .int .i64 (limit : Nat), u2, u3, u4, .int .i64 (a : Nat), u6, u7, .bool wp, u9, u10, u11, .bool wb, .int .i64 (b : Nat)] = x0
    have e1 : gv x0 1 = .int .i64 (limit : Nat) := by rw [← hx0]; rfl
    have e5 : gv x0 5 = .int .i64 (a : Nat) := by rw [← hx0]; rfl
    have e8 : gv x0 8 = .bool wp := by rw [← hx0]; rfl
    have e12 : gv x0 12 = .bool wb := by rw [← hx0]; rfl
    have e13 : gv x0 13 = .int .i64 (b : Nat) := by rw [← hx0]; rfl
    have m5 : ms x0 5 = a := by simp [ms, e5]
    have m13 : ms x0 13 = b := by simp [ms, e13]
    clear hx0
    have hw0 : IntKind.i64.wrap ((b : Int) - a) = ((b - a : Nat) : Int) := wrapS (by omega) (by omega)
    unfold M.slices_pdqsortOrdered_uint64.j0
    simp only [e13, e5, bin_sub, hw0, joinT_eq, bin_leq]
    by_cases h12 : b - a ≤ 12
    · have h12' : ((b - a : Nat) : Int) ≤ 12 := by omega
      simp only [h12', decide_true, Eng.cond_true]
      rw [M.slices_insertionSortOrdered_uint64.fcall]
      refine insertion_ok H1.row hn1 (by omega) hbn (by omega) fun w2 H2 => ?_
      have hi := insertionSort_holds swo_ltInt d1 a b hab (by omega)
      obtain ⟨p1, p2⟩ := hfin _ hi.1 hi.2
      exact h w2 _ p1 p2 (H1.trans H2)
    have h12' : ¬ ((b - a : Nat) : Int) ≤ 12 := by omega
    simp only [h12', decide_false, Eng.cond_false]
    unfold M.slices_pdqsortOrdered_uint64.j1
    simp only [e1, e5, e13, joinT_eq, bin_eql]
    by_cases hl0 : limit = 0
    · have hl0' : (limit : Int) = 0 := by omega
      simp only [hl0', decide_true, Eng.cond_true]
      rw [M.slices_heapSortOrdered_uint64.fcall]
      refine heapSort_ok H1.row hn1 (by omega) hbn (by omega) fun w2 H2 => ?_
      have hi := heapSort_holds swo_ltInt d1 a b hab (by omega)
      obtain ⟨p1, p2⟩ := hfin _ hi.1 hi.2
      exact h w2 _ p1 p2 (H1.trans H2)
    have hl0' : ¬ (limit : Int) = 0 := by omega
    simp only [hl0', decide_false, Eng.cond_false]
    unfold M.slices_pdqsortOrdered_uint64.j2
    simp only [e12, e1, e5, e13, joinT_eq, not_eq]
    cases wb with
    | true =>
      simp
      exact pd_three ih h6 hm hbb hbn hab hlim h12 hn1 hB1 hfin h e5 e8 e12 e13 m5 m13 H1 (permIn_refl d1 a b)
    | false =>
      simp
      rw [M.slices_breakPatternsOrdered_uint64.fcall]
      refine break_ok H1.row hn1 h6 hbn (by omega) fun w2 d2 P2 H2 => ?_
      have wl : IntKind.i64.wrap ((limit : Int) - 1) = ((limit - 1 : Nat) : Int) := by rw [wrap_id (by omega) (by omega)]; omega
      simp only [wl]
      exact pd_three ih h6 hm hbb hbn hab (by omega) h12 hn1 hB1 hfin h e5 e8 e12 e13 m5 m13 (H1.trans H2) P2

/-- slices.Sort: the list that is sorted. -/
theorem sort_ok {w : World} {g cap n : Nat} {e : TypeId} {d : Array Int} (H : Rw w g e cap d) (hn : d.size = n) (h6 : n < 60000) {K : KV}
    (h : ∀ w', Rf w w' g e cap (d.toList.mergeSort fun x y => decide (x ≤ y)).toArray → K (.tuple #[]) w') : callT P F.slices_Sort_uint64_uint64 [.slice (some ⟨g, 0, none⟩) n cap] w K := by
  apply M.slices_Sort_uint64_uint64.calls
  unfold M.slices_Sort_uint64_uint64
  have i64B : intB P T.int .i64 = true := by kernel_rfl
  have uB : intB P T.uint .u64 = true := by kernel_rfl
  simp
  rw [cv_ints i64B uB, wrapU (by omega), M.math_bits_Len.fcall]
  refine len_ok' (by omega) ?_
  rw [M.slices_pdqsortOrdered_uint64.fcall]
  have hlen : bitsLen n ≤ 16 := (bitsLen_le_iff n 16).2 (by omega)
  refine pdq_ok n (a := 0) H hn h6 (by omega) (Nat.zero_le _) (Nat.le_refl _) (by omega) (.inl rfl) fun w' d' h1 h2 H' => ?_
  have hs : d'.toList = d.toList.mergeSort (fun x y => decide (x ≤ y)) := by
    have := sorted_unique_holds swo_ltInt (fun x y h1 h2 => by simp [ltInt] at h1 h2; omega) d d' (by rw [hn]; exact h1) (by rw [hn]; exact h2)
    rw [this]
    congr 1
    funext x y
    simp only [ltInt]
    by_cases hxy : x ≤ y
    · simp [hxy]
    · have : y < x := by omega
      simp [hxy, this]
  refine h w' ?_
  rw [← hs]
  exact H'
end Go.Proofs.Ytkjhekflgghbdaa.Suint64
set_option maxRecDepth 100000
namespace Go.Proofs.Ytkjhekflgghbdaa.Suint64
open Go.Eng Go.Sort

abbrev enc1 (x : Int) : Value := .int .u64 x
abbrev encL (x : Int) : List Value := [.int .u64 x]
abbrev OwN (w : World) (base : Nat) (v : Value) (l : List Int) : Prop := Ow w base T.uint64 1 encL v l
theorem apTy : ApTy P T.sl_uint64 T.uint64 enc1 8 where
  et := et.sl_uint64
  by5 := by decide
  ld := fun b i w K => by refine Eq.trans ?_ rfl; kernel_rfl
  st := fun b i a n c w K => by refine Eq.trans ?_ rfl; kernel_rfl
  bs := fun x w K => by refine Eq.trans ?_ rfl; kernel_rfl
  one := fun _ => rfl
  ne := by decide
theorem collect_ok {g : FuncId} {gn : Func} (hg : P.funcs[g]? = some gn) (hgn : (gn.name == "runtime.NumGoroutine") = false) (hgb : gn.body.isNone = false) {cap : List Value} {w : World} {Out : List Int → Prop} (hs : SeqT P g cap enc1 Out 60000 w) {K : KV}
    (h : ∀ w' v xs, Out xs → OwN w' w.heap.size v xs → Fr (fun _ => False) w w' → K v w') : callT P F.slices_Collect_uint64 [.func (.func g) #[] cap.toArray] w K := by
  apply M.slices_Collect_uint64.calls
  unfold M.slices_Collect_uint64
  have hf : ∀ (args : List Value) (w : World) (K : KV), fcallT P F.slices_AppendSeq_uint64_uint64 args w K = callT P F.slices_AppendSeq_uint64_uint64 args w K := fun args w K => fcallT_eq FN.slices_AppendSeq_uint64_uint64.at (by kernel_rfl) (by kernel_rfl) args w K
  rw [hf]
  exact appendSeq_ok (tQ := T.iter_Seq_uint64_) apTy FN.slices_AppendSeq_uint64_uint64.at (by kernel_rfl) (by kernel_rfl) (by kernel_rfl) hg hgn hgb hs h

theorem Ow.rw {w : World} {base g n cap : Nat} {l : List Int} (h : OwN w base (.slice (some ⟨g, 0, none⟩) n cap) l) : n = l.length ∧ base ≤ g ∧ cap ≤ maxLen ∧ Rw w g T.uint64 cap l.toArray := by
  rcases h.2 with ⟨h0, _⟩ | ⟨g', cap', cur, hv, hb, hc, h1, h2, h3, h4⟩
  · cases h0
  · injection hv with q1 q2 q3
    injection q1 with q1
    injection q1 with q1
    subst q1 q2 q3
    refine ⟨rfl, hb, h2, cur, hc, by simpa using h3, by simpa using h1, fun j hj => ?_⟩
    have hj' : j < l.length := by simpa using hj
    have h5 : (cur.toList.take (l.length * 1))[j]? = (l.flatMap encL)[j]? := by rw [h4]
    rw [List.getElem?_take_of_lt (by omega)] at h5
    have h6 : (l.flatMap encL)[j]? = some (.int .u64 l[j]) := by
      have := flatMap_at (enc := encL) (sz := 1) (fun _ => rfl) l j l[j] 0 (.int .u64 l[j]) (List.getElem?_eq_getElem hj') rfl
      simpa using this
    rw [h6] at h5
    simpa [hj'] using h5
theorem flat_eq : ∀ l : List Int, l.flatMap encL = l.map enc1
  | [] => rfl
  | x :: l => by rw [List.flatMap_cons, flat_eq l]; rfl
theorem rw_ow {w : World} {base g cap : Nat} {l : List Int} (hb : base ≤ g) (hm : cap ≤ maxLen) (h : Rw w g T.uint64 cap l.toArray) : OwN w base (.slice (some ⟨g, 0, none⟩) l.length cap) l := by
  obtain ⟨cur, h1, h2, h3, h4⟩ := h
  refine ⟨by rw [flat_eq]; simp, .inr ⟨g, cap, cur, rfl, hb, h1, by simpa using h3, hm, by simpa using h2, ?_⟩⟩
  rw [flat_eq]
  apply List.ext_getElem?
  intro j
  by_cases hj : j < l.length
  · rw [List.getElem?_take_of_lt (by omega)]
    have := h4 j (by simpa using hj)
    simp [hj] at this ⊢
    exact this
  · rw [List.getElem?_take_eq_none (by omega), List.getElem?_eq_none (by simp; omega)]

theorem sort_nil {w : World} {K : KV} (h : K (.tuple #[]) w) : callT P F.slices_Sort_uint64_uint64 [.slice none 0 0] w K := by
  apply M.slices_Sort_uint64_uint64.calls
  unfold M.slices_Sort_uint64_uint64
  have i64B : intB P T.int .i64 = true := by kernel_rfl
  have uB : intB P T.uint .u64 = true := by kernel_rfl
  simp
  rw [cv_ints i64B uB, show IntKind.u64.wrap 0 = ((0 : Nat) : Int) from by decide, M.math_bits_Len.fcall]
  refine len_ok' (by omega) ?_
  rw [M.slices_pdqsortOrdered_uint64.fcall]
  apply M.slices_pdqsortOrdered_uint64.calls
  unfold M.slices_pdqsortOrdered_uint64
  refine ⟨fun x w1 => gv x 5 = .int .i64 0 ∧ gv x 13 = .int .i64 0 ∧ w1 = w, fun _ _ => 0, ⟨rfl, rfl, rfl⟩, ?_⟩
  rintro x w1 ⟨e5, e13, rfl⟩
  unfold M.slices_pdqsortOrdered_uint64.j0
  have w0 : IntKind.i64.wrap 0 = 0 := by decide
  simp [e5, e13, w0]
  rw [M.slices_insertionSortOrdered_uint64.fcall]
  apply M.slices_insertionSortOrdered_uint64.calls
  unfold M.slices_insertionSortOrdered_uint64
  have w1' : IntKind.i64.wrap 1 = 1 := by decide
  simp [w1']
  refine ⟨fun x w2 => gv x 1 = .int .i64 1 ∧ w2 = w1, fun _ _ => 0, ⟨rfl, rfl⟩, ?_⟩
  rintro x w2 ⟨e1, rfl⟩
  unfold M.slices_insertionSortOrdered_uint64.j0
  simp [e1]
  exact h

def srtd (l : List Int) : List Int := l.mergeSort fun x y => decide (x ≤ y)
theorem srtd_perm (l : List Int) : (srtd l).Perm l := List.mergeSort_perm ..
theorem srtd_of_perm {l l' : List Int} (h : l.Perm l') : srtd l = srtd l' := by
  unfold srtd
  have hs : ∀ l : List Int, (l.mergeSort fun x y => decide (x ≤ y)).Pairwise fun a b => decide (a ≤ b) = true := fun l => List.pairwise_mergeSort (fun a b c h1 h2 => by simp at *; omega) (fun a b => by simp; omega) l
  exact List.Perm.eq_of_pairwise (fun a b _ _ h1 h2 => by simp at h1 h2; omega) (hs l) (hs l') (((List.mergeSort_perm ..).trans h).trans (List.mergeSort_perm ..).symm)

/-- slices.Sorted of an iterator that gives a permutation of a list. -/
theorem sorted_ok {g : FuncId} {gn : Func} (hg : P.funcs[g]? = some gn) (hgn : (gn.name == "runtime.NumGoroutine") = false) (hgb : gn.body.isNone = false) {cap : List Value} {w : World} {ks : List Int} (hk : ks.length < 60000) (hs : SeqT P g cap enc1 (fun xs => xs.Perm ks) 60000 w) {K : KV}
    (h : ∀ w' v, OwN w' w.heap.size v (srtd ks) → Fr (fun _ => False) w w' → K v w') : callT P F.slices_Sorted_uint64 [.func (.func g) #[] cap.toArray] w K := by
  apply M.slices_Sorted_uint64.calls
  unfold M.slices_Sorted_uint64
  rw [M.slices_Collect_uint64.fcall]
  refine collect_ok hg hgn hgb hs fun w1 v xs hx o1 f1 => ?_
  rw [M.slices_Sort_uint64_uint64.fcall]
  have hlen := hx.length_eq
  rcases o1.2 with ⟨rfl, h0⟩ | ⟨g1, cap1, cur, rfl, hb1, _⟩
  · refine sort_nil ?_
    have hx0 : xs = [] := List.length_eq_zero_iff.1 h0
    have hk0 : ks = [] := List.length_eq_zero_iff.1 (by rw [← hlen, hx0]; rfl)
    refine h w1 _ ?_ f1
    subst hk0
    rw [show srtd [] = [] from by simp [srtd]]
    exact Ow.none
  · obtain ⟨_, hbg, hcm, hrw⟩ := Ow.rw o1
    refine sort_ok hrw (by simp) (by omega) fun w2 H2 => ?_
    have hp : srtd xs = srtd ks := srtd_of_perm hx
    have hl : (srtd xs).length = xs.length := (srtd_perm xs).length_eq
    refine h w2 _ ?_ (f1.trans' H2.fr fun b hb he => by omega)
    rw [← hp]
    have := rw_ow (base := w.heap.size) (l := srtd xs) hbg hcm H2.row
    rw [hl] at this
    exact this
end Go.Proofs.Ytkjhekflgghbdaa.Suint64
set_option maxRecDepth 100000
namespace Go.Proofs.Ytkjhekflgghbdaa.KeyB
open Go.Eng Go.Sort Go.Proofs.Ytkjhekflgghbdaa.Suint64

/-- Between two rounds: these keys have come. -/
def KI (w W : World) (U : Nat → Prop) (r : Nat) (m : MP) (J : List Int → Asn) : KL := fun x w1 => ∃ (done : List Int) (U1 : Nat → Prop), x.length = 1 ∧ ItAt w1 W.heap.size r .u64 m done ∧ (J done.reverse).ok w1 U1 ∧ (∀ b, U1 b → w.heap.size ≤ b ∧ b < w1.heap.size ∧ b ≠ W.heap.size) ∧ Fr (fun b => w.heap.size ≤ b) W w1
theorem it_facts {w : World} {it r : Nat} {k : IntKind} {m : MP} {done : List Int} (h : ItAt w it r k m done) : done.Nodup ∧ ∀ x ∈ done, x ∈ mkeys m := by
  obtain ⟨es, clk, since, c0, seen, _, _, _, _, _, _, _, _, _, h1, h2⟩ := h
  exact ⟨h1, h2⟩
theorem keys_seq {w : World} {r Bm : Nat} {m : MP} {e : TypeId} (hm : MapAt w r .u64 m) (hn : (mkeys m).Nodup) (hB : w.heap[Bm]? = some (.cells #[.map (some r)] e (0, 0))) (hl : m.length < 60000) :
    SeqT P F.maps_Keys_map_uint64_buffer_entry_uint64_buffer_entry_1 [.pointer (some ⟨Bm, 0, none⟩)] enc1 (fun xs => xs.Perm (mkeys m)) 60000 w := by
  intro l J W U K hf hJ hU hround hend
  apply M.maps_Keys_map_uint64_buffer_entry_uint64_buffer_entry_1.calls
  unfold M.maps_Keys_map_uint64_buffer_entry_uint64_buffer_entry_1
  have hBm : W.heap[Bm]? = some (.cells #[.map (some r)] e (0, 0)) := hf.heap hB fun h => h
  have c0 := cellOf_of hBm 0
  simp only [List.size_toArray, List.getElem?_toArray, List.getElem?_cons_zero] at c0
  have hm' : MapAt W r .u64 m := hm.of_heap (hf.keep r hm.lt fun h => h)
  have hrw := hm.lt
  simp [c0]
  refine rg_map mt.map_uint64_p_buffer_entry hm' fun w1 hi f1 => ?_
  have hWs := hf.size
  have hWlt := (hi.lt).1
  refine ⟨KI w W U r m J, fun _ w1 => itLeft w1 W.heap.size m.length, ⟨[], U, rfl, hi, (J []).keep hJ f1 fun _ _ h => h, fun b hb => ?_, f1.mono fun _ _ h => h.elim⟩, ?_⟩
  · have := hU b hb
    have := f1.size
    exact ⟨by omega, by omega, by omega⟩
  rintro x w2 ⟨done, U1, hx1, hi2, hJ2, hU2, f2⟩
  unfold M.maps_Keys_map_uint64_buffer_entry_uint64_buffer_entry_1.j0
  refine nx_map hi2 hn T._ (fun hall => ?_) fun y v w3 hy hyd hc3 f3 hlt => ?_
  · have e0 : ∀ w K, exT P (.tuple #[.bool false]) 0 w K = K (.bool false) w := fun _ _ => rfl
    simp [e0]
    obtain ⟨h1, h2⟩ := it_facts hi2
    refine hend _ w2 done.reverse U1 ?_ hJ2 f2
    refine (List.reverse_perm done).trans ?_
    refine (List.perm_ext_iff_of_nodup h1 hn).2 fun z => ⟨h2 z, fun hz => ?_⟩
    obtain ⟨p, hp, rfl⟩ := List.mem_map.1 hz
    exact hall p hp
  · simp
    rw [en_map hc3]
    simp
    have hnit : ∀ b, U1 b → ¬ b = W.heap.size := fun b hb => (hU2 b hb).2.2
    have hJ3 := (J done.reverse).keep hJ2 f3 hnit
    have hlen : done.length < m.length := by
      obtain ⟨h1, h2⟩ := it_facts hi2
      have := len_le_of_sub (l := y :: done) (l' := mkeys m) (List.nodup_cons.2 ⟨hyd, h1⟩) fun z hz => by
        rcases List.mem_cons.1 hz with rfl | hz
        · exact List.mem_map_of_mem hy
        · exact h2 z hz
      simp only [mkeys, List.length_map, List.length_cons] at this
      omega
    have hs3 := f3.size
    refine hround done.reverse y w3 U1 _ hJ3 (fun b hb => ⟨(hU2 b hb).1, by have := (hU2 b hb).2.1; omega⟩) (by simp; omega) fun w4 U4 hJ4 hU4 f4 => ?_
    simp
    have hit : ¬ U1 W.heap.size := fun h => hnit _ h rfl
    have hr1 : ¬ U1 r := fun h => by have := (hU2 r h).1; omega
    have hi3 : ItAt w3 W.heap.size r .u64 m (y :: done) := hc3.1
    have hi4 := hi3.keep (f4.keep _ hi3.lt.1 hit) (f4.keep _ hi3.lt.2 hr1)
    refine ⟨⟨y :: done, U4, rfl, hi4, by simpa using hJ4, fun b hb => ?_, ?_⟩, ?_⟩
    · rcases hU4 b hb with h | h
      · have := hU2 b h
        have := f4.size
        exact ⟨by omega, by omega, by omega⟩
      · have := hi3.lt.1
        have := f2.size
        exact ⟨by omega, by omega, by omega⟩
    · refine (f2.trans' f3 fun b hb he => by omega).trans' f4 fun b hb he => (hU2 b he).1
    · have : itLeft w4 W.heap.size m.length = itLeft w3 W.heap.size m.length := by
        unfold itLeft
        rw [f4.keep _ hi3.lt.1 hit]
      rw [this]; exact hlt

/-- slices.Sorted(maps.Keys(m)). -/
theorem keys_ok {w : World} {r : Nat} {m : MP} (hm : MapAt w r .u64 m) (hn : (mkeys m).Nodup) (hl : m.length < 60000) {K : KV}
    (h : ∀ w' v, OwN w' w.heap.size v (srtd (mkeys m)) → Fr (fun _ => False) w w' → K v w') :
    fcallT P F.maps_Keys_map_uint64_buffer_entry_uint64_buffer_entry [.map (some r)] w fun t w => fcallT P F.slices_Sorted_uint64 [t] w K := by
  rw [M.maps_Keys_map_uint64_buffer_entry_uint64_buffer_entry.fcall]
  apply M.maps_Keys_map_uint64_buffer_entry_uint64_buffer_entry.calls
  unfold M.maps_Keys_map_uint64_buffer_entry_uint64_buffer_entry
  rw [box_eq, mkf_eq]
  show fcallT P F.slices_Sorted_uint64 _ _ K
  rw [M.slices_Sorted_uint64.fcall]
  have f1 : Fr (fun _ => False) w (w.alloc (.cells #[.map (some r)] T.map_uint64_p_buffer_entry)) := (Fr.refl _ w).alloc _
  have hB : (w.alloc (.cells #[.map (some r)] T.map_uint64_p_buffer_entry)).heap[w.heap.size]? = some (.cells #[.map (some r)] T.map_uint64_p_buffer_entry (0, 0)) := by rw [alloc_heap, if_pos rfl]
  have hsz : w.heap.size ≤ (w.alloc (.cells #[.map (some r)] T.map_uint64_p_buffer_entry)).heap.size := by simp
  refine sorted_ok (ks := mkeys m) FN.maps_Keys_map_uint64_buffer_entry_uint64_buffer_entry_1.at (by kernel_rfl) (by kernel_rfl) (by simpa [mkeys] using hl) (keys_seq (hm.of_heap (f1.keep r hm.lt fun h => h)) hn hB hl) fun w2 v o2 f2 => ?_
  exact h w2 v (o2.mono hsz) (f1.trans f2)
end Go.Proofs.Ytkjhekflgghbdaa.KeyB
set_option maxRecDepth 100000
namespace Go.Proofs.Ytkjhekflgghbdaa
open Go.Eng
abbrev rowU (v : Value) (l : List Int) : Asn := rowA T.uint64 1 Suint64.encL v l
theorem encU_len' (x : Int) : (Suint64.encL x).length = 1 := rfl
section
variable {w0 w : World} {hb : Nat} {g : Cfg} {A : List AE} {c : CT} {R : List Asn}
def tracesA (A : List AE) : List Int := Suint64.srtd (A.map AE.t)
theorem traces_st (S : St w0 w (bufA hb g A c :: R)) (hA : A.length ≤ 1000) {K : KV} (h : ∀ w' v, St w0 w' (rowU v (tracesA A) :: bufA hb g A c :: R) → K v w') : fcallT P F.pbuffer_Buffer_Traces [.pointer (some ⟨hb, 0, none⟩)] w K := by
  obtain ⟨B, I, hB, cl⟩ := S.open
  have I' : Buf w hb g B A c := I
  obtain ⟨O, r, m, es, hAe, J, hfp⟩ := I'.ex
  have hkp : (mkeys m).Perm (A.map AE.t) := by
    have e : A.map AE.t = es.map Ent.t := by rw [hAe, List.map_map]; rfl
    rw [e]
    refine (List.perm_ext_iff_of_nodup J.mn J.tn).2 fun k => ?_
    constructor
    · intro hk
      by_cases hx : ∃ e ∈ es, e.t = k
      · obtain ⟨e, he, rfl⟩ := hx; exact List.mem_map_of_mem he
      · have := J.mz k fun e he hek => hx ⟨e, he, hek⟩
        exact absurd hk ((mget_none_iff _ _).1 this)
    · intro hk
      obtain ⟨e, he, rfl⟩ := List.mem_map.1 hk
      by_cases hx : e.t ∈ mkeys m
      · exact hx
      · have := (mget_none_iff _ _).2 hx
        rw [J.mg e he] at this; cases this
  rw [M.pbuffer_Buffer_Traces.fcall]
  apply M.pbuffer_Buffer_Traces.calls
  unfold M.pbuffer_Buffer_Traces
  simp
  unfold M.pbuffer_Buffer_Traces.j0
  obtain ⟨_, _, _, q5⟩ := J.cells
  simp [q5]
  have hml : m.length < 60000 := by
    have h1 : A.length = es.length := by rw [hAe, List.length_map]
    rw [J.ml]; omega
  refine KeyB.keys_ok J.mp J.mn hml fun w' v o f => ?_
  have hd : Suint64.srtd (mkeys m) = tracesA A := Suint64.srtd_of_perm hkp
  rw [hd] at o
  exact h w' v (S.add (a := rowU v (tracesA A)) f (B := fun b => v.ownBlock = some b) ⟨o.mono (Nat.zero_le _), fun b hb => hb⟩ fun b hb => ⟨(o.lt hb).1, (o.lt hb).2⟩)
end
end Go.Proofs.Ytkjhekflgghbdaa
set_option maxRecDepth 100000
namespace Go.Proofs.Ytkjhekflgghbdaa
open Go.Eng
def RT.ae (t : RT) : AE := ⟨t.id, t.l, t.over⟩
def RT.kd (t : RT) : Int × Int := (t.id, t.due)
structure Rel (g : Cfg) (ts : List RT) (A : List AE) (c : CT) : Prop where
  asc : ts.Pairwise fun a b => a.id < b.id
  nz : ∀ t ∈ ts, t.id ≠ 0
  ae : A.Perm (ts.map RT.ae)
  kd : c.Perm (ts.map RT.kd)
  few : ts.length ≤ g.traces
  spans : ∀ t ∈ ts, t.l.length ≤ g.spans
section
variable {g : Cfg} {ts : List RT} {A : List AE} {c : CT}
theorem Rel.len (h : Rel g ts A c) : A.length = ts.length := by rw [h.ae.length_eq, List.length_map]
theorem asc_lt {ts : List RT} (h : ts.Pairwise fun a b => a.id < b.id) {i j : Nat} (hi : i < ts.length) (hj : j < ts.length) (hij : i < j) : ts[i].id < ts[j].id := List.pairwise_iff_getElem.1 h i j hi hj hij
theorem asc_inj {ts : List RT} (h : ts.Pairwise fun a b => a.id < b.id) {i j : Nat} (hi : i < ts.length) (hj : j < ts.length) (he : ts[i].id = ts[j].id) : i = j := by
  rcases Nat.lt_trichotomy i j with hlt | rfl | hlt
  · have := asc_lt h hi hj hlt; omega
  · rfl
  · have := asc_lt h hj hi hlt; omega
theorem Rel.find (h : Rel g ts A c) {i : Nat} (hi : i < ts.length) : A.find? (fun e => decide (e.t = ts[i].id)) = some ts[i].ae := by
  rcases find_ae A ts[i].id with ⟨e, h1, h2, h3⟩ | ⟨_, hno⟩
  · rw [h1]
    have := h.ae.mem_iff.1 h2
    obtain ⟨t, ht, rfl⟩ := List.mem_map.1 this
    obtain ⟨j, hj, rfl⟩ := List.getElem_of_mem ht
    have e : j = i := asc_inj h.asc hj hi h3
    subst e; rfl
  · exact absurd rfl (hno ts[i].ae (h.ae.mem_iff.2 (List.mem_map_of_mem (List.getElem_mem hi))))
theorem Rel.find_no (h : Rel g ts A c) {k : Int} (hk : ∀ t ∈ ts, t.id ≠ k) : A.find? (fun e => decide (e.t = k)) = none ∧ ∀ e ∈ A, e.t ≠ k := by
  have : ∀ e ∈ A, e.t ≠ k := fun e he => by
    obtain ⟨t, ht, rfl⟩ := List.mem_map.1 (h.ae.mem_iff.1 he)
    exact hk t ht
  exact ⟨List.find?_eq_none.2 fun e he => by simpa using this e he, this⟩
theorem Rel.traces (h : Rel g ts A c) : tracesA A = ts.map RT.id := by
  have hs : (tracesA A).Pairwise fun a b => decide (a ≤ b) = true := List.pairwise_mergeSort (fun a b c h1 h2 => by simp at *; omega) (fun a b => by simp; omega) _
  have hp : (tracesA A).Perm (ts.map RT.id) := by
    refine (List.mergeSort_perm _ _).trans ((h.ae.map AE.t).trans ?_)
    rw [List.map_map]
    exact List.Perm.refl _
  have h2 : (ts.map RT.id).Pairwise fun a b => decide (a ≤ b) = true := by
    rw [List.pairwise_map]
    exact h.asc.imp fun h => by simp; omega
  exact List.Perm.eq_of_pairwise (fun a b _ _ h1 h2 => by simp at h1 h2; omega) hs h2 hp
theorem due_eq {c : CT} {ts : List RT} (hk : c.Perm (ts.map RT.kd)) (now : Int) {cs l : List RC} (hcs : cs.map Prod.fst = ts) (hs : l.Pairwise ltD) (hp : l.Perm (cs.filter (dueP now))) : cdue c now = l.map fun t => t.1.id := by
  rw [cdue_eq]
  have e : duep c now = l.map fun t => t.1.kd := by
    have h1 : (duep c now).Pairwise fun a b => leP a b = true := (srt_pw c).sublist List.filter_sublist
    have h2 : (l.map fun t => t.1.kd).Pairwise fun a b => leP a b = true := by
      rw [List.pairwise_map]
      refine hs.imp fun {a b} hab => ?_
      unfold leP RT.kd ltD at *
      simp only [Bool.or_eq_true, Bool.and_eq_true, decide_eq_true_eq]
      omega
    have h3 : (duep c now).Perm (l.map fun t => t.1.kd) := by
      have p1 : (duep c now).Perm (c.filter fun p => decide (p.2 ≤ now)) := (List.mergeSort_perm _ _).filter _
      have p2 : (c.filter fun p => decide (p.2 ≤ now)).Perm ((ts.map RT.kd).filter fun p => decide (p.2 ≤ now)) := hk.filter _
      have p3 : ((ts.map RT.kd).filter fun p => decide (p.2 ≤ now)) = (cs.filter (dueP now)).map fun t => t.1.kd := by
        rw [← hcs, List.map_map, List.filter_map]
        rfl
      rw [p3] at p2
      exact p1.trans (p2.trans (hp.map _).symm)
    refine List.Perm.eq_of_pairwise (fun a b _ _ h1 h2 => ?_) h1 h2 h3
    unfold leP at h1 h2
    simp only [Bool.or_eq_true, Bool.and_eq_true, decide_eq_true_eq] at h1 h2
    exact Prod.ext (by omega) (by omega)
  rw [e, List.map_map]
  rfl
/-! ### What each call keeps -/
theorem mem_insR (t : RT) : ∀ ts : List RT, (insR t ts).Perm (t :: ts)
  | [] => .refl _
  | x :: r => by
    rw [insR]
    split
    · exact ((mem_insR t r).cons x).trans (.swap _ _ _)
    · exact .refl _
theorem asc_insR (t : RT) : ∀ ts : List RT, ts.Pairwise (fun a b => a.id < b.id) → (∀ x ∈ ts, x.id ≠ t.id) → (insR t ts).Pairwise fun a b => a.id < b.id
  | [], _, _ => List.pairwise_singleton _ _
  | x :: r, h, hne => by
    rw [List.pairwise_cons] at h
    have hx := hne x (by simp)
    rw [insR]
    split
    · rename_i hlt
      rw [List.pairwise_cons]
      refine ⟨fun y hy => ?_, asc_insR t r h.2 fun y hy => hne y (by simp [hy])⟩
      rcases List.mem_cons.1 ((mem_insR t r).mem_iff.1 hy) with rfl | hy
      · exact hlt
      · exact h.1 y hy
    · rename_i hge
      rw [List.pairwise_cons]
      refine ⟨fun y hy => ?_, List.pairwise_cons.2 h⟩
      rcases List.mem_cons.1 hy with rfl | hy
      · omega
      · have := h.1 y hy; omega
theorem set_map_perm {β : Type} (f : RT → β) (i : Nat) (hi : i < ts.length) (t : RT) (hf : f t = f ts[i]) : (ts.set i t).map f = ts.map f := by
  apply List.ext_getElem
  · simp
  · intro n h1 h2
    simp only [List.length_map] at h2
    rw [List.getElem_map, List.getElem_map, List.getElem_set]
    split
    · rename_i h; subst h; exact hf
    · rfl
theorem asc_set (h : ts.Pairwise fun a b => a.id < b.id) (i : Nat) (hi : i < ts.length) (t : RT) (hf : t.id = ts[i].id) : (ts.set i t).Pairwise fun a b => a.id < b.id := by
  have e := set_map_perm (ts := ts) RT.id i hi t hf
  have h1 : (ts.map RT.id).Pairwise (· < ·) := List.pairwise_map.2 h
  rw [← e] at h1
  exact List.pairwise_map.1 h1
theorem map_at {ts : List RT} (h : ts.Pairwise fun a b => a.id < b.id) (i : Nat) (hi : i < ts.length) (f : AE → AE) (t : RT) (ht : t.ae = f ts[i].ae) : (ts.map RT.ae).map (fun x => if x.t = ts[i].id then f x else x) = (ts.set i t).map RT.ae := by
  apply List.ext_getElem
  · simp
  · intro n h1 h2
    simp only [List.length_map] at h1
    rw [List.getElem_map, List.getElem_map, List.getElem_map, List.getElem_set]
    by_cases hn : i = n
    · subst hn
      have : (ts[i].ae).t = ts[i].id := rfl
      rw [if_pos this, if_pos rfl, ht]
    · have hne : ¬ (ts[n].ae).t = ts[i].id := fun he => hn (asc_inj h h1 hi he).symm
      rw [if_neg hne, if_neg hn]
end
end Go.Proofs.Ytkjhekflgghbdaa
