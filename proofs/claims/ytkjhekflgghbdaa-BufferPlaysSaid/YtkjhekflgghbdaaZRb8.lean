/-
  A buffer and the document's: winnowlaw16.same. No condition.
  A buffer and the document's: what each call keeps, in plain Lean. No condition.
  BufferPlays: the operations, whether they are light. No condition.
  BufferPlays: the walk. No condition.
  BufferPlays: the walk. No condition.
-/
import Derived.Test.YtkjhekflgghbdaaZRb5
set_option maxRecDepth 100000
namespace Go.Proofs.Ytkjhekflgghbdaa
open Go.Eng
section
variable {w0 w : World} {hb p : Nat} {g : Cfg} {ts : List RT} {A : List AE} {c : CT} {R : List Asn} {v tv : Value} {cs : List RC}
def smL (tv : Value) (hb p : Nat) (g : Cfg) (A : List AE) (c : CT) (v : Value) (cs : List RC) (R : List Asn) : List Asn := rowU tv (cs.map fun t => t.1.id) :: bufA hb g A c :: blkA p (headR16 g v) T.winnowref16_Buffer :: rowA T.winnowref16_Trace 4 encRC v cs :: allA (spansR cs) :: R
theorem smOut {W : World} {a : Asn} (S : St w0 W (smL tv hb p g A c v cs (a :: R))) : St w0 W (a :: smL tv hb p g A c v cs R) := by
  unfold smL at *
  exact S.perm (List.perm_middle (l₁ := [rowU tv (cs.map fun t : RC => t.1.id), bufA hb g A c, blkA p (headR16 g v) T.winnowref16_Buffer, rowA T.winnowref16_Trace 4 encRC v cs, allA (spansR cs)]))
theorem smIn {W : World} {a : Asn} (S : St w0 W (bufA hb g A c :: a :: rowU tv (cs.map fun t : RC => t.1.id) :: blkA p (headR16 g v) T.winnowref16_Buffer :: rowA T.winnowref16_Trace 4 encRC v cs :: allA (spansR cs) :: R)) : St w0 W (smL tv hb p g A c v cs (a :: R)) := by
  unfold smL
  have S1 := S.swap
  exact (S1.perm (List.perm_middle (l₁ := [bufA hb g A c, rowU tv (cs.map fun t : RC => t.1.id), blkA p (headR16 g v) T.winnowref16_Buffer, rowA T.winnowref16_Trace 4 encRC v cs, allA (spansR cs)])).symm).swap
def SmI (w0 : World) (tv : Value) (hb p : Nat) (g : Cfg) (A : List AE) (c : CT) (v : Value) (cs : List RC) (R : List Asn) : KL := fun x w1 => ∃ (u0 u1 u2 u3 : Value) (i : Nat), x = [u0, u1, u2, u3, .int .i64 (i : Nat)] ∧ i ≤ cs.length ∧ St w0 w1 (smL tv hb p g A c v cs R)
theorem sameL_refl (l : List Spn) : sameL l l := ⟨rfl, fun j h1 h2 => sameS_refl _⟩
theorem same16 (S : St w0 w (bufA hb g A c :: rbA p g ts :: R)) (hr : Rel g ts A c) (hg : g.traces ≤ 64 ∧ g.spans ≤ 16) (now : Int) {K : KV} (h : ∀ w', St w0 w' (bufA hb g A c :: rbA p g ts :: R) → K (.bool true) w') : fcallT P F.winnowlaw16_same [.pointer (some ⟨hb, 0, none⟩), .pointer (some ⟨p, 0, none⟩), .int .u64 now] w K := by
  rw [M.winnowlaw16_same.fcall]
  apply M.winnowlaw16_same.calls
  unfold M.winnowlaw16_same
  have hAl := hr.len
  have hfew := hr.few
  have hll : ∀ e ∈ A, e.l.length ≤ 1000 := fun e he => by
    obtain ⟨t, ht, rfl⟩ := List.mem_map.1 (hr.ae.mem_iff.1 he)
    have := hr.spans t ht
    show t.l.length ≤ 1000
    omega
  refine traces_st S (by omega) fun w1 tv S1 => ?_
  obtain ⟨v, cs, hcs, S2'⟩ := unRb S1.up2
  have S2 : St w0 w1 (smL tv hb p g A c v cs R) := by
    have e : tracesA A = cs.map fun t => t.1.id := by rw [hr.traces, ← hcs, List.map_map]; rfl
    rw [e] at S2'
    exact St.up4 (St.up4 S2')
  have hasc : cs.Pairwise fun a b => a.1.id < b.1.id := by
    have := hr.asc
    rw [← hcs] at this
    exact (List.pairwise_map (f := Prod.fst) (R := fun a b : RT => a.id < b.id)).1 this
  have hcl : cs.length = ts.length := by rw [← hcs, List.length_map]
  have tlen : ∀ {W : World}, St w0 W (smL tv hb p g A c v cs R) → ∀ w' K, biT P .len #[T.sl_uint64] T.int [false] [tv] w' K = K (.int .i64 cs.length) w' := fun S' w' K => by
    have := (S'.row encU_len' : Sl _ 1 Suint64.encL tv _).len_ok (P := P) (t := T.sl_uint64) (ty := T.int) (by kernel_rfl) [false] (w := w') (K := K)
    rw [this, List.length_map]
  have rlen : ∀ {W : World}, St w0 W (smL tv hb p g A c v cs R) → cellOf W p 3 = some v ∧ ∀ w' K, biT P .len #[T.sl_winnowref16_Trace] T.int [false] [v] w' K = K (.int .i64 cs.length) w' := fun S' => ⟨(rb_cells S'.up2.blk).2.2.2.1, fun w' K => rb_len S'.up3 w' K⟩
  obtain ⟨c3, hrl⟩ := rlen S2
  have htl := tlen S2
  simp [htl, c3, hrl]
  have dues : ∀ (now : Int) {W : World} {K' : KV}, St w0 W (smL tv hb p g A c v cs R) → (∀ w', St w0 w' (smL tv hb p g A c v cs R) → K' (.bool true) w') → fcallT P F.pbuffer_Buffer_Due [.pointer (some ⟨hb, 0, none⟩), .int .u64 now] W fun t28 w => fcallT P F.pwinnowref16_Buffer_Due [.pointer (some ⟨p, 0, none⟩), .int .u64 now] w fun t31 w => fcallT P F.winnowlaw16_uints [t28, t31] w K' := by
    intro now W K' S' hK
    refine due_st S'.swap (by omega) now fun w2 v2 T1 => ?_
    have T2 : St w0 w2 (blkA p (headR16 g v) T.winnowref16_Buffer :: rowA T.winnowref16_Trace 4 encRC v cs :: rdA 1 encU v2 (cdue c now) :: bufA hb g A c :: rowU tv (cs.map fun t => t.1.id) :: allA (spansR cs) :: R) := St.up4 (St.up4 T1)
    refine rdue_st T2 (by omega) hasc now fun w3 ov l hs hp T3 => ?_
    have e := due_eq hr.kd now hcs hs hp
    have T4 : St w0 w3 (rdA 1 encU v2 (cdue c now) :: rowA T.uint64 1 encU ov (l.map fun t => t.1.id) :: _) := T3.up3
    rw [M.winnowlaw16_uints.fcall]
    have hl1 : (cdue c now).length < 1000000 := by
      rw [e, List.length_map, hp.length_eq]
      have := List.length_filter_le (dueP now) cs
      omega
    refine uints_ok T4.rd (T4.swap.row encU_len) hl1 fun w4 f4 => ?_
    rw [decide_eq_true e]
    have T5 := (T4.step f4).drop.drop
    exact hK w4 (by
      have T6 : St w0 w4 (blkA p (headR16 g v) T.winnowref16_Buffer :: rowA T.winnowref16_Trace 4 encRC v cs :: bufA hb g A c :: rowU tv (cs.map fun t => t.1.id) :: allA (spansR cs) :: R) := T5
      exact T6.up2.up3)
  refine dues now S2 fun w2 S3 => ?_
  simp
  refine dues 18446744073709551615 S3 fun w3 S4 => ?_
  simp
  unfold M.winnowlaw16_same.j0
  simp
  refine ⟨SmI w0 tv hb p g A c v cs R, fun x _ => cs.length - ms x 4, ⟨_, _, _, _, 0, rfl, Nat.zero_le _, S4⟩, ?_⟩
  rintro x w4 ⟨u0, u1, u2, u3, i, rfl, hi, S5⟩
  unfold M.winnowlaw16_same.j2
  have htl5 := tlen S5
  by_cases hil : i < cs.length
  · have hili : (i : Int) < (cs.length : Int) := by omega
    simp [htl5, hil]
    unfold M.winnowlaw16_same.j3
    have hsu : Sl w4 1 Suint64.encL tv (cs.map fun t => t.1.id) := S5.row encU_len'
    have hil2 : i < (cs.map fun t => t.1.id).length := by rw [List.length_map]; exact hil
    obtain ⟨tb, to', tcap, htv, _, _, htc⟩ := hsu.at hil2
    have hti : ∀ w' K, iaT P T.sl_uint64 tv (.int .i64 (i : Nat)) w' K = K (.pointer (some ⟨tb, to' + i, none⟩)) w' := fun w' K => by rw [htv]; simp [hil]
    have tcell : ∀ {W : World}, St w0 W (smL tv hb p g A c v cs R) → cellOf W tb (to' + i) = some (.int .u64 cs[i].1.id) := fun {W} S' => by
      have hs' : Sl W 1 Suint64.encL tv (cs.map fun t => t.1.id) := S'.row encU_len'
      obtain ⟨tb2, to2, tcap2, htv2, _, _, htc2⟩ := hs'.at hil2
      have hx := htv.symm.trans htv2
      cases hx
      have c0 := htc2 0 _ rfl
      simp only [Nat.mul_one, Nat.add_zero, List.getElem_map] at c0
      exact c0
    have tc := tcell S5
    simp [hti, tc]
    have hit : i < ts.length := by omega
    have ets : ts[i] = cs[i].1 := by simp [← hcs]
    have hfind := hr.find hit
    rw [ets] at hfind
    refine get_st S5.swap hll cs[i].1.id (fun hn => by rw [hfind] at hn; cases hn) fun e he w5 gv' S6 => ?_
    rw [hfind] at he
    cases he
    have S7 : St w0 w5 (smL tv hb p g A c v cs (rdA 8 encS gv' cs[i].1.l :: R)) := by
      exact smIn S6.swap
    have S8 := S7.step ((Fr.refl _ w5).dr 1)
    have tc7 : cellOf w5 tb (to' + i) = some (.int .u64 cs[i].1.id) := by
      have hs' : Sl w5 1 Suint64.encL tv (cs.map fun t => t.1.id) := S7.row encU_len'
      obtain ⟨tb2, to2, tcap2, htv2, _, _, htc2⟩ := hs'.at hil2
      have hx := htv.symm.trans htv2
      cases hx
      have c0 := htc2 0 _ rfl
      simp only [Nat.mul_one, Nat.add_zero, List.getElem_map] at c0
      exact c0
    obtain ⟨_, _, _, c37, _⟩ := rb_cells S7.up2.blk
    obtain ⟨b7, o7, hia7, q0, q1, q2, q3⟩ := rb_at S7.up3 hil
    have hw : IntKind.i64.wrap ((i : Int) + 1) = ((i + 1 : Nat) : Int) := by rw [wrap_id (by omega) (by omega)]; omega
    have eae : cs[i].1.ae.over = cs[i].1.over := rfl
    simp [hti, tc7, c37, hia7, q0, q2, q3, eae]
    have s1 : SlS (dr w5 1) gv' cs[i].1.l := (smOut S8).rd
    have s2 : SlS (dr w5 1) cs[i].2.v cs[i].1.l := rb_spans (St.up4 S8) hil
    rw [M.winnowref03_Spans.fcall]
    refine spans_ok s1 s2 (by have := hr.spans ts[i] (List.getElem_mem hit); rw [ets] at this; omega) (sameL_refl _) fun w6 f6 => ?_
    have S9 := (S8.step f6)
    have S10 : St w0 w6 (smL tv hb p g A c v cs R) := (smOut S9).drop
    obtain ⟨_, _, _, c39, _⟩ := rb_cells S10.up2.blk
    obtain ⟨b9, o9, hia9, p0, p1, p2, p3⟩ := rb_at S10.up3 hil
    have hbo : isBoB P T.bool = true := by kernel_rfl
    simp [c39, hia9, p3, bin_neqB hbo]
    rw [hw]
    exact ⟨⟨_, _, _, _, i + 1, rfl, hil, S10⟩, by simp [ms, gv]; omega⟩
  · have hili : ¬ (i : Int) < (cs.length : Int) := by omega
    simp [htl5, hil]
    have hno := hr.find_no (k := 0) hr.nz
    refine get_st S5.swap hll 0 (fun _ => ?_) fun e he => by rw [hno.1] at he; cases he
    simp
    refine h w4 ?_
    exact (mkRb hcs S5.drop.dn3).swap
end
end Go.Proofs.Ytkjhekflgghbdaa
set_option maxRecDepth 100000
namespace Go.Proofs.Ytkjhekflgghbdaa
open Go.Eng
section
variable {g : Cfg} {ts : List RT} {A : List AE} {c : CT} {i : Nat} {s : Spn}
theorem ts_split (hi : i < ts.length) : ts = ts.take i ++ ts[i] :: ts.drop (i + 1) := by
  rw [← List.drop_eq_getElem_cons hi, List.take_append_drop]
theorem set_split (hi : i < ts.length) (t : RT) : ts.set i t = ts.take i ++ t :: ts.drop (i + 1) := by
  rw [List.set_eq_take_append_cons_drop, if_pos hi]
theorem others (h : ts.Pairwise fun a b => a.id < b.id) (hi : i < ts.length) : (∀ t ∈ ts.take i, t.id ≠ ts[i].id) ∧ ∀ t ∈ ts.drop (i + 1), t.id ≠ ts[i].id := by
  constructor
  · intro t ht
    obtain ⟨j, hj, rfl⟩ := List.getElem_of_mem ht
    simp only [List.length_take] at hj
    rw [List.getElem_take]
    have := asc_lt h (show j < ts.length by omega) hi (by omega)
    omega
  · intro t ht
    obtain ⟨j, hj, rfl⟩ := List.getElem_of_mem ht
    simp only [List.length_drop] at hj
    rw [List.getElem_drop]
    have := asc_lt h hi (show i + 1 + j < ts.length by omega) (by omega)
    omega
theorem erase_filter (h : ts.Pairwise fun a b => a.id < b.id) (hi : i < ts.length) : ts.filter (fun t => !decide (t.id = ts[i].id)) = ts.eraseIdx i := by
  obtain ⟨h1, h2⟩ := others h hi
  have e : ts.filter (fun t => !decide (t.id = ts[i].id)) = (ts.take i ++ ts[i] :: ts.drop (i + 1)).filter (fun t => !decide (t.id = ts[i].id)) := congrArg (List.filter _) (ts_split hi)
  rw [e, List.filter_append, List.filter_cons_of_neg (by simp), List.filter_eq_self.2 (fun t ht => by simpa using h1 t ht), List.filter_eq_self.2 (fun t ht => by simpa using h2 t ht), List.eraseIdx_eq_take_drop_succ]
theorem rel_erase (h : Rel g ts A c) (hi : i < ts.length) : Rel g (ts.eraseIdx i) (without A ts[i].id) (cdel c ts[i].id) := by
  have hsub : ∀ t ∈ ts.eraseIdx i, t ∈ ts := fun t ht => List.mem_of_mem_eraseIdx ht
  refine ⟨h.asc.sublist (List.eraseIdx_sublist _ _), fun t ht => h.nz t (hsub t ht), ?_, ?_, Nat.le_trans (List.length_eraseIdx_le _ _) h.few, fun t ht => h.spans t (hsub t ht)⟩
  · rw [← erase_filter h.asc hi]
    have := h.ae.filter fun e => !decide (e.t = ts[i].id)
    rw [List.filter_map] at this
    exact this
  · rw [← erase_filter h.asc hi]
    have := h.kd.filter fun p => !decide (p.1 = ts[i].id)
    rw [List.filter_map] at this
    exact this
theorem cset_rel (h : Rel g ts A c) (hi : i < ts.length) (a : Int) : (cset c ts[i].id a).Perm ((ts.set i { ts[i] with due := a }).map RT.kd) := by
  have h1 := cset_perm h.kd ts[i].id a
  refine h1.trans ?_
  have e : cdel (ts.map RT.kd) ts[i].id = (ts.eraseIdx i).map RT.kd := by
    unfold cdel
    rw [List.filter_map, ← erase_filter h.asc hi]; rfl
  unfold cset
  rw [e, set_split hi, List.eraseIdx_eq_take_drop_succ, List.map_append, List.map_append, List.map_cons]
  exact List.perm_middle.symm
theorem rel_delay (h : Rel g ts A c) (hi : i < ts.length) (a : Int) : Rel g (ts.set i { ts[i] with due := a }) A (cset c ts[i].id a) := by
  refine ⟨asc_set h.asc i hi _ rfl, fun t ht => ?_, ?_, cset_rel h hi a, by rw [List.length_set]; exact h.few, fun t ht => ?_⟩
  · rcases List.mem_or_eq_of_mem_set ht with ht | rfl
    · exact h.nz t ht
    · exact h.nz ts[i] (List.getElem_mem hi)
  · have e := set_map_perm (ts := ts) RT.ae i hi { ts[i] with due := a } rfl
    rw [e]; exact h.ae
  · rcases List.mem_or_eq_of_mem_set ht with ht | rfl
    · exact h.spans t ht
    · exact h.spans ts[i] (List.getElem_mem hi)
theorem rel_full (h : Rel g ts A c) (hi : i < ts.length) : Rel g (ts.set i { ts[i] with over := true }) (fullS A ts[i].id) c := by
  refine ⟨asc_set h.asc i hi _ rfl, fun t ht => ?_, ?_, ?_, by rw [List.length_set]; exact h.few, fun t ht => ?_⟩
  · rcases List.mem_or_eq_of_mem_set ht with ht | rfl
    · exact h.nz t ht
    · exact h.nz ts[i] (List.getElem_mem hi)
  · rw [← map_at h.asc i hi (fun x => ⟨x.t, x.l, true⟩) { ts[i] with over := true } rfl]
    exact h.ae.map _
  · have e := set_map_perm (ts := ts) RT.kd i hi { ts[i] with over := true } rfl
    rw [e]; exact h.kd
  · rcases List.mem_or_eq_of_mem_set ht with ht | rfl
    · exact h.spans t ht
    · exact h.spans ts[i] (List.getElem_mem hi)
theorem rel_add (h : Rel g ts A c) (hi : i < ts.length) (hn : ¬ g.spans ≤ ts[i].l.length) : Rel g (ts.set i { ts[i] with l := ts[i].l ++ [s] }) (addS A ts[i].id s) c := by
  refine ⟨asc_set h.asc i hi _ rfl, fun t ht => ?_, ?_, ?_, by rw [List.length_set]; exact h.few, fun t ht => ?_⟩
  · rcases List.mem_or_eq_of_mem_set ht with ht | rfl
    · exact h.nz t ht
    · exact h.nz ts[i] (List.getElem_mem hi)
  · rw [← map_at h.asc i hi (fun x => ⟨x.t, x.l ++ [s], x.over⟩) { ts[i] with l := ts[i].l ++ [s] } rfl]
    exact h.ae.map _
  · have e := set_map_perm (ts := ts) RT.kd i hi { ts[i] with l := ts[i].l ++ [s] } rfl
    rw [e]; exact h.kd
  · rcases List.mem_or_eq_of_mem_set ht with ht | rfl
    · exact h.spans t ht
    · simp; omega
theorem rel_new (h : Rel g ts A c) {k a : Int} (hk : ∀ t ∈ ts, t.id ≠ k) (hk0 : k ≠ 0) (hf : ¬ g.traces ≤ ts.length) (h1 : 1 ≤ g.spans) : Rel g (insR ⟨k, a, [s], false⟩ ts) (A ++ [⟨k, [s], false⟩]) (cset c k a) := by
  have hp := mem_insR ⟨k, a, [s], false⟩ ts
  refine ⟨asc_insR _ _ h.asc hk, fun t ht => ?_, ?_, ?_, by rw [hp.length_eq]; simp; omega, fun t ht => ?_⟩
  · rcases List.mem_cons.1 (hp.mem_iff.1 ht) with rfl | ht
    · exact hk0
    · exact h.nz t ht
  · refine List.Perm.trans ?_ (hp.map RT.ae).symm
    exact (List.perm_append_comm).trans (List.Perm.cons _ h.ae)
  · refine List.Perm.trans ?_ (hp.map RT.kd).symm
    have e : cdel c k = c := by
      unfold cdel
      refine List.filter_eq_self.2 fun p hp => ?_
      obtain ⟨t, ht, rfl⟩ := List.mem_map.1 (h.kd.mem_iff.1 hp)
      have hh : ¬ t.kd.1 = k := hk t ht
      simpa using hh
    unfold cset
    rw [e]
    exact List.Perm.cons _ h.kd
  · rcases List.mem_cons.1 (hp.mem_iff.1 ht) with rfl | ht
    · simpa using h1
    · exact h.spans t ht
end
end Go.Proofs.Ytkjhekflgghbdaa
set_option maxRecDepth 100000
namespace Go.Proofs.Ytkjhekflgghbdaa
open Go.Eng
structure O16 where
  kind : Int
  s : Spn
  tr : Int
  now : Int
def cells16 (x : O16) : List Value := [.int .i64 x.kind, .int .u64 x.s.trace, .int .u64 x.s.id, .int .u64 x.s.parent, .int .u64 x.s.start, .int .u64 x.s.len, .string x.s.service, .string x.s.name, .bool x.s.fail, .int .u64 x.tr, .int .u64 x.now]
theorem wf_u16 {x : Int} (h : (Lit.int .u64 x).wf = true) : 0 ≤ x ∧ x ≤ 18446744073709551615 := by
  simp [Lit.wf, IntKind.min, IntKind.max, IntKind.bits, IntKind.signed] at h
  omega
theorem spn16 {w : World} {n : Nat} {cs : List Value} (ht : TV P w n T.api_Span cs) : ∃ s, cs = encS s := by
  obtain ⟨hl, hf⟩ := tv_struct Try.underlying33 ht
  have hl8 : Try.prog.cellsOf T.api_Span = 8 := by kernel_rfl
  rw [hl8] at hl
  obtain ⟨m0, t0⟩ := hf 0 _ rfl
  obtain ⟨m1, t1⟩ := hf 1 _ rfl
  obtain ⟨m2, t2⟩ := hf 2 _ rfl
  obtain ⟨m3, t3⟩ := hf 3 _ rfl
  obtain ⟨m4, t4⟩ := hf 4 _ rfl
  obtain ⟨m5, t5⟩ := hf 5 _ rfl
  obtain ⟨m6, t6⟩ := hf 6 _ rfl
  obtain ⟨m7, t7⟩ := hf 7 _ rfl
  obtain ⟨x0, e0, _⟩ := tv_int Try.underlying22 t0
  obtain ⟨x1, e1, _⟩ := tv_int Try.underlying22 t1
  obtain ⟨x2, e2, _⟩ := tv_int Try.underlying22 t2
  obtain ⟨x3, e3, _⟩ := tv_int Try.underlying22 t3
  obtain ⟨x4, e4, _⟩ := tv_int Try.underlying22 t4
  obtain ⟨x5, e5, _⟩ := tv_string Try.underlying9 t5
  obtain ⟨x6, e6, _⟩ := tv_string Try.underlying9 t6
  obtain ⟨x7, e7⟩ := tv_bool Try.underlying4 t7
  have c0 : Try.prog.cellsOf 22 = 1 := by kernel_rfl
  have c1 : Try.prog.cellsOf 9 = 1 := by kernel_rfl
  have c2 : Try.prog.cellsOf 4 = 1 := by kernel_rfl
  match cs, hl with
  | [u0, u1, u2, u3, u4, u5, u6, u7], _ =>
    simp [c0, c1, c2] at e0 e1 e2 e3 e4 e5 e6 e7
    subst e0 e1 e2 e3 e4 e5 e6 e7
    exact ⟨⟨x0, x1, x2, x3, x4, x5, x6, x7⟩, rfl⟩
def o16Rd (w : World) (b o : Nat) (x : O16) : Prop := rdE cells16 w b o x ∧ 0 ≤ x.now ∧ x.now ≤ 18446744073709551615
theorem o16_of {w : World} {n : Nat} {v : Value} (h : TV P w n T.sl_winnowlaw16_Op [v]) : ∃ l, Sl w 11 cells16 v l ∧ ∀ x ∈ l, 0 ≤ x.now ∧ x.now ≤ 18446744073709551615 := by
  have : ∃ l : List O16, SlOf w 11 o16Rd v l := by
    refine sl_of_tv (sz := 11) (rd := o16Rd) (e := T.winnowlaw16_Op) et.sl_winnowlaw16_Op.ty (by kernel_rfl) (by decide) (fun n b o cs ht hl hc => ?_) h
    obtain ⟨_, hf⟩ := tv_struct Try.underlying35 ht
    obtain ⟨m0, t0⟩ : ∃ m, TV P w m T.int ((cs.drop 0).take (P.cellsOf T.int)) := hf 0 _ rfl
    obtain ⟨m1, t1⟩ : ∃ m, TV P w m T.api_Span ((cs.drop 1).take (P.cellsOf T.api_Span)) := hf 1 _ rfl
    obtain ⟨m2, t2⟩ : ∃ m, TV P w m T.uint64 ((cs.drop 9).take (P.cellsOf T.uint64)) := hf 2 _ rfl
    obtain ⟨m3, t3⟩ : ∃ m, TV P w m T.uint64 ((cs.drop 10).take (P.cellsOf T.uint64)) := hf 3 _ rfl
    have c0 : P.cellsOf T.int = 1 := by kernel_rfl
    have c1 : P.cellsOf T.api_Span = 8 := by kernel_rfl
    have c2 : P.cellsOf T.uint64 = 1 := by kernel_rfl
    match cs, hl with
    | [u0, u1, u2, u3, u4, u5, u6, u7, u8, u9, u10], _ =>
      simp only [c0, c1, c2, List.drop_zero, List.drop_succ_cons, List.take_succ_cons, List.take_zero] at t0 t1 t2 t3
      obtain ⟨x0, e0, _⟩ := tv_int (k := .i64) (by kernel_rfl) t0
      obtain ⟨s, es⟩ := spn16 t1
      obtain ⟨x2, e2, _⟩ := tv_int (k := .u64) (by kernel_rfl) t2
      obtain ⟨x3, e3, w3⟩ := tv_int (k := .u64) (by kernel_rfl) t3
      simp only [encS, List.cons.injEq, and_true] at e0 e2 e3 es
      obtain ⟨rfl, rfl, rfl, rfl, rfl, rfl, rfl, rfl⟩ := es
      subst e0 e2 e3
      exact ⟨⟨x0, s, x2, x3⟩, fun j u hj => hc j u hj, wf_u16 w3⟩
  obtain ⟨l, hl⟩ := this
  refine ⟨l, hl.mono fun b o x hx => hx.1, fun x hx => ?_⟩
  obtain ⟨i, hi, rfl⟩ := List.getElem_of_mem hx
  obtain ⟨a, cap, hv, _, _, h3⟩ := hl
  obtain ⟨b, o, _, _, hr⟩ := h3 i _ (List.getElem?_eq_getElem hi)
  exact hr.2
section
variable {w : World} {v : Value} {l : List O16}
def L16 (w : World) (l : List O16) : KL := fun x w1 => ∃ (u : Value) (i : Nat), x = [u, .int .i64 (i : Nat)] ∧ w1 = w ∧ i ≤ l.length
theorem light16 (hs : Sl w 11 cells16 v l) {K : KV} (h : ∀ bb, (bb = true → l.length ≤ 200) → K (.bool bb) w) : fcallT P F.winnowlaw16_light [v] w K := by
  rw [M.winnowlaw16_light.fcall]
  apply M.winnowlaw16_light.calls
  unfold M.winnowlaw16_light
  have hlen : ∀ w' K, biT P .len #[T.sl_winnowlaw16_Op] T.int [false] [v] w' K = K (.int .i64 l.length) w' := fun w' K => hs.len_ok (by kernel_rfl) [false]
  by_cases hl : 200 < l.length
  · have : (200 : Int) < l.length := by omega
    simp [hlen, this]
    exact h false fun h => by cases h
  have hn : ¬ (200 : Int) < l.length := by omega
  simp [hlen, hn]
  unfold M.winnowlaw16_light.j0
  simp
  refine ⟨L16 w l, fun x _ => l.length - ms x 1, ⟨_, 0, rfl, rfl, Nat.zero_le _⟩, ?_⟩
  rintro x w1 ⟨u, i, rfl, rfl, hi⟩
  by_cases hil : i < l.length
  · have hili : (i : Int) < (l.length : Int) := by omega
    simp [hlen, hil]
    unfold M.winnowlaw16_light.j3
    obtain ⟨b, o, cap, hv, _, _, hc⟩ := hs.at hil
    have hia : ∀ w' K, iaT P T.sl_winnowlaw16_Op v (.int .i64 (i : Nat)) w' K = K (.pointer (some ⟨b, o + i * 11, none⟩)) w' := fun w' K => by rw [hv]; simp [hil]
    have k6 := hc 6 _ rfl
    have k7 := hc 7 _ rfl
    have hw : IntKind.i64.wrap ((i : Int) + 1) = ((i + 1 : Nat) : Int) := by rw [wrap_id (by omega) (by omega)]; omega
    simp [hia, k6, k7]
    by_cases h1 : 200 < l[i].s.name.size
    · have h1' : (200 : Int) < (l[i].s.name.size : Int) := by omega
      simp [h1']
      exact h false fun h => by cases h
    · have h1' : ¬ (200 : Int) < (l[i].s.name.size : Int) := by omega
      by_cases h2 : 200 < l[i].s.service.size
      · have h2' : (200 : Int) < (l[i].s.service.size : Int) := by omega
        simp [h1', hia, k6, h2']
        exact h false fun h => by cases h
      · have h2' : ¬ (200 : Int) < (l[i].s.service.size : Int) := by omega
        simp [h1', hia, k6, h2']
        rw [hw]
        exact ⟨⟨_, i + 1, rfl, rfl, hil⟩, by simp [ms, gv]; omega⟩
  · have hili : ¬ (i : Int) < (l.length : Int) := by omega
    simp [hlen, hil]
    exact h true fun _ => by omega
end
end Go.Proofs.Ytkjhekflgghbdaa
set_option maxRecDepth 100000
namespace Go.Proofs.Ytkjhekflgghbdaa
open Go.Eng
section
variable {W w : World} {hb p : Nat} {g : Cfg} {ts : List RT} {A : List AE} {c : CT} {R : List Asn} {s : Spn} {now : Int}
theorem rightK_tr (h : rightK s = 0) : s.trace ≠ 0 := fun he => by
  unfold rightK at h
  rw [if_pos (.inl he)] at h
  cases h
theorem Rel.ll (hr : Rel g ts A c) (hg : g.traces ≤ 64 ∧ g.spans ≤ 16) : ∀ e ∈ A, e.l.length ≤ 1000 := fun e he => by
  obtain ⟨t, ht, rfl⟩ := List.mem_map.1 (hr.ae.mem_iff.1 he)
  have := hr.spans t ht
  show t.l.length ≤ 1000
  omega
/-- Put: the document's side, behind the program's. -/
theorem rput_both (S1 : St W w (bufA hb g (putA g A s) (putC g A c s now) :: rbA p g ts :: R)) (hr : Rel g ts A c) (hg : g.traces ≤ 64 ∧ g.spans ≤ 16) (h1 : 1 ≤ g.spans) (hwt : 0 ≤ g.wait ∧ g.wait ≤ 1099511627776) (hnow : 0 ≤ now ∧ now ≤ 18446744073709551615) {K : KV}
    (h : ∀ w' ts' A' c', Rel g ts' A' c' → St W w' (bufA hb g A' c' :: rbA p g ts' :: R) → K (.int .i64 (putK g A s)) w') : fcallT P F.pwinnowref16_Buffer_Put [.pointer (some ⟨p, 0, none⟩), aggS s, .int .u64 now] w K := by
  have hAl := hr.len
  have hfew := hr.few
  have hlt : ∀ t ∈ ts, t.l.length ≤ 1000 := fun t ht => by have := hr.spans t ht; omega
  refine rput_st S1.swap (by omega) hlt hnow hwt (fun hr0 w2 S2 => ?_) (fun hr0 hno hf w2 S2 => ?_) (fun hr0 hno hf w2 S2 => ?_) (fun i hi hr0 he ha w2 S2 => ?_) (fun i hi hr0 he ha hsp w2 S2 => ?_) fun i hi hr0 he ha hsp w2 S2 => ?_
  · have ek : putK g A s = rightK s := by unfold putK; rw [if_pos hr0]
    have ea : putA g A s = A := by unfold putA; rw [if_pos hr0]
    have ec : putC g A c s now = c := by unfold putC; rw [if_pos hr0]
    rw [ek] at h
    rw [ea, ec] at S2
    exact h w2 ts A c hr S2.swap
  · have hfn := (hr.find_no hno).1
    have ek : putK g A s = 8 := by unfold putK; rw [if_neg (by simpa using hr0), hfn]; simp only; rw [if_pos (by omega)]
    have ea : putA g A s = A := by unfold putA; rw [if_neg (by simpa using hr0), hfn]; simp only; rw [if_pos (by omega)]
    have ec : putC g A c s now = c := by unfold putC; rw [if_neg (by simpa using hr0), hfn]; simp only; rw [if_pos (by omega)]
    rw [ek] at h
    rw [ea, ec] at S2
    exact h w2 ts A c hr S2.swap
  · have hfn := (hr.find_no hno).1
    have ek : putK g A s = 0 := by unfold putK; rw [if_neg (by simpa using hr0), hfn]; simp only; rw [if_neg (by omega)]
    have ea : putA g A s = A ++ [⟨s.trace, [s], false⟩] := by unfold putA; rw [if_neg (by simpa using hr0), hfn]; simp only; rw [if_neg (by omega)]
    have ec : putC g A c s now = cset c s.trace (dueAt g now) := by unfold putC; rw [if_neg (by simpa using hr0), hfn]; simp only; rw [if_neg (by omega)]
    rw [ek] at h
    rw [ea, ec] at S2
    exact h w2 _ _ _ (rel_new hr hno (rightK_tr hr0) hf h1) S2.swap
  all_goals
    have hfn := hr.find hi
    rw [he] at hfn
    have ha' : (ts[i].ae.l.any fun x => decide (x.id = s.id)) = _ := ha
  · have ek : putK g A s = 0 := by unfold putK; rw [if_neg (by simpa using hr0), hfn]; simp only; rw [if_pos ha']
    have ea : putA g A s = A := by unfold putA; rw [if_neg (by simpa using hr0), hfn]; simp only; rw [if_pos ha']
    have ec : putC g A c s now = c := by unfold putC; rw [if_neg (by simpa using hr0), hfn]
    rw [ek] at h
    rw [ea, ec] at S2
    exact h w2 ts A c hr S2.swap
  · have ek : putK g A s = 9 := by unfold putK; rw [if_neg (by simpa using hr0), hfn]; simp only; rw [if_neg (by rw [ha']; simp), if_pos (show g.spans ≤ ts[i].ae.l.length from hsp)]
    have ea : putA g A s = fullS A s.trace := by unfold putA; rw [if_neg (by simpa using hr0), hfn]; simp only; rw [if_neg (by rw [ha']; simp), if_pos (show g.spans ≤ ts[i].ae.l.length from hsp)]
    have ec : putC g A c s now = c := by unfold putC; rw [if_neg (by simpa using hr0), hfn]
    rw [ek] at h
    rw [ea, ec, ← he] at S2
    exact h w2 _ _ _ (rel_full hr hi) S2.swap
  · have ek : putK g A s = 0 := by unfold putK; rw [if_neg (by simpa using hr0), hfn]; simp only; rw [if_neg (by rw [ha']; simp), if_neg (show ¬ g.spans ≤ ts[i].ae.l.length from hsp)]
    have ea : putA g A s = addS A s.trace s := by unfold putA; rw [if_neg (by simpa using hr0), hfn]; simp only; rw [if_neg (by rw [ha']; simp), if_neg (show ¬ g.spans ≤ ts[i].ae.l.length from hsp)]
    have ec : putC g A c s now = c := by unfold putC; rw [if_neg (by simpa using hr0), hfn]
    rw [ek] at h
    rw [ea, ec, ← he] at S2
    exact h w2 _ _ _ (rel_add hr hi hsp) S2.swap
end
end Go.Proofs.Ytkjhekflgghbdaa
set_option maxRecDepth 100000
namespace Go.Proofs.Ytkjhekflgghbdaa
open Go.Eng
def PlI (W : World) (l : List O16) (hb p : Nat) (g : Cfg) : KL := fun x w1 => ∃ (u0 u1 u2 u3 u4 u5 : Value) (i : Nat) (ts : List RT) (A : List AE) (c : CT), x = [u0, u1, u2, u3, u4, u5, .int .i64 (i : Nat)] ∧ i ≤ l.length ∧ Rel g ts A c ∧ St W w1 (bufA hb g A c :: rbA p g ts :: [])
section
variable {W w : World} {hb p ob : Nat} {g : Cfg} {ts : List RT} {A : List AE} {c : CT} {R : List Asn} {x : O16}
def aggO (x : O16) : Array Value := #[.int .i64 x.kind, .int .u64 x.s.trace, .int .u64 x.s.id, .int .u64 x.s.parent, .int .u64 x.s.start, .int .u64 x.s.len, .string x.s.service, .string x.s.name, .bool x.s.fail, .int .u64 x.tr, .int .u64 x.now]
theorem ob_cells (S : St W w (blkA ob (aggO x) T.winnowlaw16_Op :: R)) : cellOf w ob 0 = some (.int .i64 x.kind) ∧ cellOf w ob 9 = some (.int .u64 x.tr) ∧ cellOf w ob 10 = some (.int .u64 x.now) ∧ ∀ K, ldN P 8 ob 1 w K = K (aggS x.s) w := by
  have hh := S.blk
  refine ⟨by rw [cellOf_of hh]; rfl, by rw [cellOf_of hh]; rfl, by rw [cellOf_of hh]; rfl, fun K => ldS (fun k v hk => ?_) K⟩
  rw [cellOf_of hh]
  match k, hk with
  | 0, hk => simpa [encS, aggO] using hk
  | 1, hk => simpa [encS, aggO] using hk
  | 2, hk => simpa [encS, aggO] using hk
  | 3, hk => simpa [encS, aggO] using hk
  | 4, hk => simpa [encS, aggO] using hk
  | 5, hk => simpa [encS, aggO] using hk
  | 6, hk => simpa [encS, aggO] using hk
  | 7, hk => simpa [encS, aggO] using hk
  | k + 8, hk => simp [encS] at hk
end
theorem BufferPlays_law {W : World} {n3 : Nat} {v3 : Value} {a0 a1 a2 : Int} (h0 : (Lit.int .i64 a0).wf = true) (h1 : (Lit.int .i64 a1).wf = true) (h2 : (Lit.int .u64 a2).wf = true) (h3 : TV P W n3 T.sl_winnowlaw16_Op [v3]) {K : KV} (h : ∀ w', Fr (fun _ => False) W w' → K (.bool true) w') : callT P F.winnowlaw16_BufferPlays [.int .i64 a0, .int .i64 a1, .int .u64 a2, v3] W K := by
  apply M.winnowlaw16_BufferPlays.calls
  unfold M.winnowlaw16_BufferPlays
  obtain ⟨l, hl, hnow⟩ := o16_of h3
  have hw2 := wf_u16 h2
  have hlen : ∀ w' K, biT P .len #[T.sl_winnowlaw16_Op] T.int [false] [v3] w' K = K (.int .i64 l.length) w' := fun w' K => hl.len_ok (by kernel_rfl) [false]
  refine light16 hl fun bb hbb => ?_
  have al : ∀ {w : World} {K' : KV}, (∀ w', Fr (fun _ => False) w w' → K' (.bool true) w') → fcallT P F.winnowlaw16_alive [] w K' := fun {w K'} hh => by
    rw [M.winnowlaw16_alive.fcall]
    exact alive_ok hh
  cases bb with
  | false =>
    simp
    exact al h
  | true =>
  have hl200 := hbb rfl
  simp
  unfold M.winnowlaw16_BufferPlays.j0
  have hbo : isBoB P T.bool = true := by kernel_rfl
  refine new_st (St.start W) a0 a1 a2 (fun hbad => ?_) fun g w1 hb e1 e2 e3 e4 e5 e6 e7 e8 S1 => ?_
  · simp
    refine rnew_st (St.start W) a0 a1 a2 (fun _ => ?_) fun hn => absurd hbad hn
    simp [bin_neqB hbo]
    refine al fun w' f' => ?_
    simp
    unfold M.winnowlaw16_BufferPlays.j1
    simp
    exact h w' f'
  · subst e1 e2 e3
    simp
    refine rnew_st S1 _ _ _ (fun hbad => by omega) fun _ w2 p S2 => ?_
    have eg : (⟨((g.traces : Nat) : Int).toNat, ((g.spans : Nat) : Int).toNat, g.wait⟩ : Cfg) = g := by simp
    rw [eg] at S2
    simp [bin_neqB hbo]
    refine al fun w3 f3 => ?_
    simp
    unfold M.winnowlaw16_BufferPlays.j1
    simp
    have S3 : St W w3 (bufA hb g [] [] :: rbA p g [] :: []) := (S2.step f3).swap
    have hr0 : Rel g [] [] [] := ⟨.nil, fun t ht => by simp at ht, .nil, .nil, by simp, fun t ht => by simp at ht⟩
    refine ⟨PlI W l hb p g, fun x _ => l.length - ms x 6, ⟨_, _, _, _, _, _, 0, [], [], [], rfl, Nat.zero_le _, hr0, S3⟩, ?_⟩
    rintro x w4 ⟨u0, u1, u2, u3, u4, u5, i, ts, A, c, rfl, hi, hr, S4⟩
    unfold M.winnowlaw16_BufferPlays.j4
    have hgb : g.traces ≤ 64 ∧ g.spans ≤ 16 := ⟨e5, e7⟩
    have hwt : 0 ≤ g.wait ∧ g.wait ≤ 1099511627776 := ⟨hw2.1, e8⟩
    by_cases hil : i < l.length
    · have hili : (i : Int) < (l.length : Int) := by omega
      simp [hlen, hil]
      unfold M.winnowlaw16_BufferPlays.j5
      obtain ⟨b, o, cap, hv, hblt, _, hc⟩ := hl.at hil
      have hia : ∀ w' K, iaT P T.sl_winnowlaw16_Op v3 (.int .i64 (i : Nat)) w' K = K (.pointer (some ⟨b, o + i * 11, none⟩)) w' := fun w' K => by rw [hv]; simp [hil]
      have cellsA : ∀ {w' : World}, Fr (fun _ => False) W w' → ∀ j u, (cells16 l[i])[j]? = some u → cellOf w' b (o + i * 11 + j) = some u := fun f j u hj => by rw [cellOf_heap (f.keep b hblt fun h => h)]; exact hc j u hj
      have hld : ∀ K, ldN P 11 b (o + i * 11) w4 K = K (.agg (aggO l[i])) w4 := fun K => ldN_eq (cells16 l[i]) 11 rfl (cellsA S4.fr) K
      have hnx := hnow _ (List.getElem_mem hil)
      generalize l[i] = op at *
      simp only [aggO] at hld
      simp [hia, hld]
      have S5 : St W (w4.alloc (.cells #[.int .i64 0, .int .u64 0, .int .u64 0, .int .u64 0, .int .u64 0, .int .u64 0, .string ⟨#[]⟩, .string ⟨#[]⟩, .bool false, .int .u64 0, .int .u64 0] T.winnowlaw16_Op)) (blkA w4.heap.size #[.int .i64 0, .int .u64 0, .int .u64 0, .int .u64 0, .int .u64 0, .int .u64 0, .string ⟨#[]⟩, .string ⟨#[]⟩, .bool false, .int .u64 0, .int .u64 0] T.winnowlaw16_Op :: bufA hb g A c :: rbA p g ts :: []) := S4.add ((Fr.refl _ w4).alloc _) (B := fun x => x = w4.heap.size) ⟨by rw [alloc_heap, if_pos rfl], rfl⟩ fun x hx => by subst hx; rw [alloc_size]; omega
      generalize w4.heap.size = ob at *
      refine stN_all (vs := cells16 op) S5.blk rfl (fun u hu => by
        simp only [cells16, List.mem_cons, List.not_mem_nil, or_false] at hu
        rcases hu with rfl | rfl | rfl | rfl | rfl | rfl | rfl | rfl | rfl | rfl | rfl <;> rfl) fun w5 hb5 f5 => ?_
      have S6 : St W w5 (blkA ob (aggO op) T.winnowlaw16_Op :: bufA hb g A c :: rbA p g ts :: []) := S5.turn f5 hb5
      have fin : ∀ {w6 : World} {ts' : List RT} {A' : List AE} {c' : CT} {x7 : List Value}, Rel g ts' A' c' → St W w6 (bufA hb g A' c' :: rbA p g ts' :: []) → M.winnowlaw16_BufferPlays.j7 v3 [u0, u1, u2, u3, u4, u5, .int .i64 (i : Nat)] (.pointer (some ⟨hb, 0, none⟩)) (.pointer (some ⟨p, 0, none⟩)) (fun x6 w => PlI W l hb p g [gv x6 0, gv x6 1, gv x6 2, gv x6 3, gv x6 4, gv x6 5, .int .i64 (IntKind.i64.wrap ((i : Int) + 1))] w ∧ l.length - ms [gv x6 0, gv x6 1, gv x6 2, gv x6 3, gv x6 4, gv x6 5, .int .i64 (IntKind.i64.wrap ((i : Int) + 1))] 6 < l.length - ms [u0, u1, u2, u3, u4, u5, .int .i64 (i : Nat)] 6) x7 w6 K := by
        intro w6 ts' A' c' x7 hr' S'
        unfold M.winnowlaw16_BufferPlays.j7
        have d10 := cellsA S'.fr 10 _ rfl
        simp [hia, d10]
        refine same16 S' hr' hgb op.now fun w7 S7 => ?_
        simp
        have hw : IntKind.i64.wrap ((i : Int) + 1) = ((i + 1 : Nat) : Int) := by rw [wrap_id (by omega) (by omega)]; omega
        rw [hw]
        exact ⟨⟨_, _, _, _, _, _, i + 1, ts', A', c', rfl, hil, hr', S7⟩, by simp [ms, gv]; omega⟩
      obtain ⟨q0, q9, q10, ql⟩ := ob_cells S6
      simp [q0]
      have hts := hr.few
      have hAl := hr.len
      by_cases k0 : op.kind = 0
      · have T1 := (S6.step ((Fr.refl _ w5).dr 1))
        obtain ⟨_, _, _, ql'⟩ := ob_cells T1
        simp [k0, q10, ql']
        refine put_st T1.swap (by omega) (hr.ll hgb) op.s hnx hwt.1 fun w6 S7 => ?_
        obtain ⟨r0, r9, r10, rl⟩ := ob_cells S7.swap
        refine ⟨by simp [r10], by simp [rl], ?_⟩
        have S8 : St W w6 (bufA hb g (putA g A op.s) (putC g A c op.s op.now) :: rbA p g ts :: []) := S7.swap.drop
        refine rput_both S8 hr hgb e6 hwt hnx fun w7 ts' A' c' hr' S9 => ?_
        simp
        exact fin hr' S9
      by_cases k1 : op.kind = 1
      · simp [k0, k1, q9]
        refine rfind_ok S6.up2 (by omega) op.tr (fun hno => ?_) fun i2 hi2 he2 _ => ?_
        · simp [q9, q10]
          refine delay_no_st S6.swap op.tr op.now (hr.find_no hno).2 ?_
          simp [bin_neqB hbo]
          unfold M.winnowlaw16_BufferPlays.j8
          simp
          exact fin hr S6.drop
        · have hn0 : (0 : Int) ≤ (i2 : Int) := by omega
          simp [q9, q10]
          have heA : ts[i2].ae ∈ A := hr.ae.mem_iff.2 (List.mem_map_of_mem (List.getElem_mem hi2))
          refine delay_st S6.swap (by omega) heA he2 fun w6 S7 => ?_
          simp [bin_neqB hbo, hn0]
          unfold M.winnowlaw16_BufferPlays.j8
          obtain ⟨_, _, r10, _⟩ := ob_cells S7.swap
          obtain ⟨v, cs, hcs, S8⟩ := unRb S7.up2
          have hi3 : i2 < cs.length := by rw [← hcs, List.length_map] at hi2; exact hi2
          obtain ⟨_, _, _, c3, _⟩ := rb_cells S8.blk
          obtain ⟨b6, cap6, hv6⟩ := rb_row S8.swap hi3
          have hia6 : ∀ w' K, iaT P T.sl_winnowref16_Trace v (.int .i64 (i2 : Nat)) w' K = K (.pointer (some ⟨b6, i2 * 4, none⟩)) w' := fun w' K => by rw [hv6]; simp [hi3]
          simp [hn0, c3, r10, hia6]
          have S9 := (S8.step ((Fr.refl _ w6).dr 1)).swap
          obtain ⟨y, hy⟩ : ∃ y : RC, y = (({ cs[i2].1 with due := op.now } : RT), cs[i2].2) := ⟨_, rfl⟩
          obtain ⟨b7, cap7, hv7, m1, m2, m3, S10⟩ := S9.setCellAt encRC_len hi3 y (f := 1) (u := .int .u64 op.now) (by omega) (by rw [hy]; rfl)
          have hbb := hv6.symm.trans hv7
          obtain ⟨rfl, rfl⟩ : b7 = b6 ∧ cap7 = cap6 := by cases hbb; exact ⟨rfl, rfl⟩
          have d1 := m3 1 _ rfl
          simp [d1, m2]
          have hrel := rel_delay hr hi2 op.now
          rw [he2] at hrel
          have esp : spansR cs = spansR (cs.set i2 y) := by
            unfold spansR
            rw [List.map_set, hy]
            apply List.ext_getElem
            · simp
            · intro n h1 h2
              rw [List.getElem_set]
              split
              · rename_i hin; subst hin; simp
              · rfl
          have ets : (cs.set i2 y).map Prod.fst = ts.set i2 { ts[i2] with due := op.now } := by
            subst hcs
            rw [List.map_set, hy]; simp
          rw [esp] at S10
          have S11 := mkRb ets S10.swap
          exact fin hrel S11.up2.drop.swap
      by_cases k2 : op.kind = 2
      · have T1 := (S6.step ((Fr.refl _ w5).dr 1))
        simp [k0, k1, k2, q9]
        refine take2_st T1.swap (by omega) op.tr (fun hno => ?_) fun e he het w6 v6 S7 => ?_
        · obtain ⟨_, r9, _⟩ := ob_cells T1
          refine ⟨by simp [q9], ?_⟩
          have hno2 : ∀ t ∈ ts, t.id ≠ op.tr := fun t ht => hno t.ae (hr.ae.mem_iff.2 (List.mem_map_of_mem ht))
          refine rtake_no T1.up2 (by omega) hno2 ?_
          rw [M.winnowref03_Spans.fcall]
          refine spans_ok (l1 := []) (l2 := []) Sl.nil Sl.nil (by simp) (sameL_refl _) fun w6 f6 => ?_
          simp
          exact fin hr (T1.step f6).drop
        · obtain ⟨_, r9, _⟩ := ob_cells S7.up2
          refine ⟨by simp [r9], ?_⟩
          obtain ⟨t, ht, rfl⟩ := List.mem_map.1 (hr.ae.mem_iff.1 he)
          obtain ⟨i2, hi2, rfl⟩ := List.getElem_of_mem ht
          have he2 : ts[i2].id = op.tr := het
          refine rtake_st S7.up3 (by omega) hi2 he2 (fun j hj hlt he3 => by have := asc_inj hr.asc hj hi2 (he3.trans he2.symm); omega) fun w7 v7 S8 => ?_
          rw [M.winnowref03_Spans.fcall]
          have S9 : St W w7 (rdA 8 encS v6 ts[i2].ae.l :: rowA T.api_Span 8 encS v7 ts[i2].l :: rbA p g (ts.eraseIdx i2) :: bufA hb g (without A op.tr) (cdel c op.tr) :: blkA ob (aggO op) T.winnowlaw16_Op :: []) := S8.up2
          refine spans_ok S9.rd (S9.swap.row encS_len) (by have := hr.spans ts[i2] (List.getElem_mem hi2); show ts[i2].l.length < _; omega) (sameL_refl _) fun w8 f8 => ?_
          simp
          have hrel := rel_erase hr hi2
          rw [he2] at hrel
          have S10 := (S9.step f8).drop.drop
          exact fin hrel S10.up2.drop.swap
      simp [k0, k1, k2]
      exact fin hr S6.drop
    · have hili : ¬ (i : Int) < (l.length : Int) := by omega
      simp [hlen, hil]
      exact h w4 S4.fr
end Go.Proofs.Ytkjhekflgghbdaa
