/-
  A buffer of traces: Put, whole. No condition.
-/
import Derived.Test.YtgcpljghnlohbaaBuf2
set_option maxRecDepth 100000
namespace Go.Proofs.Ytgcpljghnlohbaa
open Go.Eng

theorem hpB_cells {w : World} {hb : Nat} {g : Cfg} {O : Nat → Prop} {r : Nat} {c : CT} (H : HpB g r w hb O c) :
    cellOf w hb 2 = some (.int .i64 g.traces) ∧ cellOf w hb 3 = some (.int .i64 g.spans) ∧ cellOf w hb 4 = some (.int .u64 g.wait) ∧ cellOf w hb 5 = some (.map (some r)) := by
  letI : HE := bufE g r
  obtain ⟨v, mv, its, hI, _⟩ := Hp.ex H
  have hb' := hI.hl.blk
  unfold hbk at hb'
  exact ⟨by rw [cellOf_of hb']; rfl, by rw [cellOf_of hb']; rfl, by rw [cellOf_of hb']; rfl, by rw [cellOf_of hb']; rfl⟩

def dueAt (g : Cfg) (now : Int) : Int := now + min g.wait (18446744073709551615 - now)
def addS (A : List AE) (k : Int) (s : Spn) : List AE := A.map fun x => if x.t = k then ⟨x.t, x.l ++ [s], x.over⟩ else x
def fullS (A : List AE) (k : Int) : List AE := A.map fun x => if x.t = k then ⟨x.t, x.l, true⟩ else x

theorem put_ok {w : World} {hb : Nat} {g : Cfg} {B : Nat → Prop} {A : List AE} {c : CT} (I : Buf w hb g B A c) (hA : A.length ≤ 1000) (hl : ∀ e ∈ A, e.l.length ≤ 1000) (s : Spn) {now : Int} (hnow : 0 ≤ now ∧ now ≤ 18446744073709551615) (hwt : 0 ≤ g.wait) {K : KV}
    (h1 : rightK s ≠ 0 → ∀ w', Buf w' hb g B A c → Fr (fun _ => False) w w' → K (.int .i64 (rightK s)) w')
    (h2 : rightK s = 0 → (∀ e ∈ A, e.t ≠ s.trace) → g.traces ≤ A.length → ∀ w', Buf w' hb g B A c → Fr (fun _ => False) w w' → K (.int .i64 8) w')
    (h3 : rightK s = 0 → (∀ e ∈ A, e.t ≠ s.trace) → A.length < g.traces → ∀ w' B', Buf w' hb g B' (A ++ [⟨s.trace, [s], false⟩]) (cset c s.trace (dueAt g now)) → Fr B w w' → (∀ b, B' b → B b ∨ w.heap.size ≤ b) → K (.int .i64 0) w')
    (h4 : rightK s = 0 → ∀ e ∈ A, e.t = s.trace → (e.l.any fun x => decide (x.id = s.id)) = true → ∀ w', Buf w' hb g B A c → Fr (fun _ => False) w w' → K (.int .i64 0) w')
    (h5 : rightK s = 0 → ∀ e ∈ A, e.t = s.trace → (e.l.any fun x => decide (x.id = s.id)) = false → g.spans ≤ e.l.length → ∀ w', Buf w' hb g B (fullS A s.trace) c → Fr B w w' → K (.int .i64 9) w')
    (h6 : rightK s = 0 → ∀ e ∈ A, e.t = s.trace → (e.l.any fun x => decide (x.id = s.id)) = false → e.l.length < g.spans → ∀ w' B', Buf w' hb g B' (addS A s.trace s) c → Fr B w w' → (∀ b, B' b → B b ∨ w.heap.size ≤ b) → K (.int .i64 0) w') :
    callT P F.pbuffer_Buffer_Put [.pointer (some ⟨hb, 0, none⟩), aggS s, .int .u64 now] w K := by
  apply M.pbuffer_Buffer_Put.calls
  unfold M.pbuffer_Buffer_Put
  rw [box_agg]
  generalize hwa : w.alloc (.cells #[.int .u64 s.trace, .int .u64 s.id, .int .u64 s.parent, .int .u64 s.start, .int .u64 s.len, .string s.service, .string s.name, .bool s.fail] T.api_Span) = wa
  have hbx : boxS wa w.heap.size s := by rw [← hwa]; exact boxS_new w s
  have hfa : Fr (fun _ => False) w wa := by rw [← hwa]; exact (Fr.refl _ w).alloc _
  simp only [joinT_eq]
  simp
  unfold M.pbuffer_Buffer_Put.j0
  simp only [joinT_eq]
  simp
  rw [ldS (b := w.heap.size) (i := 0) (s := s) (fun k v hk => by rw [Nat.zero_add]; exact boxS_at hbx k v hk), M.span_Right.fcall]
  refine right_ok s fun w2 fr2 => ?_
  have F2 := hfa.trans fr2
  have hbx2 : boxS w2 w.heap.size s := fr2.heap hbx fun h => h
  have I2 := I.keep F2 fun _ _ h => h
  by_cases hr : rightK s = 0
  · simp [hr]
    unfold M.pbuffer_Buffer_Put.j1
    obtain ⟨⟨O, r, m, es, hAe, J, hB⟩, hlt⟩ := I2
    obtain ⟨q2, q3, q4, q5⟩ := J.cells
    have t0 := boxS_at hbx2 0 _ rfl
    have t1 := boxS_at hbx2 1 _ rfl
    simp [q5, t0]
    have mp1 : MapAt (dr w2 1) r .u64 m := J.mp.of_heap rfl
    have mp2 : MapAt (dr (dr w2 1) 1) r .u64 m := J.mp.of_heap rfl
    have hlenm : ∀ K, biT P .len #[T.map_uint64_p_buffer_entry] T.int [false] [.map (some r)] (dr (dr w2 1) 1) K = K (.int .i64 m.length) (dr (dr w2 1) 1) := fun K => lenmap_eq mt.map_uint64_p_buffer_entry mp2 _ K
    have hAl : A.length = m.length := by rw [hAe, List.length_map, J.ml]
    rw [lu_eq mt.map_uint64_p_buffer_entry mp1]
    have fd : Fr (fun _ => False) w2 (dr (dr w2 1) 1) := ((Fr.refl _ w2).dr 1).dr 1
    have Id : Buf (dr (dr w2 1) 1) hb g B A c := Buf.keep ⟨⟨O, r, m, es, hAe, J, hB⟩, hlt⟩ fd fun _ _ h => h
    have tA : (∀ e ∈ es, e.t ≠ s.trace) → ∀ e ∈ A, e.t ≠ s.trace := fun h e he => by
      rw [hAe] at he
      obtain ⟨x, hx, rfl⟩ := List.mem_map.1 he
      exact h x hx
    rcases J.find s.trace with ⟨hmn, hne⟩ | ⟨e, he, het, hme⟩
    · rw [hmn]
      by_cases hfull : g.traces ≤ m.length
      · have hfull' : (g.traces : Int) ≤ m.length := by omega
        simp [q5, q2, hlenm, hfull]
        exact h2 hr (tA hne) (by omega) _ Id (F2.trans fd)
      · have hfull' : ¬ (g.traces : Int) ≤ m.length := by omega
        simp [q5, q2, hlenm, hfull]
        generalize hw3 : dr ((dr (dr w2 1) 1).alloc (.cells #[.slice none 0 0, .bool false] T.buffer_entry)) 1 = w3
        have fr3 : Fr (fun _ => False) w2 w3 := by rw [← hw3]; exact (fd.alloc _).dr 1
        have hb3 : w3.heap[w2.heap.size]? = some (.cells #[.slice none 0 0, .bool false] T.buffer_entry (0, 0)) := by
          rw [← hw3, dr_heap, alloc_heap]; simp
        have sz3 : w3.heap.size = w2.heap.size + 1 := by rw [← hw3]; simp
        have J3 := J.keep fr3 fun _ _ h => h
        have hbx3 : boxS w3 w.heap.size s := fr3.heap hbx2 fun h => h
        obtain ⟨_, _, _, r5⟩ := J3.cells
        have u0 := boxS_at hbx3 0 _ rfl
        simp [r5, u0]
        refine mu_ok mt.map_uint64_p_buffer_entry J3.mp _ _ _ fun o hm4 => ?_
        have hr3 := J3.mp.lt
        have f4 : Fr (fun b => b = r) w3 (World.setObj w3 r o) := (Fr.refl (fun b => b = r) w3).setObj (.inl rfl) o
        have sz4 : (World.setObj w3 r o).heap.size = w3.heap.size := setObj_size w3 r o
        generalize hw4 : World.setObj w3 r o = w4 at *
        have H4 : HpB g r w4 hb O c := @Hp.keep (bufE g r) _ _ _ _ _ _ J3.hp f4 fun b hb h => J.nr (h ▸ hb)
        have hrs : r ≠ w.heap.size := map_ne J3.mp hbx3
        have hbx4 : boxS w4 w.heap.size s := f4.heap hbx3 fun h => hrs h.symm
        obtain ⟨_, _, s4, _⟩ := hpB_cells H4
        have u4 := boxS_at hbx4 0 _ rfl
        have hw1 : IntKind.u64.wrap (18446744073709551615 - now) = 18446744073709551615 - now := wrap_u64 (by omega) (by omega)
        have hw2 : IntKind.u64.wrap (now + min g.wait (18446744073709551615 - now)) = dueAt g now := wrap_u64 (by omega) (by omega)
        simp [s4, u4, hw1, hw2]
        rw [M.ptimers_Heap_Set.fcall]
        have hcl : c.length = m.length := by
          have := J.ck.length_eq
          simp [ckeys] at this
          rw [this, J.ml]
        have H4d : HpB g r (dr w4 1) hb O c := @Hp.keep (bufE g r) _ _ _ _ (fun _ => False) _ H4 ((Fr.refl _ w4).dr 1) fun _ _ h => h
        refine @set_ok (bufE g r) _ _ _ _ H4d (by omega) _ _ _ fun w5 O5 H5 f5 p5 => ?_
        have f5' : Fr O w4 w5 := ⟨f5.size, f5.keep, f5.tape, f5.os, f5.output⟩
        have p5' : ∀ b, O5 b → O b ∨ w2.heap.size < b := fun b hb => (p5 b hb).imp id fun h => by simp [dr_heap] at h; omega
        have hOB : ∀ b, O b → B b := fun b hb => hB b (.inl hb)
        have hnO : ¬ O w.heap.size := fun h => by have := I.lt _ (hOB _ h); omega
        have hnp : ¬ O w2.heap.size := fun h => by have := @Hp.lt (bufE g r) _ _ _ _ J.hp _ h; omega
        have hrlt := J.mp.lt
        have J5 := J.push (O' := O5) (k := s.trace) (a := dueAt g now) (p := w2.heap.size) (m' := mset m s.trace (.pointer (some ⟨w2.heap.size, 0, none⟩))) (w' := w5) (S := fun b => O b ∨ b = r) hne H5 p5' rfl (hm4.of_heap (f5'.keep r (by omega) J.nr)) rfl
          ((((fr3.mono fun _ _ h => h.elim).trans' f4 fun b _ h => .inr h)).trans' f5' fun b _ h => .inl h) (fun b h => h) (f5'.heap (f4.heap hb3 fun h => by omega) hnp)
        have hbx5 : boxS w5 w.heap.size s := f5'.heap hbx4 hnO
        refine put_end J5 (e := ⟨s.trace, w2.heap.size, .slice none 0 0, [], false⟩) (by simp) (by simp) hbx5 rfl fun w6 v6 J6 f6 n6 => ?_
        have hs2 := F2.size
        have hs5 := f5'.size
        have hs6 := f6.size
        have hes : (es ++ [(⟨s.trace, w2.heap.size, .slice none 0 0, [], false⟩ : Ent)]).map (fun x => if x.t = s.trace then ⟨s.trace, w2.heap.size, v6, [] ++ [s], false⟩ else x) = es ++ [⟨s.trace, w2.heap.size, v6, [s], false⟩] := by
          rw [List.map_append]
          congr 1
          · conv => rhs; rw [← List.map_id es]
            exact List.map_congr_left fun x hx => by rw [if_neg (hne x hx)]; rfl
          · simp
        rw [hes] at J6
        refine h3 hr (tA hne) (by omega) w6 (fun b => B b ∨ (w.heap.size ≤ b ∧ b < w6.heap.size)) ⟨⟨O5, r, _, _, by rw [hAe, List.map_append]; rfl, J6, fun b hfp => ?_⟩, fun b hb => ?_⟩ ?_ fun b hb => hb.imp id fun h => h.1
        · have hbl := J6.lt hfp
          rcases hfp with h | rfl | ⟨x, hx, hxb⟩
          · rcases p5' b h with h | h
            · exact .inl (hOB b h)
            · exact .inr ⟨by omega, hbl⟩
          · exact .inl (hB _ (.inr (.inl rfl)))
          · rcases List.mem_append.1 hx with hx | hx
            · exact .inl (hB b (.inr (.inr ⟨x, hx, hxb⟩)))
            · simp at hx; subst hx
              rcases hxb with h | h
              · simp at h; exact .inr ⟨by omega, hbl⟩
              · rcases n6 b h with h | h
                · simp [Value.ownBlock] at h
                · exact .inr ⟨by omega, hbl⟩
        · rcases hb with h | h
          · have := I.lt b h; omega
          · exact h.2
        · exact (((((F2.mono fun _ _ h => h.elim).trans' fr3 fun b _ h => h.elim).trans' f4 fun b _ h => h ▸ hB r (.inr (.inl rfl))).trans' f5' fun b _ h => hOB b h)).trans' f6 fun b hlt' h => by
            rcases h with h | h
            · simp at h; omega
            · simp [Value.ownBlock] at h
    · rw [hme]
      have e1 : e.ptr = .pointer (some ⟨e.p, 0, none⟩) := rfl
      have eA : e.abs ∈ A := by rw [hAe]; exact List.mem_map_of_mem he
      have hll : e.l.length ≤ 1000 := hl _ eA
      have inj : ∀ x ∈ es, x.t = e.t → x = e := fun x hx h => nodup_map_inj J.tn hx he h
      obtain ⟨c0, c1⟩ := cells2 (J.blk e he)
      have hsl : SlS (dr (dr w2 1) 1) e.v e.l := ((J.row e he).sl encS_len).fr fd fun _ _ _ h => h
      simp [e1, c0]
      rw [mkf_eq, M.slices_ContainsFunc_api_Span_api_Span.fcall]
      refine contains_ok hsl (by omega) (id := s.id) t1 (heap_lt hbx2) fun w3 f3 => ?_
      have f23 : Fr (fun _ => False) w2 w3 := fd.trans f3
      have J3 := J.keep f23 fun _ _ h => h
      have I3 : Buf w3 hb g B A c := Id.keep f3 fun _ _ h => h
      have F3 := F2.trans f23
      cases hany : e.l.any fun x => decide (x.id = s.id) with
      | true =>
        simp
        exact h4 hr e.abs eA het hany w3 I3 F3
      | false =>
        obtain ⟨k0, k1⟩ := cells2 (J3.blk e he)
        obtain ⟨_, _, _, _⟩ := J3.cells
        obtain ⟨_, q3', _, _⟩ := J3.cells
        have hsl3 : SlS w3 e.v e.l := (J3.row e he).sl encS_len
        have hlen3 : ∀ K, biT P .len #[T.sl_api_Span] T.int [false] [e.v] (dr w3 1) K = K (.int .i64 e.l.length) (dr w3 1) := fun K => hsl3.len_ok (by simp) _
        have f3d : Fr (fun _ => False) w3 (dr w3 1) := (Fr.refl _ w3).dr 1
        by_cases hf : g.spans ≤ e.l.length
        · have hf' : (g.spans : Int) ≤ e.l.length := by omega
          have hbk := J3.blk e he
          have m1 : (cellOf w3 e.p 1).isSome = true := by rw [cellOf_of hbk]; rfl
          have m2 := frzOf_of hbk 1
          simp [k0, q3', hlen3, hf, m1, m2]
          have fs : Fr (fun b => b = e.p) w3 ((dr w3 1).setCell ⟨e.p, 1, none⟩ (.bool true)) := ((Fr.refl (fun b => b = e.p) w3).dr 1).setCell (.inl rfl) 1 _
          have J4 := J3.upd he (e' := { e with over := true }) rfl rfl fs (fun b h => .inl h) (by rw [setCell_at (w := dr w3 1) hbk]; rfl) ((J3.row e he).fr fs fun x hx h => by
            obtain ⟨cur, hc⟩ := row_elem (J3.row e he) hx
            rw [h] at hc
            exact ne_of_elem hc hbk (by decide) rfl) fun x hx => .inl hx
          refine h5 hr e.abs eA het hany hf _ ⟨⟨O, r, m, _, ?_, J4, fun b hfp => ?_⟩, fun b hb => ?_⟩ ((F3.mono fun _ _ h => h.elim).trans' fs fun b _ h => hB b (.inr (.inr ⟨e, he, .inl h.symm⟩)))
          · rw [hAe, fullS, List.map_map, List.map_map]
            refine List.map_congr_left fun x hx => ?_
            show (if x.t = s.trace then _ else _) = Ent.abs (if x.t = e.t then _ else x)
            by_cases hxt : x.t = e.t
            · rw [if_pos hxt, if_pos (by rw [hxt, het]), inj x hx hxt]; rfl
            · rw [if_neg hxt, if_neg (by rw [← het]; exact hxt)]
          · refine hB b ?_
            rcases hfp with h | h | ⟨x, hx, hxb⟩
            · exact .inl h
            · exact .inr (.inl h)
            · obtain ⟨y, hy, rfl⟩ := List.mem_map.1 hx
              by_cases hyt : y.t = e.t
              · rw [if_pos hyt] at hxb; exact .inr (.inr ⟨e, he, hxb⟩)
              · rw [if_neg hyt] at hxb; exact .inr (.inr ⟨y, hy, hxb⟩)
          · have := hlt b hb; have := f23.size; have := fs.size; omega
        · have hf' : ¬ (g.spans : Int) ≤ e.l.length := by omega
          simp [k0, q3', hlen3, hf]
          have Jd := J3.keep f3d fun _ _ h => h
          have hbxd : boxS (dr w3 1) w.heap.size s := f23.heap hbx2 fun h => h
          refine put_end Jd he hll hbxd rfl fun w6 v6 J6 f6 n6 => ?_
          have hs3 := F3.size
          have hs6 := f6.size
          simp only [dr_heap] at hs6
          refine h6 hr e.abs eA het hany (by simp only [Ent.abs]; omega) w6 (fun b => B b ∨ (w.heap.size ≤ b ∧ b < w6.heap.size)) ⟨⟨O, r, m, _, ?_, J6, fun b hfp => ?_⟩, fun b hb => ?_⟩ (((F3.trans f3d).mono fun _ _ h => h.elim).trans' f6 fun b _ h => ?_) fun b hb => hb.imp id fun h => h.1
          · rw [hAe, addS, List.map_map, List.map_map]
            refine List.map_congr_left fun x hx => ?_
            show (if x.t = s.trace then _ else _) = Ent.abs (if x.t = e.t then _ else x)
            by_cases hxt : x.t = e.t
            · rw [if_pos hxt, if_pos (by rw [hxt, het]), inj x hx hxt]; rfl
            · rw [if_neg hxt, if_neg (by rw [← het]; exact hxt)]
          · have hbl := J6.lt hfp
            rcases hfp with h | h | ⟨x, hx, hxb⟩
            · exact .inl (hB b (.inl h))
            · exact .inl (hB b (.inr (.inl h)))
            · obtain ⟨y, hy, rfl⟩ := List.mem_map.1 hx
              by_cases hyt : y.t = e.t
              · rw [if_pos hyt] at hxb
                rcases hxb with h | h
                · exact .inl (hB b (.inr (.inr ⟨e, he, .inl h⟩)))
                · rcases n6 b h with h | h
                  · exact .inl (hB b (.inr (.inr ⟨e, he, .inr h⟩)))
                  · simp only [dr_heap] at h; exact .inr ⟨by omega, hbl⟩
              · rw [if_neg hyt] at hxb; exact .inl (hB b (.inr (.inr ⟨y, hy, hxb⟩)))
          · rcases hb with h | h
            · have := I.lt b h; omega
            · exact h.2
          · refine hB b (.inr (.inr ⟨e, he, ?_⟩))
            rcases h with h | h
            · exact .inl h.symm
            · exact .inr h
  · have hr' : ¬ rightK s = 0 := hr
    simp [hr']
    exact h1 hr w2 I2 F2
end Go.Proofs.Ytgcpljghnlohbaa
