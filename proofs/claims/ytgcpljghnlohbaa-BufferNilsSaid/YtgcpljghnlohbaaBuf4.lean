/-
  A buffer of traces: what is due. No condition.
-/
import Derived.Test.YtgcpljghnlohbaaBuf3
set_option maxRecDepth 100000
namespace Go.Proofs.Ytgcpljghnlohbaa
open Go.Eng

@[simp] theorem ex_1_0 (P : Program) (v : Value) (w : World) (K : KV) : exT P (.tuple #[v]) 0 w K = K v w := Eq.trans rfl rfl

theorem filter_perm {α : Type} (p : α → Bool) : ∀ l : List α, (l.filter (fun x => !p x) ++ l.filter p).Perm l
  | [] => .nil
  | x :: l => by
    have ih := filter_perm p l
    cases h : p x with
    | true => simp only [List.filter_cons, h, Bool.not_true, Bool.false_eq_true, if_false, if_true]; exact (List.perm_middle).trans (ih.cons x)
    | false => simp only [List.filter_cons, h, Bool.not_false, Bool.false_eq_true, if_false, if_true, List.cons_append]; exact ih.cons x

/-- The pairs that are due, in their order. -/
def duep (c : CT) (now : Int) : CT := (srt c).filter fun p => decide (p.2 ≤ now)
theorem cdue_eq (c : CT) (now : Int) : cdue c now = (duep c now).map (·.1) := rfl
theorem due_perm (c : CT) (now : Int) : (crest c now ++ duep c now).Perm c := by
  have h1 : (duep c now).Perm (c.filter fun p => decide (p.2 ≤ now)) := (srt_perm c).filter _
  have h2 : crest c now = c.filter fun p => !decide (p.2 ≤ now) := by
    unfold crest
    congr 1; funext p
    by_cases h : p.2 ≤ now
    · have : ¬ now < p.2 := by omega
      simp [h, this]
    · have : now < p.2 := by omega
      simp [h, this]
  rw [h2]
  exact (h1.append_left _).trans (filter_perm _ c)

def DueI (w0 : World) (hb : Nat) (g : Cfg) (O : Nat → Prop) (r : Nat) (m : MP) (es : List Ent) (c : CT) (ra it : Nat) : KL := fun _ w1 => ∃ (done : List Int) (m2 : MP), ItAt w1 it r .u64 m done ∧ MapAt w1 ra .u64 m2 ∧ (∀ k ∈ done, ∀ a, cget c k = some a → mget m2 k = some (.int .u64 a)) ∧ BufI w1 hb g O r m es c ∧ Fr (fun _ => False) w0 w1

def Due2 (w0 : World) (hb : Nat) (g : Cfg) (r : Nat) (m : MP) (es : List Ent) (c : CT) (ra : Nat) (m2 : MP) (v : Value) (now : Int) (O0 : Nat → Prop) : KL := fun x w1 => ∃ (i : Nat) (O : Nat → Prop) (c1 : CT), gv x 1 = .int .i64 (i : Nat) ∧ i ≤ (duep c now).length ∧ c1.Perm (crest c now ++ (duep c now).take i) ∧ HpB g r w1 hb O c1 ∧ (∀ b, O b → O0 b ∨ w0.heap.size ≤ b) ∧ MapAt w1 ra .u64 m2 ∧ ¬ O ra ∧
  w1.ownsRow w0.heap.size T.uint64 1 v (cdue c now).length (u64s (cdue c now)) ∧ (∀ x, v.ownBlock = some x → ¬ O x) ∧ Fr O0 w0 w1

theorem due_ok {w : World} {hb : Nat} {g : Cfg} {B : Nat → Prop} {A : List AE} {c : CT} (I : Buf w hb g B A c) (hA : A.length ≤ 1000) (now : Int) {K : KV}
    (h : ∀ w' v B', Buf w' hb g B' A c → w'.ownsRow w.heap.size T.uint64 1 v (cdue c now).length (u64s (cdue c now)) → (∀ x, v.ownBlock = some x → ¬ B' x) → Fr B w w' → (∀ b, B' b → B b ∨ w.heap.size ≤ b) → K v w') : callT P F.pbuffer_Buffer_Due [.pointer (some ⟨hb, 0, none⟩), .int .u64 now] w K := by
  apply M.pbuffer_Buffer_Due.calls
  unfold M.pbuffer_Buffer_Due
  simp only [joinT_eq]
  simp
  unfold M.pbuffer_Buffer_Due.j0
  simp only [joinT_eq]
  rw [mkm_eq]
  obtain ⟨⟨O, r, m, es, hAe, J, hB⟩, hlt⟩ := I
  have hcl : c.length = m.length := by
    have := J.ck.length_eq
    simp [ckeys] at this
    rw [this, J.ml]
  have hAl : A.length = m.length := by rw [hAe, List.length_map, J.ml]
  generalize hwa : w.alloc (.map #[] 0) = wa
  have hma : MapAt wa w.heap.size .u64 [] := by rw [← hwa]; exact MapAt_new w .u64
  have hfa : Fr (fun _ => False) w wa := by rw [← hwa]; exact (Fr.refl _ w).alloc _
  have sza : wa.heap.size = w.heap.size + 1 := by rw [← hwa]; simp
  have Ja := J.keep hfa fun _ _ h => h
  obtain ⟨_, _, _, q5⟩ := Ja.cells
  simp [q5]
  refine rg_map mt.map_uint64_p_buffer_entry Ja.mp fun wi hit hfi => ?_
  have hraw : w.heap.size < wa.heap.size := by omega
  refine ⟨DueI w hb g O r m es c w.heap.size wa.heap.size, fun _ w1 => itLeft w1 wa.heap.size m.length, ⟨[], [], hit, hma.of_heap (hfi.keep _ hraw fun h => h), fun k hk => by (cases hk), Ja.keep hfi fun _ _ h => h, hfa.trans hfi⟩, ?_⟩
  rintro x w1 ⟨done, m2, hit1, hm1, hdone, J1, f1⟩
  have hlt1 := hit1.lt
  have hrlt := J.mp.lt
  refine nx_map hit1 J.mn _ (fun hall => ?_) fun k v w2 hkm hkd hcur hf2 hless => ?_
  · simp
    have hOlt : ∀ b, O b → b < w.heap.size := @Hp.lt (bufE g r) _ _ _ _ J.hp
    have hnd : (ckeys c).Nodup := @Hp.nd (bufE g r) _ _ _ _ J.hp
    have hat : ∀ p ∈ c, mget m2 p.1 = some (.int .u64 p.2) := fun p hp => by
      refine hdone p.1 ?_ p.2 (cget_of_mem hnd hp)
      obtain ⟨e, he, het⟩ := List.mem_map.1 (J.ck.mem_iff.1 (List.mem_map_of_mem hp : p.1 ∈ ckeys c))
      have hgm := J.mg e he
      have hk : e.t ∈ mkeys m := by
        by_cases hx : e.t ∈ mkeys m
        · exact hx
        · rw [(mget_none_iff _ _).2 hx] at hgm; cases hgm
      obtain ⟨q, hq, hqk⟩ := List.mem_map.1 hk
      have := hall q hq
      rw [hqk, het] at this; exact this
    unfold M.pbuffer_Buffer_Due.j1
    simp only [joinT_eq]
    simp
    rw [M.ptimers_Heap_Pop.fcall]
    have sz1 := f1.size
    refine @pop_ok (bufE g r) _ _ _ _ J1.hp (by omega) now _ fun w2 v H2 r2 f2 => ?_
    have r2' : w2.ownsRow w.heap.size T.uint64 1 v (cdue c now).length (u64s (cdue c now)) := by
      refine ⟨r2.1, ?_⟩
      rcases r2.2 with hn | ⟨gb, cap, cur, hv, hg, rest⟩
      · exact .inl hn
      · exact .inr ⟨gb, cap, cur, hv, by omega, rest⟩
    have hvO : ∀ x, v.ownBlock = some x → ¬ O x := fun x hx hO => by
      obtain ⟨_, _, _, hge, _⟩ := row_at r2 hx
      have := hOlt x hO; omega
    have hnra : ¬ O w.heap.size := fun h => by have := hOlt _ h; omega
    have hlenv : ∀ w K, biT P .len #[T.sl_uint64] T.int [false] [v] w K = K (.int .i64 (cdue c now).length) w := fun w K => by
      rcases r2.2 with ⟨hv, hn⟩ | ⟨gb, cap, cur, hv, _⟩
      · rw [hv, len_sl (by simp), hn]
      · rw [hv, len_sl (by simp)]
    rw [hlenv]
    have hDl : (cdue c now).length = (duep c now).length := by rw [cdue_eq, List.length_map]
    have hDc : (duep c now).length ≤ c.length := by
      unfold duep
      have := List.length_filter_le (fun p : Int × Int => decide (p.2 ≤ now)) (srt c)
      have := (srt_perm c).length_eq
      omega
    have hndD : (ckeys (crest c now ++ duep c now)).Nodup := by
      unfold ckeys at hnd ⊢
      exact ((due_perm c now).map _).nodup_iff.2 hnd
    refine ⟨Due2 w hb g r m es c w.heap.size m2 v now O, fun x _ => (duep c now).length - ms x 1, ⟨0, O, crest c now, rfl, Nat.zero_le _, by simp, H2, fun b hb => .inl hb, hm1.of_heap (f2.keep _ hm1.lt hnra), hnra, r2', hvO, (f1.mono fun _ _ h => h.elim).trans' f2 fun b _ h => h⟩, ?_⟩
    rintro x w3 ⟨i, O3, c3, hx1, hi, hp3, H3, hO3, hm3, hra3, r3, hv3, f3⟩
    simp only [hx1]
    by_cases hil : i < (duep c now).length
    · have hil' : (i : Int) < (cdue c now).length := by omega
      have hil2 : i < (cdue c now).length := by omega
      simp [hil2]
      unfold M.pbuffer_Buffer_Due.j6
      simp only [joinT_eq, hx1]
      obtain ⟨gb, cap, cur, hvf, hgb, hgc, _⟩ := row_form r3 (by omega)
      have hvg : v.ownBlock = some gb := by rw [hvf]; rfl
      have hk0 : (cdue c now)[i] = (duep c now)[i].1 := by simp [cdue_eq]
      have ci := row_cell r3 hvg (i := i) (x := .int .u64 (duep c now)[i].1) (by simp [u64s, hil2, hk0])
      have hw : IntKind.i64.wrap ((i : Int) + 1) = ((i + 1 : Nat) : Int) := by rw [wrap_id (by omega) (by omega)]; rfl
      have hDm : (duep c now)[i] ∈ c := (due_perm c now).mem_iff.1 (List.mem_append_right _ (List.getElem_mem hil))
      have hm3d : MapAt (dr w3 1) w.heap.size .u64 m2 := hm3.of_heap rfl
      rw [hvf]
      simp [hil2, ci]
      rw [lu_eq mt.map_uint64_uint64 hm3d, hat _ hDm]
      simp
      rw [M.ptimers_Heap_Set.fcall]
      have H3d : HpB g r (dr w3 1) hb O3 c3 := @Hp.keep (bufE g r) _ _ _ _ (fun _ => False) _ H3 ((Fr.refl _ w3).dr 1) fun _ _ h => h
      have hc3 : c3.length ≤ c.length := by
        rw [hp3.length_eq, ← (due_perm c now).length_eq]; simp; omega
      refine @set_ok (bufE g r) _ _ _ _ H3d (by omega) _ _ _ fun w4 O4 H4 f4 p4 => ?_
      have f4' : Fr O3 w3 w4 := ⟨f4.size, f4.keep, f4.tape, f4.os, f4.output⟩
      have p4' : ∀ b, O4 b → O3 b ∨ w3.heap.size ≤ b := p4
      have s3 := f3.size
      have hnk : (duep c now)[i].1 ∉ ckeys c3 := fun hk => by
        have hk2 : (duep c now)[i].1 ∈ ckeys (crest c now ++ (duep c now).take i) := by
          unfold ckeys at hk ⊢
          exact (hp3.map _).mem_iff.1 hk
        have hsp : crest c now ++ duep c now = (crest c now ++ (duep c now).take i) ++ (duep c now)[i] :: (duep c now).drop (i + 1) := by
          rw [List.append_assoc, ← List.drop_eq_getElem_cons hil, List.take_append_drop]
        rw [hsp] at hndD
        unfold ckeys at hndD hk2
        rw [List.map_append, List.nodup_append] at hndD
        exact hndD.2.2 _ hk2 _ (by rw [List.map_cons]; exact List.mem_cons_self ..) rfl
      refine ⟨⟨i + 1, O4, _, by rw [hw]; rfl, by omega, ?_, H4, fun b hb => ?_, hm3.of_heap (f4'.keep _ hm3.lt hra3), fun h => ?_, ?_, fun x hx h => ?_, ?_⟩, ?_⟩
      · unfold cset
        rw [cdel_none hnk, List.take_succ_eq_append_getElem hil, ← List.append_assoc]
        exact (hp3.cons _).trans (List.perm_append_comm (l₁ := [_]))
      · rcases p4' b hb with h | h
        · exact hO3 b h
        · exact .inr (by omega)
      · rcases p4' _ h with h | h
        · exact hra3 h
        · have := hm3.lt; omega
      · rw [← hvf]
        exact row_keep r3 fun x hx => f4'.keep x (by obtain ⟨_, _, _, _, hc, _⟩ := row_at r3 hx; exact heap_lt hc) (hv3 x hx)
      · rw [← hvf] at hx
        rcases p4' _ h with h | h
        · exact hv3 x hx h
        · obtain ⟨_, _, _, _, hc, _⟩ := row_at r3 hx; have := heap_lt hc; omega
      · exact f3.trans' f4' fun b hlt h => (hO3 b h).elim id fun h => by omega
      · have : ms x 1 = i := by unfold ms; rw [hx1]; rfl
        rw [this]; simp [ms, gv, hw]; omega
    · have hil2 : ¬ i < (cdue c now).length := by omega
      simp [hil2]
      have hie : i = (duep c now).length := by omega
      subst hie
      rw [List.take_length] at hp3
      have H : HpB g r w3 hb O3 c := @Hp.congr (bufE g r) _ _ _ _ _ H3 (hp3.trans (due_perm c now))
      have J3 := J.heap f3 H hO3 J.ck
      refine h w3 v (fun b => B b ∨ O3 b) ⟨⟨O3, r, m, es, hAe, J3, fun b hb => ?_⟩, fun b hb => ?_⟩ r3 (fun x hx hB' => ?_) (f3.mono fun b _ hO => hB b (.inl hO)) fun b hb => ?_
      · rcases hb with h | h
        · exact .inr h
        · exact .inl (hB b (.inr h))
      · rcases hb with h | h
        · have := hlt b h; have := f3.size; omega
        · exact @Hp.lt (bufE g r) _ _ _ _ H b h
      · obtain ⟨_, _, _, hge, _⟩ := row_at r3 hx
        rcases hB' with h | h
        · have := hlt x h; omega
        · exact hv3 x hx h
      · rcases hb with h | h
        · exact .inl h
        · exact (hO3 b h).imp (fun h => hB b (.inl h)) id
  · simp
    unfold M.pbuffer_Buffer_Due.j3
    rw [en_map hcur]
    simp
    rw [M.ptimers_Heap_At.fcall]
    have hOlt : ∀ b, O b → b < w.heap.size := @Hp.lt (bufE g r) _ _ _ _ J.hp
    have J2 := J1.keep hf2 fun b hb h => by
      have := J.lt hb; omega
    have hmk : k ∈ ckeys c := by
      have h1 : mget m k ≠ none := fun hn => (mget_none_iff _ _).1 hn (List.mem_map_of_mem hkm)
      by_cases hex : ∃ e ∈ es, e.t = k
      · obtain ⟨e, he, rfl⟩ := hex
        exact J.ck.mem_iff.2 (List.mem_map_of_mem he)
      · exact absurd (J.mz k fun e he hk => hex ⟨e, he, hk⟩) h1
    refine @at_ok (bufE g r) _ _ _ _ J2.hp k _ (fun hn => absurd hmk ((cget_none_iff _ _).1 hn)) fun a ha => ?_
    simp
    have hm2' : MapAt w2 w.heap.size .u64 m2 := hm1.of_heap (hf2.keep _ hm1.lt (by omega))
    refine mu_ok mt.map_uint64_uint64 hm2' _ _ _ fun o hm3 => ?_
    have f3 : Fr (fun b => b = w.heap.size) w2 (World.setObj w2 w.heap.size o) := (Fr.refl (fun b => b = w.heap.size) w2).setObj (.inl rfl) o
    generalize hw3 : World.setObj w2 w.heap.size o = w3 at *
    have hit2 := hcur.1
    have hl2 := hit2.lt
    refine ⟨⟨k :: done, _, hit2.keep (f3.keep _ hl2.1 (by omega)) (f3.keep _ hl2.2 (by omega)), hm3, fun y hy b hb => ?_, J2.keep f3 fun b hb h => by have := J.lt hb; omega, ?_⟩, ?_⟩
    · rw [mget_mset]
      by_cases hky : k = y
      · rw [if_pos hky]
        subst hky
        rw [ha] at hb; cases hb; rfl
      · rw [if_neg hky]
        rcases List.mem_cons.1 hy with h | h
        · exact absurd h.symm hky
        · exact hdone y h b hb
    · exact (f1.trans' hf2 fun b hlt h => by omega).trans' f3 fun b hlt h => by omega
    · have : itLeft w3 wa.heap.size m.length = itLeft w2 wa.heap.size m.length := by
        unfold itLeft
        rw [f3.keep _ hl2.1 (by omega)]
      omega
end Go.Proofs.Ytgcpljghnlohbaa
