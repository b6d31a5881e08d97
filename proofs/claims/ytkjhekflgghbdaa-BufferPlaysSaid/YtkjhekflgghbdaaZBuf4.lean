/-
  A buffer of traces: what is due. No condition.
  A buffer of traces: Get. No condition.
  The laws' own small functions: two rows of numbers, the chapter's example. No condition.
  A buffer of traces: Take, Delay. No condition.
  A buffer of traces, with what stands beside it. No condition.
  winnowref16's buffer in memory: what it is, New, Find. No condition.
  winnowref16's buffer: Take. No condition.
  Equality of structs, field by field. No condition.
  Are two lists of spans the same? No condition.
  The document's answer for names of spans: one rune. No condition.
  The document's answer for names of spans: one rune, the walk. No condition.
  The document's answer for names of spans: one rune, whole. No condition.
  The document's rune and the model's. No condition.
  The document's answer for spans: runes, names, what is right. No condition.
  winnowref16's buffer: a trace that is put in. No condition.
  winnowref16's buffer: a span that comes to its trace; Put. No condition.
  winnowref16's buffer: Put. No condition.
-/
import Derived.Test.YtkjhekflgghbdaaZTimPure
import Derived.Test.YtkjhekflgghbdaaZEngSimp
import Derived.Test.YtkjhekflgghbdaaM
import Derived.Test.YtkjhekflgghbdaaRows
import Derived.Laws.StructEq
set_option maxRecDepth 100000
namespace Go.Proofs.Ytkjhekflgghbdaa
open Go.Eng

@[simp] theorem ex_1_0 (P : Program) (v : Value) (w : World) (K : KV) : exT P (.tuple #[v]) 0 w K = K v w := Eq.trans rfl rfl

theorem filter_perm {α : Type} (p : α → Bool) : ∀ l : List α, (l.filter (fun x => !p x) ++ l.filter p).Perm l
  | [] => .nil
  | x :: l => by
    have ih := filter_perm p l
    cases h : p x with
    | true => simp only [List.filter_cons, h, Bool.not_true, Bool.false_eq_true, if_false, if_true]; exact (List.perm_middle).trans (ih.cons x)
    | false => simp only [List.filter_cons, h, Bool.not_false, Bool.false_eq_true, if_false, if_true, List.cons_append]; exact ih.cons x

/-- The pairs that are due, in their order. -/
def duep (c : CT) (now : Int) : CT := (srt c).filter fun p => decide (p.2 ≤ now)
theorem cdue_eq (c : CT) (now : Int) : cdue c now = (duep c now).map (·.1) := rfl
theorem due_perm (c : CT) (now : Int) : (crest c now ++ duep c now).Perm c := by
  have h1 : (duep c now).Perm (c.filter fun p => decide (p.2 ≤ now)) := (srt_perm c).filter _
  have h2 : crest c now = c.filter fun p => !decide (p.2 ≤ now) := by
    unfold crest
    congr 1; funext p
    by_cases h : p.2 ≤ now
    · have : ¬ now < p.2 := by omega
      simp [h, this]
    · have : now < p.2 := by omega
      simp [h, this]
  rw [h2]
  exact (h1.append_left _).trans (filter_perm _ c)

def DueI (w0 : World) (hb : Nat) (g : Cfg) (O : Nat → Prop) (r : Nat) (m : MP) (es : List Ent) (c : CT) (ra it : Nat) : KL := fun _ w1 => ∃ (done : List Int) (m2 : MP), ItAt w1 it r .u64 m done ∧ MapAt w1 ra .u64 m2 ∧ (∀ k ∈ done, ∀ a, cget c k = some a → mget m2 k = some (.int .u64 a)) ∧ BufI w1 hb g O r m es c ∧ Fr (fun _ => False) w0 w1

def Due2 (w0 : World) (hb : Nat) (g : Cfg) (r : Nat) (m : MP) (es : List Ent) (c : CT) (ra : Nat) (m2 : MP) (v : Value) (now : Int) (O0 : Nat → Prop) : KL := fun x w1 => ∃ (i : Nat) (O : Nat → Prop) (c1 : CT), gv x 1 = .int .i64 (i : Nat) ∧ i ≤ (duep c now).length ∧ c1.Perm (crest c now ++ (duep c now).take i) ∧ HpB g r w1 hb O c1 ∧ (∀ b, O b → O0 b ∨ w0.heap.size ≤ b) ∧ MapAt w1 ra .u64 m2 ∧ ¬ O ra ∧
  w1.ownsRow w0.heap.size T.uint64 1 v (cdue c now).length (u64s (cdue c now)) ∧ (∀ x, v.ownBlock = some x → ¬ O x) ∧ Fr O0 w0 w1

theorem due_ok {w : World} {hb : Nat} {g : Cfg} {B : Nat → Prop} {A : List AE} {c : CT} (I : Buf w hb g B A c) (hA : A.length ≤ 1000) (now : Int) {K : KV}
    (h : ∀ w' v B', Buf w' hb g B' A c → w'.ownsRow w.heap.size T.uint64 1 v (cdue c now).length (u64s (cdue c now)) → (∀ x, v.ownBlock = some x → ¬ B' x) → Fr B w w' → (∀ b, B' b → B b ∨ w.heap.size ≤ b) → K v w') : callT P F.pbuffer_Buffer_Due [.pointer (some ⟨hb, 0, none⟩), .int .u64 now] w K := by
  apply M.pbuffer_Buffer_Due.calls
  unfold M.pbuffer_Buffer_Due
  simp only [joinT_eq]
  simp
  unfold M.pbuffer_Buffer_Due.j0
  simp only [joinT_eq]
  rw [mkm_eq]
  obtain ⟨⟨O, r, m, es, hAe, J, hB⟩, hlt⟩ := I
  have hcl : c.length = m.length := by
    have := J.ck.length_eq
    simp [ckeys] at this
    rw [this, J.ml]
  have hAl : A.length = m.length := by rw [hAe, List.length_map, J.ml]
  generalize hwa : w.alloc (.map #[] 0) = wa
  have hma : MapAt wa w.heap.size .u64 [] := by rw [← hwa]; exact MapAt_new w .u64
  have hfa : Fr (fun _ => False) w wa := by rw [← hwa]; exact (Fr.refl _ w).alloc _
  have sza : wa.heap.size = w.heap.size + 1 := by rw [← hwa]; simp
  have Ja := J.keep hfa fun _ _ h => h
  obtain ⟨_, _, _, q5⟩ := Ja.cells
  simp [q5]
  refine rg_map mt.map_uint64_p_buffer_entry Ja.mp fun wi hit hfi => ?_
  have hraw : w.heap.size < wa.heap.size := by omega
  refine ⟨DueI w hb g O r m es c w.heap.size wa.heap.size, fun _ w1 => itLeft w1 wa.heap.size m.length, ⟨[], [], hit, hma.of_heap (hfi.keep _ hraw fun h => h), fun k hk => by (cases hk), Ja.keep hfi fun _ _ h => h, hfa.trans hfi⟩, ?_⟩
  rintro x w1 ⟨done, m2, hit1, hm1, hdone, J1, f1⟩
  have hlt1 := hit1.lt
  have hrlt := J.mp.lt
  refine nx_map hit1 J.mn _ (fun hall => ?_) fun k v w2 hkm hkd hcur hf2 hless => ?_
  · simp
    have hOlt : ∀ b, O b → b < w.heap.size := @Hp.lt (bufE g r) _ _ _ _ J.hp
    have hnd : (ckeys c).Nodup := @Hp.nd (bufE g r) _ _ _ _ J.hp
    have hat : ∀ p ∈ c, mget m2 p.1 = some (.int .u64 p.2) := fun p hp => by
      refine hdone p.1 ?_ p.2 (cget_of_mem hnd hp)
      obtain ⟨e, he, het⟩ := List.mem_map.1 (J.ck.mem_iff.1 (List.mem_map_of_mem hp : p.1 ∈ ckeys c))
      have hgm := J.mg e he
      have hk : e.t ∈ mkeys m := by
        by_cases hx : e.t ∈ mkeys m
        · exact hx
        · rw [(mget_none_iff _ _).2 hx] at hgm; cases hgm
      obtain ⟨q, hq, hqk⟩ := List.mem_map.1 hk
      have := hall q hq
      rw [hqk, het] at this; exact this
    unfold M.pbuffer_Buffer_Due.j1
    simp only [joinT_eq]
    simp
    rw [M.ptimers_Heap_Pop.fcall]
    have sz1 := f1.size
    refine @pop_ok (bufE g r) _ _ _ _ J1.hp (by omega) now _ fun w2 v H2 r2 f2 => ?_
    have r2' : w2.ownsRow w.heap.size T.uint64 1 v (cdue c now).length (u64s (cdue c now)) := by
      refine ⟨r2.1, ?_⟩
      rcases r2.2 with hn | ⟨gb, cap, cur, hv, hg, rest⟩
      · exact .inl hn
      · exact .inr ⟨gb, cap, cur, hv, by omega, rest⟩
    have hvO : ∀ x, v.ownBlock = some x → ¬ O x := fun x hx hO => by
      obtain ⟨_, _, _, hge, _⟩ := row_at r2 hx
      have := hOlt x hO; omega
    have hnra : ¬ O w.heap.size := fun h => by have := hOlt _ h; omega
    have hlenv : ∀ w K, biT P .len #[T.sl_uint64] T.int [false] [v] w K = K (.int .i64 (cdue c now).length) w := fun w K => by
      rcases r2.2 with ⟨hv, hn⟩ | ⟨gb, cap, cur, hv, _⟩
      · rw [hv, len_sl (by simp), hn]
      · rw [hv, len_sl (by simp)]
    rw [hlenv]
    have hDl : (cdue c now).length = (duep c now).length := by rw [cdue_eq, List.length_map]
    have hDc : (duep c now).length ≤ c.length := by
      unfold duep
      have := List.length_filter_le (fun p : Int × Int => decide (p.2 ≤ now)) (srt c)
      have := (srt_perm c).length_eq
      omega
    have hndD : (ckeys (crest c now ++ duep c now)).Nodup := by
      unfold ckeys at hnd ⊢
      exact ((due_perm c now).map _).nodup_iff.2 hnd
    refine ⟨Due2 w hb g r m es c w.heap.size m2 v now O, fun x _ => (duep c now).length - ms x 1, ⟨0, O, crest c now, rfl, Nat.zero_le _, by simp, H2, fun b hb => .inl hb, hm1.of_heap (f2.keep _ hm1.lt hnra), hnra, r2', hvO, (f1.mono fun _ _ h => h.elim).trans' f2 fun b _ h => h⟩, ?_⟩
    rintro x w3 ⟨i, O3, c3, hx1, hi, hp3, H3, hO3, hm3, hra3, r3, hv3, f3⟩
    simp only [hx1]
    by_cases hil : i < (duep c now).length
    · have hil' : (i : Int) < (cdue c now).length := by omega
      have hil2 : i < (cdue c now).length := by omega
      simp [hil2]
      unfold M.pbuffer_Buffer_Due.j6
      simp only [joinT_eq, hx1]
      obtain ⟨gb, cap, cur, hvf, hgb, hgc, _⟩ := row_form r3 (by omega)
      have hvg : v.ownBlock = some gb := by rw [hvf]; rfl
      have hk0 : (cdue c now)[i] = (duep c now)[i].1 := by simp [cdue_eq]
      have ci := row_cell r3 hvg (i := i) (x := .int .u64 (duep c now)[i].1) (by simp [u64s, hil2, hk0])
      have hw : IntKind.i64.wrap ((i : Int) + 1) = ((i + 1 : Nat) : Int) := by rw [wrap_id (by omega) (by omega)]; rfl
      have hDm : (duep c now)[i] ∈ c := (due_perm c now).mem_iff.1 (List.mem_append_right _ (List.getElem_mem hil))
      have hm3d : MapAt (dr w3 1) w.heap.size .u64 m2 := hm3.of_heap rfl
      rw [hvf]
      simp [hil2, ci]
      rw [lu_eq mt.map_uint64_uint64 hm3d, hat _ hDm]
      simp
      rw [M.ptimers_Heap_Set.fcall]
      have H3d : HpB g r (dr w3 1) hb O3 c3 := @Hp.keep (bufE g r) _ _ _ _ (fun _ => False) _ H3 ((Fr.refl _ w3).dr 1) fun _ _ h => h
      have hc3 : c3.length ≤ c.length := by
        rw [hp3.length_eq, ← (due_perm c now).length_eq]; simp; omega
      refine @set_ok (bufE g r) _ _ _ _ H3d (by omega) _ _ _ fun w4 O4 H4 f4 p4 => ?_
      have f4' : Fr O3 w3 w4 := ⟨f4.size, f4.keep, f4.tape, f4.os, f4.output⟩
      have p4' : ∀ b, O4 b → O3 b ∨ w3.heap.size ≤ b := p4
      have s3 := f3.size
      have hnk : (duep c now)[i].1 ∉ ckeys c3 := fun hk => by
        have hk2 : (duep c now)[i].1 ∈ ckeys (crest c now ++ (duep c now).take i) := by
          unfold ckeys at hk ⊢
          exact (hp3.map _).mem_iff.1 hk
        have hsp : crest c now ++ duep c now = (crest c now ++ (duep c now).take i) ++ (duep c now)[i] :: (duep c now).drop (i + 1) := by
          rw [List.append_assoc, ← List.drop_eq_getElem_cons hil, List.take_append_drop]
        rw [hsp] at hndD
        unfold ckeys at hndD hk2
        rw [List.map_append, List.nodup_append] at hndD
        exact hndD.2.2 _ hk2 _ (by rw [List.map_cons]; exact List.mem_cons_self ..) rfl
      refine ⟨⟨i + 1, O4, _, by rw [hw]; rfl, by omega, ?_, H4, fun b hb => ?_, hm3.of_heap (f4'.keep _ hm3.lt hra3), fun h => ?_, ?_, fun x hx h => ?_, ?_⟩, ?_⟩
      · unfold cset
        rw [cdel_none hnk, List.take_succ_eq_append_getElem hil, ← List.append_assoc]
        exact (hp3.cons _).trans (List.perm_append_comm (l₁ := [_]))
      · rcases p4' b hb with h | h
        · exact hO3 b h
        · exact .inr (by omega)
      · rcases p4' _ h with h | h
        · exact hra3 h
        · have := hm3.lt; omega
      · rw [← hvf]
        exact row_keep r3 fun x hx => f4'.keep x (by obtain ⟨_, _, _, _, hc, _⟩ := row_at r3 hx; exact heap_lt hc) (hv3 x hx)
      · rw [← hvf] at hx
        rcases p4' _ h with h | h
        · exact hv3 x hx h
        · obtain ⟨_, _, _, _, hc, _⟩ := row_at r3 hx; have := heap_lt hc; omega
      · exact f3.trans' f4' fun b hlt h => (hO3 b h).elim id fun h => by omega
      · have : ms x 1 = i := by unfold ms; rw [hx1]; rfl
        rw [this]; simp [ms, gv, hw]; omega
    · have hil2 : ¬ i < (cdue c now).length := by omega
      simp [hil2]
      have hie : i = (duep c now).length := by omega
      subst hie
      rw [List.take_length] at hp3
      have H : HpB g r w3 hb O3 c := @Hp.congr (bufE g r) _ _ _ _ _ H3 (hp3.trans (due_perm c now))
      have J3 := J.heap f3 H hO3 J.ck
      refine h w3 v (fun b => B b ∨ O3 b) ⟨⟨O3, r, m, es, hAe, J3, fun b hb => ?_⟩, fun b hb => ?_⟩ r3 (fun x hx hB' => ?_) (f3.mono fun b _ hO => hB b (.inl hO)) fun b hb => ?_
      · rcases hb with h | h
        · exact .inr h
        · exact .inl (hB b (.inr h))
      · rcases hb with h | h
        · have := hlt b h; have := f3.size; omega
        · exact @Hp.lt (bufE g r) _ _ _ _ H b h
      · obtain ⟨_, _, _, hge, _⟩ := row_at r3 hx
        rcases hB' with h | h
        · have := hlt x h; omega
        · exact hv3 x hx h
      · rcases hb with h | h
        · exact .inl h
        · exact (hO3 b h).imp (fun h => hB b (.inl h)) id
  · simp
    unfold M.pbuffer_Buffer_Due.j3
    rw [en_map hcur]
    simp
    rw [M.ptimers_Heap_At.fcall]
    have hOlt : ∀ b, O b → b < w.heap.size := @Hp.lt (bufE g r) _ _ _ _ J.hp
    have J2 := J1.keep hf2 fun b hb h => by
      have := J.lt hb; omega
    have hmk : k ∈ ckeys c := by
      have h1 : mget m k ≠ none := fun hn => (mget_none_iff _ _).1 hn (List.mem_map_of_mem hkm)
      by_cases hex : ∃ e ∈ es, e.t = k
      · obtain ⟨e, he, rfl⟩ := hex
        exact J.ck.mem_iff.2 (List.mem_map_of_mem he)
      · exact absurd (J.mz k fun e he hk => hex ⟨e, he, hk⟩) h1
    refine @at_ok (bufE g r) _ _ _ _ J2.hp k _ (fun hn => absurd hmk ((cget_none_iff _ _).1 hn)) fun a ha => ?_
    simp
    have hm2' : MapAt w2 w.heap.size .u64 m2 := hm1.of_heap (hf2.keep _ hm1.lt (by omega))
    refine mu_ok mt.map_uint64_uint64 hm2' _ _ _ fun o hm3 => ?_
    have f3 : Fr (fun b => b = w.heap.size) w2 (World.setObj w2 w.heap.size o) := (Fr.refl (fun b => b = w.heap.size) w2).setObj (.inl rfl) o
    generalize hw3 : World.setObj w2 w.heap.size o = w3 at *
    have hit2 := hcur.1
    have hl2 := hit2.lt
    refine ⟨⟨k :: done, _, hit2.keep (f3.keep _ hl2.1 (by omega)) (f3.keep _ hl2.2 (by omega)), hm3, fun y hy b hb => ?_, J2.keep f3 fun b hb h => by have := J.lt hb; omega, ?_⟩, ?_⟩
    · rw [mget_mset]
      by_cases hky : k = y
      · rw [if_pos hky]
        subst hky
        rw [ha] at hb; cases hb; rfl
      · rw [if_neg hky]
        rcases List.mem_cons.1 hy with h | h
        · exact absurd h.symm hky
        · exact hdone y h b hb
    · exact (f1.trans' hf2 fun b hlt h => by omega).trans' f3 fun b hlt h => by omega
    · have : itLeft w3 wa.heap.size m.length = itLeft w2 wa.heap.size m.length := by
        unfold itLeft
        rw [f3.keep _ hl2.1 (by omega)]
      omega
end Go.Proofs.Ytkjhekflgghbdaa
set_option maxRecDepth 100000
namespace Go.Proofs.Ytkjhekflgghbdaa
open Go.Eng

theorem clone_ok {w : World} {v : Value} {l : List Spn} (hs : SlS w v l) (hlen : l.length ≤ 1000000) {K : KV} (h : ∀ w' v', SlS w' v' l → (∀ x, v'.ownBlock = some x → w.heap.size ≤ x ∧ x < w'.heap.size) → Fr (fun _ => False) w w' → K v' w') : callT P F.slices_Clone_api_Span_api_Span [v] w K := by
  apply M.slices_Clone_api_Span_api_Span.calls
  unfold M.slices_Clone_api_Span_api_Span
  simp only [joinT_eq]
  have hs' := hs
  obtain ⟨a, cap, rfl, _⟩ := hs'
  cases a with
  | none =>
    simp
    have hz : l = [] := by
      obtain ⟨a', cap', hv, _, _, h3⟩ := hs
      cases l with
      | nil => rfl
      | cons x l =>
        obtain ⟨b, o, ha, _⟩ := h3 0 x rfl
        injection hv with h1 _ _
        rw [← h1] at ha; cases ha
    subst hz
    exact h w _ Sl.nil (fun x hx => by simp [Value.ownBlock] at hx) (Fr.refl _ _)
  | some a =>
    simp
    have f0 : Fr (fun _ => False) w (w.alloc (.cells #[] T.api_Span)) := (Fr.refl _ w).alloc _
    refine app_sl et.sl_api_Span encS_len encS_one (base := w.heap.size) (Ow.empty (by rw [alloc_heap, if_pos rfl]) (Nat.le_refl _)) (hs.fr f0 fun _ _ _ h => h) (by simp; omega) (by decide) (by simp) _ fun v3 w3 o3 f3 g3 => ?_
    rw [List.nil_append] at o3
    exact h w3 v3 (o3.sl encS_len) (fun x hx => o3.lt hx) (f0.trans' f3 fun b hb hv => by simp [Value.ownBlock] at hv; omega)

theorem get_ok {w : World} {hb : Nat} {g : Cfg} {B : Nat → Prop} {A : List AE} {c : CT} (I : Buf w hb g B A c) (hl : ∀ e ∈ A, e.l.length ≤ 1000) (k : Int) {K : KV}
    (h0 : (∀ e ∈ A, e.t ≠ k) → K (.tuple #[.slice none 0 0, .bool false, .bool false]) w)
    (h1 : ∀ e ∈ A, e.t = k → ∀ w' v', SlS w' v' e.l → (∀ x, v'.ownBlock = some x → w.heap.size ≤ x ∧ x < w'.heap.size) → Fr (fun _ => False) w w' → K (.tuple #[v', .bool e.over, .bool true]) w') : callT P F.pbuffer_Buffer_Get [.pointer (some ⟨hb, 0, none⟩), .int .u64 k] w K := by
  obtain ⟨⟨O, r, m, es, hAe, J, hB⟩, hlt⟩ := I
  apply M.pbuffer_Buffer_Get.calls
  unfold M.pbuffer_Buffer_Get
  simp only [joinT_eq]
  obtain ⟨_, _, _, q5⟩ := J.cells
  simp [q5]
  rw [lu_eq mt.map_uint64_p_buffer_entry J.mp]
  rcases J.find k with ⟨hmn, hne⟩ | ⟨e, he, het, hme⟩
  · rw [hmn]
    simp
    refine h0 fun e he => ?_
    rw [hAe] at he
    obtain ⟨x, hx, rfl⟩ := List.mem_map.1 he
    exact hne x hx
  · rw [hme]
    have e1 : e.ptr = .pointer (some ⟨e.p, 0, none⟩) := rfl
    simp [e1]
    unfold M.pbuffer_Buffer_Get.j0
    simp [q5]
    rw [lu_eq mt.map_uint64_p_buffer_entry J.mp, hme]
    obtain ⟨c0, c1⟩ := cells2 (J.blk e he)
    simp [e1, c0, c1]
    rw [M.slices_Clone_api_Span_api_Span.fcall]
    have eA : e.abs ∈ A := by rw [hAe]; exact List.mem_map_of_mem he
    have hll : e.l.length ≤ 1000 := hl _ eA
    have fd : Fr (fun _ => False) w (dr w 1) := (Fr.refl _ w).dr 1
    refine clone_ok (((J.row e he).sl encS_len).fr fd fun _ _ _ h => h) (by omega) fun w2 v2 s2 o2 f2 => ?_
    have f2' := fd.trans f2
    obtain ⟨d0, d1⟩ := cells2 (f2'.heap (J.blk e he) fun h => h)
    simp [d1]
    exact h1 e.abs eA het w2 v2 s2 o2 f2'
end Go.Proofs.Ytkjhekflgghbdaa
set_option maxRecDepth 100000
namespace Go.Proofs.Ytkjhekflgghbdaa
open Go.Eng

def encU (k : Int) : List Value := [.int .u64 k]
theorem encU_len (p : Int) : (encU p).length = 1 := rfl
theorem encU_one (p : Int) : ∀ u ∈ encU p, oneC u = true := fun u hu => by
  simp only [encU, List.mem_cons, List.not_mem_nil, or_false] at hu
  subst hu; rfl
abbrev SlU (w : World) (v : Value) (l : List Int) : Prop := Sl w 1 encU v l
abbrev OwU (w : World) (base : Nat) (v : Value) (l : List Int) : Prop := Ow w base T.uint64 1 encU v l
theorem flat_encU (l : List Int) : l.flatMap encU = u64s l := by
  unfold u64s
  induction l with
  | nil => rfl
  | cons x l ih => rw [List.flatMap_cons, List.map_cons, ih]; rfl
theorem owU_of_row {w : World} {base n : Nat} {v : Value} {l : List Int} (h : w.ownsRow base T.uint64 1 v n (u64s l)) : OwU w base v l := by
  have hn : l.length = n := by have := row_len h; simpa [u64s] using this
  unfold OwU Ow
  rw [flat_encU, hn]; exact h
theorem slU_at {w : World} {v : Value} {l : List Int} (h : SlU w v l) {i : Nat} (hi : i < l.length) : ∃ b o cap, v = .slice (some ⟨b, o, none⟩) l.length cap ∧ b < w.heap.size ∧ cellOf w b (o + i) = some (.int .u64 l[i]) := by
  obtain ⟨b, o, cap, hv, hb, _, hr⟩ := h.at hi
  have := hr 0 _ rfl
  simp only [Nat.mul_one, Nat.add_zero] at this
  exact ⟨b, o, cap, hv, hb, this⟩

def UintsI (w : World) (l1 l2 : List Int) : KL := fun x w1 => ∃ (a : Value) (i : Nat), x = [a, .int .i64 (i : Nat)] ∧ i ≤ l1.length ∧ l1.take i = l2.take i ∧ Fr (fun _ => False) w w1
theorem uints_ok {w : World} {v1 v2 : Value} {l1 l2 : List Int} (h1 : SlU w v1 l1) (h2 : SlU w v2 l2) (hn : l1.length < 1000000) {K : KV}
    (h : ∀ w', Fr (fun _ => False) w w' → K (.bool (decide (l1 = l2))) w') : callT P F.winnowlaw16_uints [v1, v2] w K := by
  apply M.winnowlaw16_uints.calls
  unfold M.winnowlaw16_uints
  simp only [joinT_eq]
  rw [h1.len_ok (by simp), h2.len_ok (by simp)]
  by_cases hne : l1.length = l2.length
  · have hne' : (l1.length : Int) = l2.length := by omega
    simp [hne]
    unfold M.winnowlaw16_uints.j0
    simp only [joinT_eq]
    refine ⟨UintsI w l1 l2, fun x _ => l1.length - ms x 1, ⟨_, 0, rfl, Nat.zero_le _, by simp, Fr.refl _ _⟩, ?_⟩
    rintro x w1 ⟨a, i, rfl, hin, htk, hf1⟩
    have g1 : gv [a, .int .i64 (i : Int)] 1 = .int .i64 (i : Int) := rfl
    simp only [g1]
    have hr1 : SlU w1 v1 l1 := h1.fr hf1 fun _ _ _ h => h
    have hr2 : SlU w1 v2 l2 := h2.fr hf1 fun _ _ _ h => h
    rw [hr1.len_ok (by simp)]
    by_cases hlt : i < l1.length
    · have hlt2 : i < l2.length := by omega
      obtain ⟨b1, o1, c1, rfl, _, k1⟩ := slU_at hr1 hlt
      obtain ⟨b2, o2, c2, rfl, _, k2⟩ := slU_at hr2 hlt2
      have hw : IntKind.i64.wrap ((i : Int) + 1) = ((i + 1 : Nat) : Int) := by rw [wrap_id (by omega) (by omega)]; rfl
      simp [hlt]
      unfold M.winnowlaw16_uints.j3
      simp only [joinT_eq, g1]
      by_cases heq : l1[i] = l2[i]
      · simp [hlt, hlt2, k1, k2, heq, hw]
        refine ⟨⟨_, i + 1, rfl, by omega, ?_, hf1.dr 1⟩, by simp [ms, gv]; omega⟩
        rw [List.take_succ_eq_append_getElem hlt, List.take_succ_eq_append_getElem hlt2, htk, heq]
      · have hne : ¬ l1 = l2 := fun h => heq (by subst h; rfl)
        simp [hlt, hlt2, k1, k2, heq]
        have := h _ (hf1.dr 1)
        simpa [hne] using this
    · have hin' : i = l1.length := by omega
      subst hin'
      rw [List.take_of_length_le (by omega), List.take_of_length_le (by omega)] at htk
      simp
      have := h _ hf1
      simpa [htk] using this
  · have hne' : ¬ ((l1.length : Int) = l2.length) := by omega
    have hl : ¬ l1 = l2 := fun h => hne (by rw [h])
    simp [hne, hne']
    have := h w (Fr.refl _ _)
    simpa [hl] using this

/-! ### The example -/
def spn (t i : Int) : Spn := ⟨t, i, 0, 0, 0, ⟨#[97]⟩, ⟨#[98]⟩, false⟩
theorem nameA : nameK ⟨#[97]⟩ = 0 := by decide +kernel
theorem nameB : nameK ⟨#[98]⟩ = 0 := by decide +kernel
theorem right_spn {t i : Int} (ht : t ≠ 0) (hi : i ≠ 0) : rightK (spn t i) = 0 := by
  unfold rightK spn
  simp only [ht, hi, false_or, nameA, nameB]
  decide

theorem boxS_trace {w : World} {b : Nat} {s : Spn} (h : boxS w b s) (t : Int) : boxS (w.setCell ⟨b, 0, none⟩ (.int .u64 t)) b { s with trace := t } := by
  unfold boxS; rw [setCell_at h]; rfl
theorem boxS_id {w : World} {b : Nat} {s : Spn} (h : boxS w b s) (t : Int) : boxS (w.setCell ⟨b, 1, none⟩ (.int .u64 t)) b { s with id := t } := by
  unfold boxS; rw [setCell_at h]; rfl
theorem ldBox {w : World} {b : Nat} {s : Spn} (h : boxS w b s) (K : KV) : ldN P 8 b 0 w K = K (aggS s) w := ldS (fun k v hk => by rw [Nat.zero_add]; exact boxS_at h k v hk) K
theorem st_box {w : World} {b i : Nat} {s : Spn} (h : boxS w b s) (hi : i < 8) (k : IntKind) (x : Int) (K : KV) : st1 P b i (.int k x) w K = K undef (w.setCell ⟨b, i, none⟩ (.int k x)) :=
  st1_int k x (by rw [cellOf_of h, Array.getElem?_eq_getElem (by simpa using hi)]; rfl) (frzOf_of h i) K

theorem alive_ok {w : World} {K : KV} (h : ∀ w', Fr (fun _ => False) w w' → K (.bool true) w') : callT P F.winnowlaw16_alive [] w K := by
  apply M.winnowlaw16_alive.calls
  unfold M.winnowlaw16_alive
  rw [M.buffer_New.fcall]
  refine new_ok 1 1 5 (fun hx => by omega) fun g w1 hg1 hg2 hg3 _ _ _ _ _ I1 f1 => ?_
  have t1 : g.traces = 1 := by omega
  have t2 : g.spans = 1 := by omega
  simp
  unfold M.winnowlaw16_alive.j0
  simp
  generalize hwa : w1.alloc (.cells #[.int .u64 0, .int .u64 0, .int .u64 0, .int .u64 0, .int .u64 0, .string ⟨#[]⟩, .string ⟨#[]⟩, .bool false] T.api_Span) = wa
  have hba : wa.heap[w1.heap.size]? = some (.cells #[.int .u64 0, .int .u64 0, .int .u64 0, .int .u64 0, .int .u64 0, .string ⟨#[]⟩, .string ⟨#[]⟩, .bool false] T.api_Span (0, 0)) := by rw [← hwa, alloc_heap, if_pos rfl]
  have hfa : Fr (fun _ => False) w1 wa := by rw [← hwa]; exact (Fr.refl _ w1).alloc _
  refine stN_all (vs := encS (spn 1 1)) hba rfl (encS_one _) fun w2 hb2 fb => ?_
  have f2 : Fr (fun _ => False) w1 w2 := hfa.trans' fb fun g hg h' => by omega
  have bx2 : boxS w2 w1.heap.size (spn 1 1) := hb2
  have I2 := I1.keep f2 fun _ _ h => h
  have sz2 : w1.heap.size < w2.heap.size := heap_lt bx2
  generalize hB1 : (fun b => b = w.heap.size ∨ b = w.heap.size + 1) = B1 at *
  have hB1w : ∀ b, B1 b → w.heap.size ≤ b ∧ b < w1.heap.size := fun b hb => ⟨by rw [← hB1] at hb; omega, I1.lt b hb⟩
  have r11 : rightK (spn 1 1) = 0 := right_spn (by decide) (by decide)
  have r21 : rightK (spn 2 1) = 0 := right_spn (by decide) (by decide)
  have r12 : rightK (spn 1 2) = 0 := right_spn (by decide) (by decide)
  rw [ldBox bx2, M.pbuffer_Buffer_Put.fcall]
  refine put_ok I2 (by simp) (by simp) (spn 1 1) (by omega) (by omega) (fun hx => absurd r11 hx) (fun _ _ hx => by simp at hx; omega) (fun _ _ _ w3 B3 I3 f3 p3 => ?_) (fun _ e he => by simp at he) (fun _ e he => by simp at he) (fun _ e he => by simp at he)
  have hw5 : g.wait = 5 := hg3.symm
  have hd5 : dueAt g 0 = 5 := by unfold dueAt; rw [hw5]; decide
  have hc5 : cset [] (spn 1 1).trace (dueAt g 0) = [(1, 5)] := by rw [hd5]; rfl
  rw [hc5] at I3
  have I3' : Buf w3 (w.heap.size + 1) g B3 [⟨1, [spn 1 1], false⟩] [(1, 5)] := I3
  have nB1 : ¬ B1 w1.heap.size := fun hb => by have := (hB1w _ hb).2; omega
  have nB3 : ¬ B3 w1.heap.size := fun hb => by
    rcases p3 _ hb with h' | h'
    · exact nB1 h'
    · omega
  have bx3 : boxS w3 w1.heap.size (spn 1 1) := f3.heap bx2 nB1
  have F3 : Fr (fun _ => False) w w3 := (f1.trans f2).trans' f3 fun b hlt hb => by have := (hB1w b hb).1; omega
  have ge1 := f1.size
  have B3w : ∀ b, B3 b → w.heap.size ≤ b := fun b hb => by
    rcases p3 _ hb with h' | h'
    · exact (hB1w b h').1
    · have := f2.size; omega
  rw [st_box bx3 (by decide)]
  have bx4 : boxS (w3.setCell ⟨w1.heap.size, 0, none⟩ (.int .u64 2)) w1.heap.size (spn 2 1) := boxS_trace bx3 2
  have f4 : Fr (fun b => b = w1.heap.size) w3 (w3.setCell ⟨w1.heap.size, 0, none⟩ (.int .u64 2)) := (Fr.refl (fun b => b = w1.heap.size) w3).setCell (.inl rfl) 0 _
  generalize w3.setCell ⟨w1.heap.size, 0, none⟩ (.int .u64 2) = w4 at *
  have I4 := I3'.keep f4 fun b hb h' => nB3 (h' ▸ hb)
  have F4 : Fr (fun _ => False) w w4 := F3.trans' f4 fun b hlt h' => by omega
  rw [ldBox bx4, M.pbuffer_Buffer_Put.fcall]
  refine put_ok I4 (by simp) (by simp) (spn 2 1) (by omega) (by omega) (fun hx => absurd r21 hx) (fun _ _ _ w5 I5 f5 => ?_) (fun _ _ hx => by simp [t1] at hx) (fun _ e he het => by simp at he; subst he; exact absurd het (by decide)) (fun _ e he het => by simp at he; subst he; exact absurd het (by decide)) (fun _ e he het => by simp at he; subst he; exact absurd het (by decide))
  have bx5 : boxS w5 w1.heap.size (spn 2 1) := f5.heap bx4 fun h => h
  have F5 := F4.trans f5
  simp
  rw [st_box bx5 (by decide)]
  have bx6 : boxS (w5.setCell ⟨w1.heap.size, 0, none⟩ (.int .u64 1)) w1.heap.size (spn 1 1) := boxS_trace bx5 1
  have f6 : Fr (fun b => b = w1.heap.size) w5 (w5.setCell ⟨w1.heap.size, 0, none⟩ (.int .u64 1)) := (Fr.refl (fun b => b = w1.heap.size) w5).setCell (.inl rfl) 0 _
  generalize w5.setCell ⟨w1.heap.size, 0, none⟩ (.int .u64 1) = w6 at *
  skip
  rw [st_box bx6 (by decide)]
  have bx7 : boxS (w6.setCell ⟨w1.heap.size, 1, none⟩ (.int .u64 2)) w1.heap.size (spn 1 2) := boxS_id bx6 2
  have f7 : Fr (fun b => b = w1.heap.size) w6 (w6.setCell ⟨w1.heap.size, 1, none⟩ (.int .u64 2)) := (Fr.refl (fun b => b = w1.heap.size) w6).setCell (.inl rfl) 1 _
  generalize w6.setCell ⟨w1.heap.size, 1, none⟩ (.int .u64 2) = w7 at *
  have I7 := (I5.keep f6 fun b hb h' => nB3 (h' ▸ hb)).keep f7 fun b hb h' => nB3 (h' ▸ hb)
  have F7 : Fr (fun _ => False) w w7 := (F5.trans' f6 fun b hlt h' => by omega).trans' f7 fun b hlt h' => by omega
  rw [ldBox bx7, M.pbuffer_Buffer_Put.fcall]
  refine put_ok I7 (by simp) (by simp) (spn 1 2) (by omega) (by omega) (fun hx => absurd r12 hx) (fun _ hx => absurd rfl (hx ⟨1, [spn 1 1], false⟩ (by simp))) (fun _ hx => absurd rfl (hx ⟨1, [spn 1 1], false⟩ (by simp))) (fun _ e he _ hx => by simp at he; subst he; exact absurd hx (by decide)) (fun _ e he het _ _ w8 I8 f8 => ?_) (fun _ e he _ _ hx => by simp at he; subst he; simp [t2] at hx)
  have I8' : Buf w8 (w.heap.size + 1) g B3 [⟨1, [spn 1 1], true⟩] [(1, 5)] := I8
  have F8 : Fr (fun _ => False) w w8 := F7.trans' f8 fun b hlt hb => by have := B3w b hb; omega
  simp
  rw [M.pbuffer_Buffer_Get.fcall]
  refine get_ok I8' (by simp) 1 (fun hx => absurd rfl (hx ⟨1, [spn 1 1], true⟩ (by simp))) fun e he _ w9 v9 s9 o9 f9 => ?_
  simp at he
  subst he
  have I9 := I8'.keep f9 fun _ _ h => h
  have F9 := F8.trans f9
  simp
  have hl9 : ∀ w K, biT P .len #[T.sl_api_Span] T.int [false] [v9] w K = K (.int .i64 1) w := fun w K => s9.len_ok (by simp) _
  rw [hl9]
  simp
  rw [M.pbuffer_Buffer_Due.fcall]
  refine due_ok I9 (by simp) 4 fun w10 v10 B10 I10 r10 _ f10 p10 => ?_
  have hc4 : cdue [(1, 5)] 4 = [] := by simp [cdue, srt]
  rw [hc4] at r10
  have hl10 : ∀ w K, biT P .len #[T.sl_uint64] T.int [false] [v10] w K = K (.int .i64 0) w := fun w K => ((owU_of_row r10).sl encU_len).len_ok (by simp) _
  have F10 : Fr (fun _ => False) w w10 := F9.trans' f10 fun b hlt hb => by have := B3w b hb; omega
  rw [hl10]
  simp
  rw [M.pbuffer_Buffer_Due.fcall]
  refine due_ok I10 (by simp) 5 fun w11 v11 B11 I11 r11' _ f11 p11 => ?_
  have hc5' : cdue [(1, 5)] 5 = [1] := by simp [cdue, srt]
  rw [hc5'] at r11'
  have hl11 : ∀ w K, biT P .len #[T.sl_uint64] T.int [false] [v11] w K = K (.int .i64 1) w := fun w K => ((owU_of_row r11').sl encU_len).len_ok (by simp) _
  have ge9 := F9.size
  have F11 : Fr (fun _ => False) w w11 := F10.trans' f11 fun b hlt hb => by
    rcases p10 b hb with h' | h'
    · have := B3w b h'; omega
    · omega
  rw [hl11]
  simp
  exact h w11 F11
end Go.Proofs.Ytkjhekflgghbdaa
set_option maxRecDepth 100000
namespace Go.Proofs.Ytkjhekflgghbdaa
open Go.Eng

def withoutE (es : List Ent) (k : Int) : List Ent := es.filter fun e => !decide (e.t = k)
def without (A : List AE) (k : Int) : List AE := A.filter fun e => !decide (e.t = k)
theorem without_abs (es : List Ent) (k : Int) : (withoutE es k).map Ent.abs = without (es.map Ent.abs) k := by
  unfold without withoutE
  rw [List.filter_map]; rfl
theorem mem_without {es : List Ent} {k : Int} {e : Ent} (h : e ∈ withoutE es k) : e ∈ es ∧ e.t ≠ k := by
  unfold withoutE at h
  rw [List.mem_filter] at h
  exact ⟨h.1, by simpa using h.2⟩
theorem without_keys (es : List Ent) (k : Int) : (withoutE es k).map Ent.t = (es.map Ent.t).filter fun x => !decide (x = k) := by
  unfold withoutE
  rw [List.filter_map]; rfl

/-- A trace is gone. -/
theorem BufI.del {w w' : World} {hb : Nat} {g : Cfg} {O : Nat → Prop} {r : Nat} {m : MP} {es : List Ent} {c : CT} (I : BufI w hb g O r m es c) {k : Int} (hk : k ∈ es.map Ent.t) (hH : HpB g r w' hb O (cdel c k)) (hm : MapAt w' r .u64 (mdel m k)) {S : Nat → Prop} (hf : Fr S w w') (hS : ∀ b, S b → O b ∨ b = r) : BufI w' hb g O r (mdel m k) (withoutE es k) (cdel c k) := by
  have hkm : k ∈ mkeys m := by
    obtain ⟨e, he, rfl⟩ := List.mem_map.1 hk
    by_cases hx : e.t ∈ mkeys m
    · exact hx
    · have := I.mg e he
      rw [(mget_none_iff _ _).2 hx] at this; cases this
  have nSp : ∀ e ∈ es, ¬ S e.p := fun e he h => by
    rcases hS _ h with h | h
    · exact I.np e he h
    · exact map_ne I.mp (I.blk e he) h.symm
  have nSv : ∀ e ∈ es, ∀ x, e.v.ownBlock = some x → ¬ S x := fun e he x hx h => by
    rcases hS _ h with h | h
    · exact I.nv e he x hx h
    · obtain ⟨cur, hc⟩ := row_elem (I.row e he) hx
      exact map_ne I.mp hc h.symm
  refine ⟨hH, hm, by rw [mkeys_mdel]; exact I.mn.erase _, ?_, fun e he => ?_, fun y hy => ?_, by rw [without_keys]; exact I.tn.filter _, (List.Sublist.map _ List.filter_sublist).nodup I.pn, fun e he => hf.heap (I.blk e (mem_without he).1) (nSp e (mem_without he).1), fun e he => (I.row e (mem_without he).1).fr hf (nSv e (mem_without he).1),
    fun e he e' he' => I.rn e (mem_without he).1 e' (mem_without he').1, I.nr, fun e he => I.np e (mem_without he).1, fun e he => I.nv e (mem_without he).1, ?_⟩
  · have h1 : (mkeys (mdel m k)).length = (mdel m k).length := by simp [mkeys]
    have h2 : (mkeys m).length = m.length := by simp [mkeys]
    have h3 : (withoutE es k).length = ((es.map Ent.t).filter fun x => !decide (x = k)).length := by rw [← without_keys, List.length_map]
    have h4 : ((es.map Ent.t).filter fun x => !decide (x = k)) = (es.map Ent.t).erase k := by
      rw [I.tn.erase_eq_filter]
      congr 1
    rw [← h1, mkeys_mdel, List.length_erase_of_mem hkm, h2, I.ml, h3, h4, List.length_erase_of_mem hk, List.length_map]
  · obtain ⟨h1, h2⟩ := mem_without he
    rw [mget_mdel_ne _ _ _ (fun h => h2 h.symm)]
    exact I.mg e h1
  · by_cases hyk : k = y
    · subst hyk; exact mget_mdel_same _ _ I.mn
    · rw [mget_mdel_ne _ _ _ hyk]
      refine I.mz y fun e he hey => ?_
      refine hy e ?_ hey
      unfold withoutE
      rw [List.mem_filter]
      exact ⟨he, by simp; rw [hey]; exact fun h => hyk h.symm⟩
  · rw [cdel_keys, without_keys]
    exact I.ck.filter _

theorem take_ok {w : World} {hb : Nat} {g : Cfg} {B : Nat → Prop} {A : List AE} {c : CT} (I : Buf w hb g B A c) (hA : A.length ≤ 1000) (k : Int) {K : KV}
    (h0 : (∀ e ∈ A, e.t ≠ k) → K (.slice none 0 0) w)
    (h1 : ∀ e ∈ A, e.t = k → ∀ w' v B', Buf w' hb g B' (without A k) (cdel c k) → SlS w' v e.l → (∀ x, v.ownBlock = some x → x < w'.heap.size ∧ ¬ B' x ∧ B x) → (∀ b, B' b → B b) → Fr B w w' → K v w') : callT P F.pbuffer_Buffer_Take [.pointer (some ⟨hb, 0, none⟩), .int .u64 k] w K := by
  obtain ⟨⟨O, r, m, es, hAe, J, hB⟩, hlt⟩ := I
  apply M.pbuffer_Buffer_Take.calls
  unfold M.pbuffer_Buffer_Take
  simp only [joinT_eq]
  obtain ⟨_, _, _, q5⟩ := J.cells
  simp [q5]
  rw [lu_eq mt.map_uint64_p_buffer_entry J.mp]
  rcases J.find k with ⟨hmn, hne⟩ | ⟨e, he, het, hme⟩
  · rw [hmn]
    simp
    refine h0 fun e he => ?_
    rw [hAe] at he
    obtain ⟨x, hx, rfl⟩ := List.mem_map.1 he
    exact hne x hx
  · rw [hme]
    have e1 : e.ptr = .pointer (some ⟨e.p, 0, none⟩) := rfl
    simp [e1]
    unfold M.pbuffer_Buffer_Take.j0
    simp [q5]
    rw [lu_eq mt.map_uint64_p_buffer_entry J.mp, hme]
    obtain ⟨c0, c1⟩ := cells2 (J.blk e he)
    simp [e1, c0, q5]
    refine del_ok mt.map_uint64_p_buffer_entry J.mp _ _ _ _ fun o hm2 => ?_
    have f2 : Fr (fun b => b = r) w (World.setObj w r o) := (Fr.refl (fun b => b = r) w).setObj (.inl rfl) o
    generalize World.setObj w r o = w2 at *
    have H2 : HpB g r w2 hb O c := @Hp.keep (bufE g r) _ _ _ _ _ _ J.hp f2 fun b hb h => J.nr (h ▸ hb)
    have hnd : (ckeys c).Nodup := @Hp.nd (bufE g r) _ _ _ _ J.hp
    have hkt : k ∈ es.map Ent.t := by rw [← het]; exact List.mem_map_of_mem he
    obtain ⟨a, ha⟩ : ∃ a, cget c k = some a := by
      cases hg : cget c k with
      | none => exact absurd (J.ck.mem_iff.2 hkt) ((cget_none_iff _ _).1 hg)
      | some a => exact ⟨a, rfl⟩
    have hcl : c.length = es.length := by
      have := J.ck.length_eq
      simpa [ckeys] using this
    have hAl : A.length = es.length := by rw [hAe, List.length_map]
    rw [M.ptimers_Heap_Del.fcall]
    refine @del_some (bufE g r) _ _ _ _ H2 (by omega) k a ha _ fun w3 H3 f3 => ?_
    have f23 : Fr (fun b => O b ∨ b = r) w w3 := (f2.mono fun _ _ h => .inr h).trans' f3 fun b _ h => .inl h
    have J3 := J.del hkt H3 (hm2.of_heap (f3.keep r hm2.lt J.nr)) f23 fun b h => h
    have hrow3 : OwS w3 0 e.v e.l := (J.row e he).fr f23 fun x hx h => by
      rcases h with h | h
      · exact J.nv e he x hx h
      · obtain ⟨cur, hc⟩ := row_elem (J.row e he) hx
        exact map_ne J.mp hc h.symm
    have eA : e.abs ∈ A := by rw [hAe]; exact List.mem_map_of_mem he
    have hfB : Fr B w w3 := f23.mono fun b _ h => h.elim (fun h => hB b (.inl h)) fun h => hB b (.inr (.inl h))
    refine h1 e.abs eA het w3 e.v (fun b => B b ∧ e.v.ownBlock ≠ some b) ⟨⟨O, r, _, _, by rw [without_abs, hAe], J3, fun b hfp => ?_⟩, fun b hb => Nat.lt_of_lt_of_le (hlt b hb.1) hfB.size⟩ (hrow3.sl encS_len) (fun x hx => ⟨(hrow3.lt hx).2, fun h => h.2 hx, hB x (.inr (.inr ⟨e, he, .inr hx⟩))⟩) (fun b h => h.1) hfB
    rcases hfp with h | rfl | ⟨x, hx, hxb⟩
    · exact ⟨hB b (.inl h), fun hx => J.nv e he b hx h⟩
    · refine ⟨hB _ (.inr (.inl rfl)), fun hx => ?_⟩
      obtain ⟨cur, hc⟩ := row_elem (J.row e he) hx
      exact map_ne J.mp hc rfl
    · obtain ⟨hx1, hx2⟩ := mem_without hx
      refine ⟨hB b (.inr (.inr ⟨x, hx1, hxb⟩)), fun hv => ?_⟩
      rcases hxb with h | h
      · obtain ⟨cur, hc⟩ := row_elem (J.row e he) hv
        rw [← h] at hc
        exact ne_of_elem hc (J.blk x hx1) (by decide) rfl
      · exact hx2 (by rw [J.rn x hx1 e he b h hv, het])

theorem delay_no {w : World} {hb : Nat} {g : Cfg} {B : Nat → Prop} {A : List AE} {c : CT} (I : Buf w hb g B A c) (k t : Int) (hk : ∀ e ∈ A, e.t ≠ k) {K : KV} (h : K (.bool false) w) : callT P F.pbuffer_Buffer_Delay [.pointer (some ⟨hb, 0, none⟩), .int .u64 k, .int .u64 t] w K := by
  obtain ⟨⟨O, r, m, es, hAe, J, hB⟩, hlt⟩ := I
  apply M.pbuffer_Buffer_Delay.calls
  unfold M.pbuffer_Buffer_Delay
  simp only [joinT_eq]
  obtain ⟨_, _, _, q5⟩ := J.cells
  simp [q5]
  rw [lu_eq mt.map_uint64_p_buffer_entry J.mp, J.mz k fun e he => hk e.abs (by rw [hAe]; exact List.mem_map_of_mem he)]
  simp
  exact h
end Go.Proofs.Ytkjhekflgghbdaa
set_option maxRecDepth 100000
namespace Go.Proofs.Ytkjhekflgghbdaa
open Go.Eng

def bufA (hb : Nat) (g : Cfg) (A : List AE) (c : CT) : Asn where
  ok w B := Buf w hb g B A c
  keep h hf hn := Buf.keep h hf hn
/-- What Put does. -/
def putA (g : Cfg) (A : List AE) (s : Spn) : List AE :=
  if rightK s ≠ 0 then A else match A.find? fun e => decide (e.t = s.trace) with
    | none => if g.traces ≤ A.length then A else A ++ [⟨s.trace, [s], false⟩]
    | some e => if (e.l.any fun x => decide (x.id = s.id)) = true then A else if g.spans ≤ e.l.length then fullS A s.trace else addS A s.trace s
def putC (g : Cfg) (A : List AE) (c : CT) (s : Spn) (now : Int) : CT :=
  if rightK s ≠ 0 then c else match A.find? fun e => decide (e.t = s.trace) with
    | none => if g.traces ≤ A.length then c else cset c s.trace (dueAt g now)
    | some _ => c
def putK (g : Cfg) (A : List AE) (s : Spn) : Int :=
  if rightK s ≠ 0 then rightK s else match A.find? fun e => decide (e.t = s.trace) with
    | none => if g.traces ≤ A.length then 8 else 0
    | some e => if (e.l.any fun x => decide (x.id = s.id)) = true then 0 else if g.spans ≤ e.l.length then 9 else 0
section
variable {w0 w : World} {hb : Nat} {g : Cfg} {A : List AE} {c : CT} {R : List Asn}
theorem find_ae (A : List AE) (k : Int) : (∃ e, A.find? (fun e => decide (e.t = k)) = some e ∧ e ∈ A ∧ e.t = k) ∨ (A.find? (fun e => decide (e.t = k)) = none ∧ ∀ e ∈ A, e.t ≠ k) := by
  cases h : A.find? (fun e => decide (e.t = k)) with
  | none => exact .inr ⟨rfl, fun e he => by have := List.find?_eq_none.1 h e he; simpa using this⟩
  | some e => exact .inl ⟨e, rfl, List.mem_of_find?_eq_some h, by have := List.find?_some h; simpa using this⟩
theorem Buf.keys {B : Nat → Prop} (I : Buf w hb g B A c) : (A.map AE.t).Nodup := by
  obtain ⟨⟨O, r, m, es, hAe, J, _⟩, _⟩ := I
  rw [hAe, List.map_map]
  exact J.tn
theorem ae_inj {A : List AE} (h : (A.map AE.t).Nodup) {e e' : AE} (he : e ∈ A) (he' : e' ∈ A) (ht : e.t = e'.t) : e = e' := nodup_map_inj h he he' ht
theorem put_st (S : St w0 w (bufA hb g A c :: R)) (hA : A.length ≤ 1000) (hl : ∀ e ∈ A, e.l.length ≤ 1000) (s : Spn) {now : Int} (hnow : 0 ≤ now ∧ now ≤ 18446744073709551615) (hwt : 0 ≤ g.wait) {K : KV}
    (h : ∀ w', St w0 w' (bufA hb g (putA g A s) (putC g A c s now) :: R) → K (.int .i64 (putK g A s)) w') : fcallT P F.pbuffer_Buffer_Put [.pointer (some ⟨hb, 0, none⟩), aggS s, .int .u64 now] w K := by
  obtain ⟨B, I, hB, cl⟩ := S.open
  have I' : Buf w hb g B A c := I
  have done : ∀ w' B' A' c', Buf w' hb g B' A' c' → Fr B w w' → (∀ b, B' b → B b ∨ w.heap.size ≤ b) → St w0 w' (bufA hb g A' c' :: R) := fun w' B' A' c' hI hf hB' =>
    cl w' [bufA hb g A' c'] hf (Rs.one (B := B') hI fun b hb => (hB' b hb).imp id fun h => ⟨h, hI.lt b hb⟩)
  rw [M.pbuffer_Buffer_Put.fcall]
  unfold putA putC putK at h
  rcases find_ae A s.trace with ⟨e, hfd, he, het⟩ | ⟨hfd, hno⟩
  · rw [hfd] at h
    have heq : ∀ e' ∈ A, e'.t = s.trace → e' = e := fun e' he' h' => ae_inj I'.keys he' he (h'.trans het.symm)
    refine put_ok I' hA hl s hnow hwt (fun hr w' hI hf => ?_) (fun hr hn => absurd het (hn e he)) (fun hr hn => absurd het (hn e he)) (fun hr e' he' ht ha w' hI hf => ?_) (fun hr e' he' ht ha hg w' hI hf => ?_) (fun hr e' he' ht ha hg w' B' hI hf hB' => ?_)
    · simp only [hr, ne_eq, not_false_eq_true, if_true] at h
      exact h w' (done w' B A c hI (hf.mono fun _ _ h => h.elim) fun b hb => .inl hb)
    · obtain rfl := heq e' he' ht
      simp only [hr, ne_eq, not_true_eq_false, if_false, ha, if_true] at h
      exact h w' (done w' B A c hI (hf.mono fun _ _ h => h.elim) fun b hb => .inl hb)
    · obtain rfl := heq e' he' ht
      simp only [hr, ne_eq, not_true_eq_false, if_false, ha, Bool.false_eq_true, hg, if_true] at h
      exact h w' (done w' B _ c hI hf fun b hb => .inl hb)
    · obtain rfl := heq e' he' ht
      have hg' : ¬ g.spans ≤ e'.l.length := by omega
      simp only [hr, ne_eq, not_true_eq_false, if_false, ha, Bool.false_eq_true, hg'] at h
      exact h w' (done w' B' _ c hI hf hB')
  · rw [hfd] at h
    refine put_ok I' hA hl s hnow hwt (fun hr w' hI hf => ?_) (fun hr hn hg w' hI hf => ?_) (fun hr hn hg w' B' hI hf hB' => ?_) (fun hr e' he' ht => absurd ht (hno e' he')) (fun hr e' he' ht => absurd ht (hno e' he')) (fun hr e' he' ht => absurd ht (hno e' he'))
    · simp only [hr, ne_eq, not_false_eq_true, if_true] at h
      exact h w' (done w' B A c hI (hf.mono fun _ _ h => h.elim) fun b hb => .inl hb)
    · simp only [hr, ne_eq, not_true_eq_false, if_false, hg, if_true] at h
      exact h w' (done w' B A c hI (hf.mono fun _ _ h => h.elim) fun b hb => .inl hb)
    · have hg' : ¬ g.traces ≤ A.length := by omega
      simp only [hr, ne_eq, not_true_eq_false, if_false, hg'] at h
      exact h w' (done w' B' _ _ hI hf hB')
theorem new_st (S : St w0 w R) (traces spans wait : Int) {K : KV} (h0 : (traces < 1 ∨ 64 < traces ∨ spans < 1 ∨ 16 < spans ∨ 1099511627776 < wait) → K (.tuple #[.pointer none, .int .i64 1]) w)
    (h1 : ∀ (g : Cfg) w' hb, traces = g.traces → spans = g.spans → wait = g.wait → 1 ≤ g.traces → g.traces ≤ 64 → 1 ≤ g.spans → g.spans ≤ 16 → g.wait ≤ 1099511627776 → St w0 w' (bufA hb g [] [] :: R) → K (.tuple #[.pointer (some ⟨hb, 0, none⟩), .int .i64 0]) w') :
    fcallT P F.buffer_New [.int .i64 traces, .int .i64 spans, .int .u64 wait] w K := by
  rw [M.buffer_New.fcall]
  refine new_ok traces spans wait h0 fun g w' e1 e2 e3 e4 e5 e6 e7 e8 I f => ?_
  have hlt := I.lt _ (.inr rfl)
  exact h1 g w' _ e1 e2 e3 e4 e5 e6 e7 e8 (S.add (a := bufA _ g [] []) f I fun b hb => by rcases hb with rfl | rfl <;> omega)
/-- A row of spans that is the call's own. -/
abbrev rowSA (v : Value) (l : List Spn) : Asn := rowA T.api_Span 8 encS v l
theorem get_st (S : St w0 w (bufA hb g A c :: R)) (hl : ∀ e ∈ A, e.l.length ≤ 1000) (k : Int) {K : KV}
    (h0 : A.find? (fun e => decide (e.t = k)) = none → K (.tuple #[.slice none 0 0, .bool false, .bool false]) w)
    (h1 : ∀ e, A.find? (fun e => decide (e.t = k)) = some e → ∀ w' v', St w0 w' (rdA 8 encS v' e.l :: bufA hb g A c :: R) → K (.tuple #[v', .bool e.over, .bool true]) w') : fcallT P F.pbuffer_Buffer_Get [.pointer (some ⟨hb, 0, none⟩), .int .u64 k] w K := by
  obtain ⟨B, I, hB, cl⟩ := S.open
  have I' : Buf w hb g B A c := I
  rw [M.pbuffer_Buffer_Get.fcall]
  refine get_ok I' hl k (fun hn => h0 ?_) fun e he het w' v' hs hn hf => h1 e ?_ w' v' (S.add (a := rdA 8 encS v' e.l) hf (B := fun x => v'.ownBlock = some x) ⟨hs, fun b hb => hb⟩ hn)
  · rw [List.find?_eq_none]; intro e he; simpa using hn e he
  · rcases find_ae A k with ⟨e', hf', he', het'⟩ | ⟨_, hno⟩
    · rw [hf', ae_inj I'.keys he he' (het.trans het'.symm)]
    · exact absurd het (hno e he)
theorem take_st (S : St w0 w (bufA hb g A c :: R)) (hA : A.length ≤ 1000) (k : Int) {K : KV}
    (h0 : A.find? (fun e => decide (e.t = k)) = none → K (.slice none 0 0) w)
    (h1 : ∀ e, A.find? (fun e => decide (e.t = k)) = some e → ∀ w' v, SlS w' v e.l → St w0 w' (bufA hb g (without A k) (cdel c k) :: R) → K v w') : fcallT P F.pbuffer_Buffer_Take [.pointer (some ⟨hb, 0, none⟩), .int .u64 k] w K := by
  obtain ⟨B, I, hB, cl⟩ := S.open
  have I' : Buf w hb g B A c := I
  rw [M.pbuffer_Buffer_Take.fcall]
  refine take_ok I' hA k (fun hn => h0 ?_) fun e he het w' v B' hI hs hn hsub hf => h1 e ?_ w' v hs (cl w' [bufA hb g _ _] hf (Rs.one (B := B') hI fun b hb => .inl (hsub b hb)))
  · rw [List.find?_eq_none]; intro e he; simpa using hn e he
  · rcases find_ae A k with ⟨e', hf', he', het'⟩ | ⟨_, hno⟩
    · rw [hf', ae_inj I'.keys he he' (het.trans het'.symm)]
    · exact absurd het (hno e he)
theorem delay_no_st (S : St w0 w (bufA hb g A c :: R)) (k t : Int) (hk : ∀ e ∈ A, e.t ≠ k) {K : KV} (h : K (.bool false) w) : fcallT P F.pbuffer_Buffer_Delay [.pointer (some ⟨hb, 0, none⟩), .int .u64 k, .int .u64 t] w K := by
  obtain ⟨B, I, hB, cl⟩ := S.open
  have I' : Buf w hb g B A c := I
  rw [M.pbuffer_Buffer_Delay.fcall]
  exact delay_no I' k t hk h
end
end Go.Proofs.Ytkjhekflgghbdaa
set_option maxRecDepth 100000
namespace Go.Proofs.Ytkjhekflgghbdaa
open Go.Eng
/-- A trace that waits. -/
structure RT where
  id : Int
  due : Int
  l : List Spn
  over : Bool
/-- .. and where its spans lie. -/
structure RS where
  a : Option Addr
  n : Nat
  c : Nat
def RS.v (s : RS) : Value := .slice s.a s.n s.c
abbrev RC := RT × RS
def encRC (t : RC) : List Value := [.int .u64 t.1.id, .int .u64 t.1.due, t.2.v, .bool t.1.over]
theorem encRC_len (t : RC) : (encRC t).length = 4 := rfl
theorem encRC_one (t : RC) : ∀ u ∈ encRC t, oneC u = true := fun u hu => by
  simp only [encRC, List.mem_cons, List.not_mem_nil, or_false] at hu
  rcases hu with rfl | rfl | rfl | rfl <;> rfl
def headR16 (g : Cfg) (v : Value) : Array Value := #[.int .i64 g.traces, .int .i64 g.spans, .int .u64 g.wait, v]
def spansR (cs : List RC) : List Asn := cs.map fun t => rowA T.api_Span 8 encS t.2.v t.1.l
def rbL (p : Nat) (g : Cfg) (v : Value) (cs : List RC) : List Asn := [blkA p (headR16 g v) T.winnowref16_Buffer, rowA T.winnowref16_Trace 4 encRC v cs, allA (spansR cs)]
def rbA (p : Nat) (g : Cfg) (ts : List RT) : Asn where
  ok w B := ∃ v cs, cs.map Prod.fst = ts ∧ Rs (rbL p g v cs) w B
  keep := by
    rintro w w' B S ⟨v, cs, h1, h2⟩ hf hn
    exact ⟨v, cs, h1, h2.keep hf hn⟩
section
variable {w0 w : World} {R : List Asn} {p : Nat} {g : Cfg} {v : Value} {cs : List RC} {ts : List RT}
theorem unRb (S : St w0 w (rbA p g ts :: R)) : ∃ v cs, cs.map Prod.fst = ts ∧ St w0 w (blkA p (headR16 g v) T.winnowref16_Buffer :: rowA T.winnowref16_Trace 4 encRC v cs :: allA (spansR cs) :: R) := by
  obtain ⟨B, ⟨v, cs, h1, h2⟩, _, cl⟩ := S.open
  exact ⟨v, cs, h1, cl w (rbL p g v cs) (Fr.refl _ _) (h2.mono fun b hb => .inl hb)⟩
theorem mkRb (h : cs.map Prod.fst = ts) (S : St w0 w (blkA p (headR16 g v) T.winnowref16_Buffer :: rowA T.winnowref16_Trace 4 encRC v cs :: allA (spansR cs) :: R)) : St w0 w (rbA p g ts :: R) := by
  obtain ⟨U, h1, _, k⟩ := St.openL (L := rbL p g v cs) (R := R) S
  exact k w [rbA p g ts] (Fr.refl _ _) ⟨U, ⟨v, cs, h, h1⟩, fun b hb => .inl hb, trivial⟩
theorem rb_cells (h : w.heap[p]? = some (.cells (headR16 g v) T.winnowref16_Buffer (0, 0))) : cellOf w p 0 = some (.int .i64 g.traces) ∧ cellOf w p 1 = some (.int .i64 g.spans) ∧ cellOf w p 2 = some (.int .u64 g.wait) ∧ cellOf w p 3 = some v ∧ ∀ i, frzOf w p i = false :=
  ⟨by rw [cellOf_of h]; rfl, by rw [cellOf_of h]; rfl, by rw [cellOf_of h]; rfl, by rw [cellOf_of h]; rfl, frzOf_of h⟩
theorem rb_len (S : St w0 w (rowA T.winnowref16_Trace 4 encRC v cs :: R)) (w' : World) (K : KV) : biT P .len #[T.sl_winnowref16_Trace] T.int [false] [v] w' K = K (.int .i64 cs.length) w' := (S.row encRC_len).len_ok (by kernel_rfl) [false]
/-- A trace's cells. -/
theorem rb_at (S : St w0 w (rowA T.winnowref16_Trace 4 encRC v cs :: R)) {i : Nat} (hi : i < cs.length) : ∃ b o, (∀ w' K, iaT P T.sl_winnowref16_Trace v (.int .i64 (i : Nat)) w' K = K (.pointer (some ⟨b, o, none⟩)) w') ∧ cellOf w b o = some (.int .u64 cs[i].1.id) ∧ cellOf w b (o + 1) = some (.int .u64 cs[i].1.due) ∧ cellOf w b (o + 2) = some (.slice cs[i].2.a cs[i].2.n cs[i].2.c) ∧ cellOf w b (o + 3) = some (.bool cs[i].1.over) := by
  have hs : Sl w 4 encRC v cs := S.row encRC_len
  obtain ⟨b, o, cap, hv, _, _, hc⟩ := hs.at hi
  exact ⟨b, o + i * 4, fun w' K => by rw [hv]; simp [hi], hc 0 _ rfl, hc 1 _ rfl, hc 2 _ rfl, hc 3 _ rfl⟩
theorem rb_spans (S : St w0 w (allA (spansR cs) :: R)) {i : Nat} (hi : i < cs.length) : SlS w cs[i].2.v cs[i].1.l := by
  have S2 := St.listAt (j := i) (L := spansR cs) (by simpa [spansR] using hi) S
  have e : (spansR cs)[i]'(by simpa [spansR] using hi) = rowA T.api_Span 8 encS cs[i].2.v cs[i].1.l := by simp [spansR]
  rw [e] at S2
  exact S2.row encS_len
/-! ### New, Find -/
theorem rnew_st (S : St w0 w R) (traces spans wait : Int) {K : KV} (h0 : (traces < 1 ∨ 64 < traces ∨ spans < 1 ∨ 16 < spans ∨ 1099511627776 < wait) → K (.pointer none) w)
    (h1 : ¬ (traces < 1 ∨ 64 < traces ∨ spans < 1 ∨ 16 < spans ∨ 1099511627776 < wait) → ∀ w' p, St w0 w' (rbA p ⟨traces.toNat, spans.toNat, wait⟩ [] :: R) → K (.pointer (some ⟨p, 0, none⟩)) w') : fcallT P F.winnowref16_New [.int .i64 traces, .int .i64 spans, .int .u64 wait] w K := by
  rw [M.winnowref16_New.fcall]
  apply M.winnowref16_New.calls
  unfold M.winnowref16_New
  by_cases c1 : traces < 1
  · simp [c1]; exact h0 (by omega)
  by_cases c2 : 64 < traces
  · simp [c1, c2]; exact h0 (by omega)
  by_cases c3 : spans < 1
  · simp [c1, c2, c3]; exact h0 (by omega)
  by_cases c4 : 16 < spans
  · simp [c1, c2, c3, c4]; exact h0 (by omega)
  by_cases c5 : 1099511627776 < wait
  · simp [c1, c2, c3, c4, c5]; exact h0 (by omega)
  simp [c1, c2, c3, c4, c5]
  have e1 : ((traces.toNat : Nat) : Int) = traces := by omega
  have e2 : ((spans.toNat : Nat) : Int) = spans := by omega
  have T1 : St w0 w (rowA T.winnowref16_Trace 4 encRC (.slice none 0 0) ([] : List RC) :: allA (spansR []) :: R) := Eng.nilRow (St.all.2 S)
  have S3 : St w0 (w.alloc (.cells (headR16 ⟨traces.toNat, spans.toNat, wait⟩ (.slice none 0 0)) T.winnowref16_Buffer)) (blkA w.heap.size (headR16 ⟨traces.toNat, spans.toNat, wait⟩ (.slice none 0 0)) T.winnowref16_Buffer :: _) := T1.add ((Fr.refl _ w).alloc _) (B := fun x => x = w.heap.size) ⟨by rw [alloc_heap, if_pos rfl], rfl⟩ fun x hx => by subst hx; rw [alloc_size]; omega
  have S4 := mkRb (ts := []) rfl S3
  simp only [headR16, e1, e2] at S4
  exact h1 (by omega) _ _ S4
def ridx (ts : List RT) (k : Int) : Option Nat := ts.findIdx? fun t => decide (t.id = k)
theorem ridx_some {ts : List RT} {k : Int} {i : Nat} (h : ridx ts k = some i) : ∃ hi : i < ts.length, ts[i].id = k := by
  unfold ridx at h
  rw [List.findIdx?_eq_some_iff_getElem] at h
  obtain ⟨hi, h1, _⟩ := h
  exact ⟨hi, by simpa using h1⟩
theorem ridx_none {ts : List RT} {k : Int} (h : ridx ts k = none) : ∀ t ∈ ts, t.id ≠ k := fun t ht => by
  unfold ridx at h
  rw [List.findIdx?_eq_none_iff] at h
  simpa using h t ht
def FdI (w0 : World) (ts : List RT) (k : Int) : KL := fun x w1 => ∃ (u : Value) (i : Nat), x = [u, .int .i64 (i : Nat)] ∧ w1 = w0 ∧ i ≤ ts.length ∧ ∀ j (h : j < ts.length), j < i → ts[j].id ≠ k
theorem rfind_ok (S : St w0 w (rbA p g ts :: R)) (hl : ts.length ≤ 1000) (k : Int) {K : KV} (hn : (∀ t ∈ ts, t.id ≠ k) → K (.int .i64 (-1)) w) (hs : ∀ (i : Nat) (hi : i < ts.length), ts[i].id = k → (∀ j (h : j < ts.length), j < i → ts[j].id ≠ k) → K (.int .i64 (i : Nat)) w) : fcallT P F.pwinnowref16_Buffer_Find [.pointer (some ⟨p, 0, none⟩), .int .u64 k] w K := by
  obtain ⟨v, cs, he, S1⟩ := unRb S
  subst he
  rw [M.pwinnowref16_Buffer_Find.fcall]
  apply M.pwinnowref16_Buffer_Find.calls
  unfold M.pwinnowref16_Buffer_Find
  obtain ⟨_, _, _, c3, _⟩ := rb_cells S1.blk
  have hlen := fun w' K => rb_len S1.swap w' K
  simp only [List.length_map] at hl hs
  simp
  refine ⟨FdI w (cs.map Prod.fst) k, fun x _ => cs.length - ms x 1, ⟨_, 0, rfl, rfl, Nat.zero_le _, fun j _ h => by omega⟩, ?_⟩
  rintro x w1 ⟨u, i, rfl, rfl, hi, hz⟩
  simp only [List.length_map] at hi
  unfold M.pwinnowref16_Buffer_Find.j1
  by_cases hil : i < cs.length
  · have hili : (i : Int) < (cs.length : Int) := by omega
    obtain ⟨b, o, hia, d0, _⟩ := rb_at S1.swap hil
    simp [c3, hlen, hil]
    unfold M.pwinnowref16_Buffer_Find.j2
    simp [c3, hia, d0]
    by_cases hk : cs[i].1.id = k
    · simp [hk]
      refine hs i hil (by simpa using hk) fun j hj hlt => hz j (by simpa using hj) hlt
    · simp [hk]
      have hw : IntKind.i64.wrap ((i : Int) + 1) = ((i + 1 : Nat) : Int) := by rw [wrap_id (by omega) (by omega)]; omega
      rw [hw]
      refine ⟨⟨_, i + 1, rfl, rfl, by simp; omega, fun j hj hlt => ?_⟩, by simp [ms, gv]; omega⟩
      by_cases hji : j = i
      · subst hji; simpa using hk
      · exact hz j hj (by omega)
  · have hili : ¬ (i : Int) < (cs.length : Int) := by omega
    simp [c3, hlen, hil]
    refine hn fun t ht => ?_
    obtain ⟨j, hj, rfl⟩ := List.getElem_of_mem ht
    exact hz j hj (by simp at hj; omega)
end
end Go.Proofs.Ytkjhekflgghbdaa
set_option maxRecDepth 100000
namespace Go.Proofs.Ytkjhekflgghbdaa
open Go.Eng
section
variable {w0 w : World} {R : List Asn} {p : Nat} {g : Cfg} {v : Value} {cs : List RC} {ts : List RT}
theorem slT_same {t : TypeId} {v v1 v2 : Value} {lo hi mx : Option Value} (h1 : ∀ w1 K, slT P t v lo hi mx w1 K = K v1 w1) (h2 : ∀ w1 K, slT P t v lo hi mx w1 K = K v2 w1) (w : World) : v1 = v2 := by
  have h := (h1 w fun v' _ => v' = v1).symm.trans (h2 w fun v' _ => v' = v1)
  exact (cast h rfl : v2 = v1).symm
theorem sub_any {α : Type} {enc : α → List Value} {sz : Nat} {l : List α} {v : Value} {t : TypeId} (hs : Sl w sz enc v l) (h : isSlB P t = true) (hz : szE P t = sz) {lo hi : Option Value} {i j : Nat} (hlo : lo = none ∧ i = 0 ∨ ∃ k, lo = some (.int k (i : Int))) (hhi : hi = none ∧ j = l.length ∨ ∃ k, hi = some (.int k (j : Int))) (h0 : i ≤ j) (h1 : j ≤ l.length) :
    ∃ v', (∀ w1 K, slT P t v lo hi none w1 K = K v' w1) ∧ ∀ {w1}, Sl w1 sz enc v l → Sl w1 sz enc v' ((l.drop i).take (j - i)) := by
  obtain ⟨v', _, _, hv⟩ := hs.sub (P := P) (t := t) h hz hlo hhi h0 h1
  refine ⟨v', hv, fun {w1} h' => ?_⟩
  obtain ⟨v2, s2, _, hv2⟩ := h'.sub (P := P) (t := t) h hz hlo hhi h0 h1
  rw [slT_same hv hv2 w]
  exact s2
theorem erase_map {α β : Type} (f : α → β) (l : List α) (i : Nat) : (l.map f).eraseIdx i = (l.eraseIdx i).map f := by
  rw [List.eraseIdx_eq_take_drop_succ, List.eraseIdx_eq_take_drop_succ, List.map_append, List.map_take, List.map_drop]
theorem rtake_no (S : St w0 w (rbA p g ts :: R)) (hl : ts.length ≤ 1000) {k : Int} (hk : ∀ t ∈ ts, t.id ≠ k) {K : KV} (h : K (.slice none 0 0) w) : fcallT P F.pwinnowref16_Buffer_Take [.pointer (some ⟨p, 0, none⟩), .int .u64 k] w K := by
  rw [M.pwinnowref16_Buffer_Take.fcall]
  apply M.pwinnowref16_Buffer_Take.calls
  unfold M.pwinnowref16_Buffer_Take
  refine rfind_ok S hl k (fun _ => ?_) fun i hi he _ => absurd he (hk _ (List.getElem_mem hi))
  simp
  exact h
theorem rtake_st (S : St w0 w (rbA p g ts :: R)) (hl : ts.length ≤ 1000) {k : Int} {i : Nat} (hi : i < ts.length) (hk : ts[i].id = k) (hf : ∀ j (h : j < ts.length), j < i → ts[j].id ≠ k) {K : KV} (h : ∀ w' v', St w0 w' (rowA T.api_Span 8 encS v' ts[i].l :: rbA p g (ts.eraseIdx i) :: R) → K v' w') : fcallT P F.pwinnowref16_Buffer_Take [.pointer (some ⟨p, 0, none⟩), .int .u64 k] w K := by
  rw [M.pwinnowref16_Buffer_Take.fcall]
  apply M.pwinnowref16_Buffer_Take.calls
  unfold M.pwinnowref16_Buffer_Take
  refine rfind_ok S hl k (fun hno => absurd hk (hno _ (List.getElem_mem hi))) fun j hj he hfj => ?_
  have hij : j = i := by
    rcases Nat.lt_trichotomy j i with h | h | h
    · exact absurd he (hf j hj h)
    · exact h
    · exact absurd hk (hfj i hi h)
  subst hij
  obtain ⟨v, cs, hcs, S1⟩ := unRb S
  subst hcs
  simp only [List.length_map] at hi hl
  have hn0 : ¬ (j : Int) < 0 := by omega
  simp [hn0]
  unfold M.pwinnowref16_Buffer_Take.j0
  obtain ⟨_, _, _, c3, cz⟩ := rb_cells S1.blk
  obtain ⟨b, o, hia, d0, d1, d2, d3⟩ := rb_at S1.swap hi
  have hs : Sl w 4 encRC v cs := S1.swap.row encRC_len
  obtain ⟨va, ha, ra⟩ := sub_any (t := T.sl_winnowref16_Trace) hs (by kernel_rfl) (by kernel_rfl) (lo := none) (hi := some (.int .i64 (j : Nat))) (i := 0) (j := j) (.inl ⟨rfl, rfl⟩) (.inr ⟨_, rfl⟩) (Nat.zero_le _) (by omega)
  obtain ⟨vb, hb, rb⟩ := sub_any (t := T.sl_winnowref16_Trace) hs (by kernel_rfl) (by kernel_rfl) (lo := some (.int .i64 ((j + 1 : Nat) : Int))) (hi := none) (i := j + 1) (j := cs.length) (.inr ⟨_, rfl⟩) (.inl ⟨rfl, rfl⟩) (by omega) (Nat.le_refl _)
  have hw : IntKind.i64.wrap ((j : Int) + 1) = ((j + 1 : Nat) : Int) := by rw [wrap_id (by omega) (by omega)]; omega
  have hb' : ∀ w1 K, slT P T.sl_winnowref16_Trace v (some (.int .i64 ((j : Int) + 1))) none none w1 K = K vb w1 := hb
  simp [c3, hia, d2, ha, hw, hb']
  have S2 : St w0 ((dr w 1).alloc (.cells #[] T.winnowref16_Trace)) (rowA T.winnowref16_Trace 4 encRC (.slice (some ⟨(dr w 1).heap.size, 0, none⟩) 0 0) ([] : List RC) :: _) := St.newRow (l := ([] : List RC)) (S1.step ((Fr.refl _ w).dr 1)) encRC_len rfl (by simp)
  obtain ⟨_, _, _, e3, _⟩ := rb_cells S2.swap.blk
  refine ⟨by simp [e3], ?_⟩
  refine Go.Eng.moreRow et.sl_winnowref16_Trace encRC_len encRC_one S2 (ra (S2.up2.row encRC_len)) (by simp; omega) (by decide) fun w2 v2 S3 => ?_
  obtain ⟨_, _, _, f3, _⟩ := rb_cells S3.swap.blk
  refine ⟨by simp [f3], ?_⟩
  refine Go.Eng.moreRow et.sl_winnowref16_Trace encRC_len encRC_one S3 (rb (S3.up2.row encRC_len)) (by simp; omega) (by decide) fun w3 v3 S4 => ?_
  have el : [] ++ (cs.drop 0).take (j - 0) ++ (cs.drop (j + 1)).take (cs.length - (j + 1)) = cs.eraseIdx j := by
    rw [List.eraseIdx_eq_take_drop_succ, List.take_of_length_le (l := cs.drop (j + 1)) (by simp)]
    simp
  rw [el] at S4
  obtain ⟨a', cap', hv', _⟩ : Sl w3 4 encRC v3 (cs.eraseIdx j) := S4.row encRC_len
  generalize (cs.eraseIdx j).length = n1 at hv'
  subst hv'
  obtain ⟨_, _, _, g3, gz⟩ := rb_cells S4.swap.blk
  have S5 : St w0 (w3.setCell ⟨p, 3, none⟩ (.slice a' n1 cap')) (blkA p (headR16 g (.slice a' n1 cap')) T.winnowref16_Buffer :: _) := S4.swap.turn ((Fr.refl (fun x => x = p) w3).setCell (.inl rfl) _ _) ((setCell_at S4.swap.blk).trans rfl)
  simp [g3, gz]
  have S6 := St.listAt (j := j) (L := spansR cs) (by simpa [spansR] using hi) S5.up3
  have e1 : (spansR cs)[j]'(by simpa [spansR] using hi) = rowA T.api_Span 8 encS cs[j].2.v cs[j].1.l := by simp [spansR]
  have e2 : (spansR cs).eraseIdx j = spansR (cs.eraseIdx j) := erase_map _ _ _
  rw [e1, e2] at S6
  have hm : (cs.eraseIdx j).map Prod.fst = (cs.map Prod.fst).eraseIdx j := (erase_map _ _ _).symm
  have S8 := (mkRb hm S6.up4.drop.dn3.dn2).swap
  simp only [List.getElem_map] at h
  exact h _ _ S8
end
end Go.Proofs.Ytkjhekflgghbdaa
set_option maxRecDepth 100000
namespace Go.Proofs.Ytkjhekflgghbdaa
open Go.Eng
theorem partL {t : TypeId} (h : aggB P t = false) {xs : Array Value} {i : Nat} {v : Value} (hv : xs[i]? = some v) (w : World) : (part t xs i).run P w = .ok v w := by
  unfold part
  rw [Sem.run_bind, run_isAgg h]
  simp [Result.andThen, hv, Sem.run_pure]
theorem eqF {d : Nat} {xs ys : Array Value} {f : Field} {fs : List Field} {w : World} {u v : Value} {b c : Bool} (hn : f.name ≠ "_") (h : aggB P f.type = false) (hx : xs[f.offset]? = some u) (hy : ys[f.offset]? = some v) (he : (Op.equalIn d f.type u v).run P w = .ok b w) (hr : (Op.eqFields d xs ys fs).run P w = .ok c w) : (Op.eqFields d xs ys (f :: fs)).run P w = .ok (b && c) w := by
  simp only [Op.eqFields]
  rw [if_pos hn]
  simp only [Sem.run_bind, partL h hx, partL h hy, he, Result.andThen]
  cases b
  · rfl
  · simpa using hr
end Go.Proofs.Ytkjhekflgghbdaa
set_option maxRecDepth 100000
namespace Go.Proofs.Ytkjhekflgghbdaa
open Go.Eng

def sameS (x y : Spn) : Bool := x.trace == y.trace && (x.id == y.id && (x.parent == y.parent && (x.start == y.start && (x.len == y.len && (x.service.toList == y.service.toList && (x.name.toList == y.name.toList && (x.fail == y.fail)))))))
theorem sameS_refl (x : Spn) : sameS x x = true := by simp [sameS]
theorem equal_span (x y : Spn) (w : World) : (Op.equalIn 10000 T.api_Span (aggS x) (aggS y)).run P w = .ok (sameS x y) w := by
  have hS : P.underlying T.api_Span = some (.struct (P.fieldsOf T.api_Span)) := by kernel_rfl
  have hp : P.stoodInHeld T.api_Span = false := by kernel_rfl
  unfold aggS
  rw [show (10000 : Nat) = 9999 + 1 from rfl, run_equalIn_agg w 9999 T.api_Span _ _ hS hp]
  have u22 : P.underlying 22 = some (.int .u64) := Try.underlying22
  have u9 : P.underlying 9 = some .string := Try.underlying9
  have u4 : P.underlying 4 = some .bool := Try.underlying4
  simp only [Program.fieldsOf, show P.underlying T.api_Span = _ from Try.underlying33]
  have a22 : aggB P 22 = false := by kernel_rfl
  have a9 : aggB P 9 = false := by kernel_rfl
  have a4 : aggB P 4 = false := by kernel_rfl
  unfold sameS
  refine eqF (by decide) a22 rfl rfl (run_equalIn_int w 9998 22 _ _ _ _ u22) ?_
  refine eqF (by decide) a22 rfl rfl (run_equalIn_int w 9998 22 _ _ _ _ u22) ?_
  refine eqF (by decide) a22 rfl rfl (run_equalIn_int w 9998 22 _ _ _ _ u22) ?_
  refine eqF (by decide) a22 rfl rfl (run_equalIn_int w 9998 22 _ _ _ _ u22) ?_
  refine eqF (by decide) a22 rfl rfl (run_equalIn_int w 9998 22 _ _ _ _ u22) ?_
  refine eqF (by decide) a9 rfl rfl (run_equalIn_string w 9998 9 _ _ u9) ?_
  refine eqF (by decide) a9 rfl rfl (run_equalIn_string w 9998 9 _ _ u9) ?_
  have := eqF (fs := []) (d := 9999) (xs := #[.int .u64 x.trace, .int .u64 x.id, .int .u64 x.parent, .int .u64 x.start, .int .u64 x.len, .string x.service, .string x.name, .bool x.fail]) (ys := #[.int .u64 y.trace, .int .u64 y.id, .int .u64 y.parent, .int .u64 y.start, .int .u64 y.len, .string y.service, .string y.name, .bool y.fail]) (f := { name := "Fail", type := 4, offset := 7, embedded := false, tag := "", pkgPath := "", byteOffset := 72 }) (w := w) (c := true) (by decide) a4 rfl rfl (run_equalIn_bool' w 9998 4 _ _ u4) rfl
  simpa using this

theorem neqSpan (rx ry : Operand) (x y : Spn) (w : World) (K : KV) : binT P .neq T.api_Span rx ry (aggS x) (aggS y) w K = K (.bool !(sameS x y)) w := by
  have hm : P.eqGuardType P.depth T.api_Span = false := by kernel_rfl
  have hg := run_eqGuard_agg (P := P) w .neq T.api_Span rx ry #[.int .u64 x.trace, .int .u64 x.id, .int .u64 x.parent, .int .u64 x.start, .int .u64 x.len, .string x.service, .string x.name, .bool x.fail] #[.int .u64 y.trace, .int .u64 y.id, .int .u64 y.parent, .int .u64 y.start, .int .u64 y.len, .string y.service, .string y.name, .bool y.fail] hm
  have he := equal_span x y w
  unfold binT semT
  unfold aggS at he ⊢
  rw [Sem.run_bind, hg]
  simp only [Result.andThen]
  rw [run_neq_struct, he]
  rfl

def SpansI (w : World) (l1 l2 : List Spn) : KL := fun x w1 => ∃ (a : Value) (i : Nat), x = [a, .int .i64 (i : Nat)] ∧ i ≤ l1.length ∧ (∀ j (h1 : j < l1.length) (h2 : j < l2.length), j < i → sameS l1[j] l2[j] = true) ∧ Fr (fun _ => False) w w1
def sameL (l1 l2 : List Spn) : Prop := l1.length = l2.length ∧ ∀ j (h1 : j < l1.length) (h2 : j < l2.length), sameS l1[j] l2[j] = true
/-- Lists that are alike are found to be so. -/
theorem spans_ok {w : World} {v1 v2 : Value} {l1 l2 : List Spn} (h1 : SlS w v1 l1) (h2 : SlS w v2 l2) (hn : l1.length < 1000000) (hs : sameL l1 l2) {K : KV}
    (h : ∀ w', Fr (fun _ => False) w w' → K (.bool true) w') : callT P F.winnowref03_Spans [v1, v2] w K := by
  obtain ⟨hne, hall⟩ := hs
  apply M.winnowref03_Spans.calls
  unfold M.winnowref03_Spans
  simp only [joinT_eq]
  rw [h1.len_ok (by simp), h2.len_ok (by simp)]
  simp [hne]
  unfold M.winnowref03_Spans.j0
  simp only [joinT_eq]
  refine ⟨SpansI w l1 l2, fun x _ => l1.length - ms x 1, ⟨_, 0, rfl, Nat.zero_le _, fun j _ _ h => by omega, Fr.refl _ _⟩, ?_⟩
  rintro x w1 ⟨a, i, rfl, hin, hpre, hf1⟩
  have g1 : gv [a, .int .i64 (i : Int)] 1 = .int .i64 (i : Int) := rfl
  simp only [g1]
  have hr1 : SlS w1 v1 l1 := h1.fr hf1 fun _ _ _ h => h
  have hr2 : SlS w1 v2 l2 := h2.fr hf1 fun _ _ _ h => h
  rw [hr1.len_ok (by simp)]
  by_cases hlt : i < l1.length
  · have hlt2 : i < l2.length := by omega
    obtain ⟨b1, o1, c1, rfl, _, _, k1⟩ := hr1.at hlt
    obtain ⟨b2, o2, c2, rfl, _, _, k2⟩ := hr2.at hlt2
    have hw : IntKind.i64.wrap ((i : Int) + 1) = ((i + 1 : Nat) : Int) := by rw [wrap_id (by omega) (by omega)]; rfl
    have d1 : ∀ K, ldN P 8 b1 (o1 + i * 8) (dr w1 1) K = K (aggS l1[i]) (dr w1 1) := fun K => ldS (w := dr w1 1) k1 K
    have d2 : ∀ K, ldN P 8 b2 (o2 + i * 8) (dr w1 1) K = K (aggS l2[i]) (dr w1 1) := fun K => ldS (w := dr w1 1) k2 K
    simp [hlt]
    unfold M.winnowref03_Spans.j3
    simp only [joinT_eq, g1]
    simp [hlt, hlt2, d1, d2, neqSpan, hall i hlt hlt2, hw]
    refine ⟨⟨_, i + 1, rfl, by omega, fun j a1 a2 _ => hall j a1 a2, hf1.dr 1⟩, by simp [ms, gv]; omega⟩
  · simp [hlt]
    exact h _ hf1
end Go.Proofs.Ytkjhekflgghbdaa
set_option maxRecDepth 100000
namespace Go.Proofs.Ytkjhekflgghbdaa
open Go.Eng

def byt (s : ByteArray) (k : Nat) : Nat := (s.get! k).toNat
theorem ix_str (s : ByteArray) {i : Nat} (h : i < s.size) {k : IntKind} (w : World) (K : KV) : ixT P T.string (.string s) (.int k (i : Int)) w K = K (.int .u8 (byt s i)) w := by
  have hu : P.underlying T.string = some .string := isStrB_spec strT
  have hg : s[i]? = some (s.get! i) := by
    rw [getElem?_pos s i h]
    have e : s.get! i = s[i]'h := by
      simp [ByteArray.get!, getElem!_pos, h]
      rfl
    rw [e]
  simp [ixT, semT, Instr.index, asIntOf, Sem.run_bind, run_underlying' hu, Result.andThen, Sem.run_pure, hg, byt]

theorem cv_int {s d : TypeId} {ks k2 : IntKind} (hs : P.underlying s = some (.int ks)) (hd : P.underlying d = some (.int k2)) (k : IntKind) (x : Int) (w : World) (K : KV) : cvT P s d (.int k x) w K = K (.int k2 (k2.wrap x)) w := by
  simp [cvT, semT, convert, Sem.run_bind, run_underlying' hs, run_underlying' hd, Result.andThen, Conv.intToInt, Sem.run_pure]
end Go.Proofs.Ytkjhekflgghbdaa
set_option maxRecDepth 100000
namespace Go.Proofs.Ytkjhekflgghbdaa
open Go.Eng

def rfold (t : ByteArray) (r : Nat) : Nat → Nat
  | 0 => r
  | k + 1 => rfold t r k * 64 + byt t (k + 1) - 128
def inCont (t : ByteArray) (k : Nat) : Bool := decide (128 ≤ byt t k) && decide (byt t k ≤ 191)
def rcls (b0 : Nat) : Nat × Nat × Nat := if 194 ≤ b0 ∧ b0 ≤ 223 then (2, 128, b0 - 192) else if 224 ≤ b0 ∧ b0 ≤ 239 then (3, 2048, b0 - 224) else if 240 ≤ b0 ∧ b0 ≤ 244 then (4, 65536, b0 - 240) else (0, 0, 0)
def conts (t : ByteArray) : Nat → Bool
  | 0 => true
  | k + 1 => conts t k && inCont t (k + 1)
/-- The document's rune. -/
def rr (t : ByteArray) : Nat × Nat :=
  if t.size = 0 then (0, 0) else if byt t 0 < 128 then (byt t 0, 1) else
  if (rcls (byt t 0)).1 = 0 ∨ t.size < (rcls (byt t 0)).1 then (0, 0) else
  if conts t ((rcls (byt t 0)).1 - 1) = false then (0, 0) else
  if rfold t (rcls (byt t 0)).2.2 ((rcls (byt t 0)).1 - 1) < (rcls (byt t 0)).2.1 ∨ 1114111 < rfold t (rcls (byt t 0)).2.2 ((rcls (byt t 0)).1 - 1) ∨ (55296 ≤ rfold t (rcls (byt t 0)).2.2 ((rcls (byt t 0)).1 - 1) ∧ rfold t (rcls (byt t 0)).2.2 ((rcls (byt t 0)).1 - 1) ≤ 57343) then (0, 0) else (rfold t (rcls (byt t 0)).2.2 ((rcls (byt t 0)).1 - 1), (rcls (byt t 0)).1)

theorem byt_lt (t : ByteArray) (k : Nat) : byt t k < 256 := UInt8.toNat_lt _
theorem rfold_le (t : ByteArray) {r : Nat} (hr : r ≤ 31) : ∀ k, conts t k = true → rfold t r k + 1 ≤ 32 * 64 ^ k
  | 0, _ => by simp [rfold]; omega
  | k + 1, h => by
    simp only [conts, Bool.and_eq_true, inCont, decide_eq_true_eq] at h
    have := rfold_le t hr k h.1
    simp only [rfold, Nat.pow_succ]
    omega

theorem u8i32 (x : Int) (w : World) (K : KV) : cvT P T.uint8 T.int32 (.int .u8 x) w K = K (.int .i32 (IntKind.i32.wrap x)) w := cv_int (ks := .u8) (by kernel_rfl) (by kernel_rfl) .u8 x w K
theorem wrap_i32 {x : Int} (h0 : -2147483648 ≤ x) (h1 : x < 2147483648) : IntKind.i32.wrap x = x := by
  show (if (true && decide (x % 4294967296 ≥ 2147483648)) = true then x % 4294967296 - 4294967296 else x % 4294967296) = x
  by_cases h : x % 4294967296 ≥ 2147483648
  · simp [h]; omega
  · simp [h]; omega

theorem conts_no {t : ByteArray} {k : Nat} (h : inCont t (k + 1) = false) : ∀ {n : Nat}, k + 1 < n → conts t (n - 1) = false
  | 0, hn => by omega
  | n + 1, hn => by
    rw [Nat.add_sub_cancel]
    by_cases hk : k + 1 = n
    · subst hk; simp [conts, h]
    · have := conts_no h (n := n) (by omega)
      cases n with
      | zero => omega
      | succ n => rw [Nat.add_sub_cancel] at this; simp [conts, this]
def RuneI (w : World) (t : ByteArray) (r n : Nat) : KL := fun x w1 => ∃ (a b : Value) (k : Nat), x = [a, b, .int .i32 (rfold t r k : Nat), .int .i64 ((k + 1 : Nat) : Int)] ∧ w1 = w ∧ k + 1 ≤ n ∧ conts t k = true

/-- The bytes behind the first one. -/
theorem rune_cont {w : World} {t : ByteArray} {n least r : Nat} (hn : 2 ≤ n) (hn4 : n ≤ 4) (hr : r ≤ 31) (hl : least ≤ 65536) (hsz : n ≤ t.size) {x3 x2 : List Value} (e1 : gv x2 1 = .int .i64 (n : Nat)) (e2 : gv x2 2 = .int .i32 (least : Nat)) (e3 : gv x2 3 = .int .i32 (r : Nat)) {K : KV}
    (h : K (.tuple #[.int .i32 ((if conts t (n - 1) = false then 0 else if rfold t r (n - 1) < least ∨ 1114111 < rfold t r (n - 1) ∨ (55296 ≤ rfold t r (n - 1) ∧ rfold t r (n - 1) ≤ 57343) then 0 else rfold t r (n - 1) : Nat) : Int), .int .i64 ((if conts t (n - 1) = false then 0 else if rfold t r (n - 1) < least ∨ 1114111 < rfold t r (n - 1) ∨ (55296 ≤ rfold t r (n - 1) ∧ rfold t r (n - 1) ≤ 57343) then 0 else n : Nat) : Int)]) w) :
    M.winnowref03_Rune.j3 x3 x2 (.string t) w K := by
  unfold M.winnowref03_Rune.j3
  simp only [joinT_eq, e3]
  refine ⟨RuneI w t r n, fun x _ => n - ms x 3, ⟨_, _, 0, rfl, rfl, by omega, rfl⟩, ?_⟩
  rintro x w1 ⟨a, b, k, rfl, rfl, hk, hc⟩
  have g2 : gv [a, b, .int .i32 (rfold t r k : Nat), .int .i64 ((k + 1 : Nat) : Int)] 2 = .int .i32 (rfold t r k : Nat) := rfl
  have g3 : gv [a, b, .int .i32 (rfold t r k : Nat), .int .i64 ((k + 1 : Nat) : Int)] 3 = .int .i64 ((k + 1 : Nat) : Int) := rfl
  simp only [e1, g3]
  have hb := rfold_le t hr k hc
  have hp : (64 : Nat) ^ k ≤ 64 ^ 3 := Nat.pow_le_pow_right (by omega) (by omega)
  by_cases hlt : k + 1 < n
  · have hlt' : ((k + 1 : Nat) : Int) < n := by omega
    have hix : ∀ K, ixT P T.string (.string t) (.int .i64 ((k + 1 : Nat) : Int)) w1 K = K (.int .u8 (byt t (k + 1))) w1 := fun K => ix_str t (by omega) w1 K
    simp only [bin_lss, hlt', decide_true, Eng.cond_true]
    unfold M.winnowref03_Rune.j6
    have hix' := hix
    push_cast at hix'
    have hbl := byt_lt t (k + 1)
    have hw : IntKind.i64.wrap (((k + 1 : Nat) : Int) + 1) = ((k + 1 + 1 : Nat) : Int) := by rw [wrap_id (by omega) (by omega)]; rfl
    simp only [joinT_eq, g2, g3, hix]
    by_cases h1 : byt t (k + 1) < 128
    · have h1' : (byt t (k + 1) : Int) < 128 := by omega
      have hcf : conts t (n - 1) = false := conts_no (by simp [inCont]; omega) hlt
      simp [h1']
      rw [hcf] at h
      simpa using h
    · have h1' : ¬ (byt t (k + 1) : Int) < 128 := by omega
      by_cases h2 : 191 < byt t (k + 1)
      · have h2' : (191 : Int) < byt t (k + 1) := by omega
        have hcf : conts t (n - 1) = false := conts_no (by simp [inCont]; omega) hlt
        simp [h1', hix', h2']
        rw [hcf] at h
        simpa using h
      · have h2' : ¬ (191 : Int) < byt t (k + 1) := by omega
        simp [h1', hix', h2']
        unfold M.winnowref03_Rune.j8
        have hm1 : IntKind.i32.wrap ((rfold t r k : Int) * 64) = (rfold t r k : Int) * 64 := wrap_i32 (by omega) (by omega)
        have hm2 : IntKind.i32.wrap (byt t (k + 1) : Int) = byt t (k + 1) := wrap_i32 (by omega) (by omega)
        have hm3 : IntKind.i32.wrap ((rfold t r k : Int) * 64 + byt t (k + 1)) = (rfold t r k : Int) * 64 + byt t (k + 1) := wrap_i32 (by omega) (by omega)
        have hm4 : IntKind.i32.wrap ((rfold t r k : Int) * 64 + byt t (k + 1) - 128) = ((rfold t r (k + 1) : Nat) : Int) := by
          rw [wrap_i32 (by omega) (by omega)]
          simp only [rfold]; omega
        push_cast at g2 g3 hw
        simp only [g2, g3, hix', u8i32, bin_mul, bin_add, bin_sub, hm1, hm2, hm3, hm4, hw]
        refine ⟨⟨_, _, k + 1, rfl, rfl, by omega, by simp [conts, hc, inCont]; omega⟩, ?_⟩
        simp [ms, gv]; omega
  · have hke : n - 1 = k := by omega
    have hlt' : ¬ ((k + 1 : Nat) : Int) < n := by omega
    rw [hke, hc] at h
    simp only [bin_lss, hlt', decide_false, Eng.cond_false]
    unfold M.winnowref03_Rune.j4
    have q3 : ∀ p q s u : Value, gv [p, q, s, u] 3 = u := fun _ _ _ _ => rfl
    simp only [joinT_eq, q3, g2, e1, e2]
    generalize rfold t r k = v at *
    simp only [Bool.true_eq_false, if_false] at h
    by_cases a1 : v < least
    · have a1' : (v : Int) < least := by omega
      simp [a1, a1'] at h ⊢
      exact h
    by_cases a2 : 1114111 < v
    · have a1' : ¬ (v : Int) < least := by omega
      have a2' : (1114111 : Int) < v := by omega
      simp [a1, a1', a2, a2'] at h ⊢
      exact h
    by_cases a3 : 55296 ≤ v
    · by_cases a4 : v ≤ 57343
      · have a1' : ¬ (v : Int) < least := by omega
        have a2' : ¬ (1114111 : Int) < v := by omega
        have a3' : (55296 : Int) ≤ v := by omega
        have a4' : (v : Int) ≤ 57343 := by omega
        simp [a1, a1', a2, a2', a3, a3', a4, a4'] at h ⊢
        exact h
      · have a1' : ¬ (v : Int) < least := by omega
        have a2' : ¬ (1114111 : Int) < v := by omega
        have a3' : (55296 : Int) ≤ v := by omega
        have a4' : ¬ (v : Int) ≤ 57343 := by omega
        simp [a1, a1', a2, a2', a3, a3', a4, a4'] at h ⊢
        exact h
    · have a1' : ¬ (v : Int) < least := by omega
      have a2' : ¬ (1114111 : Int) < v := by omega
      have a3' : ¬ (55296 : Int) ≤ v := by omega
      simp [a1, a1', a2, a2', a3, a3'] at h ⊢
      exact h
end Go.Proofs.Ytkjhekflgghbdaa
set_option maxRecDepth 100000
namespace Go.Proofs.Ytkjhekflgghbdaa
open Go.Eng

theorem rune_ok {w : World} (t : ByteArray) {K : KV} (h : K (.tuple #[.int .i32 ((rr t).1 : Nat), .int .i64 ((rr t).2 : Nat)]) w) : callT P F.winnowref03_Rune [.string t] w K := by
  apply M.winnowref03_Rune.calls
  unfold M.winnowref03_Rune
  simp only [joinT_eq]
  unfold rr at h
  by_cases h0 : t.size = 0
  · simp [h0] at h ⊢
    exact h
  have hsz : 0 < t.size := by omega
  have hix : ∀ K, ixT P T.string (.string t) (.int .i64 0) w K = K (.int .u8 (byt t 0)) w := fun K => ix_str t hsz w K
  have hbl := byt_lt t 0
  have hw0 : IntKind.i32.wrap (byt t 0 : Int) = byt t 0 := wrap_i32 (by omega) (by omega)
  simp [h0] at h ⊢
  unfold M.winnowref03_Rune.j0
  simp only [joinT_eq, hix]
  by_cases h1 : byt t 0 < 128
  · have h1' : (byt t 0 : Int) < 128 := by omega
    simp [h1, h1', u8i32, hw0] at h ⊢
    exact h
  have h1' : ¬ (byt t 0 : Int) < 128 := by omega
  simp [h1, h1'] at h ⊢
  unfold M.winnowref03_Rune.j1
  simp only [joinT_eq]
  have fin : ∀ (n least r : Nat) (x2 : List Value), rcls (byt t 0) = (n, least, r) → n ≠ 0 → 2 ≤ n → n ≤ 4 → r ≤ 31 → least ≤ 65536 → gv x2 1 = .int .i64 (n : Nat) → gv x2 2 = .int .i32 (least : Nat) → gv x2 3 = .int .i32 (r : Nat) → M.winnowref03_Rune.j2 x2 (.string t) [.int .i32 0, .int .i64 0] w K := by
    intro n least r x2 hc hn0 hn hn4 hr hl e1 e2 e3
    rw [hc] at h
    unfold M.winnowref03_Rune.j2
    have hn0' : ¬ (n : Int) = 0 := by omega
    by_cases hs : t.size < n
    · have hs' : (t.size : Int) < n := by omega
      simp [e1, hn0, hn0', hs, hs'] at h ⊢
      exact h
    · have hs' : ¬ (t.size : Int) < n := by omega
      simp only [joinT_eq]
      simp [e1, hn0, hn0', hs, hs'] at h ⊢
      refine rune_cont hn hn4 hr hl (by omega) e1 e2 e3 ?_
      by_cases hcs : conts t (n - 1) = false
      · simp [hcs] at h ⊢; exact h
      · by_cases hv : rfold t r (n - 1) < least ∨ 1114111 < rfold t r (n - 1) ∨ (55296 ≤ rfold t r (n - 1) ∧ rfold t r (n - 1) ≤ 57343)
        · simp [hcs, hv] at h ⊢; exact h
        · simp [hcs, hv] at h ⊢; exact h
  generalize hb0 : byt t 0 = b0 at *
  have hsub : ∀ (y : Int), 0 ≤ y → y < 300 → (b0 : Int) - y = (((b0 : Int) - y)) := fun _ _ _ => rfl
  by_cases c1 : 194 ≤ b0 ∧ b0 ≤ 223
  · have p1 : (194 : Int) ≤ b0 := by omega
    have p2 : (b0 : Int) ≤ 223 := by omega
    have hw1 : IntKind.i32.wrap ((b0 : Int) - 192) = ((b0 - 192 : Nat) : Int) := by rw [wrap_i32 (by omega) (by omega)]; omega
    simp [p1, p2, u8i32, hw0, hw1]
    refine fin 2 128 (b0 - 192) _ (by simp [rcls, c1]) (by decide) (by decide) (by decide) (by omega) (by decide) rfl rfl rfl
  have hz : ∀ x2, gv x2 1 = .int .i64 0 → rcls b0 = (0, 0, 0) → M.winnowref03_Rune.j2 x2 (.string t) [.int .i32 0, .int .i64 0] w K := by
    intro x2 e1 hc
    rw [hc] at h
    unfold M.winnowref03_Rune.j2
    simp only [joinT_eq]
    simp [e1] at h ⊢
    exact h
  by_cases d1 : 224 ≤ b0
  · have p1 : (194 : Int) ≤ b0 := by omega
    have p2 : ¬ (b0 : Int) ≤ 223 := by omega
    have p3 : (224 : Int) ≤ b0 := by omega
    by_cases d2 : b0 ≤ 239
    · have p4 : (b0 : Int) ≤ 239 := by omega
      have hw1 : IntKind.i32.wrap ((b0 : Int) - 224) = ((b0 - 224 : Nat) : Int) := by rw [wrap_i32 (by omega) (by omega)]; omega
      simp [p1, p2, p3, p4, u8i32, hw0, hw1]
      exact fin 3 2048 (b0 - 224) _ (by simp [rcls, c1, d1, d2]) (by decide) (by decide) (by decide) (by omega) (by decide) rfl rfl rfl
    · have p4 : ¬ (b0 : Int) ≤ 239 := by omega
      have p5 : (240 : Int) ≤ b0 := by omega
      by_cases d3 : b0 ≤ 244
      · have p6 : (b0 : Int) ≤ 244 := by omega
        have hw1 : IntKind.i32.wrap ((b0 : Int) - 240) = ((b0 - 240 : Nat) : Int) := by rw [wrap_i32 (by omega) (by omega)]; omega
        simp [p1, p2, p3, p4, p5, p6, u8i32, hw0, hw1]
        exact fin 4 65536 (b0 - 240) _ (by unfold rcls; rw [if_neg c1, if_neg (by omega), if_pos (by omega)]) (by decide) (by decide) (by decide) (by omega) (by decide) rfl rfl rfl
      · have p6 : ¬ (b0 : Int) ≤ 244 := by omega
        simp [p1, p2, p3, p4, p5, p6, u8i32, hw0]
        exact hz _ rfl (by unfold rcls; rw [if_neg c1, if_neg (by omega), if_neg (by omega)])
  · have p1 : ¬ (194 : Int) ≤ b0 := by omega
    have p3 : ¬ (224 : Int) ≤ b0 := by omega
    have p5 : ¬ (240 : Int) ≤ b0 := by omega
    simp [p1, p3, p5]
    exact hz _ rfl (by unfold rcls; rw [if_neg c1, if_neg (by omega), if_neg (by omega)])
end Go.Proofs.Ytkjhekflgghbdaa
set_option maxRecDepth 100000
namespace Go.Proofs.Ytkjhekflgghbdaa
open Go.Eng

/-- What the document says of a class of first bytes. -/
theorem rr_cls {t : ByteArray} (h0 : 0 < t.size) (h1 : ¬ byt t 0 < 128) {n least r : Nat} (hc : rcls (byt t 0) = (n, least, r)) :
    rr t = if n = 0 ∨ t.size < n then (0, 0) else if conts t (n - 1) = false then (0, 0) else if rfold t r (n - 1) < least ∨ 1114111 < rfold t r (n - 1) ∨ (55296 ≤ rfold t r (n - 1) ∧ rfold t r (n - 1) ≤ 57343) then (0, 0) else (rfold t r (n - 1), n) := by
  unfold rr
  rw [if_neg (by omega), if_neg h1, hc]
theorem valid_eq (v : Nat) : Utf8.valid (v : Int) = decide (¬ (1114111 < v ∨ (55296 ≤ v ∧ v ≤ 57343))) := by
  unfold Utf8.valid
  rw [Bool.eq_iff_iff]
  simp only [Bool.or_eq_true, Bool.and_eq_true, decide_eq_true_eq]
  omega
def DCont (t : ByteArray) (k : Nat) : Bool := decide (k < t.size) && inCont t k
def dOne (least n v : Nat) : Nat × Nat := if least ≤ v ∧ ¬ (1114111 < v ∨ (55296 ≤ v ∧ v ≤ 57343)) then (v, n) else (65533, 1)
theorem decode_eq (t : ByteArray) : Utf8.decode t 0 = if byt t 0 < 128 then (byt t 0, 1) else if byt t 0 / 32 = 6 ∧ DCont t 1 = true then (if 128 ≤ byt t 0 % 32 * 64 + byt t 1 % 64 then (byt t 0 % 32 * 64 + byt t 1 % 64, 2) else (65533, 1))
    else if byt t 0 / 16 = 14 ∧ DCont t 1 = true ∧ DCont t 2 = true then dOne 2048 3 (byt t 0 % 16 * 4096 + byt t 1 % 64 * 64 + byt t 2 % 64)
    else if byt t 0 / 8 = 30 ∧ DCont t 1 = true ∧ DCont t 2 = true ∧ DCont t 3 = true then dOne 65536 4 (byt t 0 % 8 * 262144 + byt t 1 % 64 * 4096 + byt t 2 % 64 * 64 + byt t 3 % 64) else (65533, 1) := by
  have e : ∀ k, (t.get! (0 + k)).toNat = byt t k := fun k => by rw [Nat.zero_add]; rfl
  have c0 : ∀ k, (decide (0 + k < t.size) && byt t k / 64 == 2) = DCont t k := fun k => by
    have := byt_lt t k
    have : (byt t k / 64 == 2) = inCont t k := by
      unfold inCont
      by_cases h : 128 ≤ byt t k <;> by_cases h' : byt t k ≤ 191
      · have : byt t k / 64 = 2 := by omega
        simp [h, h', this]
      · have : ¬ byt t k / 64 = 2 := by omega
        simp [h, h', this]
      · have : ¬ byt t k / 64 = 2 := by omega
        simp [h, h', this]
      · omega
    rw [this, Nat.zero_add]; rfl
  unfold Utf8.decode dOne
  simp only [e, c0, valid_eq, Bool.and_eq_true, beq_iff_eq, and_assoc, decide_eq_true_eq, ge_iff_le, Utf8.runeError]
theorem dcont {t : ByteArray} {k : Nat} (h : DCont t k = true) : k < t.size ∧ inCont t k = true ∧ 128 ≤ byt t k ∧ byt t k ≤ 191 := by
  unfold DCont inCont at h
  simp only [Bool.and_eq_true, decide_eq_true_eq] at h
  exact ⟨h.1, by unfold inCont; simp [h.2], h.2.1, h.2.2⟩
theorem dcont' {t : ByteArray} {k : Nat} (h : ¬ DCont t k = true) (hs : k < t.size) : inCont t k = false := by
  unfold DCont at h
  simpa [hs] using h
def fixR (c : Nat × Nat) : Nat × Nat := if c.2 = 0 then (65533, 1) else c
theorem fix_one {least n v : Nat} (hn : n ≠ 0) : dOne least n v = fixR (if v < least ∨ 1114111 < v ∨ (55296 ≤ v ∧ v ≤ 57343) then (0, 0) else (v, n)) := by
  unfold dOne fixR
  by_cases g : v < least ∨ 1114111 < v ∨ (55296 ≤ v ∧ v ≤ 57343)
  · rw [if_pos g, if_neg (by omega)]; rfl
  · rw [if_neg g, if_pos (by omega)]; simp [hn]
theorem conts_all {t : ByteArray} : ∀ {n : Nat}, conts t n = true ↔ ∀ k, 1 ≤ k → k ≤ n → inCont t k = true
  | 0 => ⟨fun _ k h1 h2 => by omega, fun _ => rfl⟩
  | n + 1 => by
    simp only [conts, Bool.and_eq_true, conts_all (n := n)]
    constructor
    · rintro ⟨h1, h2⟩ k hk1 hk2
      by_cases hk : k = n + 1
      · subst hk; exact h2
      · exact h1 k hk1 (by omega)
    · intro h
      exact ⟨fun k h1 h2 => h k h1 (by omega), h (n + 1) (by omega) (by omega)⟩
theorem rr_yes {t : ByteArray} (h0 : 0 < t.size) (h1 : ¬ byt t 0 < 128) {n least r : Nat} (hc : rcls (byt t 0) = (n, least, r)) (hn : 2 ≤ n) (h : ∀ k, 1 ≤ k → k ≤ n - 1 → DCont t k = true) :
    rr t = if rfold t r (n - 1) < least ∨ 1114111 < rfold t r (n - 1) ∨ (55296 ≤ rfold t r (n - 1) ∧ rfold t r (n - 1) ≤ 57343) then (0, 0) else (rfold t r (n - 1), n) := by
  rw [rr_cls h0 h1 hc]
  have := (dcont (h (n - 1) (by omega) (by omega))).1
  rw [if_neg (by omega), if_neg]
  rw [conts_all.2 fun k h1 h2 => (dcont (h k h1 h2)).2.1]; simp
theorem rr_no {t : ByteArray} (h0 : 0 < t.size) (h1 : ¬ byt t 0 < 128) {n least r : Nat} (hc : rcls (byt t 0) = (n, least, r)) (hn : 2 ≤ n) (h : ¬ ∀ k, 1 ≤ k → k ≤ n - 1 → DCont t k = true) : rr t = (0, 0) := by
  rw [rr_cls h0 h1 hc]
  by_cases hs : t.size < n
  · rw [if_pos (.inr hs)]
  · rw [if_neg (by omega), if_pos]
    cases hcs : conts t (n - 1) with
    | false => rfl
    | true =>
      refine absurd (fun k h1 h2 => ?_) h
      unfold DCont
      rw [conts_all.1 hcs k h1 h2]
      simp; omega
theorem all1 {p : Nat → Prop} : (∀ k, 1 ≤ k → k ≤ 2 - 1 → p k) ↔ p 1 := ⟨fun h => h 1 (by omega) (by omega), fun h k h1 h2 => by
  obtain rfl : k = 1 := by omega
  exact h⟩
theorem all2 {p : Nat → Prop} : (∀ k, 1 ≤ k → k ≤ 3 - 1 → p k) ↔ p 1 ∧ p 2 := ⟨fun h => ⟨h 1 (by omega) (by omega), h 2 (by omega) (by omega)⟩, fun h k h1 h2 => by
  have : k = 1 ∨ k = 2 := by omega
  rcases this with rfl | rfl
  · exact h.1
  · exact h.2⟩
theorem all3 {p : Nat → Prop} : (∀ k, 1 ≤ k → k ≤ 4 - 1 → p k) ↔ p 1 ∧ p 2 ∧ p 3 := ⟨fun h => ⟨h 1 (by omega) (by omega), h 2 (by omega) (by omega), h 3 (by omega) (by omega)⟩, fun h k h1 h2 => by
  have : k = 1 ∨ k = 2 ∨ k = 3 := by omega
  rcases this with rfl | rfl | rfl
  · exact h.1
  · exact h.2.1
  · exact h.2.2⟩
theorem mod64 {x : Nat} (h1 : 128 ≤ x) (h2 : x ≤ 191) : x % 64 = x - 128 := by omega
theorem rf1 (t : ByteArray) (r : Nat) : rfold t r 1 = r * 64 + byt t 1 - 128 := rfl
theorem rf2 (t : ByteArray) (r : Nat) : rfold t r 2 = (r * 64 + byt t 1 - 128) * 64 + byt t 2 - 128 := rfl
theorem rf3 (t : ByteArray) (r : Nat) : rfold t r 3 = ((r * 64 + byt t 1 - 128) * 64 + byt t 2 - 128) * 64 + byt t 3 - 128 := rfl
theorem dec2 {t : ByteArray} (h0 : 0 < t.size) (c1 : 194 ≤ byt t 0 ∧ byt t 0 ≤ 223) : Utf8.decode t 0 = fixR (rr t) := by
  have h1 : ¬ byt t 0 < 128 := by omega
  have hc : rcls (byt t 0) = (2, 128, byt t 0 - 192) := by unfold rcls; rw [if_pos c1]
  rw [decode_eq, if_neg h1]
  by_cases hd : DCont t 1 = true
  · rw [rr_yes h0 h1 hc (by decide) (all1.2 hd), if_pos ⟨by omega, hd⟩, ← fix_one (by decide)]
    obtain ⟨_, _, g1, g2⟩ := dcont hd
    have hv : rfold t (byt t 0 - 192) (2 - 1) = byt t 0 % 32 * 64 + byt t 1 % 64 := by
      show rfold t (byt t 0 - 192) 1 = _
      rw [rf1, mod64 g1 g2]; omega
    rw [hv]
    have hle : byt t 0 % 32 * 64 + byt t 1 % 64 < 55296 := by omega
    unfold dOne
    by_cases hg : 128 ≤ byt t 0 % 32 * 64 + byt t 1 % 64
    · rw [if_pos hg, if_pos ⟨hg, by omega⟩]
    · rw [if_neg hg, if_neg fun h => hg h.1]
  · rw [if_neg fun h => hd h.2, if_neg (by omega), if_neg (by omega), rr_no h0 h1 hc (by decide) fun h => hd (all1.1 h)]; rfl
theorem dec3 {t : ByteArray} (h0 : 0 < t.size) (c1 : 224 ≤ byt t 0 ∧ byt t 0 ≤ 239) : Utf8.decode t 0 = fixR (rr t) := by
  have h1 : ¬ byt t 0 < 128 := by omega
  have hc : rcls (byt t 0) = (3, 2048, byt t 0 - 224) := by unfold rcls; rw [if_neg (by omega), if_pos c1]
  rw [decode_eq, if_neg h1, if_neg (by omega)]
  by_cases hd : DCont t 1 = true ∧ DCont t 2 = true
  · rw [rr_yes h0 h1 hc (by decide) (all2.2 hd), if_pos ⟨by omega, hd⟩, ← fix_one (by decide)]
    obtain ⟨_, _, g1, g2⟩ := dcont hd.1
    obtain ⟨_, _, g3, g4⟩ := dcont hd.2
    have hv : rfold t (byt t 0 - 224) (3 - 1) = byt t 0 % 16 * 4096 + byt t 1 % 64 * 64 + byt t 2 % 64 := by
      show rfold t (byt t 0 - 224) 2 = _
      rw [rf2, mod64 g1 g2, mod64 g3 g4]; omega
    rw [hv]
  · rw [if_neg fun h => hd h.2, if_neg (by omega), rr_no h0 h1 hc (by decide) fun h => hd (all2.1 h)]; rfl
theorem dec4 {t : ByteArray} (h0 : 0 < t.size) (c1 : 240 ≤ byt t 0 ∧ byt t 0 ≤ 244) : Utf8.decode t 0 = fixR (rr t) := by
  have h1 : ¬ byt t 0 < 128 := by omega
  have hc : rcls (byt t 0) = (4, 65536, byt t 0 - 240) := by unfold rcls; rw [if_neg (by omega), if_neg (by omega), if_pos c1]
  rw [decode_eq, if_neg h1, if_neg (by omega), if_neg (by omega)]
  by_cases hd : DCont t 1 = true ∧ DCont t 2 = true ∧ DCont t 3 = true
  · rw [rr_yes h0 h1 hc (by decide) (all3.2 hd), if_pos ⟨by omega, hd⟩, ← fix_one (by decide)]
    obtain ⟨_, _, g1, g2⟩ := dcont hd.1
    obtain ⟨_, _, g3, g4⟩ := dcont hd.2.1
    obtain ⟨_, _, g5, g6⟩ := dcont hd.2.2
    have hv : rfold t (byt t 0 - 240) (4 - 1) = byt t 0 % 8 * 262144 + byt t 1 % 64 * 4096 + byt t 2 % 64 * 64 + byt t 3 % 64 := by
      show rfold t (byt t 0 - 240) 3 = _
      rw [rf3, mod64 g1 g2, mod64 g3 g4, mod64 g5 g6]; omega
    rw [hv]
  · rw [if_neg fun h => hd h.2, rr_no h0 h1 hc (by decide) fun h => hd (all3.1 h)]; rfl
theorem decode_rr (t : ByteArray) (h0 : 0 < t.size) : Utf8.decode t 0 = fixR (rr t) := by
  by_cases h1 : byt t 0 < 128
  · have hr : rr t = (byt t 0, 1) := by unfold rr; rw [if_neg (by omega), if_pos h1]
    rw [decode_eq, if_pos h1, hr]; rfl
  by_cases c1 : 194 ≤ byt t 0 ∧ byt t 0 ≤ 223
  · exact dec2 h0 c1
  by_cases c2 : 224 ≤ byt t 0 ∧ byt t 0 ≤ 239
  · exact dec3 h0 c2
  by_cases c3 : 240 ≤ byt t 0 ∧ byt t 0 ≤ 244
  · exact dec4 h0 c3
  have hc : rcls (byt t 0) = (0, 0, 0) := by unfold rcls; rw [if_neg c1, if_neg c2, if_neg c3]
  have hr : rr t = (0, 0) := by rw [rr_cls h0 h1 hc]; simp
  have hb := byt_lt t 0
  rw [hr, decode_eq, if_neg h1]
  show _ = (65533, 1)
  by_cases d1 : byt t 0 / 32 = 6 ∧ DCont t 1 = true
  · obtain ⟨_, _, g1, g2⟩ := dcont d1.2
    rw [if_pos d1, if_neg (by omega)]
  · rw [if_neg d1, if_neg (by omega)]
    by_cases d3 : byt t 0 / 8 = 30 ∧ DCont t 1 = true ∧ DCont t 2 = true ∧ DCont t 3 = true
    · rw [if_pos d3]
      unfold dOne
      rw [if_neg (by omega)]
    · rw [if_neg d3]
end Go.Proofs.Ytkjhekflgghbdaa
set_option maxRecDepth 100000
namespace Go.Proofs.Ytkjhekflgghbdaa
open Go.Eng

/-! ### The rest of a text -/
def restS (s : ByteArray) (i : Nat) : ByteArray := s.extract i s.size
theorem size_rest (s : ByteArray) (i : Nat) : (restS s i).size = s.size - i := by simp [restS]
theorem get_eq (s : ByteArray) (k : Nat) : s.get! k = s.data[k]! := by cases s; rfl
theorem byt_rest (s : ByteArray) (i k : Nat) : byt (restS s i) k = byt s (i + k) := by
  unfold byt
  rw [get_eq, get_eq]
  have h : (restS s i).data = s.data.extract i s.size := by simp [restS]
  rw [h, getElem!_def, getElem!_def, Array.getElem?_extract]
  have hs : s.size = s.data.size := rfl
  by_cases hk : k < min s.size s.data.size - i
  · rw [if_pos (by omega)]
  · rw [if_neg (by omega), Array.getElem?_eq_none (by omega)]
theorem rest_rest (s : ByteArray) (i n : Nat) : restS (restS s i) n = restS s (i + n) := by
  unfold restS
  rw [ByteArray.extract_extract]
  congr 1
  simp; omega
theorem decode_rest (s : ByteArray) (i : Nat) : Utf8.decode s i = Utf8.decode (restS s i) 0 := by
  have e : ∀ k, (s.get! (i + k)).toNat = byt (restS s i) k := fun k => by rw [byt_rest]; rfl
  have e' : ∀ k, ((restS s i).get! (0 + k)).toNat = byt (restS s i) k := fun k => by rw [Nat.zero_add]; rfl
  have c : ∀ k, decide (i + k < s.size) = decide (0 + k < (restS s i).size) := fun k => by
    rw [size_rest, decide_eq_decide]; omega
  unfold Utf8.decode
  simp only [e, e', c]

/-! ### U+FFFD -/
theorem pre_iff (t : ByteArray) : hasPre t runeErr = true ↔ 3 ≤ t.size ∧ byt t 0 = 239 ∧ byt t 1 = 191 ∧ byt t 2 = 189 := by
  have hs : t.size = t.data.toList.length := Array.length_toList.symm
  have hr : runeErr.toList = [239, 191, 189] := by decide +kernel
  have hz : runeErr.size = 3 := rfl
  unfold hasPre
  rw [hr, hz, Bool.and_eq_true, decide_eq_true_eq, beq_iff_eq]
  have he : (t.extract 0 3).toList = t.data.toList.take 3 := by
    rw [ByteArray.toList_eq]
    simp
  rw [he]
  have b : ∀ k, byt t k = (t.data.toList[k]?.getD default).toNat := fun k => by
    unfold byt
    rw [get_eq, getElem!_def]
    simp only [Array.getElem?_toList]
    cases t.data[k]? <;> rfl
  rw [b, b, b, hs]
  have u : ∀ (x : UInt8) (n : Nat) (h : n < 256), x.toNat = n ↔ x = UInt8.ofNat n := fun x n h => by
    constructor
    · intro hx; rw [← hx]; simp
    · rintro rfl; simp; omega
  match t.data.toList with
  | [] => simp
  | [x] => simp
  | [x, y] => simp
  | x :: y :: z :: r =>
    simp [u x 239 (by decide), u y 191 (by decide), u z 189 (by decide)]
theorem rr_err (t : ByteArray) (h0 : 0 < t.size) : ((rr t).2 ≠ 0 ∧ (rr t).1 = 65533) ↔ (3 ≤ t.size ∧ byt t 0 = 239 ∧ byt t 1 = 191 ∧ byt t 2 = 189) := by
  have hb := byt_lt t 0
  by_cases h1 : byt t 0 < 128
  · have hr : rr t = (byt t 0, 1) := by unfold rr; rw [if_neg (by omega), if_pos h1]
    rw [hr]; simp; omega
  by_cases c1 : 194 ≤ byt t 0 ∧ byt t 0 ≤ 223
  · have hc : rcls (byt t 0) = (2, 128, byt t 0 - 192) := by unfold rcls; rw [if_pos c1]
    by_cases hd : DCont t 1 = true
    · rw [rr_yes h0 h1 hc (by decide) (all1.2 hd)]
      obtain ⟨_, _, g1, g2⟩ := dcont hd
      have hv : rfold t (byt t 0 - 192) (2 - 1) = (byt t 0 - 192) * 64 + byt t 1 - 128 := rfl
      rw [hv]
      split <;> simp <;> omega
    · rw [rr_no h0 h1 hc (by decide) fun h => hd (all1.1 h)]; simp; omega
  by_cases c2 : 224 ≤ byt t 0 ∧ byt t 0 ≤ 239
  · have hc : rcls (byt t 0) = (3, 2048, byt t 0 - 224) := by unfold rcls; rw [if_neg (by omega), if_pos c2]
    by_cases hd : DCont t 1 = true ∧ DCont t 2 = true
    · rw [rr_yes h0 h1 hc (by decide) (all2.2 hd)]
      obtain ⟨_, _, g1, g2⟩ := dcont hd.1
      obtain ⟨g5, _, g3, g4⟩ := dcont hd.2
      have hv : rfold t (byt t 0 - 224) (3 - 1) = ((byt t 0 - 224) * 64 + byt t 1 - 128) * 64 + byt t 2 - 128 := rfl
      rw [hv]
      split <;> simp <;> omega
    · rw [rr_no h0 h1 hc (by decide) fun h => hd (all2.1 h)]
      simp only [ne_eq, not_true_eq_false, false_and, false_iff]
      rintro ⟨k0, k1, k2, k3⟩
      apply hd
      unfold DCont inCont
      simp [k2, k3]; omega
  by_cases c3 : 240 ≤ byt t 0 ∧ byt t 0 ≤ 244
  · have hc : rcls (byt t 0) = (4, 65536, byt t 0 - 240) := by unfold rcls; rw [if_neg (by omega), if_neg (by omega), if_pos c3]
    by_cases hd : DCont t 1 = true ∧ DCont t 2 = true ∧ DCont t 3 = true
    · rw [rr_yes h0 h1 hc (by decide) (all3.2 hd)]
      generalize rfold t (byt t 0 - 240) (4 - 1) = v
      split <;> simp <;> omega
    · rw [rr_no h0 h1 hc (by decide) fun h => hd (all3.1 h)]; simp; omega
  have hc : rcls (byt t 0) = (0, 0, 0) := by unfold rcls; rw [if_neg c1, if_neg c2, if_neg c3]
  have hr : rr t = (0, 0) := by rw [rr_cls h0 h1 hc]; simp
  rw [hr]; simp; omega

/-! ### The runes of a text -/
theorem rr_width (t : ByteArray) : (rr t).2 ≤ t.size := by
  unfold rr
  by_cases h0 : t.size = 0
  · rw [if_pos h0]; omega
  rw [if_neg h0]
  split
  · simp; omega
  split
  · simp
  split
  · simp
  split
  · simp
  · simp; omega
/-- The runes from a place on; none: the text is not right. -/
def rrs (s : ByteArray) (i : Nat) : Option (List Nat) :=
  if h : i < s.size then (if h2 : (rr (restS s i)).2 = 0 then none else (rrs s (i + (rr (restS s i)).2)).map ((rr (restS s i)).1 :: ·)) else some []
termination_by s.size - i
decreasing_by omega
def ctl (c : Nat) : Bool := decide (c < 32) || (decide (127 ≤ c) && decide (c ≤ 159))
theorem runes_eq (s : ByteArray) : ∀ (m i : Nat), s.size - i ≤ m → runesOk s i = match rrs s i with
    | none => false
    | some l => l.all fun c => !ctl c := by
  intro m
  induction m with
  | zero =>
    intro i hm
    unfold runesOk rrs
    rw [dif_neg (by omega), dif_neg (by omega)]; rfl
  | succ m ih =>
    intro i hm
    unfold runesOk rrs
    by_cases hi : i < s.size
    · rw [dif_pos hi, dif_pos hi]
      have ht : 0 < (restS s i).size := by rw [size_rest]; omega
      have hd : Utf8.decode s i = fixR (rr (restS s i)) := by rw [decode_rest, decode_rr _ ht]
      have he := rr_err (restS s i) ht
      rw [← pre_iff] at he
      unfold badRune
      have hrest : s.extract i s.size = restS s i := rfl
      rw [hrest, hd]
      by_cases h2 : (rr (restS s i)).2 = 0
      · rw [dif_pos h2]
        have hp : hasPre (restS s i) runeErr = false := by
          cases hq : hasPre (restS s i) runeErr with
          | false => rfl
          | true => exact absurd h2 (he.2 hq).1
        simp [fixR, h2, hp]
      · rw [dif_neg h2]
        have hf : fixR (rr (restS s i)) = rr (restS s i) := by simp [fixR, h2]
        rw [hf, ih (i + (rr (restS s i)).2) (by omega)]
        have hb : (decide ((rr (restS s i)).1 < 32) || (decide (127 ≤ (rr (restS s i)).1) && decide ((rr (restS s i)).1 ≤ 159) || decide ((rr (restS s i)).1 = 65533) && !hasPre (restS s i) runeErr)) = ctl (rr (restS s i)).1 := by
          unfold ctl
          by_cases hc : (rr (restS s i)).1 = 65533
          · rw [he.1 ⟨h2, hc⟩, hc]; decide
          · simp [hc]
        rw [hb]
        cases rrs s (i + (rr (restS s i)).2) with
        | none => simp
        | some l => simp
    · rw [dif_neg hi, dif_neg hi]; rfl

def encR (c : Nat) : List Value := [.int .i32 (c : Nat)]
abbrev OwR (w : World) (base : Nat) (v : Value) (l : List Nat) : Prop := Ow w base T.int32 1 encR v l
def strLen (v : Value) : Nat := match v with
  | .string s => s.size
  | _ => 0
def RunI (w : World) (s : ByteArray) : KL := fun x w1 => ∃ (i : Nat) (l : List Nat), x.length = 6 ∧ gv x 5 = .string (restS s i) ∧ OwR w1 w.heap.size (gv x 4) l ∧ Fr (fun _ => False) w w1 ∧ i ≤ s.size ∧ l.length ≤ i ∧ rrs s 0 = (rrs s i).map (l ++ ·)
theorem runes_ok {w : World} {s : ByteArray} (hs : s.size < 100000) {K : KV} (h0 : rrs s 0 = none → ∀ w', Fr (fun _ => False) w w' → K (.tuple #[.slice none 0 0, .bool false]) w')
    (h1 : ∀ l, rrs s 0 = some l → l.length ≤ s.size → ∀ w' v, OwR w' w.heap.size v l → Fr (fun _ => False) w w' → K (.tuple #[v, .bool true]) w') : callT P F.winnowref03_Runes [.string s] w K := by
  apply M.winnowref03_Runes.calls
  unfold M.winnowref03_Runes
  rw [joinT_eq]
  refine ⟨RunI w s, fun x _ => strLen (gv x 5), ⟨0, [], rfl, ?_, Ow.none, Fr.refl _ _, Nat.zero_le _, Nat.le_refl _, by simp⟩, ?_⟩
  · show Value.string s = _
    unfold restS; simp
  rintro x w1 ⟨i, l, hx, e5, o1, f1, hi, hl, hR⟩
  unfold M.winnowref03_Runes.j1
  simp only [joinT_eq, e5, lenS]
  have hsz := size_rest s i
  by_cases hlt : i < s.size
  · have hlt' : (0 : Int) < ((restS s i).size : Int) := by omega
    simp only [bin_gtr, hlt', decide_true, Eng.cond_true]
    unfold M.winnowref03_Runes.j2
    rw [e5, M.winnowref03_Rune.fcall]
    refine rune_ok _ ?_
    simp only [ex_2_0, ex_2_1, joinT_eq, bin_eql]
    rw [show rrs s i = _ from rrs.eq_1 s i, dif_pos hlt] at hR
    by_cases h2 : (rr (restS s i)).2 = 0
    · have h2' : (((rr (restS s i)).2 : Nat) : Int) = 0 := by omega
      simp only [h2', decide_true, Eng.cond_true]
      rw [dif_pos h2] at hR
      exact h0 hR w1 f1
    · have h2' : ¬ (((rr (restS s i)).2 : Nat) : Int) = 0 := by omega
      simp only [h2', decide_false, Eng.cond_false]
      rw [dif_neg h2] at hR
      have hwd := rr_width (restS s i)
      unfold M.winnowref03_Runes.j3
      simp [e5]
      have fa : Fr (fun _ => False) w1 (w1.alloc (.cells #[.int .i32 ((rr (restS s i)).1 : Nat)] T.int32)) := (Fr.refl _ w1).alloc _
      have hge := f1.size
      refine app_sl et.sl_int32 (fun _ => rfl) (fun x u hu => by simp [encR] at hu; subst hu; rfl) (o1.fr fa fun _ _ h => h) (Sl.one (x := (rr (restS s i)).1) rfl rfl) (by simp; omega) (by decide) (by simp; omega) _ fun v' w2 o2 f2 g2 => ?_
      rw [sl_str (i := (rr (restS s i)).2) strT (.inr ⟨_, rfl⟩) (.inl ⟨rfl, rfl⟩) hwd (Nat.le_refl _)]
      refine ⟨⟨i + (rr (restS s i)).2, l ++ [(rr (restS s i)).1], rfl, ?_, o2, ?_, by omega, by simp; omega, ?_⟩, ?_⟩
      · show Value.string _ = _
        rw [← rest_rest]; rfl
      · refine f1.trans' ((fa.mono fun _ _ h => h.elim).trans f2) fun b hb he => ?_
        have := (o1.lt he).1; omega
      · rw [hR]
        cases rrs s (i + (rr (restS s i)).2) <;> simp
      · show strLen (.string ((restS s i).extract (rr (restS s i)).2 (restS s i).size)) < strLen (.string (restS s i))
        simp only [strLen, ByteArray.size_extract]
        omega
  · have hlt' : ¬ (0 : Int) < ((restS s i).size : Int) := by omega
    simp only [bin_gtr, hlt', decide_false, Eng.cond_false]
    rw [show rrs s i = _ from rrs.eq_1 s i, dif_neg hlt] at hR
    exact h1 l (by simpa using hR) (by omega) w1 _ o1 f1

/-! ### Name, Right -/
def NmI (w : World) (l : List Nat) : KL := fun x w1 => ∃ (u : Value) (i : Nat), x = [u, .int .i64 (i : Nat)] ∧ w1 = w ∧ i ≤ l.length ∧ ∀ j c, l[j]? = some c → j < i → ctl c = false
theorem refName_ok {w : World} (s : ByteArray) {K : KV} (h : ∀ w', Fr (fun _ => False) w w' → K (.int .i64 (nameK s)) w') : callT P F.winnowref03_Name [.string s] w K := by
  apply M.winnowref03_Name.calls
  unfold M.winnowref03_Name
  unfold nameK at h
  simp only [joinT_eq, lenS, bin_lss]
  by_cases h0 : s.size = 0
  · have : (s.size : Int) < 1 := by omega
    simp [h0] at h ⊢
    exact h w (Fr.refl _ _)
  have h0' : ¬ (s.size : Int) < 1 := by omega
  by_cases h1 : 32 < s.size
  · have h1' : (32 : Int) < s.size := by omega
    simp [h0, h0', h1, h1'] at h ⊢
    exact h w (Fr.refl _ _)
  have h1' : ¬ (32 : Int) < s.size := by omega
  simp [h0, h0', h1, h1'] at h ⊢
  unfold M.winnowref03_Name.j0
  rw [M.winnowref03_Runes.fcall]
  rw [runes_eq s _ 0 (Nat.le_refl _)] at h
  refine runes_ok (by omega) (fun hr w1 f1 => ?_) fun l hr hll w1 v o1 f1 => ?_
  · rw [hr] at h
    simp only [ex_2_0, ex_2_1, joinT_eq]
    refine ⟨fun x w2 => gv x 1 = .int .i64 0 ∧ w2 = w1, fun _ _ => 0, ⟨rfl, rfl⟩, ?_⟩
    rintro x w2 ⟨e1, rfl⟩
    simp [e1]
    have := h w2 f1
    simpa using this
  · rw [hr] at h
    simp only [ex_2_0, ex_2_1, joinT_eq]
    have hsl : Sl w1 1 encR v l := o1.sl fun _ => rfl
    refine ⟨NmI w1 l, fun x _ => l.length - ms x 1, ⟨_, 0, rfl, rfl, Nat.zero_le _, fun j c _ h => by omega⟩, ?_⟩
    rintro x w2 ⟨u, i, rfl, rfl, hi, hall⟩
    have q0 : ∀ a b : Value, gv [a, b] 0 = a := fun _ _ => rfl
    have q1 : ∀ a b : Value, gv [a, b] 1 = b := fun _ _ => rfl
    simp only [q0, q1]
    rw [hsl.len_ok (by simp)]
    by_cases hil : i < l.length
    · have hil' : (i : Int) < l.length := by omega
      simp only [bin_lss, hil', decide_true, Eng.cond_true]
      unfold M.winnowref03_Name.j3
      obtain ⟨b, o, cap, rfl, hb, _, hc⟩ := hsl.at hil
      have c0 := hc 0 _ rfl
      simp only [Nat.mul_one, Nat.add_zero] at c0
      generalize hli : l[i] = c at *
      have hgi : l[i]? = some c := by rw [List.getElem?_eq_getElem hil, hli]
      have hw : IntKind.i64.wrap ((i : Int) + 1) = ((i + 1 : Nat) : Int) := by rw [wrap_id (by omega) (by omega)]; rfl
      have bad : ctl c = true → K (.int .i64 5) w2 := fun hct => by
        have : (l.all fun c => !ctl c) = false := by
          rw [List.all_eq_false]
          exact ⟨c, List.mem_of_getElem? hgi, by simp [hct]⟩
        have hh := h w2 f1
        simpa [this] using hh
      have good : ctl c = false → ∀ u, NmI w2 l [u, .int .i64 ((i : Int) + 1)] w2 ∧ l.length - ms [u, .int .i64 ((i : Int) + 1)] 1 < l.length - ms [u, .int .i64 (i : Int)] 1 := fun hct u => by
        refine ⟨⟨u, i + 1, rfl, rfl, by omega, fun j c' hj hlt => ?_⟩, by simp [ms, gv]; omega⟩
        by_cases hji : j = i
        · subst hji; rw [hgi] at hj; cases hj; exact hct
        · exact hall j c' hj (by omega)
      by_cases d1 : c < 32
      · have d1' : (c : Int) < 32 := by omega
        simp [q0, q1, hil, c0, d1']
        exact bad (by simp [ctl, d1])
      have d1' : ¬ (c : Int) < 32 := by omega
      by_cases d2 : 127 ≤ c
      · have d2' : (127 : Int) ≤ c := by omega
        by_cases d3 : c ≤ 159
        · have d3' : (c : Int) ≤ 159 := by omega
          simp [q0, q1, hil, c0, d1', d2', d3']
          exact bad (by simp [ctl, d2, d3])
        · have d3' : ¬ (c : Int) ≤ 159 := by omega
          simp [q0, q1, hil, c0, d1', d2', d3', hw]
          exact good (by simp [ctl, d1, d3]) _
      · have d2' : ¬ (127 : Int) ≤ c := by omega
        simp [q0, q1, hil, c0, d1', d2', hw]
        exact good (by simp [ctl, d1, d2]) _
    · have hil' : ¬ (i : Int) < l.length := by omega
      simp only [bin_lss, hil', decide_false, Eng.cond_false]
      have : (l.all fun c => !ctl c) = true := by
        rw [List.all_eq_true]
        intro c hc
        obtain ⟨j, hj, rfl⟩ := List.mem_iff_getElem.1 hc
        rw [hall j _ (List.getElem?_eq_getElem hj) (by omega)]; rfl
      simp
      have hh := h w2 f1
      simpa [this] using hh
theorem orK2 (a b : Int) : orK [a, b] = if a = 0 then b else a := by
  unfold orK
  by_cases ha : a = 0 <;> by_cases hb : b = 0 <;> simp [List.find?, ha, hb]
theorem nameK_or (s : ByteArray) : nameK s = 0 ∨ nameK s = 5 := by
  unfold nameK
  split
  · exact .inr rfl
  split
  · exact .inl rfl
  · exact .inr rfl
theorem refRight_ok {w : World} (s : Spn) {K : KV} (h : ∀ w', Fr (fun _ => False) w w' → K (.int .i64 (rightK s)) w') : callT P F.winnowref03_Right [aggS s] w K := by
  apply M.winnowref03_Right.calls
  unfold M.winnowref03_Right
  rw [box_agg]
  have hb := boxS_new w s
  have hf : Fr (fun _ => False) w (w.alloc (.cells #[.int .u64 s.trace, .int .u64 s.id, .int .u64 s.parent, .int .u64 s.start, .int .u64 s.len, .string s.service, .string s.name, .bool s.fail] T.api_Span)) := (Fr.refl _ w).alloc _
  generalize w.alloc (.cells #[.int .u64 s.trace, .int .u64 s.id, .int .u64 s.parent, .int .u64 s.start, .int .u64 s.len, .string s.service, .string s.name, .bool s.fail] T.api_Span) = wa at *
  have c0 := boxS_at hb 0 _ rfl
  have c1 := boxS_at hb 1 _ rfl
  have c3 := boxS_at hb 3 _ rfl
  have c4 := boxS_at hb 4 _ rfl
  have c5 := boxS_at hb 5 _ rfl
  unfold rightK at h
  simp only [joinT_eq]
  by_cases h0 : s.trace = 0
  · simp [c0, h0] at h ⊢
    exact h wa hf
  by_cases h1 : s.id = 0
  · simp [c0, c1, h0, h1] at h ⊢
    exact h wa hf
  by_cases h2 : 1099511627776 < s.start
  · have h3 : 1099511627776 < max s.start s.len := by omega
    simp [c0, c1, c3, h0, h1, h2, h3] at h ⊢
    exact h wa hf
  by_cases h2' : 1099511627776 < s.len
  · have h3 : 1099511627776 < max s.start s.len := by omega
    simp [c0, c1, c3, c4, h0, h1, h2, h2', h3] at h ⊢
    exact h wa hf
  have h3 : ¬ 1099511627776 < max s.start s.len := by omega
  rw [if_neg (by simp [h0, h1, h3]), orK2] at h
  simp [c0, c1, c3, c4, h0, h1, h2, h2']
  unfold M.winnowref03_Right.j0
  simp [c5]
  rw [M.winnowref03_Name.fcall]
  refine refName_ok _ fun w2 f2 => ?_
  have hb2 : boxS w2 w.heap.size s := f2.heap hb fun h => h
  have d6 := boxS_at hb2 6 _ rfl
  by_cases n1 : nameK s.service = 0
  · simp [n1, d6] at h ⊢
    rw [M.winnowref03_Name.fcall]
    refine refName_ok _ fun w3 f3 => ?_
    have hh := h w3 ((hf.trans f2).trans f3)
    rcases nameK_or s.name with n2 | n2
    · simp [n2] at hh ⊢; exact hh
    · simp [n2] at hh ⊢; exact hh
  · have n5 : nameK s.service = 5 := (nameK_or _).resolve_left n1
    have hh := h w2 (hf.trans f2)
    simp [n5] at hh ⊢
    exact hh
end Go.Proofs.Ytkjhekflgghbdaa
set_option maxRecDepth 100000
namespace Go.Proofs.Ytkjhekflgghbdaa
open Go.Eng
def spanC (s : Spn) : Array Value := #[.int .u64 s.trace, .int .u64 s.id, .int .u64 s.parent, .int .u64 s.start, .int .u64 s.len, .string s.service, .string s.name, .bool s.fail]
def insR (t : RT) : List RT → List RT
  | [] => [t]
  | x :: r => if x.id < t.id then x :: insR t r else t :: x :: r
theorem insR_at (t : RT) : ∀ (ts : List RT) (k : Nat), k ≤ ts.length → (∀ j (h : j < ts.length), j < k → ts[j].id < t.id) → (∀ h : k < ts.length, ¬ ts[k].id < t.id) → insR t ts = ts.take k ++ [t] ++ ts.drop k
  | [], k, hk, _, _ => by simp at hk; subst hk; rfl
  | x :: r, 0, _, _, h2 => by
    have := h2 (by simp)
    simp only [List.getElem_cons_zero] at this
    rw [insR, if_neg this]; rfl
  | x :: r, k + 1, hk, h1, h2 => by
    have hx := h1 0 (by simp) (by omega)
    simp only [List.getElem_cons_zero] at hx
    rw [insR, if_pos hx, insR_at t r k (by simpa using hk) (fun j h hj => h1 (j + 1) (by simpa using h) (by omega)) (fun h => h2 (by simpa using h))]
    simp
def InI (w0 : World) (ts : List RT) (k : Int) : KL := fun x w1 => ∃ (i : Nat), x = [.int .i64 (i : Nat)] ∧ Fr (fun _ => False) w0 w1 ∧ i ≤ ts.length ∧ ∀ j (h : j < ts.length), j < i → ts[j].id < k
section
variable {w0 w : World} {R : List Asn} {p sb : Nat} {g : Cfg} {v : Value} {cs : List RC} {ts : List RT} {s : Spn}
theorem box_cells (S : St w0 w (blkA sb (spanC s) T.api_Span :: R)) : (∀ k v, (encS s)[k]? = some v → cellOf w sb k = some v) ∧ cellOf w sb 0 = some (.int .u64 s.trace) ∧ cellOf w sb 1 = some (.int .u64 s.id) ∧ ∀ K, ldN P 8 sb 0 w K = K (aggS s) w := by
  have hb : boxS w sb s := S.blk
  exact ⟨boxS_at hb, boxS_at hb 0 _ rfl, boxS_at hb 1 _ rfl, fun K => ldS (fun k v hk => by rw [Nat.zero_add]; exact boxS_at hb k v hk) K⟩
theorem perm_put {X Y R : List Asn} {a1 a2 a3 : Asn} : ((X ++ Y) ++ a1 :: a2 :: a3 :: R).Perm ((X ++ ([a3] ++ Y)) ++ a1 :: a2 :: R) := by
  rw [List.append_assoc, List.append_assoc]
  refine List.Perm.append_left X ?_
  have := List.perm_middle (l₁ := Y ++ [a1, a2]) (a := a3) (l₂ := R)
  simpa using this
def core (p sb : Nat) (g : Cfg) (v : Value) (cs : List RC) (s : Spn) (R : List Asn) : List Asn := blkA p (headR16 g v) T.winnowref16_Buffer :: rowA T.winnowref16_Trace 4 encRC v cs :: allA (spansR cs) :: blkA sb (spanC s) T.api_Span :: R
/-- The buffer, with its row turned. -/
theorem put_fin {vF : Value} {x : RC} {k : Nat} (hk : k ≤ cs.length) {ex : List Asn} (hx : x.1.l = [s]) (S : St w0 w (rowA T.winnowref16_Trace 4 encRC vF (cs.take k ++ [x] ++ cs.drop k) :: rowA T.api_Span 8 encS x.2.v [s] :: core p sb g v cs s R)) {K : KV} (h : ∀ w', St w0 w' (rbA p g ((cs.take k ++ [x] ++ cs.drop k).map Prod.fst) :: R) → K (.int .i64 0) w') :
    stT P T.sl_winnowref16_Trace (.pointer (some ⟨p, 3, none⟩)) vF w fun _ w => K (.int .i64 0) w := by
  obtain ⟨a', cap', hv', _⟩ : Sl w 4 encRC vF (cs.take k ++ [x] ++ cs.drop k) := S.row encRC_len
  generalize (cs.take k ++ [x] ++ cs.drop k).length = n1 at hv'
  subst hv'
  obtain ⟨_, _, _, g3, gz⟩ := rb_cells S.up2.blk
  have S5 : St w0 (w.setCell ⟨p, 3, none⟩ (.slice a' n1 cap')) (blkA p (headR16 g (.slice a' n1 cap')) T.winnowref16_Buffer :: _) := S.up2.turn ((Fr.refl (fun x => x = p) w).setCell (.inl rfl) _ _) ((setCell_at S.up2.blk).trans rfl)
  simp [g3, gz]
  refine h _ (mkRb (v := .slice a' n1 cap') rfl ?_)
  have T1 := S5.up3.drop
  have T2 : St w0 (w.setCell ⟨p, 3, none⟩ (.slice a' n1 cap')) (allA (spansR cs) :: blkA p (headR16 g (.slice a' n1 cap')) T.winnowref16_Buffer :: rowA T.winnowref16_Trace 4 encRC (.slice a' n1 cap') (cs.take k ++ [x] ++ cs.drop k) :: rowA T.api_Span 8 encS x.2.v [s] :: blkA sb (spanC s) T.api_Span :: R) := T1.up3
  have T3 := T2.up4.drop
  have T4 := St.all.1 T3
  have e : spansR (cs.take k ++ [x] ++ cs.drop k) = spansR (cs.take k) ++ ([rowA T.api_Span 8 encS x.2.v [s]] ++ spansR (cs.drop k)) := by
    unfold spansR
    rw [List.map_append, List.map_append, List.map_cons, List.map_nil, hx, List.append_assoc]
  have e2 : spansR cs = spansR (cs.take k) ++ spansR (cs.drop k) := by unfold spansR; rw [← List.map_append, List.take_append_drop]
  rw [e2] at T4
  have T5 : St w0 (w.setCell ⟨p, 3, none⟩ (.slice a' n1 cap')) (spansR (cs.take k ++ [x] ++ cs.drop k) ++ (blkA p (headR16 g (.slice a' n1 cap')) T.winnowref16_Buffer :: rowA T.winnowref16_Trace 4 encRC (.slice a' n1 cap') (cs.take k ++ [x] ++ cs.drop k) :: R)) := by
    rw [e]
    exact T4.perm perm_put
  exact (St.all.2 T5).dn2
theorem core_cells {W : World} (S : St w0 W (core p sb g v cs s R)) : cellOf W p 3 = some v ∧ cellOf W sb 0 = some (.int .u64 s.trace) ∧ ∀ K, ldN P 8 sb 0 W K = K (.agg (spanC s)) W := by
  obtain ⟨_, _, _, c3, _⟩ := rb_cells S.blk
  obtain ⟨_, b0, _, bl⟩ := box_cells S.up3
  exact ⟨c3, b0, bl⟩
theorem put_tail {k : Nat} (hk : k ≤ cs.length) (hl : cs.length ≤ 1000) {x : RC} (hx : x.1.l = [s]) {vt vx vb : Value} (rb : ∀ {w1}, Sl w1 4 encRC v cs → Sl w1 4 encRC vb (cs.drop k))
    (S : St w0 w (rowA T.winnowref16_Trace 4 encRC vt (cs.take k) :: rowA T.winnowref16_Trace 4 encRC vx [x] :: rowA T.api_Span 8 encS x.2.v [s] :: core p sb g v cs s R)) {K : KV} (h : ∀ w', St w0 w' (rbA p g ((cs.take k ++ [x] ++ cs.drop k).map Prod.fst) :: R) → K (.int .i64 0) w') :
    biT P .append #[T.sl_winnowref16_Trace, T.sl_winnowref16_Trace] T.sl_winnowref16_Trace [false, false] [vt, vx] w fun t85 w => (ld1 P p 3 w fun v' w' => w' = w ∧ v' = v) ∧ biT P .append #[T.sl_winnowref16_Trace, T.sl_winnowref16_Trace] T.sl_winnowref16_Trace [false, false] [t85, vb] w fun t92 w => stT P T.sl_winnowref16_Trace (.pointer (some ⟨p, 3, none⟩)) t92 w fun _ w => K (.int .i64 0) w := by
  refine Go.Eng.moreRow et.sl_winnowref16_Trace encRC_len encRC_one S (S.swap.row encRC_len) (by simp; omega) (by decide) fun w2 v2 S2 => ?_
  obtain ⟨c3, _, _⟩ := core_cells S2.drop.drop.drop
  refine ⟨by simp [c3], ?_⟩
  have hs : Sl w2 4 encRC v cs := (S2.drop.drop.drop.swap).row encRC_len
  refine Go.Eng.moreRow et.sl_winnowref16_Trace encRC_len encRC_one S2 (rb hs) (by simp; omega) (by decide) fun w3 v3 S3 => ?_
  exact put_fin hk (ex := []) hx S3.swap.drop h
set_option maxHeartbeats 4000000 in
theorem rins_st {k : Nat} {due : Int} (S : St w0 w (core p sb g v cs s R)) (hk : k ≤ cs.length) (hl : cs.length ≤ 1000) {x3 : List Value} (h3 : gv x3 0 = .int .u64 due) {K : KV} (h : ∀ w', St w0 w' (rbA p g ((cs.map Prod.fst).take k ++ [⟨s.trace, due, [s], false⟩] ++ (cs.map Prod.fst).drop k) :: R) → K (.int .i64 0) w') :
    M.pwinnowref16_Buffer_Put.j4 (.pointer (some ⟨p, 0, none⟩)) [.int .i64 (k : Nat)] (.pointer (some ⟨sb, 0, none⟩)) x3 w K := by
  unfold M.pwinnowref16_Buffer_Put.j4
  have S0 : St w0 (dr w 1) (core p sb g v cs s R) := S.step ((Fr.refl _ w).dr 1)
  obtain ⟨c3', b0', bl'⟩ := core_cells S0
  have hs : Sl w 4 encRC v cs := S.swap.row encRC_len
  obtain ⟨va, ha, ra0⟩ := sub_any (t := T.sl_winnowref16_Trace) hs (by kernel_rfl) (by kernel_rfl) (lo := none) (hi := some (.int .i64 (k : Nat))) (i := 0) (j := k) (.inl ⟨rfl, rfl⟩) (.inr ⟨_, rfl⟩) (Nat.zero_le _) hk
  obtain ⟨vb, hb, rb0⟩ := sub_any (t := T.sl_winnowref16_Trace) hs (by kernel_rfl) (by kernel_rfl) (lo := some (.int .i64 (k : Nat))) (hi := none) (i := k) (j := cs.length) (.inr ⟨_, rfl⟩) (.inl ⟨rfl, rfl⟩) hk (Nat.le_refl _)
  have ra : ∀ {w1}, Sl w1 4 encRC v cs → Sl w1 4 encRC va (cs.take k) := fun h => by have := ra0 h; rwa [List.drop_zero, Nat.sub_zero] at this
  have rb : ∀ {w1}, Sl w1 4 encRC v cs → Sl w1 4 encRC vb (cs.drop k) := fun h => by have := rb0 h; rwa [List.take_of_length_le (by simp)] at this
  have g0 : gv [Value.int .i64 (k : Nat)] 0 = .int .i64 (k : Nat) := rfl
  simp only [spanC] at bl'
  simp only [g0, h3]
  simp (maxSteps := 4000000) [c3', b0', bl', ha, hb]
  have hfin : ∀ {sp : RS} {w' : World}, St w0 w' (rbA p g ((cs.take k ++ [((⟨s.trace, due, [s], false⟩ : RT), sp)] ++ cs.drop k).map Prod.fst) :: R) → K (.int .i64 0) w' := fun {sp w'} S' => h w' (by simpa [List.map_append, List.map_take, List.map_drop] using S')
  -- the worlds that stand ahead
  have z1 : ((dr w 1).alloc (.cells #[] T.winnowref16_Trace)).heap.size = w.heap.size + 1 := by rw [alloc_size]; rfl
  have z2 : ((dr w 1).alloc (.cells (spanC s) T.api_Span)).heap.size = w.heap.size + 1 := by rw [alloc_size]; rfl
  have z3 : (((dr w 1).alloc (.cells #[] T.winnowref16_Trace)).alloc (.cells (spanC s) T.api_Span)).heap.size = w.heap.size + 1 + 1 := by rw [alloc_size, z1]
  have z4 : (((dr w 1).alloc (.cells (spanC s) T.api_Span)).alloc (.cells #[] T.winnowref16_Trace)).heap.size = w.heap.size + 1 + 1 := by rw [alloc_size, z2]
  have hspan : ∀ {W : World} {L : List Asn}, St w0 W L → St w0 (W.alloc (.cells (spanC s) T.api_Span)) (rowA T.api_Span 8 encS (.slice (some ⟨W.heap.size, 0, none⟩) 1 1) [s] :: L) := fun S' => St.newRow (l := [s]) S' encS_len (by simp [spanC, encS]) (by simp [maxLen])
  have hnil : ∀ {W : World} {L : List Asn}, St w0 W L → St w0 (W.alloc (.cells #[] T.winnowref16_Trace)) (rowA T.winnowref16_Trace 4 encRC (.slice (some ⟨W.heap.size, 0, none⟩) 0 0) ([] : List RC) :: L) := fun S' => St.newRow (l := ([] : List RC)) S' encRC_len rfl (by simp)
  have htr : ∀ {W : World} {L : List Asn} (n : Nat), St w0 W L → St w0 (W.alloc (.cells #[.int .u64 s.trace, .int .u64 due, .slice (some ⟨n, 0, none⟩) 1 1, .bool false] T.winnowref16_Trace)) (rowA T.winnowref16_Trace 4 encRC (.slice (some ⟨W.heap.size, 0, none⟩) 1 1) [((⟨s.trace, due, [s], false⟩ : RT), (⟨some ⟨n, 0, none⟩, 1, 1⟩ : RS))] :: L) := fun n S' => St.newRow (l := [((⟨s.trace, due, [s], false⟩ : RT), (⟨some ⟨n, 0, none⟩, 1, 1⟩ : RS))]) S' encRC_len (by simp [encRC, RS.v]) (by simp [maxLen])
  have y0 : (dr w 1).heap.size = w.heap.size := rfl
  have S1 := hnil S0
  have S12 := hspan S1
  have S12x := htr (w.heap.size + 1) S12
  have S2 := hspan S0
  have S21 := hnil S2
  have S21x := htr w.heap.size S21
  have S2x := htr w.heap.size S2
  have S2x1 := hnil S2x
  have z5 : (((dr w 1).alloc (.cells (spanC s) T.api_Span)).alloc (.cells #[.int .u64 s.trace, .int .u64 due, .slice (some ⟨w.heap.size, 0, none⟩) 1 1, .bool false] T.winnowref16_Trace)).heap.size = w.heap.size + 1 + 1 := by rw [alloc_size, z2]
  rw [y0] at S1 S12 S12x S2 S21 S21x S2x S2x1
  rw [z1] at S12 S12x
  rw [z3] at S12x
  rw [z2] at S21 S21x S2x S2x1
  rw [z4] at S21x
  rw [z5] at S2x1
  obtain ⟨a3, a0, al⟩ := core_cells S1.drop
  obtain ⟨b3, b0, bl⟩ := core_cells S12.drop.drop
  obtain ⟨d3, d0, dl⟩ := core_cells S12x.drop.drop.drop
  obtain ⟨e3, e0, el⟩ := core_cells S2.drop
  obtain ⟨f3, f0, fl⟩ := core_cells S21.drop.drop
  obtain ⟨m3, m0, ml⟩ := core_cells S21x.drop.drop.drop
  obtain ⟨n3, n0, nl⟩ := core_cells S2x.drop.drop
  obtain ⟨q3, q0, ql⟩ := core_cells S2x1.drop.drop.drop
  simp only [spanC] at a3 a0 al b3 b0 bl d3 d0 dl e3 e0 el f3 f0 fl m3 m0 ml n3 n0 nl q3 q0 ql
  refine ⟨⟨by simp [a3], by simp [a0, al], by simp [a0, al], by simp [a3], ?_, by simp [b3], by simp [b0, bl], by simp [b3], ?_, by simp [d3], ?_⟩, by simp [e3], by simp [e0, el], by simp [e3], ⟨by simp [f3], by simp [f0, fl], by simp [f0, fl], by simp [f3], ?_, by simp [m3], ?_⟩, by simp [n3], by simp [q3], by simp [q0, ql], by simp [q0, ql], by simp [q3], ?_⟩
  · refine Go.Eng.moreRow et.sl_winnowref16_Trace encRC_len encRC_one S1 (ra (S1.drop.swap.row encRC_len)) (by simp; omega) (by decide) fun w2 v2 T1 => ?_
    rw [List.nil_append] at T1
    have T2 := hspan T1
    have T3 := htr w2.heap.size T2
    have y1 : (w2.alloc (.cells (spanC s) T.api_Span)).heap.size = w2.heap.size + 1 := alloc_size _ _
    rw [y1] at T3
    obtain ⟨a3, a0, al⟩ := core_cells T1.drop
    obtain ⟨b3, b0, bl⟩ := core_cells T2.drop.drop
    obtain ⟨d3, d0, dl⟩ := core_cells T3.drop.drop.drop
    simp only [spanC] at a3 a0 al b3 b0 bl d3 d0 dl
    refine ⟨by simp [a3], by simp [a0, al], by simp [a0, al], by simp [b3], by simp [b0, bl], by simp [b3], by simp [d3], ?_⟩
    exact put_tail hk hl (x := ((⟨s.trace, due, [s], false⟩ : RT), (⟨some ⟨w2.heap.size, 0, none⟩, 1, 1⟩ : RS))) rfl rb T3.up2 fun w' S' => hfin S'
  · refine Go.Eng.moreRow et.sl_winnowref16_Trace encRC_len encRC_one S12.swap (ra (S12.drop.drop.swap.row encRC_len)) (by simp; omega) (by decide) fun w2 v2 T1 => ?_
    rw [List.nil_append] at T1
    have T3 := htr (w.heap.size + 1) T1
    obtain ⟨a3, a0, al⟩ := core_cells T1.drop.drop
    obtain ⟨d3, d0, dl⟩ := core_cells T3.drop.drop.drop
    simp only [spanC] at a3 a0 al d3 d0 dl
    refine ⟨by simp [a3], by simp [a0, al], by simp [a0, al], by simp [d3], ?_⟩
    exact put_tail hk hl (x := ((⟨s.trace, due, [s], false⟩ : RT), (⟨some ⟨w.heap.size + 1, 0, none⟩, 1, 1⟩ : RS))) rfl rb T3.swap fun w' S' => hfin S'
  · refine Go.Eng.moreRow et.sl_winnowref16_Trace encRC_len encRC_one S12x.up2 (ra (S12x.drop.drop.drop.swap.row encRC_len)) (by simp; omega) (by decide) fun w2 v2 T1 => ?_
    rw [List.nil_append] at T1
    obtain ⟨a3, a0, al⟩ := core_cells T1.drop.drop.drop
    simp only [spanC] at a3 a0 al
    refine ⟨by simp [a3], by simp [a0, al], by simp [a0, al], ?_⟩
    exact put_tail hk hl (x := ((⟨s.trace, due, [s], false⟩ : RT), (⟨some ⟨w.heap.size + 1, 0, none⟩, 1, 1⟩ : RS))) rfl rb T1 fun w' S' => hfin S'
  · refine Go.Eng.moreRow et.sl_winnowref16_Trace encRC_len encRC_one S21 (ra (S21.drop.drop.swap.row encRC_len)) (by simp; omega) (by decide) fun w2 v2 T1 => ?_
    rw [List.nil_append] at T1
    have T3 := htr w.heap.size T1
    obtain ⟨a3, a0, al⟩ := core_cells T1.drop.drop
    obtain ⟨d3, d0, dl⟩ := core_cells T3.drop.drop.drop
    simp only [spanC] at a3 a0 al d3 d0 dl
    refine ⟨by simp [a3], by simp [a0, al], by simp [a0, al], by simp [d3], ?_⟩
    exact put_tail hk hl (x := ((⟨s.trace, due, [s], false⟩ : RT), (⟨some ⟨w.heap.size, 0, none⟩, 1, 1⟩ : RS))) rfl rb T3.swap fun w' S' => hfin S'
  · refine Go.Eng.moreRow et.sl_winnowref16_Trace encRC_len encRC_one S21x.swap (ra (S21x.drop.drop.drop.swap.row encRC_len)) (by simp; omega) (by decide) fun w2 v2 T1 => ?_
    rw [List.nil_append] at T1
    obtain ⟨a3, a0, al⟩ := core_cells T1.drop.drop.drop
    simp only [spanC] at a3 a0 al
    refine ⟨by simp [a3], by simp [a0, al], by simp [a0, al], ?_⟩
    exact put_tail hk hl (x := ((⟨s.trace, due, [s], false⟩ : RT), (⟨some ⟨w.heap.size, 0, none⟩, 1, 1⟩ : RS))) rfl rb T1 fun w' S' => hfin S'
  · refine Go.Eng.moreRow et.sl_winnowref16_Trace encRC_len encRC_one S2x1 (ra (S2x1.drop.drop.drop.swap.row encRC_len)) (by simp; omega) (by decide) fun w2 v2 T1 => ?_
    rw [List.nil_append] at T1
    obtain ⟨a3, a0, al⟩ := core_cells T1.drop.drop.drop
    simp only [spanC] at a3 a0 al
    refine ⟨by simp [a3], by simp [a0, al], by simp [a0, al], ?_⟩
    exact put_tail hk hl (x := ((⟨s.trace, due, [s], false⟩ : RT), (⟨some ⟨w.heap.size, 0, none⟩, 1, 1⟩ : RS))) rfl rb T1 fun w' S' => hfin S'
end
end Go.Proofs.Ytkjhekflgghbdaa
set_option maxRecDepth 100000
namespace Go.Proofs.Ytkjhekflgghbdaa
open Go.Eng
section
variable {w0 w : World} {R : List Asn} {p sb i : Nat} {g : Cfg} {v : Value} {cs : List RC} {ts : List RT} {s : Spn}
theorem rb_row (S : St w0 w (rowA T.winnowref16_Trace 4 encRC v cs :: R)) (hi : i < cs.length) : ∃ b cap, v = .slice (some ⟨b, 0, none⟩) cs.length cap := by
  obtain ⟨b, cap, cur, hv, _⟩ := S.rowOpen hi
  exact ⟨b, cap, hv⟩
/-- A trace's spans, turned. -/
theorem add_fin {vF : Value} {l : List Spn} (hi : i < cs.length) {b : Nat} {cap : Nat} (hv : v = .slice (some ⟨b, 0, none⟩) cs.length cap) (S : St w0 w (rowA T.api_Span 8 encS vF l :: core p sb g v cs s R)) {K : KV} (h : ∀ w', St w0 w' (rbA p g ((cs.map Prod.fst).set i { cs[i].1 with l := l }) :: R) → K (.int .i64 0) w') :
    stT P T.sl_api_Span (.pointer (some ⟨b, i * 4 + 2, none⟩)) vF w fun _ w => K (.int .i64 0) w := by
  obtain ⟨a', cap', hvF, _⟩ : SlS w vF l := S.row encS_len
  generalize hn1 : l.length = n1 at hvF
  obtain ⟨x, hx⟩ : ∃ x : RC, x = (({ cs[i].1 with l := l } : RT), (⟨a', n1, cap'⟩ : RS)) := ⟨_, rfl⟩
  have S1 : St w0 w (rowA T.winnowref16_Trace 4 encRC v cs :: rowA T.api_Span 8 encS vF l :: blkA p (headR16 g v) T.winnowref16_Buffer :: allA (spansR cs) :: blkA sb (spanC s) T.api_Span :: R) := S.up2
  obtain ⟨b2, cap2, hv2, k1, k2, k3, S2⟩ := S1.setCellAt encRC_len hi x (f := 2) (u := .slice a' n1 cap') (by omega) (by rw [hx]; rfl)
  have hbb := hv.symm.trans hv2
  obtain ⟨rfl, rfl⟩ : b2 = b ∧ cap2 = cap := by cases hbb; exact ⟨rfl, rfl⟩
  have d2 := k3 2 _ rfl
  rw [hvF]
  simp [d2, k2]
  refine h _ ?_
  have S3 := S2.up3
  have S4 := St.listAt (j := i) (L := spansR cs) (by simpa [spansR] using hi) S3
  have S5 := S4.drop
  have S6 := St.listSet (j := i) (L := spansR cs) (a := rowA T.api_Span 8 encS vF l) (by simpa [spansR] using hi) S5.up2
  have e : (spansR cs).set i (rowA T.api_Span 8 encS vF l) = spansR (cs.set i x) := by
    unfold spansR
    rw [List.map_set, hx, hvF]; rfl
  rw [e] at S6
  have hm : (cs.set i x).map Prod.fst = (cs.map Prod.fst).set i { cs[i].1 with l := l } := by rw [List.map_set, hx]
  exact mkRb (v := v) hm (S6.up3.drop.up2.perm (.cons _ (.swap _ _ _)))
set_option maxHeartbeats 4000000 in
theorem radd_st (S : St w0 w (core p sb g v cs s R)) (hi : i < cs.length) (hl : cs.length ≤ 1000) (hll : cs[i].1.l.length ≤ 1000) {K : KV} (h : ∀ w', St w0 w' (rbA p g ((cs.map Prod.fst).set i { cs[i].1 with l := cs[i].1.l ++ [s] }) :: R) → K (.int .i64 0) w') :
    M.pwinnowref16_Buffer_Put.j12 (.pointer (some ⟨p, 0, none⟩)) (.int .i64 (i : Nat)) (.pointer (some ⟨sb, 0, none⟩)) w K := by
  unfold M.pwinnowref16_Buffer_Put.j12
  have S0 : St w0 (dr w 1) (core p sb g v cs s R) := S.step ((Fr.refl _ w).dr 1)
  obtain ⟨b, cap, hv⟩ := rb_row S.swap hi
  have hia : ∀ w' K, iaT P T.sl_winnowref16_Trace v (.int .i64 (i : Nat)) w' K = K (.pointer (some ⟨b, i * 4, none⟩)) w' := fun w' K => by rw [hv]; simp [hi]
  have cells : ∀ {W : World}, St w0 W (core p sb g v cs s R) → cellOf W p 3 = some v ∧ cellOf W b (i * 4 + 2) = some (.slice cs[i].2.a cs[i].2.n cs[i].2.c) ∧ ∀ K, ldN P 8 sb 0 W K = K (.agg (spanC s)) W := fun {W} S' => by
    obtain ⟨c3, _, cl⟩ := core_cells S'
    obtain ⟨b2, o2, ha2, _, _, d2, _⟩ := rb_at S'.swap hi
    have := (ha2 W fun x _ => x = .pointer (some ⟨b2, o2, none⟩)).symm.trans (hia W fun x _ => x = .pointer (some ⟨b2, o2, none⟩))
    have hp : Value.pointer (some ⟨b, i * 4, none⟩) = .pointer (some ⟨b2, o2, none⟩) := this.mp rfl
    cases hp
    exact ⟨c3, d2, cl⟩
  obtain ⟨c3, c2, cl⟩ := cells S0
  have hspan : ∀ {W : World} {L : List Asn}, St w0 W L → St w0 (W.alloc (.cells (spanC s) T.api_Span)) (rowA T.api_Span 8 encS (.slice (some ⟨W.heap.size, 0, none⟩) 1 1) [s] :: L) := fun S' => St.newRow (l := [s]) S' encS_len (by simp [spanC, encS]) (by simp [maxLen])
  have hnil : ∀ {W : World} {L : List Asn}, St w0 W L → St w0 (W.alloc (.cells #[] T.api_Span)) (rowA T.api_Span 8 encS (.slice (some ⟨W.heap.size, 0, none⟩) 0 0) ([] : List Spn) :: L) := fun S' => St.newRow (l := ([] : List Spn)) S' encS_len rfl (by simp)
  have y0 : (dr w 1).heap.size = w.heap.size := rfl
  have z1 : ((dr w 1).alloc (.cells #[] T.api_Span)).heap.size = w.heap.size + 1 := by rw [alloc_size]; rfl
  have z2 : ((dr w 1).alloc (.cells (spanC s) T.api_Span)).heap.size = w.heap.size + 1 := by rw [alloc_size]; rfl
  have S1 := hnil S0
  have S12 := hspan S1
  have S2 := hspan S0
  have S21 := hnil S2
  rw [y0] at S1 S12 S2 S21
  rw [z1] at S12
  rw [z2] at S21
  have hsp : ∀ {W : World}, St w0 W (core p sb g v cs s R) → SlS W cs[i].2.v cs[i].1.l := fun {W} S' => rb_spans S'.up2 hi
  obtain ⟨a3, a0, al⟩ := cells S1.drop
  obtain ⟨b3, b0, bl⟩ := cells S12.drop.drop
  obtain ⟨e3, e0, el⟩ := cells S2.drop
  obtain ⟨f3, f0, fl⟩ := cells S21.drop.drop
  simp only [spanC] at cl a3 a0 al b3 b0 bl e3 e0 el f3 f0 fl
  simp (maxSteps := 4000000) [c3, c2, cl, hia]
  refine ⟨⟨by simp [al], by simp [a0], by simp [a3], ?_, by simp [b0], by simp [b3], ?_⟩, by simp [e0], by simp [e3], by simp [fl], by simp [f0], by simp [f3], ?_⟩
  · refine Go.Eng.moreRow et.sl_api_Span encS_len encS_one S1 (hsp S1.drop) (by simp; omega) (by decide) fun w2 v2 T1 => ?_
    rw [List.nil_append] at T1
    have T2 := hspan T1
    obtain ⟨a3, a0, al⟩ := cells T1.drop
    obtain ⟨b3, b0, bl⟩ := cells T2.drop.drop
    simp only [spanC] at a3 a0 al b3 b0 bl
    refine ⟨by simp [al], by simp [a3], by simp [b0], by simp [b3], ?_⟩
    refine Go.Eng.moreRow et.sl_api_Span encS_len encS_one T2.swap (T2.row encS_len) (by simp; omega) (by decide) fun w3 v3 T3 => ?_
    obtain ⟨g3, _, _⟩ := cells T3.drop.drop
    exact ⟨by simp [g3], add_fin hi hv T3.swap.drop h⟩
  · refine Go.Eng.moreRow et.sl_api_Span encS_len encS_one S12.swap (hsp S12.drop.drop) (by simp; omega) (by decide) fun w2 v2 T1 => ?_
    rw [List.nil_append] at T1
    obtain ⟨a3, a0, al⟩ := cells T1.drop.drop
    simp only [spanC] at a3 a0 al
    refine ⟨by simp [al], by simp [a3], ?_⟩
    refine Go.Eng.moreRow et.sl_api_Span encS_len encS_one T1 (T1.swap.row encS_len) (by simp; omega) (by decide) fun w3 v3 T3 => ?_
    obtain ⟨g3, _, _⟩ := cells T3.drop.drop
    exact ⟨by simp [g3], add_fin hi hv T3.swap.drop h⟩
  · refine Go.Eng.moreRow et.sl_api_Span encS_len encS_one S21 (hsp S21.drop.drop) (by simp; omega) (by decide) fun w2 v2 T1 => ?_
    rw [List.nil_append] at T1
    obtain ⟨a3, a0, al⟩ := cells T1.drop.drop
    simp only [spanC] at a3 a0 al
    refine ⟨by simp [al], by simp [a3], ?_⟩
    refine Go.Eng.moreRow et.sl_api_Span encS_len encS_one T1 (T1.swap.row encS_len) (by simp; omega) (by decide) fun w3 v3 T3 => ?_
    obtain ⟨g3, _, _⟩ := cells T3.drop.drop
    exact ⟨by simp [g3], add_fin hi hv T3.swap.drop h⟩
/-- The trace is over. -/
theorem over_fin (S : St w0 w (core p sb g v cs s R)) (hi : i < cs.length) {b cap : Nat} (hv : v = .slice (some ⟨b, 0, none⟩) cs.length cap) {K : KV} (h : ∀ w', St w0 w' (rbA p g ((cs.map Prod.fst).set i { cs[i].1 with over := true }) :: R) → K (.int .i64 9) w') :
    stT P T.bool (.pointer (some ⟨b, i * 4 + 3, none⟩)) (.bool true) w fun _ w => K (.int .i64 9) w := by
  obtain ⟨x, hx⟩ : ∃ x : RC, x = (({ cs[i].1 with over := true } : RT), cs[i].2) := ⟨_, rfl⟩
  obtain ⟨b2, cap2, hv2, k1, k2, k3, S2⟩ := S.swap.setCellAt encRC_len hi x (f := 3) (u := .bool true) (by omega) (by rw [hx]; rfl)
  have hbb := hv.symm.trans hv2
  obtain ⟨rfl, rfl⟩ : b2 = b ∧ cap2 = cap := by cases hbb; exact ⟨rfl, rfl⟩
  have d3 := k3 3 _ rfl
  simp [d3, k2]
  refine h _ ?_
  have e : spansR cs = spansR (cs.set i x) := by
    unfold spansR
    rw [List.map_set, hx]
    apply List.ext_getElem
    · simp
    · intro n h1 h2
      rw [List.getElem_set]
      split
      · rename_i hin; subst hin; simp
      · rfl
  have hm : (cs.set i x).map Prod.fst = (cs.map Prod.fst).set i { cs[i].1 with over := true } := by rw [List.map_set, hx]
  have S3 := S2.up3.drop
  rw [e] at S3
  exact mkRb (v := v) hm S3.swap
def HsI (w0 : World) (l : List Spn) (k : Int) : KL := fun x w1 => ∃ (u : Value) (j : Nat), x = [u, .int .i64 (j : Nat)] ∧ Fr (fun _ => False) w0 w1 ∧ j ≤ l.length ∧ (l.take j).any (fun x => decide (x.id = k)) = false
/-- A span that comes to a trace that is there. -/
theorem rhas_st (S : St w0 w (core p sb g v cs s R)) (hi : i < cs.length) (hl : cs.length ≤ 1000) (hll : cs[i].1.l.length ≤ 1000) {u : Value} {K : KV}
    (h4 : (cs[i].1.l.any fun x => decide (x.id = s.id)) = true → ∀ w', St w0 w' (rbA p g (cs.map Prod.fst) :: R) → K (.int .i64 0) w')
    (h5 : (cs[i].1.l.any fun x => decide (x.id = s.id)) = false → g.spans ≤ cs[i].1.l.length → ∀ w', St w0 w' (rbA p g ((cs.map Prod.fst).set i { cs[i].1 with over := true }) :: R) → K (.int .i64 9) w')
    (h6 : (cs[i].1.l.any fun x => decide (x.id = s.id)) = false → ¬ g.spans ≤ cs[i].1.l.length → ∀ w', St w0 w' (rbA p g ((cs.map Prod.fst).set i { cs[i].1 with l := cs[i].1.l ++ [s] }) :: R) → K (.int .i64 0) w') :
    loopT [u, .int .i64 0] w fun K9 x9 w => M.pwinnowref16_Buffer_Put.j9 (.pointer (some ⟨p, 0, none⟩)) (.int .i64 (i : Nat)) x9 (fun x8 w => M.pwinnowref16_Buffer_Put.j8 (.pointer (some ⟨p, 0, none⟩)) (.int .i64 (i : Nat)) x8 (.pointer (some ⟨sb, 0, none⟩)) w K) (.pointer (some ⟨sb, 0, none⟩)) K9 w K := by
  refine ⟨HsI w cs[i].1.l s.id, fun x _ => cs[i].1.l.length - ms x 1, ⟨_, 0, rfl, Fr.refl _ _, Nat.zero_le _, rfl⟩, ?_⟩
  rintro x w1 ⟨u1, j, rfl, f1, hj, hz⟩
  have S1 := S.step f1
  obtain ⟨b, cap, hv⟩ := rb_row S1.swap hi
  have hia : ∀ w' K, iaT P T.sl_winnowref16_Trace v (.int .i64 (i : Nat)) w' K = K (.pointer (some ⟨b, i * 4, none⟩)) w' := fun w' K => by rw [hv]; simp [hi]
  have cells : ∀ {W : World}, St w0 W (core p sb g v cs s R) → cellOf W p 3 = some v ∧ cellOf W p 1 = some (.int .i64 g.spans) ∧ cellOf W b (i * 4 + 2) = some (.slice cs[i].2.a cs[i].2.n cs[i].2.c) ∧ cellOf W sb 1 = some (.int .u64 s.id) := fun {W} S' => by
    obtain ⟨_, c1, _, c3, _⟩ := rb_cells S'.blk
    obtain ⟨_, _, s1, _⟩ := box_cells S'.up3
    obtain ⟨b2, o2, ha2, _, _, d2, _⟩ := rb_at S'.swap hi
    have := (ha2 W fun x _ => x = .pointer (some ⟨b2, o2, none⟩)).symm.trans (hia W fun x _ => x = .pointer (some ⟨b2, o2, none⟩))
    have hp : Value.pointer (some ⟨b, i * 4, none⟩) = .pointer (some ⟨b2, o2, none⟩) := this.mp rfl
    cases hp
    exact ⟨c3, c1, d2, s1⟩
  obtain ⟨c3, c1, c2, cs1⟩ := cells S1
  have hsp : SlS w1 cs[i].2.v cs[i].1.l := rb_spans S1.up2 hi
  have hlen : ∀ w' K, biT P .len #[T.sl_api_Span] T.int [false] [.slice cs[i].2.a cs[i].2.n cs[i].2.c] w' K = K (.int .i64 cs[i].1.l.length) w' := fun w' K => hsp.len_ok (by kernel_rfl) [false]
  unfold M.pwinnowref16_Buffer_Put.j9
  by_cases hjl : j < cs[i].1.l.length
  · have hjli : (j : Int) < (cs[i].1.l.length : Int) := by omega
    simp [c3, hia, c2, hlen, hjl]
    unfold M.pwinnowref16_Buffer_Put.j10
    obtain ⟨b3, o3, cap3, hv3, _, _, hc3⟩ := hsp.at hjl
    have k1 := hc3 1 _ rfl
    have hv3' : (Value.slice cs[i].2.a cs[i].2.n cs[i].2.c) = .slice (some ⟨b3, o3, none⟩) cs[i].1.l.length cap3 := hv3
    have hib : ∀ w' K, iaT P T.sl_api_Span (.slice cs[i].2.a cs[i].2.n cs[i].2.c) (.int .i64 (j : Nat)) w' K = K (.pointer (some ⟨b3, o3 + j * 8, none⟩)) w' := fun w' K => by rw [hv3']; simp [hjl]
    simp [c3, hia, c2, hib, k1, cs1]
    by_cases hk : cs[i].1.l[j].id = s.id
    · simp [hk]
      refine h4 (List.any_eq_true.2 ⟨_, List.getElem_mem hjl, by simpa using hk⟩) _ (mkRb (v := v) rfl ?_)
      exact (S1.step ((Fr.refl _ w1).dr 1)).up3.drop
    · simp [hk]
      have hw : IntKind.i64.wrap ((j : Int) + 1) = ((j + 1 : Nat) : Int) := by rw [wrap_id (by omega) (by omega)]; omega
      rw [hw]
      refine ⟨⟨_, j + 1, rfl, f1.dr 1, hjl, ?_⟩, by simp [ms, gv]; omega⟩
      rw [List.take_succ_eq_append_getElem hjl, List.any_append, hz]
      simpa using hk
  · have hjli : ¬ (j : Int) < (cs[i].1.l.length : Int) := by omega
    rw [List.take_of_length_le (by omega)] at hz
    simp [c3, hia, c2, hlen, hjl]
    unfold M.pwinnowref16_Buffer_Put.j8
    simp [c3, c1, hia, c2, hlen]
    have S2 := S1.step ((Fr.refl _ w1).dr 1)
    obtain ⟨e3, e1, e2, _⟩ := cells S2
    by_cases hsn : g.spans ≤ cs[i].1.l.length
    · simp [hsn, c3, hia]
      exact over_fin S2 hi hv (h5 hz hsn)
    · simp [hsn]
      exact radd_st S2 hi hl hll (h6 hz hsn)
end
end Go.Proofs.Ytkjhekflgghbdaa
set_option maxRecDepth 100000
namespace Go.Proofs.Ytkjhekflgghbdaa
open Go.Eng
section
variable {w0 w : World} {R : List Asn} {p sb : Nat} {g : Cfg} {v : Value} {cs : List RC} {ts : List RT} {s : Spn}
/-- A trace that is new: its place. -/
theorem rnewt_st (S : St w0 w (core p sb g v cs s R)) (hl : cs.length ≤ 1000) {now : Int} (hnow : 0 ≤ now ∧ now ≤ 18446744073709551615) (hw0 : 0 ≤ g.wait ∧ g.wait ≤ 1099511627776) {K : KV}
    (h : ∀ w', St w0 w' (rbA p g (insR ⟨s.trace, dueAt g now, [s], false⟩ (cs.map Prod.fst)) :: R) → K (.int .i64 0) w') :
    M.pwinnowref16_Buffer_Put.j2 (.pointer (some ⟨p, 0, none⟩)) (.int .u64 now) (.pointer (some ⟨sb, 0, none⟩)) w K := by
  unfold M.pwinnowref16_Buffer_Put.j2
  obtain ⟨_, _, c2, _, _⟩ := rb_cells S.blk
  have e1 : IntKind.u64.wrap (18446744073709551615 - g.wait) = 18446744073709551615 - g.wait := wrap_u64 (by omega) (by omega)
  have main : ∀ {w' : World} {due : Int}, St w0 w' (core p sb g v cs s R) → due = dueAt g now → loopT [.int .i64 0] w' fun K5 x5 w => M.pwinnowref16_Buffer_Put.j5 (.pointer (some ⟨p, 0, none⟩)) x5 (.pointer (some ⟨sb, 0, none⟩)) (fun x4 w => M.pwinnowref16_Buffer_Put.j4 (.pointer (some ⟨p, 0, none⟩)) x4 (.pointer (some ⟨sb, 0, none⟩)) [.int .u64 due] w K) K5 w K := by
    intro w' due S' hdue
    refine ⟨InI w' (cs.map Prod.fst) s.trace, fun x _ => cs.length - ms x 0, ⟨0, rfl, Fr.refl _ _, Nat.zero_le _, fun j _ h => by omega⟩, ?_⟩
    rintro x w1 ⟨k, rfl, f1, hk, hz⟩
    simp only [List.length_map] at hk
    have S1 := S'.step f1
    obtain ⟨_, _, _, c3, _⟩ := rb_cells S1.blk
    obtain ⟨_, b0, _⟩ := box_cells S1.up3
    have hlen := fun w' K => rb_len S1.swap w' K
    have g0 : gv [Value.int .i64 (k : Nat)] 0 = .int .i64 (k : Nat) := rfl
    have done : ∀ {w2 : World}, St w0 w2 (core p sb g v cs s R) → (∀ h : k < cs.length, ¬ cs[k].1.id < s.trace) → M.pwinnowref16_Buffer_Put.j4 (.pointer (some ⟨p, 0, none⟩)) [.int .i64 (k : Nat)] (.pointer (some ⟨sb, 0, none⟩)) [.int .u64 due] w2 K := fun {w2} S2 hlast => by
      refine rins_st S2 hk hl (due := due) rfl fun w3 S3 => h w3 ?_
      rw [insR_at _ _ k (by simpa using hk) (fun j hj hlt => hz j hj hlt) (fun hkk => by simpa using hlast (by simpa using hkk)), ← hdue]
      exact S3
    unfold M.pwinnowref16_Buffer_Put.j5
    by_cases hkl : k < cs.length
    · have hkli : (k : Int) < (cs.length : Int) := by omega
      obtain ⟨b, o, hia, d0, _⟩ := rb_at S1.swap hkl
      simp [c3, hlen, hkl, hia, d0, b0]
      by_cases hlt : cs[k].1.id < s.trace
      · simp [hlt]
        have hw : IntKind.i64.wrap ((k : Int) + 1) = ((k + 1 : Nat) : Int) := by rw [wrap_id (by omega) (by omega)]; omega
        rw [hw]
        refine ⟨⟨k + 1, rfl, f1.dr 1, by simp; omega, fun j hj hjk => ?_⟩, by simp [ms, gv]; omega⟩
        by_cases hjk2 : j = k
        · subst hjk2; simpa using hlt
        · exact hz j hj (by omega)
      · simp [hlt]
        exact done (S1.step ((Fr.refl _ w1).dr 1)) fun _ => hlt
    · have hkli : ¬ (k : Int) < (cs.length : Int) := by omega
      simp [c3, hlen, hkl]
      exact done (S1.step ((Fr.refl _ w1).dr 1)) fun hh => absurd hh hkl
  simp [c2, e1]
  by_cases hle : now ≤ 18446744073709551615 - g.wait
  · have e2 : IntKind.u64.wrap (now + g.wait) = now + g.wait := wrap_u64 (by omega) (by omega)
    simp [hle, c2, e2]
    exact main S (by unfold dueAt; omega)
  · simp [hle]
    exact main S (by unfold dueAt; omega)
theorem rput_st (S : St w0 w (rbA p g ts :: R)) (hl : ts.length ≤ 1000) (hll : ∀ t ∈ ts, t.l.length ≤ 1000) {now : Int} (hnow : 0 ≤ now ∧ now ≤ 18446744073709551615) (hw0 : 0 ≤ g.wait ∧ g.wait ≤ 1099511627776) {K : KV}
    (h1 : rightK s ≠ 0 → ∀ w', St w0 w' (rbA p g ts :: R) → K (.int .i64 (rightK s)) w')
    (h2 : rightK s = 0 → (∀ t ∈ ts, t.id ≠ s.trace) → g.traces ≤ ts.length → ∀ w', St w0 w' (rbA p g ts :: R) → K (.int .i64 8) w')
    (h3 : rightK s = 0 → (∀ t ∈ ts, t.id ≠ s.trace) → ¬ g.traces ≤ ts.length → ∀ w', St w0 w' (rbA p g (insR ⟨s.trace, dueAt g now, [s], false⟩ ts) :: R) → K (.int .i64 0) w')
    (h4 : ∀ (i : Nat) (hi : i < ts.length), rightK s = 0 → ts[i].id = s.trace → (ts[i].l.any fun x => decide (x.id = s.id)) = true → ∀ w', St w0 w' (rbA p g ts :: R) → K (.int .i64 0) w')
    (h5 : ∀ (i : Nat) (hi : i < ts.length), rightK s = 0 → ts[i].id = s.trace → (ts[i].l.any fun x => decide (x.id = s.id)) = false → g.spans ≤ ts[i].l.length → ∀ w', St w0 w' (rbA p g (ts.set i { ts[i] with over := true }) :: R) → K (.int .i64 9) w')
    (h6 : ∀ (i : Nat) (hi : i < ts.length), rightK s = 0 → ts[i].id = s.trace → (ts[i].l.any fun x => decide (x.id = s.id)) = false → ¬ g.spans ≤ ts[i].l.length → ∀ w', St w0 w' (rbA p g (ts.set i { ts[i] with l := ts[i].l ++ [s] }) :: R) → K (.int .i64 0) w') :
    fcallT P F.pwinnowref16_Buffer_Put [.pointer (some ⟨p, 0, none⟩), aggS s, .int .u64 now] w K := by
  rw [M.pwinnowref16_Buffer_Put.fcall]
  apply M.pwinnowref16_Buffer_Put.calls
  unfold M.pwinnowref16_Buffer_Put
  rw [box_agg]
  have S1 : St w0 (w.alloc (.cells (spanC s) T.api_Span)) (blkA w.heap.size (spanC s) T.api_Span :: rbA p g ts :: R) := S.add ((Fr.refl _ w).alloc _) (B := fun x => x = w.heap.size) ⟨by rw [alloc_heap, if_pos rfl], rfl⟩ fun x hx => by subst hx; rw [alloc_size]; omega
  obtain ⟨_, _, _, bl⟩ := box_cells S1
  show joinT _ _
  have ew : w.alloc (.cells #[.int .u64 s.trace, .int .u64 s.id, .int .u64 s.parent, .int .u64 s.start, .int .u64 s.len, .string s.service, .string s.name, .bool s.fail] T.api_Span) = w.alloc (.cells (spanC s) T.api_Span) := rfl
  simp only [ew]
  generalize w.alloc (.cells (spanC s) T.api_Span) = w1 at *
  generalize w.heap.size = sb at *
  simp [bl]
  rw [M.winnowref03_Right.fcall]
  refine refRight_ok s fun w2 f2 => ?_
  have S2 := S1.step f2
  by_cases hr : rightK s = 0
  · rw [hr]
    simp
    unfold M.pwinnowref16_Buffer_Put.j0
    obtain ⟨_, b0, _, _⟩ := box_cells S2
    simp [b0]
    obtain ⟨v, cs, hcs, S3⟩ := unRb S2.swap
    have S4 : St w0 w2 (core p sb g v cs s R) := S3.dn3 |> fun _ => S3
    subst hcs
    refine rfind_ok S2.swap hl s.trace (fun hno => ?_) fun i hi he _ => ?_
    · simp
      obtain ⟨c0, _, _, c3, _⟩ := rb_cells S4.blk
      have hlen := fun w' K => rb_len S4.swap w' K
      simp [c3, c0, hlen]
      simp only [List.length_map] at h2 h3 hl
      by_cases hg : g.traces ≤ cs.length
      · simp [hg]
        exact h2 hr hno hg _ (S2.step ((Fr.refl _ w2).dr 1)).drop
      · simp [hg]
        exact rnewt_st (S4.step ((Fr.refl _ w2).dr 1)) hl hnow hw0 (h3 hr hno hg)
    · simp only [List.length_map] at hi hl
      have hn0 : ¬ (i : Int) < 0 := by omega
      simp [hn0]
      have hlli := hll cs[i].1 (List.mem_map_of_mem (List.getElem_mem hi))
      have hi' : i < (cs.map Prod.fst).length := by simpa using hi
      have ei : (cs.map Prod.fst)[i] = cs[i].1 := by simp
      have h4' := h4 i hi' hr he
      have h5' := h5 i hi' hr he
      have h6' := h6 i hi' hr he
      rw [ei] at h4' h5' h6'
      exact rhas_st S4 hi hl hlli h4' h5' h6'
  · simp [hr]
    exact h1 hr w2 S2.drop
end
end Go.Proofs.Ytkjhekflgghbdaa
