/-
  A buffer of traces: what is due. No condition.
  A buffer of traces: Get. No condition.
  The laws' own small functions: two rows of numbers, the chapter's example. No condition.
  A buffer of traces: Take, Delay. No condition.
  A buffer of traces, with what stands beside it. No condition.
  The law BufferDue. No condition.
  The law BufferDue: its first loop. No condition.
  The law BufferDue: its second loop, and its end. No condition.
  The law BufferDue. No condition.
  The law BufferDue, from what is known of its arguments. No condition.
  The law BufferNils. No condition.
  Are two lists of spans the same? No condition.
  The document's answer for names of spans: one rune. No condition.
  The document's answer for names of spans: one rune, the walk. No condition.
  The document's answer for names of spans: one rune, whole. No condition.
  The document's rune and the model's. No condition.
  The document's answer for spans: runes, names, what is right. No condition.
  The law BufferTwice. No condition.
-/
import Derived.Test.YtgcpljghnlohbaaZTimPure
import Derived.Test.YtgcpljghnlohbaaZEngSimp
import Derived.Test.YtgcpljghnlohbaaRows
import Derived.Laws.StructEq
set_option maxRecDepth 100000
namespace Go.Proofs.Ytgcpljghnlohbaa
open Go.Eng

@[simp] theorem ex_1_0 (P : Program) (v : Value) (w : World) (K : KV) : exT P (.tuple #[v]) 0 w K = K v w := Eq.trans rfl rfl

theorem filter_perm {α : Type} (p : α → Bool) : ∀ l : List α, (l.filter (fun x => !p x) ++ l.filter p).Perm l
  | [] => .nil
  | x :: l => by
    have ih := filter_perm p l
    cases h : p x with
    | true => simp only [List.filter_cons, h, Bool.not_true, Bool.false_eq_true, if_false, if_true]; exact (List.perm_middle).trans (ih.cons x)
    | false => simp only [List.filter_cons, h, Bool.not_false, Bool.false_eq_true, if_false, if_true, List.cons_append]; exact ih.cons x

/-- The pairs that are due, in their order. -/
def duep (c : CT) (now : Int) : CT := (srt c).filter fun p => decide (p.2 ≤ now)
theorem cdue_eq (c : CT) (now : Int) : cdue c now = (duep c now).map (·.1) := rfl
theorem due_perm (c : CT) (now : Int) : (crest c now ++ duep c now).Perm c := by
  have h1 : (duep c now).Perm (c.filter fun p => decide (p.2 ≤ now)) := (srt_perm c).filter _
  have h2 : crest c now = c.filter fun p => !decide (p.2 ≤ now) := by
    unfold crest
    congr 1; funext p
    by_cases h : p.2 ≤ now
    · have : ¬ now < p.2 := by omega
      simp [h, this]
    · have : now < p.2 := by omega
      simp [h, this]
  rw [h2]
  exact (h1.append_left _).trans (filter_perm _ c)

def DueI (w0 : World) (hb : Nat) (g : Cfg) (O : Nat → Prop) (r : Nat) (m : MP) (es : List Ent) (c : CT) (ra it : Nat) : KL := fun _ w1 => ∃ (done : List Int) (m2 : MP), ItAt w1 it r .u64 m done ∧ MapAt w1 ra .u64 m2 ∧ (∀ k ∈ done, ∀ a, cget c k = some a → mget m2 k = some (.int .u64 a)) ∧ BufI w1 hb g O r m es c ∧ Fr (fun _ => False) w0 w1

def Due2 (w0 : World) (hb : Nat) (g : Cfg) (r : Nat) (m : MP) (es : List Ent) (c : CT) (ra : Nat) (m2 : MP) (v : Value) (now : Int) (O0 : Nat → Prop) : KL := fun x w1 => ∃ (i : Nat) (O : Nat → Prop) (c1 : CT), gv x 1 = .int .i64 (i : Nat) ∧ i ≤ (duep c now).length ∧ c1.Perm (crest c now ++ (duep c now).take i) ∧ HpB g r w1 hb O c1 ∧ (∀ b, O b → O0 b ∨ w0.heap.size ≤ b) ∧ MapAt w1 ra .u64 m2 ∧ ¬ O ra ∧
  w1.ownsRow w0.heap.size T.uint64 1 v (cdue c now).length (u64s (cdue c now)) ∧ (∀ x, v.ownBlock = some x → ¬ O x) ∧ Fr O0 w0 w1

theorem due_ok {w : World} {hb : Nat} {g : Cfg} {B : Nat → Prop} {A : List AE} {c : CT} (I : Buf w hb g B A c) (hA : A.length ≤ 1000) (now : Int) {K : KV}
    (h : ∀ w' v B', Buf w' hb g B' A c → w'.ownsRow w.heap.size T.uint64 1 v (cdue c now).length (u64s (cdue c now)) → (∀ x, v.ownBlock = some x → ¬ B' x) → Fr B w w' → (∀ b, B' b → B b ∨ w.heap.size ≤ b) → K v w') : callT P F.pbuffer_Buffer_Due [.pointer (some ⟨hb, 0, none⟩), .int .u64 now] w K := by
  apply M.pbuffer_Buffer_Due.calls
  unfold M.pbuffer_Buffer_Due
  simp only [joinT_eq]
  simp
  unfold M.pbuffer_Buffer_Due.j0
  simp only [joinT_eq]
  rw [mkm_eq]
  obtain ⟨⟨O, r, m, es, hAe, J, hB⟩, hlt⟩ := I
  have hcl : c.length = m.length := by
    have := J.ck.length_eq
    simp [ckeys] at this
    rw [this, J.ml]
  have hAl : A.length = m.length := by rw [hAe, List.length_map, J.ml]
  generalize hwa : w.alloc (.map #[] 0) = wa
  have hma : MapAt wa w.heap.size .u64 [] := by rw [← hwa]; exact MapAt_new w .u64
  have hfa : Fr (fun _ => False) w wa := by rw [← hwa]; exact (Fr.refl _ w).alloc _
  have sza : wa.heap.size = w.heap.size + 1 := by rw [← hwa]; simp
  have Ja := J.keep hfa fun _ _ h => h
  obtain ⟨_, _, _, q5⟩ := Ja.cells
  simp [q5]
  refine rg_map mt.map_uint64_p_buffer_entry Ja.mp fun wi hit hfi => ?_
  have hraw : w.heap.size < wa.heap.size := by omega
  refine ⟨DueI w hb g O r m es c w.heap.size wa.heap.size, fun _ w1 => itLeft w1 wa.heap.size m.length, ⟨[], [], hit, hma.of_heap (hfi.keep _ hraw fun h => h), fun k hk => by (cases hk), Ja.keep hfi fun _ _ h => h, hfa.trans hfi⟩, ?_⟩
  rintro x w1 ⟨done, m2, hit1, hm1, hdone, J1, f1⟩
  have hlt1 := hit1.lt
  have hrlt := J.mp.lt
  refine nx_map hit1 J.mn _ (fun hall => ?_) fun k v w2 hkm hkd hcur hf2 hless => ?_
  · simp
    have hOlt : ∀ b, O b → b < w.heap.size := @Hp.lt (bufE g r) _ _ _ _ J.hp
    have hnd : (ckeys c).Nodup := @Hp.nd (bufE g r) _ _ _ _ J.hp
    have hat : ∀ p ∈ c, mget m2 p.1 = some (.int .u64 p.2) := fun p hp => by
      refine hdone p.1 ?_ p.2 (cget_of_mem hnd hp)
      obtain ⟨e, he, het⟩ := List.mem_map.1 (J.ck.mem_iff.1 (List.mem_map_of_mem hp : p.1 ∈ ckeys c))
      have hgm := J.mg e he
      have hk : e.t ∈ mkeys m := by
        by_cases hx : e.t ∈ mkeys m
        · exact hx
        · rw [(mget_none_iff _ _).2 hx] at hgm; cases hgm
      obtain ⟨q, hq, hqk⟩ := List.mem_map.1 hk
      have := hall q hq
      rw [hqk, het] at this; exact this
    unfold M.pbuffer_Buffer_Due.j1
    simp only [joinT_eq]
    simp
    rw [M.ptimers_Heap_Pop.fcall]
    have sz1 := f1.size
    refine @pop_ok (bufE g r) _ _ _ _ J1.hp (by omega) now _ fun w2 v H2 r2 f2 => ?_
    have r2' : w2.ownsRow w.heap.size T.uint64 1 v (cdue c now).length (u64s (cdue c now)) := by
      refine ⟨r2.1, ?_⟩
      rcases r2.2 with hn | ⟨gb, cap, cur, hv, hg, rest⟩
      · exact .inl hn
      · exact .inr ⟨gb, cap, cur, hv, by omega, rest⟩
    have hvO : ∀ x, v.ownBlock = some x → ¬ O x := fun x hx hO => by
      obtain ⟨_, _, _, hge, _⟩ := row_at r2 hx
      have := hOlt x hO; omega
    have hnra : ¬ O w.heap.size := fun h => by have := hOlt _ h; omega
    have hlenv : ∀ w K, biT P .len #[T.sl_uint64] T.int [false] [v] w K = K (.int .i64 (cdue c now).length) w := fun w K => by
      rcases r2.2 with ⟨hv, hn⟩ | ⟨gb, cap, cur, hv, _⟩
      · rw [hv, len_sl (by simp), hn]
      · rw [hv, len_sl (by simp)]
    rw [hlenv]
    have hDl : (cdue c now).length = (duep c now).length := by rw [cdue_eq, List.length_map]
    have hDc : (duep c now).length ≤ c.length := by
      unfold duep
      have := List.length_filter_le (fun p : Int × Int => decide (p.2 ≤ now)) (srt c)
      have := (srt_perm c).length_eq
      omega
    have hndD : (ckeys (crest c now ++ duep c now)).Nodup := by
      unfold ckeys at hnd ⊢
      exact ((due_perm c now).map _).nodup_iff.2 hnd
    refine ⟨Due2 w hb g r m es c w.heap.size m2 v now O, fun x _ => (duep c now).length - ms x 1, ⟨0, O, crest c now, rfl, Nat.zero_le _, by simp, H2, fun b hb => .inl hb, hm1.of_heap (f2.keep _ hm1.lt hnra), hnra, r2', hvO, (f1.mono fun _ _ h => h.elim).trans' f2 fun b _ h => h⟩, ?_⟩
    rintro x w3 ⟨i, O3, c3, hx1, hi, hp3, H3, hO3, hm3, hra3, r3, hv3, f3⟩
    simp only [hx1]
    by_cases hil : i < (duep c now).length
    · have hil' : (i : Int) < (cdue c now).length := by omega
      have hil2 : i < (cdue c now).length := by omega
      simp [hil2]
      unfold M.pbuffer_Buffer_Due.j6
      simp only [joinT_eq, hx1]
      obtain ⟨gb, cap, cur, hvf, hgb, hgc, _⟩ := row_form r3 (by omega)
      have hvg : v.ownBlock = some gb := by rw [hvf]; rfl
      have hk0 : (cdue c now)[i] = (duep c now)[i].1 := by simp [cdue_eq]
      have ci := row_cell r3 hvg (i := i) (x := .int .u64 (duep c now)[i].1) (by simp [u64s, hil2, hk0])
      have hw : IntKind.i64.wrap ((i : Int) + 1) = ((i + 1 : Nat) : Int) := by rw [wrap_id (by omega) (by omega)]; rfl
      have hDm : (duep c now)[i] ∈ c := (due_perm c now).mem_iff.1 (List.mem_append_right _ (List.getElem_mem hil))
      have hm3d : MapAt (dr w3 1) w.heap.size .u64 m2 := hm3.of_heap rfl
      rw [hvf]
      simp [hil2, ci]
      rw [lu_eq mt.map_uint64_uint64 hm3d, hat _ hDm]
      simp
      rw [M.ptimers_Heap_Set.fcall]
      have H3d : HpB g r (dr w3 1) hb O3 c3 := @Hp.keep (bufE g r) _ _ _ _ (fun _ => False) _ H3 ((Fr.refl _ w3).dr 1) fun _ _ h => h
      have hc3 : c3.length ≤ c.length := by
        rw [hp3.length_eq, ← (due_perm c now).length_eq]; simp; omega
      refine @set_ok (bufE g r) _ _ _ _ H3d (by omega) _ _ _ fun w4 O4 H4 f4 p4 => ?_
      have f4' : Fr O3 w3 w4 := ⟨f4.size, f4.keep, f4.tape, f4.os, f4.output⟩
      have p4' : ∀ b, O4 b → O3 b ∨ w3.heap.size ≤ b := p4
      have s3 := f3.size
      have hnk : (duep c now)[i].1 ∉ ckeys c3 := fun hk => by
        have hk2 : (duep c now)[i].1 ∈ ckeys (crest c now ++ (duep c now).take i) := by
          unfold ckeys at hk ⊢
          exact (hp3.map _).mem_iff.1 hk
        have hsp : crest c now ++ duep c now = (crest c now ++ (duep c now).take i) ++ (duep c now)[i] :: (duep c now).drop (i + 1) := by
          rw [List.append_assoc, ← List.drop_eq_getElem_cons hil, List.take_append_drop]
        rw [hsp] at hndD
        unfold ckeys at hndD hk2
        rw [List.map_append, List.nodup_append] at hndD
        exact hndD.2.2 _ hk2 _ (by rw [List.map_cons]; exact List.mem_cons_self ..) rfl
      refine ⟨⟨i + 1, O4, _, by rw [hw]; rfl, by omega, ?_, H4, fun b hb => ?_, hm3.of_heap (f4'.keep _ hm3.lt hra3), fun h => ?_, ?_, fun x hx h => ?_, ?_⟩, ?_⟩
      · unfold cset
        rw [cdel_none hnk, List.take_succ_eq_append_getElem hil, ← List.append_assoc]
        exact (hp3.cons _).trans (List.perm_append_comm (l₁ := [_]))
      · rcases p4' b hb with h | h
        · exact hO3 b h
        · exact .inr (by omega)
      · rcases p4' _ h with h | h
        · exact hra3 h
        · have := hm3.lt; omega
      · rw [← hvf]
        exact row_keep r3 fun x hx => f4'.keep x (by obtain ⟨_, _, _, _, hc, _⟩ := row_at r3 hx; exact heap_lt hc) (hv3 x hx)
      · rw [← hvf] at hx
        rcases p4' _ h with h | h
        · exact hv3 x hx h
        · obtain ⟨_, _, _, _, hc, _⟩ := row_at r3 hx; have := heap_lt hc; omega
      · exact f3.trans' f4' fun b hlt h => (hO3 b h).elim id fun h => by omega
      · have : ms x 1 = i := by unfold ms; rw [hx1]; rfl
        rw [this]; simp [ms, gv, hw]; omega
    · have hil2 : ¬ i < (cdue c now).length := by omega
      simp [hil2]
      have hie : i = (duep c now).length := by omega
      subst hie
      rw [List.take_length] at hp3
      have H : HpB g r w3 hb O3 c := @Hp.congr (bufE g r) _ _ _ _ _ H3 (hp3.trans (due_perm c now))
      have J3 := J.heap f3 H hO3 J.ck
      refine h w3 v (fun b => B b ∨ O3 b) ⟨⟨O3, r, m, es, hAe, J3, fun b hb => ?_⟩, fun b hb => ?_⟩ r3 (fun x hx hB' => ?_) (f3.mono fun b _ hO => hB b (.inl hO)) fun b hb => ?_
      · rcases hb with h | h
        · exact .inr h
        · exact .inl (hB b (.inr h))
      · rcases hb with h | h
        · have := hlt b h; have := f3.size; omega
        · exact @Hp.lt (bufE g r) _ _ _ _ H b h
      · obtain ⟨_, _, _, hge, _⟩ := row_at r3 hx
        rcases hB' with h | h
        · have := hlt x h; omega
        · exact hv3 x hx h
      · rcases hb with h | h
        · exact .inl h
        · exact (hO3 b h).imp (fun h => hB b (.inl h)) id
  · simp
    unfold M.pbuffer_Buffer_Due.j3
    rw [en_map hcur]
    simp
    rw [M.ptimers_Heap_At.fcall]
    have hOlt : ∀ b, O b → b < w.heap.size := @Hp.lt (bufE g r) _ _ _ _ J.hp
    have J2 := J1.keep hf2 fun b hb h => by
      have := J.lt hb; omega
    have hmk : k ∈ ckeys c := by
      have h1 : mget m k ≠ none := fun hn => (mget_none_iff _ _).1 hn (List.mem_map_of_mem hkm)
      by_cases hex : ∃ e ∈ es, e.t = k
      · obtain ⟨e, he, rfl⟩ := hex
        exact J.ck.mem_iff.2 (List.mem_map_of_mem he)
      · exact absurd (J.mz k fun e he hk => hex ⟨e, he, hk⟩) h1
    refine @at_ok (bufE g r) _ _ _ _ J2.hp k _ (fun hn => absurd hmk ((cget_none_iff _ _).1 hn)) fun a ha => ?_
    simp
    have hm2' : MapAt w2 w.heap.size .u64 m2 := hm1.of_heap (hf2.keep _ hm1.lt (by omega))
    refine mu_ok mt.map_uint64_uint64 hm2' _ _ _ fun o hm3 => ?_
    have f3 : Fr (fun b => b = w.heap.size) w2 (World.setObj w2 w.heap.size o) := (Fr.refl (fun b => b = w.heap.size) w2).setObj (.inl rfl) o
    generalize hw3 : World.setObj w2 w.heap.size o = w3 at *
    have hit2 := hcur.1
    have hl2 := hit2.lt
    refine ⟨⟨k :: done, _, hit2.keep (f3.keep _ hl2.1 (by omega)) (f3.keep _ hl2.2 (by omega)), hm3, fun y hy b hb => ?_, J2.keep f3 fun b hb h => by have := J.lt hb; omega, ?_⟩, ?_⟩
    · rw [mget_mset]
      by_cases hky : k = y
      · rw [if_pos hky]
        subst hky
        rw [ha] at hb; cases hb; rfl
      · rw [if_neg hky]
        rcases List.mem_cons.1 hy with h | h
        · exact absurd h.symm hky
        · exact hdone y h b hb
    · exact (f1.trans' hf2 fun b hlt h => by omega).trans' f3 fun b hlt h => by omega
    · have : itLeft w3 wa.heap.size m.length = itLeft w2 wa.heap.size m.length := by
        unfold itLeft
        rw [f3.keep _ hl2.1 (by omega)]
      omega
end Go.Proofs.Ytgcpljghnlohbaa
set_option maxRecDepth 100000
namespace Go.Proofs.Ytgcpljghnlohbaa
open Go.Eng

theorem clone_ok {w : World} {v : Value} {l : List Spn} (hs : SlS w v l) (hlen : l.length ≤ 1000000) {K : KV} (h : ∀ w' v', SlS w' v' l → (∀ x, v'.ownBlock = some x → w.heap.size ≤ x ∧ x < w'.heap.size) → Fr (fun _ => False) w w' → K v' w') : callT P F.slices_Clone_api_Span_api_Span [v] w K := by
  apply M.slices_Clone_api_Span_api_Span.calls
  unfold M.slices_Clone_api_Span_api_Span
  simp only [joinT_eq]
  have hs' := hs
  obtain ⟨a, cap, rfl, _⟩ := hs'
  cases a with
  | none =>
    simp
    have hz : l = [] := by
      obtain ⟨a', cap', hv, _, _, h3⟩ := hs
      cases l with
      | nil => rfl
      | cons x l =>
        obtain ⟨b, o, ha, _⟩ := h3 0 x rfl
        injection hv with h1 _ _
        rw [← h1] at ha; cases ha
    subst hz
    exact h w _ Sl.nil (fun x hx => by simp [Value.ownBlock] at hx) (Fr.refl _ _)
  | some a =>
    simp
    have f0 : Fr (fun _ => False) w (w.alloc (.cells #[] T.api_Span)) := (Fr.refl _ w).alloc _
    refine app_sl et.sl_api_Span encS_len encS_one (base := w.heap.size) (Ow.empty (by rw [alloc_heap, if_pos rfl]) (Nat.le_refl _)) (hs.fr f0 fun _ _ _ h => h) (by simp; omega) (by decide) (by simp) _ fun v3 w3 o3 f3 g3 => ?_
    rw [List.nil_append] at o3
    exact h w3 v3 (o3.sl encS_len) (fun x hx => o3.lt hx) (f0.trans' f3 fun b hb hv => by simp [Value.ownBlock] at hv; omega)

theorem get_ok {w : World} {hb : Nat} {g : Cfg} {B : Nat → Prop} {A : List AE} {c : CT} (I : Buf w hb g B A c) (hl : ∀ e ∈ A, e.l.length ≤ 1000) (k : Int) {K : KV}
    (h0 : (∀ e ∈ A, e.t ≠ k) → K (.tuple #[.slice none 0 0, .bool false, .bool false]) w)
    (h1 : ∀ e ∈ A, e.t = k → ∀ w' v', SlS w' v' e.l → (∀ x, v'.ownBlock = some x → w.heap.size ≤ x ∧ x < w'.heap.size) → Fr (fun _ => False) w w' → K (.tuple #[v', .bool e.over, .bool true]) w') : callT P F.pbuffer_Buffer_Get [.pointer (some ⟨hb, 0, none⟩), .int .u64 k] w K := by
  obtain ⟨⟨O, r, m, es, hAe, J, hB⟩, hlt⟩ := I
  apply M.pbuffer_Buffer_Get.calls
  unfold M.pbuffer_Buffer_Get
  simp only [joinT_eq]
  obtain ⟨_, _, _, q5⟩ := J.cells
  simp [q5]
  rw [lu_eq mt.map_uint64_p_buffer_entry J.mp]
  rcases J.find k with ⟨hmn, hne⟩ | ⟨e, he, het, hme⟩
  · rw [hmn]
    simp
    refine h0 fun e he => ?_
    rw [hAe] at he
    obtain ⟨x, hx, rfl⟩ := List.mem_map.1 he
    exact hne x hx
  · rw [hme]
    have e1 : e.ptr = .pointer (some ⟨e.p, 0, none⟩) := rfl
    simp [e1]
    unfold M.pbuffer_Buffer_Get.j0
    simp [q5]
    rw [lu_eq mt.map_uint64_p_buffer_entry J.mp, hme]
    obtain ⟨c0, c1⟩ := cells2 (J.blk e he)
    simp [e1, c0, c1]
    rw [M.slices_Clone_api_Span_api_Span.fcall]
    have eA : e.abs ∈ A := by rw [hAe]; exact List.mem_map_of_mem he
    have hll : e.l.length ≤ 1000 := hl _ eA
    have fd : Fr (fun _ => False) w (dr w 1) := (Fr.refl _ w).dr 1
    refine clone_ok (((J.row e he).sl encS_len).fr fd fun _ _ _ h => h) (by omega) fun w2 v2 s2 o2 f2 => ?_
    have f2' := fd.trans f2
    obtain ⟨d0, d1⟩ := cells2 (f2'.heap (J.blk e he) fun h => h)
    simp [d1]
    exact h1 e.abs eA het w2 v2 s2 o2 f2'
end Go.Proofs.Ytgcpljghnlohbaa
set_option maxRecDepth 100000
namespace Go.Proofs.Ytgcpljghnlohbaa
open Go.Eng

def encU (k : Int) : List Value := [.int .u64 k]
theorem encU_len (p : Int) : (encU p).length = 1 := rfl
theorem encU_one (p : Int) : ∀ u ∈ encU p, oneC u = true := fun u hu => by
  simp only [encU, List.mem_cons, List.not_mem_nil, or_false] at hu
  subst hu; rfl
abbrev SlU (w : World) (v : Value) (l : List Int) : Prop := Sl w 1 encU v l
abbrev OwU (w : World) (base : Nat) (v : Value) (l : List Int) : Prop := Ow w base T.uint64 1 encU v l
theorem flat_encU (l : List Int) : l.flatMap encU = u64s l := by
  unfold u64s
  induction l with
  | nil => rfl
  | cons x l ih => rw [List.flatMap_cons, List.map_cons, ih]; rfl
theorem owU_of_row {w : World} {base n : Nat} {v : Value} {l : List Int} (h : w.ownsRow base T.uint64 1 v n (u64s l)) : OwU w base v l := by
  have hn : l.length = n := by have := row_len h; simpa [u64s] using this
  unfold OwU Ow
  rw [flat_encU, hn]; exact h
theorem slU_at {w : World} {v : Value} {l : List Int} (h : SlU w v l) {i : Nat} (hi : i < l.length) : ∃ b o cap, v = .slice (some ⟨b, o, none⟩) l.length cap ∧ b < w.heap.size ∧ cellOf w b (o + i) = some (.int .u64 l[i]) := by
  obtain ⟨b, o, cap, hv, hb, _, hr⟩ := h.at hi
  have := hr 0 _ rfl
  simp only [Nat.mul_one, Nat.add_zero] at this
  exact ⟨b, o, cap, hv, hb, this⟩

def UintsI (w : World) (l1 l2 : List Int) : KL := fun x w1 => ∃ (a : Value) (i : Nat), x = [a, .int .i64 (i : Nat)] ∧ i ≤ l1.length ∧ l1.take i = l2.take i ∧ Fr (fun _ => False) w w1
theorem uints_ok {w : World} {v1 v2 : Value} {l1 l2 : List Int} (h1 : SlU w v1 l1) (h2 : SlU w v2 l2) (hn : l1.length < 1000000) {K : KV}
    (h : ∀ w', Fr (fun _ => False) w w' → K (.bool (decide (l1 = l2))) w') : callT P F.winnowlaw16_uints [v1, v2] w K := by
  apply M.winnowlaw16_uints.calls
  unfold M.winnowlaw16_uints
  simp only [joinT_eq]
  rw [h1.len_ok (by simp), h2.len_ok (by simp)]
  by_cases hne : l1.length = l2.length
  · have hne' : (l1.length : Int) = l2.length := by omega
    simp [hne]
    unfold M.winnowlaw16_uints.j0
    simp only [joinT_eq]
    refine ⟨UintsI w l1 l2, fun x _ => l1.length - ms x 1, ⟨_, 0, rfl, Nat.zero_le _, by simp, Fr.refl _ _⟩, ?_⟩
    rintro x w1 ⟨a, i, rfl, hin, htk, hf1⟩
    have g1 : gv [a, .int .i64 (i : Int)] 1 = .int .i64 (i : Int) := rfl
    simp only [g1]
    have hr1 : SlU w1 v1 l1 := h1.fr hf1 fun _ _ _ h => h
    have hr2 : SlU w1 v2 l2 := h2.fr hf1 fun _ _ _ h => h
    rw [hr1.len_ok (by simp)]
    by_cases hlt : i < l1.length
    · have hlt2 : i < l2.length := by omega
      obtain ⟨b1, o1, c1, rfl, _, k1⟩ := slU_at hr1 hlt
      obtain ⟨b2, o2, c2, rfl, _, k2⟩ := slU_at hr2 hlt2
      have hw : IntKind.i64.wrap ((i : Int) + 1) = ((i + 1 : Nat) : Int) := by rw [wrap_id (by omega) (by omega)]; rfl
      simp [hlt]
      unfold M.winnowlaw16_uints.j3
      simp only [joinT_eq, g1]
      by_cases heq : l1[i] = l2[i]
      · simp [hlt, hlt2, k1, k2, heq, hw]
        refine ⟨⟨_, i + 1, rfl, by omega, ?_, hf1.dr 1⟩, by simp [ms, gv]; omega⟩
        rw [List.take_succ_eq_append_getElem hlt, List.take_succ_eq_append_getElem hlt2, htk, heq]
      · have hne : ¬ l1 = l2 := fun h => heq (by subst h; rfl)
        simp [hlt, hlt2, k1, k2, heq]
        have := h _ (hf1.dr 1)
        simpa [hne] using this
    · have hin' : i = l1.length := by omega
      subst hin'
      rw [List.take_of_length_le (by omega), List.take_of_length_le (by omega)] at htk
      simp
      have := h _ hf1
      simpa [htk] using this
  · have hne' : ¬ ((l1.length : Int) = l2.length) := by omega
    have hl : ¬ l1 = l2 := fun h => hne (by rw [h])
    simp [hne, hne']
    have := h w (Fr.refl _ _)
    simpa [hl] using this

/-! ### The example -/
def spn (t i : Int) : Spn := ⟨t, i, 0, 0, 0, ⟨#[97]⟩, ⟨#[98]⟩, false⟩
theorem nameA : nameK ⟨#[97]⟩ = 0 := by decide +kernel
theorem nameB : nameK ⟨#[98]⟩ = 0 := by decide +kernel
theorem right_spn {t i : Int} (ht : t ≠ 0) (hi : i ≠ 0) : rightK (spn t i) = 0 := by
  unfold rightK spn
  simp only [ht, hi, false_or, nameA, nameB]
  decide

theorem boxS_trace {w : World} {b : Nat} {s : Spn} (h : boxS w b s) (t : Int) : boxS (w.setCell ⟨b, 0, none⟩ (.int .u64 t)) b { s with trace := t } := by
  unfold boxS; rw [setCell_at h]; rfl
theorem boxS_id {w : World} {b : Nat} {s : Spn} (h : boxS w b s) (t : Int) : boxS (w.setCell ⟨b, 1, none⟩ (.int .u64 t)) b { s with id := t } := by
  unfold boxS; rw [setCell_at h]; rfl
theorem ldBox {w : World} {b : Nat} {s : Spn} (h : boxS w b s) (K : KV) : ldN P 8 b 0 w K = K (aggS s) w := ldS (fun k v hk => by rw [Nat.zero_add]; exact boxS_at h k v hk) K
theorem st_box {w : World} {b i : Nat} {s : Spn} (h : boxS w b s) (hi : i < 8) (k : IntKind) (x : Int) (K : KV) : st1 P b i (.int k x) w K = K undef (w.setCell ⟨b, i, none⟩ (.int k x)) :=
  st1_int k x (by rw [cellOf_of h, Array.getElem?_eq_getElem (by simpa using hi)]; rfl) (frzOf_of h i) K

theorem alive_ok {w : World} {K : KV} (h : ∀ w', Fr (fun _ => False) w w' → K (.bool true) w') : callT P F.winnowlaw16_alive [] w K := by
  apply M.winnowlaw16_alive.calls
  unfold M.winnowlaw16_alive
  rw [M.buffer_New.fcall]
  refine new_ok 1 1 5 (fun hx => by omega) fun g w1 hg1 hg2 hg3 _ _ _ _ _ I1 f1 => ?_
  have t1 : g.traces = 1 := by omega
  have t2 : g.spans = 1 := by omega
  simp
  unfold M.winnowlaw16_alive.j0
  simp
  generalize hwa : w1.alloc (.cells #[.int .u64 0, .int .u64 0, .int .u64 0, .int .u64 0, .int .u64 0, .string ⟨#[]⟩, .string ⟨#[]⟩, .bool false] T.api_Span) = wa
  have hba : wa.heap[w1.heap.size]? = some (.cells #[.int .u64 0, .int .u64 0, .int .u64 0, .int .u64 0, .int .u64 0, .string ⟨#[]⟩, .string ⟨#[]⟩, .bool false] T.api_Span (0, 0)) := by rw [← hwa, alloc_heap, if_pos rfl]
  have hfa : Fr (fun _ => False) w1 wa := by rw [← hwa]; exact (Fr.refl _ w1).alloc _
  refine stN_all (vs := encS (spn 1 1)) hba rfl (encS_one _) fun w2 hb2 fb => ?_
  have f2 : Fr (fun _ => False) w1 w2 := hfa.trans' fb fun g hg h' => by omega
  have bx2 : boxS w2 w1.heap.size (spn 1 1) := hb2
  have I2 := I1.keep f2 fun _ _ h => h
  have sz2 : w1.heap.size < w2.heap.size := heap_lt bx2
  generalize hB1 : (fun b => b = w.heap.size ∨ b = w.heap.size + 1) = B1 at *
  have hB1w : ∀ b, B1 b → w.heap.size ≤ b ∧ b < w1.heap.size := fun b hb => ⟨by rw [← hB1] at hb; omega, I1.lt b hb⟩
  have r11 : rightK (spn 1 1) = 0 := right_spn (by decide) (by decide)
  have r21 : rightK (spn 2 1) = 0 := right_spn (by decide) (by decide)
  have r12 : rightK (spn 1 2) = 0 := right_spn (by decide) (by decide)
  rw [ldBox bx2, M.pbuffer_Buffer_Put.fcall]
  refine put_ok I2 (by simp) (by simp) (spn 1 1) (by omega) (by omega) (fun hx => absurd r11 hx) (fun _ _ hx => by simp at hx; omega) (fun _ _ _ w3 B3 I3 f3 p3 => ?_) (fun _ e he => by simp at he) (fun _ e he => by simp at he) (fun _ e he => by simp at he)
  have hw5 : g.wait = 5 := hg3.symm
  have hd5 : dueAt g 0 = 5 := by unfold dueAt; rw [hw5]; decide
  have hc5 : cset [] (spn 1 1).trace (dueAt g 0) = [(1, 5)] := by rw [hd5]; rfl
  rw [hc5] at I3
  have I3' : Buf w3 (w.heap.size + 1) g B3 [⟨1, [spn 1 1], false⟩] [(1, 5)] := I3
  have nB1 : ¬ B1 w1.heap.size := fun hb => by have := (hB1w _ hb).2; omega
  have nB3 : ¬ B3 w1.heap.size := fun hb => by
    rcases p3 _ hb with h' | h'
    · exact nB1 h'
    · omega
  have bx3 : boxS w3 w1.heap.size (spn 1 1) := f3.heap bx2 nB1
  have F3 : Fr (fun _ => False) w w3 := (f1.trans f2).trans' f3 fun b hlt hb => by have := (hB1w b hb).1; omega
  have ge1 := f1.size
  have B3w : ∀ b, B3 b → w.heap.size ≤ b := fun b hb => by
    rcases p3 _ hb with h' | h'
    · exact (hB1w b h').1
    · have := f2.size; omega
  rw [st_box bx3 (by decide)]
  have bx4 : boxS (w3.setCell ⟨w1.heap.size, 0, none⟩ (.int .u64 2)) w1.heap.size (spn 2 1) := boxS_trace bx3 2
  have f4 : Fr (fun b => b = w1.heap.size) w3 (w3.setCell ⟨w1.heap.size, 0, none⟩ (.int .u64 2)) := (Fr.refl (fun b => b = w1.heap.size) w3).setCell (.inl rfl) 0 _
  generalize w3.setCell ⟨w1.heap.size, 0, none⟩ (.int .u64 2) = w4 at *
  have I4 := I3'.keep f4 fun b hb h' => nB3 (h' ▸ hb)
  have F4 : Fr (fun _ => False) w w4 := F3.trans' f4 fun b hlt h' => by omega
  rw [ldBox bx4, M.pbuffer_Buffer_Put.fcall]
  refine put_ok I4 (by simp) (by simp) (spn 2 1) (by omega) (by omega) (fun hx => absurd r21 hx) (fun _ _ _ w5 I5 f5 => ?_) (fun _ _ hx => by simp [t1] at hx) (fun _ e he het => by simp at he; subst he; exact absurd het (by decide)) (fun _ e he het => by simp at he; subst he; exact absurd het (by decide)) (fun _ e he het => by simp at he; subst he; exact absurd het (by decide))
  have bx5 : boxS w5 w1.heap.size (spn 2 1) := f5.heap bx4 fun h => h
  have F5 := F4.trans f5
  simp
  rw [st_box bx5 (by decide)]
  have bx6 : boxS (w5.setCell ⟨w1.heap.size, 0, none⟩ (.int .u64 1)) w1.heap.size (spn 1 1) := boxS_trace bx5 1
  have f6 : Fr (fun b => b = w1.heap.size) w5 (w5.setCell ⟨w1.heap.size, 0, none⟩ (.int .u64 1)) := (Fr.refl (fun b => b = w1.heap.size) w5).setCell (.inl rfl) 0 _
  generalize w5.setCell ⟨w1.heap.size, 0, none⟩ (.int .u64 1) = w6 at *
  skip
  rw [st_box bx6 (by decide)]
  have bx7 : boxS (w6.setCell ⟨w1.heap.size, 1, none⟩ (.int .u64 2)) w1.heap.size (spn 1 2) := boxS_id bx6 2
  have f7 : Fr (fun b => b = w1.heap.size) w6 (w6.setCell ⟨w1.heap.size, 1, none⟩ (.int .u64 2)) := (Fr.refl (fun b => b = w1.heap.size) w6).setCell (.inl rfl) 1 _
  generalize w6.setCell ⟨w1.heap.size, 1, none⟩ (.int .u64 2) = w7 at *
  have I7 := (I5.keep f6 fun b hb h' => nB3 (h' ▸ hb)).keep f7 fun b hb h' => nB3 (h' ▸ hb)
  have F7 : Fr (fun _ => False) w w7 := (F5.trans' f6 fun b hlt h' => by omega).trans' f7 fun b hlt h' => by omega
  rw [ldBox bx7, M.pbuffer_Buffer_Put.fcall]
  refine put_ok I7 (by simp) (by simp) (spn 1 2) (by omega) (by omega) (fun hx => absurd r12 hx) (fun _ hx => absurd rfl (hx ⟨1, [spn 1 1], false⟩ (by simp))) (fun _ hx => absurd rfl (hx ⟨1, [spn 1 1], false⟩ (by simp))) (fun _ e he _ hx => by simp at he; subst he; exact absurd hx (by decide)) (fun _ e he het _ _ w8 I8 f8 => ?_) (fun _ e he _ _ hx => by simp at he; subst he; simp [t2] at hx)
  have I8' : Buf w8 (w.heap.size + 1) g B3 [⟨1, [spn 1 1], true⟩] [(1, 5)] := I8
  have F8 : Fr (fun _ => False) w w8 := F7.trans' f8 fun b hlt hb => by have := B3w b hb; omega
  simp
  rw [M.pbuffer_Buffer_Get.fcall]
  refine get_ok I8' (by simp) 1 (fun hx => absurd rfl (hx ⟨1, [spn 1 1], true⟩ (by simp))) fun e he _ w9 v9 s9 o9 f9 => ?_
  simp at he
  subst he
  have I9 := I8'.keep f9 fun _ _ h => h
  have F9 := F8.trans f9
  simp
  have hl9 : ∀ w K, biT P .len #[T.sl_api_Span] T.int [false] [v9] w K = K (.int .i64 1) w := fun w K => s9.len_ok (by simp) _
  rw [hl9]
  simp
  rw [M.pbuffer_Buffer_Due.fcall]
  refine due_ok I9 (by simp) 4 fun w10 v10 B10 I10 r10 _ f10 p10 => ?_
  have hc4 : cdue [(1, 5)] 4 = [] := by simp [cdue, srt]
  rw [hc4] at r10
  have hl10 : ∀ w K, biT P .len #[T.sl_uint64] T.int [false] [v10] w K = K (.int .i64 0) w := fun w K => ((owU_of_row r10).sl encU_len).len_ok (by simp) _
  have F10 : Fr (fun _ => False) w w10 := F9.trans' f10 fun b hlt hb => by have := B3w b hb; omega
  rw [hl10]
  simp
  rw [M.pbuffer_Buffer_Due.fcall]
  refine due_ok I10 (by simp) 5 fun w11 v11 B11 I11 r11' _ f11 p11 => ?_
  have hc5' : cdue [(1, 5)] 5 = [1] := by simp [cdue, srt]
  rw [hc5'] at r11'
  have hl11 : ∀ w K, biT P .len #[T.sl_uint64] T.int [false] [v11] w K = K (.int .i64 1) w := fun w K => ((owU_of_row r11').sl encU_len).len_ok (by simp) _
  have ge9 := F9.size
  have F11 : Fr (fun _ => False) w w11 := F10.trans' f11 fun b hlt hb => by
    rcases p10 b hb with h' | h'
    · have := B3w b h'; omega
    · omega
  rw [hl11]
  simp
  exact h w11 F11
end Go.Proofs.Ytgcpljghnlohbaa
set_option maxRecDepth 100000
namespace Go.Proofs.Ytgcpljghnlohbaa
open Go.Eng

def withoutE (es : List Ent) (k : Int) : List Ent := es.filter fun e => !decide (e.t = k)
def without (A : List AE) (k : Int) : List AE := A.filter fun e => !decide (e.t = k)
theorem without_abs (es : List Ent) (k : Int) : (withoutE es k).map Ent.abs = without (es.map Ent.abs) k := by
  unfold without withoutE
  rw [List.filter_map]; rfl
theorem mem_without {es : List Ent} {k : Int} {e : Ent} (h : e ∈ withoutE es k) : e ∈ es ∧ e.t ≠ k := by
  unfold withoutE at h
  rw [List.mem_filter] at h
  exact ⟨h.1, by simpa using h.2⟩
theorem without_keys (es : List Ent) (k : Int) : (withoutE es k).map Ent.t = (es.map Ent.t).filter fun x => !decide (x = k) := by
  unfold withoutE
  rw [List.filter_map]; rfl

/-- A trace is gone. -/
theorem BufI.del {w w' : World} {hb : Nat} {g : Cfg} {O : Nat → Prop} {r : Nat} {m : MP} {es : List Ent} {c : CT} (I : BufI w hb g O r m es c) {k : Int} (hk : k ∈ es.map Ent.t) (hH : HpB g r w' hb O (cdel c k)) (hm : MapAt w' r .u64 (mdel m k)) {S : Nat → Prop} (hf : Fr S w w') (hS : ∀ b, S b → O b ∨ b = r) : BufI w' hb g O r (mdel m k) (withoutE es k) (cdel c k) := by
  have hkm : k ∈ mkeys m := by
    obtain ⟨e, he, rfl⟩ := List.mem_map.1 hk
    by_cases hx : e.t ∈ mkeys m
    · exact hx
    · have := I.mg e he
      rw [(mget_none_iff _ _).2 hx] at this; cases this
  have nSp : ∀ e ∈ es, ¬ S e.p := fun e he h => by
    rcases hS _ h with h | h
    · exact I.np e he h
    · exact map_ne I.mp (I.blk e he) h.symm
  have nSv : ∀ e ∈ es, ∀ x, e.v.ownBlock = some x → ¬ S x := fun e he x hx h => by
    rcases hS _ h with h | h
    · exact I.nv e he x hx h
    · obtain ⟨cur, hc⟩ := row_elem (I.row e he) hx
      exact map_ne I.mp hc h.symm
  refine ⟨hH, hm, by rw [mkeys_mdel]; exact I.mn.erase _, ?_, fun e he => ?_, fun y hy => ?_, by rw [without_keys]; exact I.tn.filter _, (List.Sublist.map _ List.filter_sublist).nodup I.pn, fun e he => hf.heap (I.blk e (mem_without he).1) (nSp e (mem_without he).1), fun e he => (I.row e (mem_without he).1).fr hf (nSv e (mem_without he).1),
    fun e he e' he' => I.rn e (mem_without he).1 e' (mem_without he').1, I.nr, fun e he => I.np e (mem_without he).1, fun e he => I.nv e (mem_without he).1, ?_⟩
  · have h1 : (mkeys (mdel m k)).length = (mdel m k).length := by simp [mkeys]
    have h2 : (mkeys m).length = m.length := by simp [mkeys]
    have h3 : (withoutE es k).length = ((es.map Ent.t).filter fun x => !decide (x = k)).length := by rw [← without_keys, List.length_map]
    have h4 : ((es.map Ent.t).filter fun x => !decide (x = k)) = (es.map Ent.t).erase k := by
      rw [I.tn.erase_eq_filter]
      congr 1
    rw [← h1, mkeys_mdel, List.length_erase_of_mem hkm, h2, I.ml, h3, h4, List.length_erase_of_mem hk, List.length_map]
  · obtain ⟨h1, h2⟩ := mem_without he
    rw [mget_mdel_ne _ _ _ (fun h => h2 h.symm)]
    exact I.mg e h1
  · by_cases hyk : k = y
    · subst hyk; exact mget_mdel_same _ _ I.mn
    · rw [mget_mdel_ne _ _ _ hyk]
      refine I.mz y fun e he hey => ?_
      refine hy e ?_ hey
      unfold withoutE
      rw [List.mem_filter]
      exact ⟨he, by simp; rw [hey]; exact fun h => hyk h.symm⟩
  · rw [cdel_keys, without_keys]
    exact I.ck.filter _

theorem take_ok {w : World} {hb : Nat} {g : Cfg} {B : Nat → Prop} {A : List AE} {c : CT} (I : Buf w hb g B A c) (hA : A.length ≤ 1000) (k : Int) {K : KV}
    (h0 : (∀ e ∈ A, e.t ≠ k) → K (.slice none 0 0) w)
    (h1 : ∀ e ∈ A, e.t = k → ∀ w' v B', Buf w' hb g B' (without A k) (cdel c k) → SlS w' v e.l → (∀ x, v.ownBlock = some x → x < w'.heap.size ∧ ¬ B' x) → (∀ b, B' b → B b) → Fr B w w' → K v w') : callT P F.pbuffer_Buffer_Take [.pointer (some ⟨hb, 0, none⟩), .int .u64 k] w K := by
  obtain ⟨⟨O, r, m, es, hAe, J, hB⟩, hlt⟩ := I
  apply M.pbuffer_Buffer_Take.calls
  unfold M.pbuffer_Buffer_Take
  simp only [joinT_eq]
  obtain ⟨_, _, _, q5⟩ := J.cells
  simp [q5]
  rw [lu_eq mt.map_uint64_p_buffer_entry J.mp]
  rcases J.find k with ⟨hmn, hne⟩ | ⟨e, he, het, hme⟩
  · rw [hmn]
    simp
    refine h0 fun e he => ?_
    rw [hAe] at he
    obtain ⟨x, hx, rfl⟩ := List.mem_map.1 he
    exact hne x hx
  · rw [hme]
    have e1 : e.ptr = .pointer (some ⟨e.p, 0, none⟩) := rfl
    simp [e1]
    unfold M.pbuffer_Buffer_Take.j0
    simp [q5]
    rw [lu_eq mt.map_uint64_p_buffer_entry J.mp, hme]
    obtain ⟨c0, c1⟩ := cells2 (J.blk e he)
    simp [e1, c0, q5]
    refine del_ok mt.map_uint64_p_buffer_entry J.mp _ _ _ _ fun o hm2 => ?_
    have f2 : Fr (fun b => b = r) w (World.setObj w r o) := (Fr.refl (fun b => b = r) w).setObj (.inl rfl) o
    generalize World.setObj w r o = w2 at *
    have H2 : HpB g r w2 hb O c := @Hp.keep (bufE g r) _ _ _ _ _ _ J.hp f2 fun b hb h => J.nr (h ▸ hb)
    have hnd : (ckeys c).Nodup := @Hp.nd (bufE g r) _ _ _ _ J.hp
    have hkt : k ∈ es.map Ent.t := by rw [← het]; exact List.mem_map_of_mem he
    obtain ⟨a, ha⟩ : ∃ a, cget c k = some a := by
      cases hg : cget c k with
      | none => exact absurd (J.ck.mem_iff.2 hkt) ((cget_none_iff _ _).1 hg)
      | some a => exact ⟨a, rfl⟩
    have hcl : c.length = es.length := by
      have := J.ck.length_eq
      simpa [ckeys] using this
    have hAl : A.length = es.length := by rw [hAe, List.length_map]
    rw [M.ptimers_Heap_Del.fcall]
    refine @del_some (bufE g r) _ _ _ _ H2 (by omega) k a ha _ fun w3 H3 f3 => ?_
    have f23 : Fr (fun b => O b ∨ b = r) w w3 := (f2.mono fun _ _ h => .inr h).trans' f3 fun b _ h => .inl h
    have J3 := J.del hkt H3 (hm2.of_heap (f3.keep r hm2.lt J.nr)) f23 fun b h => h
    have hrow3 : OwS w3 0 e.v e.l := (J.row e he).fr f23 fun x hx h => by
      rcases h with h | h
      · exact J.nv e he x hx h
      · obtain ⟨cur, hc⟩ := row_elem (J.row e he) hx
        exact map_ne J.mp hc h.symm
    have eA : e.abs ∈ A := by rw [hAe]; exact List.mem_map_of_mem he
    have hfB : Fr B w w3 := f23.mono fun b _ h => h.elim (fun h => hB b (.inl h)) fun h => hB b (.inr (.inl h))
    refine h1 e.abs eA het w3 e.v (fun b => B b ∧ e.v.ownBlock ≠ some b) ⟨⟨O, r, _, _, by rw [without_abs, hAe], J3, fun b hfp => ?_⟩, fun b hb => Nat.lt_of_lt_of_le (hlt b hb.1) hfB.size⟩ (hrow3.sl encS_len) (fun x hx => ⟨(hrow3.lt hx).2, fun h => h.2 hx⟩) (fun b h => h.1) hfB
    rcases hfp with h | rfl | ⟨x, hx, hxb⟩
    · exact ⟨hB b (.inl h), fun hx => J.nv e he b hx h⟩
    · refine ⟨hB _ (.inr (.inl rfl)), fun hx => ?_⟩
      obtain ⟨cur, hc⟩ := row_elem (J.row e he) hx
      exact map_ne J.mp hc rfl
    · obtain ⟨hx1, hx2⟩ := mem_without hx
      refine ⟨hB b (.inr (.inr ⟨x, hx1, hxb⟩)), fun hv => ?_⟩
      rcases hxb with h | h
      · obtain ⟨cur, hc⟩ := row_elem (J.row e he) hv
        rw [← h] at hc
        exact ne_of_elem hc (J.blk x hx1) (by decide) rfl
      · exact hx2 (by rw [J.rn x hx1 e he b h hv, het])

theorem delay_no {w : World} {hb : Nat} {g : Cfg} {B : Nat → Prop} {A : List AE} {c : CT} (I : Buf w hb g B A c) (k t : Int) (hk : ∀ e ∈ A, e.t ≠ k) {K : KV} (h : K (.bool false) w) : callT P F.pbuffer_Buffer_Delay [.pointer (some ⟨hb, 0, none⟩), .int .u64 k, .int .u64 t] w K := by
  obtain ⟨⟨O, r, m, es, hAe, J, hB⟩, hlt⟩ := I
  apply M.pbuffer_Buffer_Delay.calls
  unfold M.pbuffer_Buffer_Delay
  simp only [joinT_eq]
  obtain ⟨_, _, _, q5⟩ := J.cells
  simp [q5]
  rw [lu_eq mt.map_uint64_p_buffer_entry J.mp, J.mz k fun e he => hk e.abs (by rw [hAe]; exact List.mem_map_of_mem he)]
  simp
  exact h
end Go.Proofs.Ytgcpljghnlohbaa
set_option maxRecDepth 100000
namespace Go.Proofs.Ytgcpljghnlohbaa
open Go.Eng

def bufA (hb : Nat) (g : Cfg) (A : List AE) (c : CT) : Asn where
  ok w B := Buf w hb g B A c
  keep h hf hn := Buf.keep h hf hn
/-- What Put does. -/
def putA (g : Cfg) (A : List AE) (s : Spn) : List AE :=
  if rightK s ≠ 0 then A else match A.find? fun e => decide (e.t = s.trace) with
    | none => if g.traces ≤ A.length then A else A ++ [⟨s.trace, [s], false⟩]
    | some e => if (e.l.any fun x => decide (x.id = s.id)) = true then A else if g.spans ≤ e.l.length then fullS A s.trace else addS A s.trace s
def putC (g : Cfg) (A : List AE) (c : CT) (s : Spn) (now : Int) : CT :=
  if rightK s ≠ 0 then c else match A.find? fun e => decide (e.t = s.trace) with
    | none => if g.traces ≤ A.length then c else cset c s.trace (dueAt g now)
    | some _ => c
def putK (g : Cfg) (A : List AE) (s : Spn) : Int :=
  if rightK s ≠ 0 then rightK s else match A.find? fun e => decide (e.t = s.trace) with
    | none => if g.traces ≤ A.length then 8 else 0
    | some e => if (e.l.any fun x => decide (x.id = s.id)) = true then 0 else if g.spans ≤ e.l.length then 9 else 0
section
variable {w0 w : World} {hb : Nat} {g : Cfg} {A : List AE} {c : CT} {R : List Asn}
theorem find_ae (A : List AE) (k : Int) : (∃ e, A.find? (fun e => decide (e.t = k)) = some e ∧ e ∈ A ∧ e.t = k) ∨ (A.find? (fun e => decide (e.t = k)) = none ∧ ∀ e ∈ A, e.t ≠ k) := by
  cases h : A.find? (fun e => decide (e.t = k)) with
  | none => exact .inr ⟨rfl, fun e he => by have := List.find?_eq_none.1 h e he; simpa using this⟩
  | some e => exact .inl ⟨e, rfl, List.mem_of_find?_eq_some h, by have := List.find?_some h; simpa using this⟩
theorem Buf.keys {B : Nat → Prop} (I : Buf w hb g B A c) : (A.map AE.t).Nodup := by
  obtain ⟨⟨O, r, m, es, hAe, J, _⟩, _⟩ := I
  rw [hAe, List.map_map]
  exact J.tn
theorem ae_inj {A : List AE} (h : (A.map AE.t).Nodup) {e e' : AE} (he : e ∈ A) (he' : e' ∈ A) (ht : e.t = e'.t) : e = e' := nodup_map_inj h he he' ht
theorem put_st (S : St w0 w (bufA hb g A c :: R)) (hA : A.length ≤ 1000) (hl : ∀ e ∈ A, e.l.length ≤ 1000) (s : Spn) {now : Int} (hnow : 0 ≤ now ∧ now ≤ 18446744073709551615) (hwt : 0 ≤ g.wait) {K : KV}
    (h : ∀ w', St w0 w' (bufA hb g (putA g A s) (putC g A c s now) :: R) → K (.int .i64 (putK g A s)) w') : fcallT P F.pbuffer_Buffer_Put [.pointer (some ⟨hb, 0, none⟩), aggS s, .int .u64 now] w K := by
  obtain ⟨B, I, hB, cl⟩ := S.open
  have I' : Buf w hb g B A c := I
  have done : ∀ w' B' A' c', Buf w' hb g B' A' c' → Fr B w w' → (∀ b, B' b → B b ∨ w.heap.size ≤ b) → St w0 w' (bufA hb g A' c' :: R) := fun w' B' A' c' hI hf hB' =>
    cl w' [bufA hb g A' c'] hf (Rs.one (B := B') hI fun b hb => (hB' b hb).imp id fun h => ⟨h, hI.lt b hb⟩)
  rw [M.pbuffer_Buffer_Put.fcall]
  unfold putA putC putK at h
  rcases find_ae A s.trace with ⟨e, hfd, he, het⟩ | ⟨hfd, hno⟩
  · rw [hfd] at h
    have heq : ∀ e' ∈ A, e'.t = s.trace → e' = e := fun e' he' h' => ae_inj I'.keys he' he (h'.trans het.symm)
    refine put_ok I' hA hl s hnow hwt (fun hr w' hI hf => ?_) (fun hr hn => absurd het (hn e he)) (fun hr hn => absurd het (hn e he)) (fun hr e' he' ht ha w' hI hf => ?_) (fun hr e' he' ht ha hg w' hI hf => ?_) (fun hr e' he' ht ha hg w' B' hI hf hB' => ?_)
    · simp only [hr, ne_eq, not_false_eq_true, if_true] at h
      exact h w' (done w' B A c hI (hf.mono fun _ _ h => h.elim) fun b hb => .inl hb)
    · obtain rfl := heq e' he' ht
      simp only [hr, ne_eq, not_true_eq_false, if_false, ha, if_true] at h
      exact h w' (done w' B A c hI (hf.mono fun _ _ h => h.elim) fun b hb => .inl hb)
    · obtain rfl := heq e' he' ht
      simp only [hr, ne_eq, not_true_eq_false, if_false, ha, Bool.false_eq_true, hg, if_true] at h
      exact h w' (done w' B _ c hI hf fun b hb => .inl hb)
    · obtain rfl := heq e' he' ht
      have hg' : ¬ g.spans ≤ e'.l.length := by omega
      simp only [hr, ne_eq, not_true_eq_false, if_false, ha, Bool.false_eq_true, hg'] at h
      exact h w' (done w' B' _ c hI hf hB')
  · rw [hfd] at h
    refine put_ok I' hA hl s hnow hwt (fun hr w' hI hf => ?_) (fun hr hn hg w' hI hf => ?_) (fun hr hn hg w' B' hI hf hB' => ?_) (fun hr e' he' ht => absurd ht (hno e' he')) (fun hr e' he' ht => absurd ht (hno e' he')) (fun hr e' he' ht => absurd ht (hno e' he'))
    · simp only [hr, ne_eq, not_false_eq_true, if_true] at h
      exact h w' (done w' B A c hI (hf.mono fun _ _ h => h.elim) fun b hb => .inl hb)
    · simp only [hr, ne_eq, not_true_eq_false, if_false, hg, if_true] at h
      exact h w' (done w' B A c hI (hf.mono fun _ _ h => h.elim) fun b hb => .inl hb)
    · have hg' : ¬ g.traces ≤ A.length := by omega
      simp only [hr, ne_eq, not_true_eq_false, if_false, hg'] at h
      exact h w' (done w' B' _ _ hI hf hB')
theorem new_st (S : St w0 w R) (traces spans wait : Int) {K : KV} (h0 : (traces < 1 ∨ 64 < traces ∨ spans < 1 ∨ 16 < spans ∨ 1099511627776 < wait) → K (.tuple #[.pointer none, .int .i64 1]) w)
    (h1 : ∀ (g : Cfg) w' hb, traces = g.traces → spans = g.spans → wait = g.wait → 1 ≤ g.traces → g.traces ≤ 64 → 1 ≤ g.spans → g.spans ≤ 16 → g.wait ≤ 1099511627776 → St w0 w' (bufA hb g [] [] :: R) → K (.tuple #[.pointer (some ⟨hb, 0, none⟩), .int .i64 0]) w') :
    fcallT P F.buffer_New [.int .i64 traces, .int .i64 spans, .int .u64 wait] w K := by
  rw [M.buffer_New.fcall]
  refine new_ok traces spans wait h0 fun g w' e1 e2 e3 e4 e5 e6 e7 e8 I f => ?_
  have hlt := I.lt _ (.inr rfl)
  exact h1 g w' _ e1 e2 e3 e4 e5 e6 e7 e8 (S.add (a := bufA _ g [] []) f I fun b hb => by rcases hb with rfl | rfl <;> omega)
/-- A row of spans that is the call's own. -/
abbrev rowSA (v : Value) (l : List Spn) : Asn := rowA T.api_Span 8 encS v l
theorem get_st (S : St w0 w (bufA hb g A c :: R)) (hl : ∀ e ∈ A, e.l.length ≤ 1000) (k : Int) {K : KV}
    (h0 : A.find? (fun e => decide (e.t = k)) = none → K (.tuple #[.slice none 0 0, .bool false, .bool false]) w)
    (h1 : ∀ e, A.find? (fun e => decide (e.t = k)) = some e → ∀ w' v', St w0 w' (rdA 8 encS v' e.l :: bufA hb g A c :: R) → K (.tuple #[v', .bool e.over, .bool true]) w') : fcallT P F.pbuffer_Buffer_Get [.pointer (some ⟨hb, 0, none⟩), .int .u64 k] w K := by
  obtain ⟨B, I, hB, cl⟩ := S.open
  have I' : Buf w hb g B A c := I
  rw [M.pbuffer_Buffer_Get.fcall]
  refine get_ok I' hl k (fun hn => h0 ?_) fun e he het w' v' hs hn hf => h1 e ?_ w' v' (S.add (a := rdA 8 encS v' e.l) hf (B := fun x => v'.ownBlock = some x) ⟨hs, fun b hb => hb⟩ hn)
  · rw [List.find?_eq_none]; intro e he; simpa using hn e he
  · rcases find_ae A k with ⟨e', hf', he', het'⟩ | ⟨_, hno⟩
    · rw [hf', ae_inj I'.keys he he' (het.trans het'.symm)]
    · exact absurd het (hno e he)
theorem take_st (S : St w0 w (bufA hb g A c :: R)) (hA : A.length ≤ 1000) (k : Int) {K : KV}
    (h0 : A.find? (fun e => decide (e.t = k)) = none → K (.slice none 0 0) w)
    (h1 : ∀ e, A.find? (fun e => decide (e.t = k)) = some e → ∀ w' v, SlS w' v e.l → St w0 w' (bufA hb g (without A k) (cdel c k) :: R) → K v w') : fcallT P F.pbuffer_Buffer_Take [.pointer (some ⟨hb, 0, none⟩), .int .u64 k] w K := by
  obtain ⟨B, I, hB, cl⟩ := S.open
  have I' : Buf w hb g B A c := I
  rw [M.pbuffer_Buffer_Take.fcall]
  refine take_ok I' hA k (fun hn => h0 ?_) fun e he het w' v B' hI hs hn hsub hf => h1 e ?_ w' v hs (cl w' [bufA hb g _ _] hf (Rs.one (B := B') hI fun b hb => .inl (hsub b hb)))
  · rw [List.find?_eq_none]; intro e he; simpa using hn e he
  · rcases find_ae A k with ⟨e', hf', he', het'⟩ | ⟨_, hno⟩
    · rw [hf', ae_inj I'.keys he he' (het.trans het'.symm)]
    · exact absurd het (hno e he)
theorem delay_no_st (S : St w0 w (bufA hb g A c :: R)) (k t : Int) (hk : ∀ e ∈ A, e.t ≠ k) {K : KV} (h : K (.bool false) w) : fcallT P F.pbuffer_Buffer_Delay [.pointer (some ⟨hb, 0, none⟩), .int .u64 k, .int .u64 t] w K := by
  obtain ⟨B, I, hB, cl⟩ := S.open
  have I' : Buf w hb g B A c := I
  rw [M.pbuffer_Buffer_Delay.fcall]
  exact delay_no I' k t hk h
end
end Go.Proofs.Ytgcpljghnlohbaa
set_option maxRecDepth 100000
namespace Go.Proofs.Ytgcpljghnlohbaa
open Go.Eng

def AnyI (w : World) (ids : List Int) (k : Int) : KL := fun x w1 => ∃ j : Nat, x = [.bool ((ids.take j).any fun y => decide (y = k)), .int .i64 (j : Nat)] ∧ j ≤ ids.length ∧ Fr (fun _ => False) w w1
theorem any_step {ids : List Int} {k : Int} {j : Nat} (hj : j < ids.length) : ((ids.take (j + 1)).any fun y => decide (y = k)) = (((ids.take j).any fun y => decide (y = k)) || decide (ids[j] = k)) := by
  rw [List.take_succ_eq_append_getElem hj, List.any_append]; simp

theorem is_loop1 {w : World} {idsv a1 : Value} {ids : List Int} {l : List Spn} (h1 : SlU w idsv ids) (hn : ids.length < 1000) (hs : SlS w a1 l) {i : Nat} (hi : i < l.length) {x2 : List Value} (e3 : gv x2 3 = idsv) (e6 : gv x2 6 = .int .i64 (i : Nat)) {K6 : KL} {K : KV}
    (h : ∀ w' jv, Fr (fun _ => False) w w' → K6 [jv, .bool (ids.any fun y => decide (y = l[i].trace))] w') : loopT [.bool false, .int .i64 0] w fun K7 x7 w => M.winnowlaw16_BufferDue.j7 x2 x7 K6 a1 K7 w K := by
  refine ⟨AnyI w ids l[i].trace, fun x _ => ids.length - ms x 1, ⟨0, by simp, Nat.zero_le _, Fr.refl _ _⟩, ?_⟩
  rintro x w1 ⟨j, rfl, hj, f1⟩
  unfold M.winnowlaw16_BufferDue.j7
  have g1 : ∀ b, gv [.bool b, .int .i64 (j : Int)] 1 = .int .i64 (j : Int) := fun _ => rfl
  have g0 : ∀ b, gv [.bool b, .int .i64 (j : Int)] 0 = .bool b := fun _ => rfl
  simp only [joinT_eq, e3, g1, g0]
  have hr1 : SlU w1 idsv ids := h1.fr f1 fun _ _ _ h => h
  have hs1 : SlS w1 a1 l := hs.fr f1 fun _ _ _ h => h
  rw [hr1.len_ok (by simp)]
  by_cases hlt : j < ids.length
  · obtain ⟨b1, o1, c1, hv1, _, k1⟩ := slU_at hr1 hlt
    obtain ⟨b2, o2, c2, hv2, _, _, k2⟩ := hs1.at hi
    have k20 := k2 0 _ rfl
    simp only [Nat.add_zero] at k20
    have hw : IntKind.i64.wrap ((j : Int) + 1) = ((j + 1 : Nat) : Int) := by rw [wrap_id (by omega) (by omega)]; rfl
    have nx : ∀ w2, Fr (fun _ => False) w w2 → AnyI w ids l[i].trace [.bool (((ids.take j).any fun y => decide (y = l[i].trace)) || decide (ids[j] = l[i].trace)), .int .i64 ((j + 1 : Nat) : Int)] w2 ∧ ids.length - ms [.bool (((ids.take j).any fun y => decide (y = l[i].trace)) || decide (ids[j] = l[i].trace)), .int .i64 ((j + 1 : Nat) : Int)] 1 < ids.length - ms [.bool ((ids.take j).any fun y => decide (y = l[i].trace)), .int .i64 (j : Int)] 1 := fun w2 f2 =>
      ⟨⟨j + 1, by rw [any_step hlt], by omega, f2⟩, by simp [ms, gv]; omega⟩
    simp [hlt]
    unfold M.winnowlaw16_BufferDue.j8
    simp only [joinT_eq, g1, g0, e3, e6]
    generalize (List.take j ids).any (fun y => decide (y = l[i].trace)) = bb at *
    cases bb with
    | true =>
      simp [hw]
      have := nx _ (f1.dr 1)
      simpa using this
    | false =>
      subst hv1 hv2
      simp [hlt, hi, k1, k20, hw]
      have := nx _ (f1.dr 1)
      simpa using this
  · have hje : j = ids.length := by omega
    subst hje
    simp
    have := h w1 (.int .i64 (ids.length : Nat)) f1
    simpa using this

theorem is_loop2 {w : World} {dv idsv : Value} {D ids : List Int} (h1 : SlU w dv D) (hn : D.length < 1000) (hs : SlU w idsv ids) {i : Nat} (hi : i < ids.length) {x1 x12 : List Value} (e4 : gv x1 4 = idsv) (e6 : gv x12 4 = .int .i64 (i : Nat)) {K6 : KL} {K : KV}
    (h : ∀ w' jv, Fr (fun _ => False) w w' → K6 [jv, .bool (D.any fun y => decide (y = ids[i]))] w') : loopT [.bool false, .int .i64 0] w fun K16 x16 w => M.winnowlaw16_BufferDue.j16 dv x16 K6 x1 x12 K16 w K := by
  refine ⟨AnyI w D ids[i], fun x _ => D.length - ms x 1, ⟨0, by simp, Nat.zero_le _, Fr.refl _ _⟩, ?_⟩
  rintro x w1 ⟨j, rfl, hj, f1⟩
  unfold M.winnowlaw16_BufferDue.j16
  have g1 : ∀ b, gv [.bool b, .int .i64 (j : Int)] 1 = .int .i64 (j : Int) := fun _ => rfl
  have g0 : ∀ b, gv [.bool b, .int .i64 (j : Int)] 0 = .bool b := fun _ => rfl
  simp only [joinT_eq, g1, g0]
  have hr1 : SlU w1 dv D := h1.fr f1 fun _ _ _ h => h
  have hs1 : SlU w1 idsv ids := hs.fr f1 fun _ _ _ h => h
  rw [hr1.len_ok (by simp)]
  by_cases hlt : j < D.length
  · obtain ⟨b1, o1, c1, hv1, _, k1⟩ := slU_at hr1 hlt
    obtain ⟨b2, o2, c2, hv2, _, k2⟩ := slU_at hs1 hi
    have hw : IntKind.i64.wrap ((j : Int) + 1) = ((j + 1 : Nat) : Int) := by rw [wrap_id (by omega) (by omega)]; rfl
    have nx : ∀ w2, Fr (fun _ => False) w w2 → AnyI w D ids[i] [.bool (((D.take j).any fun y => decide (y = ids[i])) || decide (D[j] = ids[i])), .int .i64 ((j + 1 : Nat) : Int)] w2 ∧ D.length - ms [.bool (((D.take j).any fun y => decide (y = ids[i])) || decide (D[j] = ids[i])), .int .i64 ((j + 1 : Nat) : Int)] 1 < D.length - ms [.bool ((D.take j).any fun y => decide (y = ids[i])), .int .i64 (j : Int)] 1 := fun w2 f2 =>
      ⟨⟨j + 1, by rw [any_step hlt], by omega, f2⟩, by simp [ms, gv]; omega⟩
    simp [hlt]
    unfold M.winnowlaw16_BufferDue.j17
    simp only [joinT_eq, g1, g0, e4, e6]
    generalize (List.take j D).any (fun y => decide (y = ids[i])) = bb at *
    cases bb with
    | true =>
      simp [hw]
      have := nx _ (f1.dr 1)
      simpa using this
    | false =>
      subst hv1 hv2
      simp [hlt, hi, k1, k2, hw]
      have := nx _ (f1.dr 1)
      simpa using this
  · have hje : j = D.length := by omega
    subst hje
    simp
    have := h w1 (.int .i64 (D.length : Nat)) f1
    simpa using this

/-! ### The plain law -/
theorem cdue_mem {c : CT} {k : Int} {now : Int} : k ∈ cdue c now ↔ ∃ a, (k, a) ∈ c ∧ a ≤ now := by
  unfold cdue
  rw [List.mem_map]
  constructor
  · rintro ⟨⟨x, a⟩, h, rfl⟩
    rw [List.mem_filter] at h
    exact ⟨a, (srt_perm c).mem_iff.1 h.1, by simpa using h.2⟩
  · rintro ⟨a, h1, h2⟩
    exact ⟨(k, a), List.mem_filter.2 ⟨(srt_perm c).mem_iff.2 h1, by simpa using h2⟩, rfl⟩
theorem due_prefix : ∀ {m : CT}, m.Pairwise (fun a b => leP a b = true) → ∀ (now later : Int), now ≤ later → ((m.filter fun p => decide (p.2 ≤ later)).take (m.filter fun p => decide (p.2 ≤ now)).length) = m.filter fun p => decide (p.2 ≤ now)
  | [], _, _, _, _ => rfl
  | p :: m, hp, now, later, h => by
    rw [List.pairwise_cons] at hp
    by_cases hd : p.2 ≤ now
    · have hl : p.2 ≤ later := by omega
      simp only [List.filter_cons, hd, hl, decide_true, if_true, List.length_cons, List.take_succ_cons]
      rw [due_prefix hp.2 now later h]
    · have : (p :: m).filter (fun p => decide (p.2 ≤ now)) = [] := by
        rw [List.filter_eq_nil_iff]
        intro q hq
        rcases List.mem_cons.1 hq with rfl | hq
        · simpa using hd
        · have := hp.1 q hq
          simp only [leP, Bool.or_eq_true, Bool.and_eq_true, decide_eq_true_eq] at this
          simp; omega
      rw [this]; rfl
theorem cdue_prefix (c : CT) {now later : Int} (h : now ≤ later) : (cdue c later).take (cdue c now).length = cdue c now := by
  unfold cdue
  rw [List.length_map, ← List.map_take, due_prefix (srt_pw c) now later h]
end Go.Proofs.Ytgcpljghnlohbaa
set_option maxRecDepth 100000
namespace Go.Proofs.Ytgcpljghnlohbaa
open Go.Eng

structure BD (w0 w : World) (hb : Nat) (g : Cfg) (idsv atv : Value) (i : Nat) (B : Nat → Prop) (A : List AE) (c : CT) (ids ats : List Int) : Prop where
  buf : Buf w hb g B A c
  bw : ∀ b, B b → w0.heap.size ≤ b
  oi : OwU w w0.heap.size idsv ids
  oa : OwU w w0.heap.size atv ats
  ni : ∀ x, idsv.ownBlock = some x → ¬ B x
  na : ∀ x, atv.ownBlock = some x → ¬ B x
  nn : ∀ x, idsv.ownBlock = some x → atv.ownBlock ≠ some x
  fr : Fr (fun _ => False) w0 w
  le : ids.length = ats.length
  li : ids.length ≤ i
  al : A.length ≤ i
  el : ∀ e ∈ A, e.l.length ≤ i
  cp : c.Perm (ids.zip ats)
  ak : ∀ k, (∃ e ∈ A, e.t = k) ↔ k ∈ ids

theorem addS_keys (A : List AE) (k : Int) (s : Spn) (y : Int) : (∃ e ∈ addS A k s, e.t = y) ↔ ∃ e ∈ A, e.t = y := by
  unfold addS
  constructor
  · rintro ⟨e, he, rfl⟩
    obtain ⟨x, hx, rfl⟩ := List.mem_map.1 he
    exact ⟨x, hx, by split <;> rfl⟩
  · rintro ⟨x, hx, rfl⟩
    exact ⟨_, List.mem_map_of_mem hx, by split <;> rfl⟩
theorem addS_len (A : List AE) (k : Int) (s : Spn) {n : Nat} (h : ∀ e ∈ A, e.l.length ≤ n) : ∀ e ∈ addS A k s, e.l.length ≤ n + 1 := by
  intro e he
  obtain ⟨x, hx, rfl⟩ := List.mem_map.1 he
  have := h x hx
  split <;> simp <;> omega

theorem bd_step {w0 w : World} {hb : Nat} {g : Cfg} {idsv atv : Value} {i : Nat} {B : Nat → Prop} {A : List AE} {c : CT} {ids ats : List Int} (D : BD w0 w hb g idsv atv i B A c ids ats) {a1 : Value} {l : List Spn} (hs : SlS w0 a1 l) (hi : i < l.length) (hl : l.length ≤ 20)
    {gap : Int} (hg : 0 ≤ gap ∧ gap ≤ 1000) (hwt : 0 ≤ g.wait ∧ g.wait ≤ 1099511627776) {x2 : List Value} (e3 : gv x2 3 = idsv) (e4 : gv x2 4 = atv) (e5 : gv x2 5 = .int .u64 ((i : Int) * gap)) (e6 : gv x2 6 = .int .i64 (i : Nat)) {K2 : KL} {K : KV} (hK : ∀ w', Fr (fun _ => False) w0 w' → K (.bool true) w')
    (h : ∀ w' xs idsv' atv' B' A' c' ids' ats', gv xs 3 = idsv' → gv xs 4 = atv' → gv xs 5 = .int .u64 (((i + 1 : Nat) : Int) * gap) → gv xs 6 = .int .i64 ((i + 1 : Nat) : Int) → BD w0 w' hb g idsv' atv' (i + 1) B' A' c' ids' ats' → K2 xs w') :
    M.winnowlaw16_BufferDue.j3 a1 x2 (.pointer (some ⟨hb, 0, none⟩)) (.int .u64 g.wait) (.int .u64 gap) K2 w K := by
  obtain ⟨b, o, cap, hv, hb0, _, hr⟩ := hs.at hi
  have hil : i < 9223372036854775807 := by omega
  have hw : IntKind.i64.wrap ((i : Int) + 1) = ((i + 1 : Nat) : Int) := by rw [wrap_id (by omega) (by omega)]; rfl
  have hit : (i : Int) * gap ≤ 20 * 1000 := Int.mul_le_mul (by omega) hg.2 hg.1 (by omega)
  have hit0 : 0 ≤ (i : Int) * gap := Int.mul_nonneg (by omega) hg.1
  have hsw : ∀ w', Fr (fun _ => False) w0 w' → SlS w' a1 l := fun w' f => hs.fr f fun _ _ _ h => h
  have hrw : ∀ w', Fr (fun _ => False) w0 w' → ∀ k v, (encS l[i])[k]? = some v → cellOf w' b (o + i * 8 + k) = some v := fun w' f k v hk => by
    rw [cellOf_heap (f.keep b hb0 fun h => h)]; exact hr k v hk
  have c6 := hrw w D.fr 6 _ rfl
  have c5 := hrw w D.fr 5 _ rfl
  have al : ∀ w', Fr (fun _ => False) w0 w' → fcallT P F.winnowlaw16_alive [] w' (fun t80 w => K t80 w) := fun w' f => by
    rw [M.winnowlaw16_alive.fcall]
    exact alive_ok fun w'' f' => hK w'' (f.trans f')
  have kI : Buf w hb g B A c := D.buf
  -- behind a Put that said OK
  have tail : ∀ w' B' A' c' y0, Buf w' hb g B' A' c' → Fr B w w' → (∀ b, B' b → B b ∨ w.heap.size ≤ b) → A'.length ≤ i + 1 → (∀ e ∈ A', e.l.length ≤ i + 1) →
      (l[i].trace ∈ ids → c'.Perm (ids.zip ats) ∧ ∀ k, (∃ e ∈ A', e.t = k) ↔ k ∈ ids) → (l[i].trace ∉ ids → c'.Perm ((ids ++ [l[i].trace]).zip (ats ++ [(i : Int) * gap + g.wait])) ∧ ∀ k, (∃ e ∈ A', e.t = k) ↔ k ∈ ids ++ [l[i].trace]) →
      loopT [.bool false, .int .i64 0] w' fun K7 x7 w => M.winnowlaw16_BufferDue.j7 x2 x7 (fun x6 w => M.winnowlaw16_BufferDue.j6 x6 a1 x2 (.int .u64 g.wait) (.int .u64 gap) (fun x4 w => K2 [(gv x4 0), (gv x4 1), (gv x4 2), (gv x4 3), (gv x4 4), (gv x4 5), .int .i64 (IntKind.i64.wrap ((i : Int) + 1))] w) [y0] w K) a1 K7 w K := by
    intro w' B' A' c' y0 I' f' hB' hA' hL' hin hout
    have F' : Fr (fun _ => False) w0 w' := D.fr.trans' f' fun b hlt hb => by have := D.bw b hb; omega
    have oi' := D.oi.fr f' D.ni
    have oa' := D.oa.fr f' D.na
    have hge := D.fr.size
    have bw' : ∀ b, B' b → w0.heap.size ≤ b := fun b hb => by
      rcases hB' b hb with h | h
      · exact D.bw b h
      · omega
    have ni' : ∀ x, idsv.ownBlock = some x → ¬ B' x := fun x hx hbx => by
      rcases hB' x hbx with h | h
      · exact D.ni x hx h
      · have := (D.oi.lt hx).2; omega
    have na' : ∀ x, atv.ownBlock = some x → ¬ B' x := fun x hx hbx => by
      rcases hB' x hbx with h | h
      · exact D.na x hx h
      · have := (D.oa.lt hx).2; omega
    have hidl := D.li
    have hle := D.le
    refine is_loop1 (oi'.sl encU_len) (by omega) (hsw w' F') hi e3 e6 fun w2 jv f2 => ?_
    have F2 := F'.trans f2
    have I2 := I'.keep f2 fun _ _ h => h
    have oi2 := oi'.fr f2 fun _ _ h => h
    have oa2 := oa'.fr f2 fun _ _ h => h
    have hw3 : IntKind.u64.wrap ((i : Int) * gap + gap) = ((i + 1 : Nat) : Int) * gap := by
      have he : ((i + 1 : Nat) : Int) * gap = (i : Int) * gap + gap := by rw [show ((i + 1 : Nat) : Int) = (i : Int) + 1 from by omega, Int.add_mul, Int.one_mul]
      rw [he]; exact wrap_u64 (by omega) (by omega)
    unfold M.winnowlaw16_BufferDue.j6
    have g1 : ∀ bb, gv [jv, .bool bb] 1 = .bool bb := fun _ => rfl
    simp only [joinT_eq, g1]
    by_cases hm : l[i].trace ∈ ids
    · have hany : (ids.any fun y => decide (y = l[i].trace)) = true := List.any_eq_true.2 ⟨_, hm, by simp⟩
      rw [hany]
      simp [e5, e6, e3, e4, hw, hw3]
      obtain ⟨hc, hk⟩ := hin hm
      exact h w2 _ idsv atv B' A' c' ids ats rfl rfl rfl rfl ⟨I2, bw', oi2, oa2, ni', na', D.nn, F2, D.le, by omega, hA', hL', hc, hk⟩
    · have hany : (ids.any fun y => decide (y = l[i].trace)) = false := by
        rw [List.any_eq_false]
        intro y hy
        simp
        exact fun h => hm (h ▸ hy)
      rw [hany]
      obtain ⟨hc, hk⟩ := hout hm
      have d0 := hrw w2 F2 0 _ rfl
      simp only [Nat.add_zero] at d0
      have hw4 : IntKind.u64.wrap ((i : Int) * gap + g.wait) = (i : Int) * gap + g.wait := wrap_u64 (by omega) (by omega)
      simp [e5, e6, e3, e4, hv, hi, d0]
      have fa : Fr (fun _ => False) w2 (w2.alloc (.cells #[.int .u64 l[i].trace] T.uint64)) := (Fr.refl _ w2).alloc _
      have hs2 := F2.size
      refine app_sl et.sl_uint64 encU_len encU_one (oi2.fr fa fun _ _ h => h) (Sl.one (x := l[i].trace) rfl rfl) (by simp; omega) (by decide) (by simp; omega) _ fun v3 w3 o3 f3 g3 => ?_
      simp [e5, hw4]
      have f23 : Fr (fun b => idsv.ownBlock = some b) w2 w3 := (fa.mono fun _ _ h => h.elim).trans f3
      have oa3 := oa2.fr f23 fun x hx hx' => D.nn x hx' hx
      have I3 := I2.keep f23 fun b hb hx => ni' b hx hb
      have F3 : Fr (fun _ => False) w0 w3 := F2.trans' f23 fun b hlt hx => by have := (oi2.lt hx).1; omega
      have fb : Fr (fun _ => False) w3 (w3.alloc (.cells #[.int .u64 ((i : Int) * gap + g.wait)] T.uint64)) := (Fr.refl _ w3).alloc _
      have hs3 := F3.size
      have sz23 := f23.size
      refine app_sl et.sl_uint64 encU_len encU_one (oa3.fr fb fun _ _ h => h) (Sl.one (x := (i : Int) * gap + g.wait) rfl rfl) (by simp; omega) (by decide) (by simp; omega) _ fun v4 w4 o4 f4 g4 => ?_
      have f34 : Fr (fun b => atv.ownBlock = some b) w3 w4 := (fb.mono fun _ _ h => h.elim).trans f4
      have n3 : ∀ x, v3.ownBlock = some x → ¬ atv.ownBlock = some x := fun x hx hx' => by
        rcases g3 with g3 | ⟨y, q1, q2⟩
        · exact D.nn x (by rw [← g3]; exact hx) hx'
        · rw [hx] at q1; cases q1
          have := (oa2.lt hx').2; simp at q2; omega
      have nB3 : ∀ x, v3.ownBlock = some x → ¬ B' x := fun x hx hbx => by
        rcases g3 with g3 | ⟨y, q1, q2⟩
        · exact ni' x (by rw [← g3]; exact hx) hbx
        · rw [hx] at q1; cases q1
          have := I2.lt x hbx; simp at q2; omega
      have nB4 : ∀ x, v4.ownBlock = some x → ¬ B' x := fun x hx hbx => by
        rcases g4 with g4 | ⟨y, q1, q2⟩
        · exact na' x (by rw [← g4]; exact hx) hbx
        · rw [hx] at q1; cases q1
          have := I3.lt x hbx; simp at q2; omega
      have o34 := o3.fr f34 n3
      simp [e5, e6, hw, hw3]
      refine h w4 _ v3 v4 B' A' c' (ids ++ [l[i].trace]) (ats ++ [(i : Int) * gap + g.wait]) rfl rfl rfl rfl ⟨I3.keep f34 fun b hb hx => na' b hx hb, bw', o34, o4, nB3, nB4, fun x hx hx' => ?_, F3.trans' f34 fun b hlt hx => by have := (oa3.lt hx).1; omega, by simp [hle], by simp; omega, hA', hL', hc, hk⟩
      rcases g4 with g4 | ⟨y, q1, q2⟩
      · exact n3 x hx (by rw [← g4]; exact hx')
      · rw [hx'] at q1; cases q1
        have := (o3.lt hx).2; simp at q2; omega
  unfold M.winnowlaw16_BufferDue.j3
  simp only [joinT_eq, e6]
  rw [hv] at tail ⊢
  have hlen200 : ∀ s : ByteArray, (200 : Int) < s.size ∨ ¬ (200 : Int) < s.size := fun s => Decidable.em _
  by_cases hn : 200 < l[i].name.size
  · have hn' : (200 : Int) < l[i].name.size := by omega
    simp [hi, c6, hn, hn']
    exact al w D.fr
  by_cases hm : 200 < l[i].service.size
  · have hn' : ¬ (200 : Int) < l[i].name.size := by omega
    have hm' : (200 : Int) < l[i].service.size := by omega
    simp [hi, c6, c5, hn, hn', hm, hm']
    exact al w D.fr
  have hn' : ¬ (200 : Int) < l[i].name.size := by omega
  have hm' : ¬ (200 : Int) < l[i].service.size := by omega
  have hld : ∀ K, ldN P 8 b (o + i * 8) w K = K (aggS l[i]) w := fun K => ldS (hrw w D.fr) K
  simp [hi, c6, c5, hn, hn', hm, hm', hld, e5]
  rw [M.pbuffer_Buffer_Put.fcall]
  have hAl := D.al
  have hEl := D.el
  have hdue : dueAt g ((i : Int) * gap) = (i : Int) * gap + g.wait := by unfold dueAt; omega
  have hnd : (ckeys c).Nodup := by
    obtain ⟨⟨O, r, m, es, _, J, _⟩, _⟩ := kI
    exact @Hp.nd (bufE g r) _ _ _ _ J.hp
  have hge := D.fr.size
  refine put_ok kI (by omega) (fun e he => by have := hEl e he; omega) l[i] (now := (i : Int) * gap) (by omega) (by omega) (fun hx w' I' f' => ?_) (fun _ _ _ w' I' f' => ?_) (fun _ hne _ w' B' I' f' p' => ?_) (fun _ e he het _ w' I' f' => ?_) (fun _ e he het _ _ w' I' f' => ?_) (fun _ e he het _ _ w' B' I' f' p' => ?_)
  · simp [hx]
    exact al w' (D.fr.trans f')
  · simp
    exact al w' (D.fr.trans f')
  · simp
    have hni : l[i].trace ∉ ids := fun hh => by
      obtain ⟨e, he, het⟩ := (D.ak _).2 hh
      exact hne e he het
    refine tail w' B' _ _ _ I' f' p' (by simp; omega) (fun e he => ?_) (fun hh => absurd hh hni) fun _ => ⟨?_, fun k => ?_⟩
    · rcases List.mem_append.1 he with h' | h'
      · have := hEl e h'; omega
      · simp at h'; subst h'; simp
    · have hkc : l[i].trace ∉ ckeys c := fun hh => by
        have h2 : l[i].trace ∈ (ids.zip ats).map (·.1) := by
          unfold ckeys at hh
          exact (D.cp.map _).mem_iff.1 hh
        obtain ⟨⟨q1, q2⟩, hq, hqe⟩ := List.mem_map.1 h2
        exact hni (by rw [← hqe]; exact (List.of_mem_zip hq).1)
      unfold cset
      rw [cdel_none hkc, hdue, List.zip_append D.le]
      exact (D.cp.cons _).trans (List.perm_append_comm (l₁ := [_]))
    · rw [List.mem_append, ← D.ak k]
      constructor
      · rintro ⟨e, he, rfl⟩
        rcases List.mem_append.1 he with h' | h'
        · exact .inl ⟨e, h', rfl⟩
        · simp at h'; subst h'; exact .inr (by simp)
      · rintro (⟨e, he, rfl⟩ | h')
        · exact ⟨e, List.mem_append_left _ he, rfl⟩
        · simp at h'; exact ⟨⟨l[i].trace, [l[i]], false⟩, by simp, h'.symm⟩
  · simp
    have hin : l[i].trace ∈ ids := (D.ak _).1 ⟨e, he, het⟩
    exact tail w' B A c _ I' (f'.mono fun _ _ h => h.elim) (fun b hb => .inl hb) (by omega) (fun e he => by have := hEl e he; omega) (fun _ => ⟨D.cp, D.ak⟩) fun hh => absurd hin hh
  · simp
    have F' := D.fr.trans' f' fun b hlt hb => by have := D.bw b hb; omega
    exact al w' F'
  · simp
    have hin : l[i].trace ∈ ids := (D.ak _).1 ⟨e, he, het⟩
    refine tail w' B' _ c _ I' f' p' (by simp [addS]; omega) (addS_len A _ _ hEl) (fun _ => ⟨D.cp, fun k => ?_⟩) fun hh => absurd hin hh
    rw [addS_keys]; exact D.ak k
end Go.Proofs.Ytgcpljghnlohbaa
set_option maxRecDepth 100000
namespace Go.Proofs.Ytgcpljghnlohbaa
open Go.Eng

theorem isBo : isBoB P T.bool = true := by kernel_rfl
@[simp] theorem neqB (rx ry : Operand) (x y : Bool) (w : World) (K : KV) : binT P .neq T.bool rx ry (.bool x) (.bool y) w K = K (.bool !(x == y)) w := bin_neqB isBo

def cntP (L : List (Int × Int)) (now : Int) : Nat := L.countP fun p => decide (p.2 ≤ now)
def CntI (w : World) (ids ats : List Int) (now : Int) : KL := fun x w1 => ∃ (p0 p1 p2 : Value) (i : Nat), x = [p0, p1, p2, .int .i64 (cntP ((ids.zip ats).take i) now : Nat), .int .i64 (i : Nat)] ∧ i ≤ ids.length ∧ Fr (fun _ => False) w w1

theorem cnt_loop {w : World} {dv idsv atv : Value} {D ids ats : List Int} {now : Int} (h1 : SlU w dv D) (hD : D.length < 1000) (h2 : SlU w idsv ids) (h3 : SlU w atv ats) (hle : ids.length = ats.length) (hn : ids.length < 1000)
    (hm : ∀ (i : Nat) (hi : i < ids.length) (hi' : i < ats.length), (D.any fun y => decide (y = ids[i])) = decide (ats[i] ≤ now)) {x1 : List Value} (e4 : gv x1 4 = idsv) (e5 : gv x1 5 = atv) (y0 : Value) {K11 : KL} {K : KV}
    (h : ∀ w' q0 q1 q2 q3, Fr (fun _ => False) w w' → K11 [q0, q1, q2, q3, .int .i64 (cntP (ids.zip ats) now : Nat)] w') : loopT [undef, undef, y0, .int .i64 0, .int .i64 0] w fun K12 x12 w => M.winnowlaw16_BufferDue.j12 x1 x12 K11 dv (.int .u64 now) K12 w K := by
  refine ⟨CntI w ids ats now, fun x _ => ids.length - ms x 4, ⟨_, _, _, 0, rfl, Nat.zero_le _, Fr.refl _ _⟩, ?_⟩
  rintro x w1 ⟨p0, p1, p2, i, rfl, hi, f1⟩
  have g4 : ∀ n : Nat, gv [p0, p1, p2, .int .i64 (n : Int), .int .i64 (i : Int)] 4 = .int .i64 (i : Int) := fun _ => rfl
  have g3 : ∀ n : Nat, gv [p0, p1, p2, .int .i64 (n : Int), .int .i64 (i : Int)] 3 = .int .i64 (n : Int) := fun _ => rfl
  unfold M.winnowlaw16_BufferDue.j12
  simp only [joinT_eq, g4, e4]
  have r1 : SlU w1 dv D := h1.fr f1 fun _ _ _ h => h
  have r2 : SlU w1 idsv ids := h2.fr f1 fun _ _ _ h => h
  rw [r2.len_ok (by simp)]
  by_cases hil : i < ids.length
  · have hil' : i < ats.length := by omega
    simp [hil]
    unfold M.winnowlaw16_BufferDue.j13
    simp only [joinT_eq]
    refine is_loop2 r1 hD r2 hil e4 (g4 _) fun w2 jv f2 => ?_
    have f12 := f1.trans f2
    have r3 : SlU w2 atv ats := h3.fr f12 fun _ _ _ h => h
    obtain ⟨b3, o3, c3, hv3, _, k3⟩ := slU_at r3 hil'
    have hw : IntKind.i64.wrap ((i : Int) + 1) = ((i + 1 : Nat) : Int) := by rw [wrap_id (by omega) (by omega)]; rfl
    have hz : (ids.zip ats)[i]? = some (ids[i], ats[i]) := by rw [List.getElem?_zip_eq_some]; exact ⟨List.getElem?_eq_getElem hil, List.getElem?_eq_getElem hil'⟩
    have hzl : i < (ids.zip ats).length := (List.getElem?_eq_some_iff.1 hz).1
    have hze : (ids.zip ats)[i] = (ids[i], ats[i]) := (List.getElem?_eq_some_iff.1 hz).2
    have hcn : cntP ((ids.zip ats).take (i + 1)) now = cntP ((ids.zip ats).take i) now + (if ats[i] ≤ now then 1 else 0) := by
      unfold cntP
      rw [List.take_succ_eq_append_getElem hzl, List.countP_append, hze]
      simp [List.countP_cons]
    have hcle : cntP ((ids.zip ats).take i) now ≤ i := by
      unfold cntP
      exact Nat.le_trans List.countP_le_length (by simp; omega)
    unfold M.winnowlaw16_BufferDue.j15
    have g1 : ∀ bb, gv [jv, .bool bb] 1 = .bool bb := fun _ => rfl
    simp only [joinT_eq, g4, g3, e5, g1, hm i hil hil']
    subst hv3
    by_cases hd : ats[i] ≤ now
    · have hw2 : IntKind.i64.wrap ((cntP ((ids.zip ats).take i) now : Int) + 1) = ((cntP ((ids.zip ats).take (i + 1)) now : Nat) : Int) := by
        rw [hcn, if_pos hd, wrap_id (by omega) (by omega)]; rfl
      simp [hil', k3, hd, hw, hw2]
      exact ⟨⟨_, _, _, i + 1, rfl, by omega, f12⟩, by simp [ms, gv]; omega⟩
    · have hw2 : cntP ((ids.zip ats).take (i + 1)) now = cntP ((ids.zip ats).take i) now := by rw [hcn, if_neg hd]; rfl
      simp [hil', k3, hd, hw]
      exact ⟨⟨_, _, _, i + 1, by rw [hw2]; rfl, by omega, f12⟩, by simp [ms, gv]; omega⟩
  · have hie : i = ids.length := by omega
    subst hie
    have ht : (ids.zip ats).take ids.length = ids.zip ats := List.take_of_length_le (by simp; omega)
    simp
    have := h w1 (.int .i64 (ids.length : Nat)) p0 p1 p2 f1
    rw [ht]
    exact this
end Go.Proofs.Ytgcpljghnlohbaa
set_option maxRecDepth 100000
namespace Go.Proofs.Ytgcpljghnlohbaa
open Go.Eng

theorem cdue_len {c L : CT} (h : c.Perm L) (now : Int) : (cdue c now).length = cntP L now := by
  unfold cdue cntP
  rw [List.length_map, ← List.countP_eq_length_filter, ((srt_perm c).trans h).countP_eq]
theorem cdue_any {c : CT} {ids ats : List Int} (hn : (ckeys c).Nodup) (hp : c.Perm (ids.zip ats)) (now : Int) (i : Nat) (hi : i < ids.length) (hi' : i < ats.length) : ((cdue c now).any fun y => decide (y = ids[i])) = decide (ats[i] ≤ now) := by
  have hz : (ids[i], ats[i]) ∈ ids.zip ats := by
    have : (ids.zip ats)[i]? = some (ids[i], ats[i]) := by rw [List.getElem?_zip_eq_some]; exact ⟨List.getElem?_eq_getElem hi, List.getElem?_eq_getElem hi'⟩
    exact List.mem_of_getElem? this
  have hc : (ids[i], ats[i]) ∈ c := hp.mem_iff.2 hz
  by_cases hd : ats[i] ≤ now
  · simp only [hd, decide_true]
    exact List.any_eq_true.2 ⟨ids[i], cdue_mem.2 ⟨ats[i], hc, hd⟩, by simp⟩
  · simp only [hd, decide_false]
    rw [List.any_eq_false]
    intro y hy
    simp
    rintro rfl
    obtain ⟨a, ha, hle⟩ := cdue_mem.1 hy
    have h1 := cget_of_mem hn ha
    have h2 := cget_of_mem hn hc
    rw [h1] at h2
    cases h2
    exact hd hle

theorem due_end {w0 w : World} {hb : Nat} {g : Cfg} {idsv atv : Value} {i : Nat} {B : Nat → Prop} {A : List AE} {c : CT} {ids ats : List Int} (D : BD w0 w hb g idsv atv i B A c ids ats) (hi : i ≤ 20) {now : Int} (hnow : 0 ≤ now ∧ now ≤ 1099511627776) {x1 : List Value} (e4 : gv x1 4 = idsv) (e5 : gv x1 5 = atv) {K : KV}
    (hK : ∀ w', Fr (fun _ => False) w0 w' → K (.bool true) w') : M.winnowlaw16_BufferDue.j1 (.pointer (some ⟨hb, 0, none⟩)) (.int .u64 now) x1 w K := by
  have hAl := D.al
  have hli := D.li
  have hle := D.le
  have hge := D.fr.size
  have hnd : (ckeys c).Nodup := by
    obtain ⟨⟨O, r, m, es, _, J, _⟩, _⟩ := D.buf
    exact @Hp.nd (bufE g r) _ _ _ _ J.hp
  have hcl : c.length = ids.length := by rw [D.cp.length_eq, List.length_zip]; omega
  have hdl : ∀ t, (cdue c t).length ≤ c.length := fun t => by
    unfold cdue
    rw [List.length_map]
    have := List.length_filter_le (fun p : Int × Int => decide (p.2 ≤ t)) (srt c)
    have := (srt_perm c).length_eq
    omega
  unfold M.winnowlaw16_BufferDue.j1
  simp only [joinT_eq]
  rw [M.pbuffer_Buffer_Due.fcall]
  refine due_ok D.buf (by omega) now fun w2 v2 B2 I2 r2 n2 f2 p2 => ?_
  have B2w : ∀ b, B2 b → w0.heap.size ≤ b := fun b hb => by
    rcases p2 b hb with h | h
    · exact D.bw b h
    · omega
  have F2 : Fr (fun _ => False) w0 w2 := D.fr.trans' f2 fun b hlt hb => by have := D.bw b hb; omega
  have oi2 := D.oi.fr f2 D.ni
  have oa2 := D.oa.fr f2 D.na
  have o2 := owU_of_row r2
  have hd2 := hdl now
  refine cnt_loop (o2.sl encU_len) (by omega) (oi2.sl encU_len) (oa2.sl encU_len) hle (by omega) (fun j hj hj' => cdue_any hnd D.cp now j hj hj') e4 e5 _ fun w3 q0 q1 q2 q3 f3 => ?_
  have F3 := F2.trans f3
  have I3 := I2.keep f3 fun _ _ h => h
  have o3 := o2.fr f3 fun _ _ h => h
  unfold M.winnowlaw16_BufferDue.j11
  have hw5 : IntKind.u64.wrap (now + 5) = now + 5 := wrap_u64 (by omega) (by omega)
  simp [hw5]
  rw [M.pbuffer_Buffer_Due.fcall]
  refine due_ok I3 (by omega) (now + 5) fun w4 v4 B4 I4 r4 n4 f4 p4 => ?_
  have hs3 := F3.size
  have B4w : ∀ b, B4 b → w0.heap.size ≤ b := fun b hb => by
    rcases p4 b hb with h | h
    · exact B2w b h
    · omega
  have F4 : Fr (fun _ => False) w0 w4 := F3.trans' f4 fun b hlt hb => by have := B2w b hb; omega
  have o3' := o3.fr f4 fun x hx => n2 x hx
  have o4 := owU_of_row r4
  have s3 := o3'.sl encU_len
  have s4 := o4.sl encU_len
  have hcnt : cntP (ids.zip ats) now = (cdue c now).length := (cdue_len D.cp now).symm
  have hmono : (cdue c now).length ≤ (cdue c (now + 5)).length := by
    have := congrArg List.length (cdue_prefix c (now := now) (later := now + 5) (by omega))
    rw [List.length_take] at this
    omega
  have l3 : ∀ w K, biT P .len #[T.sl_uint64] T.int [false] [v2] w K = K (.int .i64 (cdue c now).length) w := fun w K => s3.len_ok (by simp) _
  have l4 : ∀ w K, biT P .len #[T.sl_uint64] T.int [false] [v4] w K = K (.int .i64 (cdue c (now + 5)).length) w := fun w K => s4.len_ok (by simp) _
  have hmono' : ((cdue c now).length : Int) ≤ (cdue c (now + 5)).length := by omega
  obtain ⟨v5, s5, p5, q5⟩ := s4.sub (P := P) (t := T.sl_uint64) (lo := none) (hi := some (.int .i64 ((cdue c now).length : Int))) (i := 0) (j := (cdue c now).length) (by simp) (by simp) (.inl ⟨rfl, rfl⟩) (.inr ⟨_, rfl⟩) (Nat.zero_le _) hmono
  rw [Nat.sub_zero, List.drop_zero, cdue_prefix c (by omega)] at s5
  simp [l3, l4, hcnt, hmono', q5]
  rw [M.winnowlaw16_uints.fcall]
  refine uints_ok s5 s3 (by omega) fun w5 f5 => ?_
  have F5 := F4.trans f5
  have I5 := I4.keep f5 fun _ _ h => h
  have o5 := o3'.fr f5 fun _ _ h => h
  simp
  rw [M.pbuffer_Buffer_Due.fcall]
  refine due_ok I5 (by omega) now fun w6 v6 B6 I6 r6 n6 f6 p6 => ?_
  have nv2 : ∀ x, v2.ownBlock = some x → ¬ B4 x := fun x hx hb => by
    rcases p4 x hb with h | h
    · exact n2 x hx h
    · have := (o3.lt hx).2; omega
  have o6 := o5.fr f6 fun x hx => nv2 x hx
  have F6 : Fr (fun _ => False) w0 w6 := F5.trans' f6 fun b hlt hb => by have := B4w b hb; omega
  have l6 : ∀ w K, biT P .len #[T.sl_uint64] T.int [false] [v6] w K = K (.int .i64 (cdue c now).length) w := fun w K => ((owU_of_row r6).sl encU_len).len_ok (by simp) _
  rw [M.winnowlaw16_uints.fcall]
  refine uints_ok ((owU_of_row r6).sl encU_len) (o6.sl encU_len) (by omega) fun w7 f7 => ?_
  simp
  rw [M.winnowlaw16_alive.fcall]
  exact alive_ok fun w8 f8 => by simpa using hK w8 ((F6.trans f7).trans f8)

def BDI (w0 : World) (hb : Nat) (g : Cfg) (gap : Int) (l : List Spn) : KL := fun x w1 => ∃ (i : Nat) (B : Nat → Prop) (A : List AE) (c : CT) (ids ats : List Int), gv x 5 = .int .u64 ((i : Int) * gap) ∧ gv x 6 = .int .i64 (i : Nat) ∧ i ≤ l.length ∧ BD w0 w1 hb g (gv x 3) (gv x 4) i B A c ids ats

theorem bufferDue_ok {w : World} {wait gap now : Int} (hwt : 0 ≤ wait) (hg : 0 ≤ gap) (hn : 0 ≤ now) {a1 : Value} {l : List Spn} (hs : SlS w a1 l) {K : KV} (hK : ∀ w', Fr (fun _ => False) w w' → K (.bool true) w') : callT P F.winnowlaw16_BufferDue [.int .u64 wait, a1, .int .u64 gap, .int .u64 now] w K := by
  apply M.winnowlaw16_BufferDue.calls
  unfold M.winnowlaw16_BufferDue
  have al : ∀ w', Fr (fun _ => False) w w' → fcallT P F.winnowlaw16_alive [] w' (fun t80 w => K t80 w) := fun w' f => by
    rw [M.winnowlaw16_alive.fcall]
    exact alive_ok fun w'' f' => hK w'' (f.trans f')
  rw [M.buffer_New.fcall]
  refine new_ok 16 16 wait (fun _ => ?_) fun g w1 hg1 hg2 hg3 _ _ _ _ hgw I1 f1 => ?_
  · simp only [joinT_eq]
    by_cases hbig : 20 < l.length
    · have hb' : (20 : Int) < l.length := by omega
      simp [hs.len_ok, hbig, hb']
      exact al w (Fr.refl _ _)
    · have hb' : ¬ (20 : Int) < l.length := by omega
      simp [hs.len_ok, hbig, hb']
      exact al w (Fr.refl _ _)
  · subst hg3
    have hs1 : SlS w1 a1 l := hs.fr f1 fun _ _ _ h => h
    simp only [joinT_eq]
    simp [hs1.len_ok]
    by_cases hbig : 20 < l.length
    · have hb' : (20 : Int) < l.length := by omega
      simp [hbig, hb']
      exact al w1 f1
    have hb' : ¬ (20 : Int) < l.length := by omega
    by_cases hgb : 1000 < gap
    · simp [hbig, hb', hgb]
      exact al w1 f1
    by_cases hnb : 1099511627776 < now
    · simp [hbig, hb', hgb, hnb]
      exact al w1 f1
    simp [hbig, hb', hgb, hnb]
    refine ⟨BDI w (w.heap.size + 1) g gap l, fun x _ => l.length - ms x 6, ⟨0, _, [], [], [], [], by simp [gv], rfl, Nat.zero_le _, ⟨I1, fun b hb => by omega, Ow.none, Ow.none, fun x hx => by simp [gv, Value.ownBlock] at hx, fun x hx => by simp [gv, Value.ownBlock] at hx, fun x hx => by simp [gv, Value.ownBlock] at hx, f1, rfl, Nat.le_refl _, Nat.le_refl _, fun e he => by (cases he), List.Perm.refl _, fun k => by simp⟩⟩, ?_⟩
    rintro x w2 ⟨i, B, A, c, ids, ats, e5, e6, hi, D⟩
    unfold M.winnowlaw16_BufferDue.j2
    simp only [joinT_eq, e6]
    have hs2 : SlS w2 a1 l := hs.fr D.fr fun _ _ _ h => h
    rw [hs2.len_ok (by simp)]
    by_cases hil : i < l.length
    · simp [hil]
      refine bd_step D hs hil (by omega) ⟨hg, by omega⟩ ⟨hwt, hgw⟩ rfl rfl e5 e6 hK fun w3 xs idsv' atv' B' A' c' ids' ats' q3 q4 q5 q6 D' => ⟨⟨i + 1, B', A', c', ids', ats', q5, q6, by omega, by rw [q3, q4]; exact D'⟩, ?_⟩
      simp [ms, e6, q6]; omega
    · simp [hil]
      exact due_end D (by omega) ⟨hn, by omega⟩ rfl rfl hK
end Go.Proofs.Ytgcpljghnlohbaa
set_option maxRecDepth 100000
namespace Go.Proofs.Ytgcpljghnlohbaa
open Go.Eng

theorem wf_u64 {x : Int} (h : (Lit.int .u64 x).wf = true) : 0 ≤ x ∧ x ≤ 18446744073709551615 := by
  simp [Lit.wf, IntKind.min, IntKind.max, IntKind.bits, IntKind.signed] at h
  exact ⟨h.1, h.2⟩
theorem spans_of {w : World} {n : Nat} {v : Value} (h : TV P w n T.sl_api_Span [v]) : ∃ l, SlS w v l := by
  refine sl_of_tv (sz := 8) (rd := rdE encS) Try.underlying23 (by kernel_rfl) (by decide) (fun n b o cs ht hl hc => ?_) h
  obtain ⟨_, hf⟩ := tv_struct Try.underlying31 ht
  obtain ⟨m0, t0⟩ := hf 0 _ rfl
  obtain ⟨m1, t1⟩ := hf 1 _ rfl
  obtain ⟨m2, t2⟩ := hf 2 _ rfl
  obtain ⟨m3, t3⟩ := hf 3 _ rfl
  obtain ⟨m4, t4⟩ := hf 4 _ rfl
  obtain ⟨m5, t5⟩ := hf 5 _ rfl
  obtain ⟨m6, t6⟩ := hf 6 _ rfl
  obtain ⟨m7, t7⟩ := hf 7 _ rfl
  obtain ⟨x0, e0, _⟩ := tv_int Try.underlying22 t0
  obtain ⟨x1, e1, _⟩ := tv_int Try.underlying22 t1
  obtain ⟨x2, e2, _⟩ := tv_int Try.underlying22 t2
  obtain ⟨x3, e3, _⟩ := tv_int Try.underlying22 t3
  obtain ⟨x4, e4, _⟩ := tv_int Try.underlying22 t4
  obtain ⟨x5, e5, _⟩ := tv_string Try.underlying9 t5
  obtain ⟨x6, e6, _⟩ := tv_string Try.underlying9 t6
  obtain ⟨x7, e7⟩ := tv_bool Try.underlying4 t7
  have c0 : Try.prog.cellsOf 22 = 1 := by kernel_rfl
  have c1 : Try.prog.cellsOf 9 = 1 := by kernel_rfl
  have c2 : Try.prog.cellsOf 4 = 1 := by kernel_rfl
  match cs, hl with
  | [u0, u1, u2, u3, u4, u5, u6, u7], _ =>
    simp [c0, c1, c2] at e0 e1 e2 e3 e4 e5 e6 e7
    subst e0 e1 e2 e3 e4 e5 e6 e7
    exact ⟨⟨x0, x1, x2, x3, x4, x5, x6, x7⟩, fun j u hj => hc j u hj⟩

theorem BufferDue_law {W : World} {a0 : Int} (h0 : (Lit.int .u64 a0).wf = true) {n1 : Nat} {v1 : Value} (h1 : TV P W n1 T.sl_api_Span [v1]) {a2 : Int} (h2 : (Lit.int .u64 a2).wf = true) {a3 : Int} (h3 : (Lit.int .u64 a3).wf = true) {K : KV}
    (h : ∀ w', Fr (fun _ => False) W w' → K (.bool true) w') : callT P F.winnowlaw16_BufferDue [.int .u64 a0, v1, .int .u64 a2, .int .u64 a3] W K := by
  obtain ⟨l, hl⟩ := spans_of h1
  exact bufferDue_ok (wf_u64 h0).1 (wf_u64 h2).1 (wf_u64 h3).1 hl h
end Go.Proofs.Ytgcpljghnlohbaa
set_option maxRecDepth 100000
namespace Go.Proofs.Ytgcpljghnlohbaa
open Go.Eng

theorem spn_of {w : World} {n : Nat} {cs : List Value} (ht : TV P w n T.api_Span cs) : ∃ s, cs = encS s := by
  obtain ⟨hl, hf⟩ := tv_struct Try.underlying31 ht
  have hl8 : Try.prog.cellsOf T.api_Span = 8 := by kernel_rfl
  rw [hl8] at hl
  obtain ⟨m0, t0⟩ := hf 0 _ rfl
  obtain ⟨m1, t1⟩ := hf 1 _ rfl
  obtain ⟨m2, t2⟩ := hf 2 _ rfl
  obtain ⟨m3, t3⟩ := hf 3 _ rfl
  obtain ⟨m4, t4⟩ := hf 4 _ rfl
  obtain ⟨m5, t5⟩ := hf 5 _ rfl
  obtain ⟨m6, t6⟩ := hf 6 _ rfl
  obtain ⟨m7, t7⟩ := hf 7 _ rfl
  obtain ⟨x0, e0, _⟩ := tv_int Try.underlying22 t0
  obtain ⟨x1, e1, _⟩ := tv_int Try.underlying22 t1
  obtain ⟨x2, e2, _⟩ := tv_int Try.underlying22 t2
  obtain ⟨x3, e3, _⟩ := tv_int Try.underlying22 t3
  obtain ⟨x4, e4, _⟩ := tv_int Try.underlying22 t4
  obtain ⟨x5, e5, _⟩ := tv_string Try.underlying9 t5
  obtain ⟨x6, e6, _⟩ := tv_string Try.underlying9 t6
  obtain ⟨x7, e7⟩ := tv_bool Try.underlying4 t7
  have c0 : Try.prog.cellsOf 22 = 1 := by kernel_rfl
  have c1 : Try.prog.cellsOf 9 = 1 := by kernel_rfl
  have c2 : Try.prog.cellsOf 4 = 1 := by kernel_rfl
  match cs, hl with
  | [u0, u1, u2, u3, u4, u5, u6, u7], _ =>
    simp [c0, c1, c2] at e0 e1 e2 e3 e4 e5 e6 e7
    subst e0 e1 e2 e3 e4 e5 e6 e7
    exact ⟨⟨x0, x1, x2, x3, x4, x5, x6, x7⟩, rfl⟩
theorem agg_of {w : World} {n : Nat} {c : Array Value} (ht : TV P w n T.api_Span c.toList) : ∃ s, (Value.agg c) = aggS s := by
  obtain ⟨s, hs⟩ := spn_of ht
  refine ⟨s, ?_⟩
  unfold aggS
  congr 1
  apply Array.toList_inj.1
  rw [hs]; rfl

theorem get_nil {w : World} {k : Int} {K : KV} (h : K (.tuple #[.slice none 0 0, .bool false, .bool false]) w) : callT P F.pbuffer_Buffer_Get [.pointer none, .int .u64 k] w K := by
  apply M.pbuffer_Buffer_Get.calls
  unfold M.pbuffer_Buffer_Get
  simp
  exact h
theorem put_nil {w : World} (s : Spn) {k : Int} {K : KV} (h : ∀ w', Fr (fun _ => False) w w' → K (.int .i64 13) w') : callT P F.pbuffer_Buffer_Put [.pointer none, aggS s, .int .u64 k] w K := by
  apply M.pbuffer_Buffer_Put.calls
  unfold M.pbuffer_Buffer_Put
  rw [box_agg]
  simp
  exact h _ ((Fr.refl _ w).alloc _)
theorem due_nil {w : World} {k : Int} {K : KV} (h : K (.slice none 0 0) w) : callT P F.pbuffer_Buffer_Due [.pointer none, .int .u64 k] w K := by
  apply M.pbuffer_Buffer_Due.calls
  unfold M.pbuffer_Buffer_Due
  simp
  exact h
theorem take_nil {w : World} {k : Int} {K : KV} (h : K (.slice none 0 0) w) : callT P F.pbuffer_Buffer_Take [.pointer none, .int .u64 k] w K := by
  apply M.pbuffer_Buffer_Take.calls
  unfold M.pbuffer_Buffer_Take
  simp
  exact h
theorem traces_nil {w : World} {K : KV} (h : K (.slice none 0 0) w) : callT P F.pbuffer_Buffer_Traces [.pointer none] w K := by
  apply M.pbuffer_Buffer_Traces.calls
  unfold M.pbuffer_Buffer_Traces
  simp
  exact h
theorem delay_nil {w : World} {k t : Int} {K : KV} (h : K (.bool false) w) : callT P F.pbuffer_Buffer_Delay [.pointer none, .int .u64 k, .int .u64 t] w K := by
  apply M.pbuffer_Buffer_Delay.calls
  unfold M.pbuffer_Buffer_Delay
  simp
  exact h

theorem bufferNils_ok {W : World} (s : Spn) {now : Int} {K : KV} (h : ∀ w', Fr (fun _ => False) W w' → K (.bool true) w') : callT P F.winnowlaw16_BufferNils [aggS s, .int .u64 now] W K := by
  apply M.winnowlaw16_BufferNils.calls
  unfold M.winnowlaw16_BufferNils
  rw [box_agg]
  generalize hwa : W.alloc (.cells #[.int .u64 s.trace, .int .u64 s.id, .int .u64 s.parent, .int .u64 s.start, .int .u64 s.len, .string s.service, .string s.name, .bool s.fail] T.api_Span) = wa
  have hb : boxS wa W.heap.size s := by rw [← hwa]; exact boxS_new W s
  have hf : Fr (fun _ => False) W wa := by rw [← hwa]; exact (Fr.refl _ W).alloc _
  have c0 := boxS_at hb 0 _ rfl
  have c6 := boxS_at hb 6 _ rfl
  have c5 := boxS_at hb 5 _ rfl
  simp only [joinT_eq]
  by_cases h6 : 200 < s.name.size
  · have h6' : (200 : Int) < s.name.size := by omega
    simp [c6, h6']
    rw [M.winnowlaw16_alive.fcall]
    exact alive_ok fun w' f => h w' (hf.trans f)
  have h6' : ¬ (200 : Int) < s.name.size := by omega
  by_cases h5 : 200 < s.service.size
  · have h5' : (200 : Int) < s.service.size := by omega
    simp [c6, h6', c5, h5']
    rw [M.winnowlaw16_alive.fcall]
    exact alive_ok fun w' f => h w' (hf.trans f)
  have h5' : ¬ (200 : Int) < s.service.size := by omega
  simp [c6, h6', c5, h5']
  unfold M.winnowlaw16_BufferNils.j0
  simp [c0]
  rw [M.pbuffer_Buffer_Get.fcall]
  refine get_nil ?_
  simp
  rw [ldBox hb, M.pbuffer_Buffer_Put.fcall]
  refine put_nil s fun w2 f2 => ?_
  simp
  rw [M.pbuffer_Buffer_Due.fcall]
  refine due_nil ?_
  simp
  rw [M.pbuffer_Buffer_Take.fcall]
  refine take_nil ?_
  have w0 : IntKind.i64.wrap 0 = 0 := wrap_id (by omega) (by omega)
  simp [w0]
  rw [M.pbuffer_Buffer_Traces.fcall]
  refine traces_nil ?_
  simp [w0]
  rw [M.pbuffer_Buffer_Delay.fcall]
  refine delay_nil ?_
  simp
  rw [M.winnowlaw16_alive.fcall]
  refine alive_ok fun w' f => ?_
  exact h w' ((hf.trans f2).trans f)

theorem BufferNils_law {W : World} {n0 : Nat} {c0 : Array Value} (h0 : TV P W n0 T.api_Span c0.toList) {a1 : Int} (h1 : (Lit.int .u64 a1).wf = true) {K : KV}
    (h : ∀ w', Fr (fun _ => False) W w' → K (.bool true) w') : callT P F.winnowlaw16_BufferNils [.agg c0, .int .u64 a1] W K := by
  obtain ⟨s, hs⟩ := agg_of h0
  rw [hs]
  exact bufferNils_ok s h
end Go.Proofs.Ytgcpljghnlohbaa
set_option maxRecDepth 100000
namespace Go.Proofs.Ytgcpljghnlohbaa
open Go.Eng

def sameS (x y : Spn) : Bool := x.trace == y.trace && (x.id == y.id && (x.parent == y.parent && (x.start == y.start && (x.len == y.len && (x.service.toList == y.service.toList && (x.name.toList == y.name.toList && (x.fail == y.fail)))))))
theorem sameS_refl (x : Spn) : sameS x x = true := by simp [sameS]
theorem partL {t : TypeId} (h : aggB P t = false) {xs : Array Value} {i : Nat} {v : Value} (hv : xs[i]? = some v) (w : World) : (part t xs i).run P w = .ok v w := by
  unfold part
  rw [Sem.run_bind, run_isAgg h]
  simp [Result.andThen, hv, Sem.run_pure]
theorem eqF {d : Nat} {xs ys : Array Value} {f : Field} {fs : List Field} {w : World} {u v : Value} {b c : Bool} (hn : f.name ≠ "_") (h : aggB P f.type = false) (hx : xs[f.offset]? = some u) (hy : ys[f.offset]? = some v) (he : (Op.equalIn d f.type u v).run P w = .ok b w) (hr : (Op.eqFields d xs ys fs).run P w = .ok c w) : (Op.eqFields d xs ys (f :: fs)).run P w = .ok (b && c) w := by
  simp only [Op.eqFields]
  rw [if_pos hn]
  simp only [Sem.run_bind, partL h hx, partL h hy, he, Result.andThen]
  cases b
  · rfl
  · simpa using hr
theorem equal_span (x y : Spn) (w : World) : (Op.equalIn 10000 T.api_Span (aggS x) (aggS y)).run P w = .ok (sameS x y) w := by
  have hS : P.underlying T.api_Span = some (.struct (P.fieldsOf T.api_Span)) := by kernel_rfl
  have hp : P.stoodInHeld T.api_Span = false := by kernel_rfl
  unfold aggS
  rw [show (10000 : Nat) = 9999 + 1 from rfl, run_equalIn_agg w 9999 T.api_Span _ _ hS hp]
  have u22 : P.underlying 22 = some (.int .u64) := Try.underlying22
  have u9 : P.underlying 9 = some .string := Try.underlying9
  have u4 : P.underlying 4 = some .bool := Try.underlying4
  simp only [Program.fieldsOf, show P.underlying T.api_Span = _ from Try.underlying31]
  have a22 : aggB P 22 = false := by kernel_rfl
  have a9 : aggB P 9 = false := by kernel_rfl
  have a4 : aggB P 4 = false := by kernel_rfl
  unfold sameS
  refine eqF (by decide) a22 rfl rfl (run_equalIn_int w 9998 22 _ _ _ _ u22) ?_
  refine eqF (by decide) a22 rfl rfl (run_equalIn_int w 9998 22 _ _ _ _ u22) ?_
  refine eqF (by decide) a22 rfl rfl (run_equalIn_int w 9998 22 _ _ _ _ u22) ?_
  refine eqF (by decide) a22 rfl rfl (run_equalIn_int w 9998 22 _ _ _ _ u22) ?_
  refine eqF (by decide) a22 rfl rfl (run_equalIn_int w 9998 22 _ _ _ _ u22) ?_
  refine eqF (by decide) a9 rfl rfl (run_equalIn_string w 9998 9 _ _ u9) ?_
  refine eqF (by decide) a9 rfl rfl (run_equalIn_string w 9998 9 _ _ u9) ?_
  have := eqF (fs := []) (d := 9999) (xs := #[.int .u64 x.trace, .int .u64 x.id, .int .u64 x.parent, .int .u64 x.start, .int .u64 x.len, .string x.service, .string x.name, .bool x.fail]) (ys := #[.int .u64 y.trace, .int .u64 y.id, .int .u64 y.parent, .int .u64 y.start, .int .u64 y.len, .string y.service, .string y.name, .bool y.fail]) (f := { name := "Fail", type := 4, offset := 7, embedded := false, tag := "", pkgPath := "", byteOffset := 72 }) (w := w) (c := true) (by decide) a4 rfl rfl (run_equalIn_bool' w 9998 4 _ _ u4) rfl
  simpa using this

theorem neqSpan (rx ry : Operand) (x y : Spn) (w : World) (K : KV) : binT P .neq T.api_Span rx ry (aggS x) (aggS y) w K = K (.bool !(sameS x y)) w := by
  have hm : P.eqGuardType P.depth T.api_Span = false := by kernel_rfl
  have hg := run_eqGuard_agg (P := P) w .neq T.api_Span rx ry #[.int .u64 x.trace, .int .u64 x.id, .int .u64 x.parent, .int .u64 x.start, .int .u64 x.len, .string x.service, .string x.name, .bool x.fail] #[.int .u64 y.trace, .int .u64 y.id, .int .u64 y.parent, .int .u64 y.start, .int .u64 y.len, .string y.service, .string y.name, .bool y.fail] hm
  have he := equal_span x y w
  unfold binT semT
  unfold aggS at he ⊢
  rw [Sem.run_bind, hg]
  simp only [Result.andThen]
  rw [run_neq_struct, he]
  rfl

def SpansI (w : World) (l1 l2 : List Spn) : KL := fun x w1 => ∃ (a : Value) (i : Nat), x = [a, .int .i64 (i : Nat)] ∧ i ≤ l1.length ∧ (∀ j (h1 : j < l1.length) (h2 : j < l2.length), j < i → sameS l1[j] l2[j] = true) ∧ Fr (fun _ => False) w w1
def sameL (l1 l2 : List Spn) : Prop := l1.length = l2.length ∧ ∀ j (h1 : j < l1.length) (h2 : j < l2.length), sameS l1[j] l2[j] = true
/-- Lists that are alike are found to be so. -/
theorem spans_ok {w : World} {v1 v2 : Value} {l1 l2 : List Spn} (h1 : SlS w v1 l1) (h2 : SlS w v2 l2) (hn : l1.length < 1000000) (hs : sameL l1 l2) {K : KV}
    (h : ∀ w', Fr (fun _ => False) w w' → K (.bool true) w') : callT P F.winnowref03_Spans [v1, v2] w K := by
  obtain ⟨hne, hall⟩ := hs
  apply M.winnowref03_Spans.calls
  unfold M.winnowref03_Spans
  simp only [joinT_eq]
  rw [h1.len_ok (by simp), h2.len_ok (by simp)]
  simp [hne]
  unfold M.winnowref03_Spans.j0
  simp only [joinT_eq]
  refine ⟨SpansI w l1 l2, fun x _ => l1.length - ms x 1, ⟨_, 0, rfl, Nat.zero_le _, fun j _ _ h => by omega, Fr.refl _ _⟩, ?_⟩
  rintro x w1 ⟨a, i, rfl, hin, hpre, hf1⟩
  have g1 : gv [a, .int .i64 (i : Int)] 1 = .int .i64 (i : Int) := rfl
  simp only [g1]
  have hr1 : SlS w1 v1 l1 := h1.fr hf1 fun _ _ _ h => h
  have hr2 : SlS w1 v2 l2 := h2.fr hf1 fun _ _ _ h => h
  rw [hr1.len_ok (by simp)]
  by_cases hlt : i < l1.length
  · have hlt2 : i < l2.length := by omega
    obtain ⟨b1, o1, c1, rfl, _, _, k1⟩ := hr1.at hlt
    obtain ⟨b2, o2, c2, rfl, _, _, k2⟩ := hr2.at hlt2
    have hw : IntKind.i64.wrap ((i : Int) + 1) = ((i + 1 : Nat) : Int) := by rw [wrap_id (by omega) (by omega)]; rfl
    have d1 : ∀ K, ldN P 8 b1 (o1 + i * 8) (dr w1 1) K = K (aggS l1[i]) (dr w1 1) := fun K => ldS (w := dr w1 1) k1 K
    have d2 : ∀ K, ldN P 8 b2 (o2 + i * 8) (dr w1 1) K = K (aggS l2[i]) (dr w1 1) := fun K => ldS (w := dr w1 1) k2 K
    simp [hlt]
    unfold M.winnowref03_Spans.j3
    simp only [joinT_eq, g1]
    simp [hlt, hlt2, d1, d2, neqSpan, hall i hlt hlt2, hw]
    refine ⟨⟨_, i + 1, rfl, by omega, fun j a1 a2 _ => hall j a1 a2, hf1.dr 1⟩, by simp [ms, gv]; omega⟩
  · simp [hlt]
    exact h _ hf1
end Go.Proofs.Ytgcpljghnlohbaa
set_option maxRecDepth 100000
namespace Go.Proofs.Ytgcpljghnlohbaa
open Go.Eng

def byt (s : ByteArray) (k : Nat) : Nat := (s.get! k).toNat
theorem ix_str (s : ByteArray) {i : Nat} (h : i < s.size) {k : IntKind} (w : World) (K : KV) : ixT P T.string (.string s) (.int k (i : Int)) w K = K (.int .u8 (byt s i)) w := by
  have hu : P.underlying T.string = some .string := isStrB_spec strT
  have hg : s[i]? = some (s.get! i) := by
    rw [getElem?_pos s i h]
    have e : s.get! i = s[i]'h := by
      simp [ByteArray.get!, getElem!_pos, h]
      rfl
    rw [e]
  simp [ixT, semT, Instr.index, asIntOf, Sem.run_bind, run_underlying' hu, Result.andThen, Sem.run_pure, hg, byt]

theorem cv_int {s d : TypeId} {ks k2 : IntKind} (hs : P.underlying s = some (.int ks)) (hd : P.underlying d = some (.int k2)) (k : IntKind) (x : Int) (w : World) (K : KV) : cvT P s d (.int k x) w K = K (.int k2 (k2.wrap x)) w := by
  simp [cvT, semT, convert, Sem.run_bind, run_underlying' hs, run_underlying' hd, Result.andThen, Conv.intToInt, Sem.run_pure]
end Go.Proofs.Ytgcpljghnlohbaa
set_option maxRecDepth 100000
namespace Go.Proofs.Ytgcpljghnlohbaa
open Go.Eng

def rfold (t : ByteArray) (r : Nat) : Nat → Nat
  | 0 => r
  | k + 1 => rfold t r k * 64 + byt t (k + 1) - 128
def inCont (t : ByteArray) (k : Nat) : Bool := decide (128 ≤ byt t k) && decide (byt t k ≤ 191)
def rcls (b0 : Nat) : Nat × Nat × Nat := if 194 ≤ b0 ∧ b0 ≤ 223 then (2, 128, b0 - 192) else if 224 ≤ b0 ∧ b0 ≤ 239 then (3, 2048, b0 - 224) else if 240 ≤ b0 ∧ b0 ≤ 244 then (4, 65536, b0 - 240) else (0, 0, 0)
def conts (t : ByteArray) : Nat → Bool
  | 0 => true
  | k + 1 => conts t k && inCont t (k + 1)
/-- The document's rune. -/
def rr (t : ByteArray) : Nat × Nat :=
  if t.size = 0 then (0, 0) else if byt t 0 < 128 then (byt t 0, 1) else
  if (rcls (byt t 0)).1 = 0 ∨ t.size < (rcls (byt t 0)).1 then (0, 0) else
  if conts t ((rcls (byt t 0)).1 - 1) = false then (0, 0) else
  if rfold t (rcls (byt t 0)).2.2 ((rcls (byt t 0)).1 - 1) < (rcls (byt t 0)).2.1 ∨ 1114111 < rfold t (rcls (byt t 0)).2.2 ((rcls (byt t 0)).1 - 1) ∨ (55296 ≤ rfold t (rcls (byt t 0)).2.2 ((rcls (byt t 0)).1 - 1) ∧ rfold t (rcls (byt t 0)).2.2 ((rcls (byt t 0)).1 - 1) ≤ 57343) then (0, 0) else (rfold t (rcls (byt t 0)).2.2 ((rcls (byt t 0)).1 - 1), (rcls (byt t 0)).1)

theorem byt_lt (t : ByteArray) (k : Nat) : byt t k < 256 := UInt8.toNat_lt _
theorem rfold_le (t : ByteArray) {r : Nat} (hr : r ≤ 31) : ∀ k, conts t k = true → rfold t r k + 1 ≤ 32 * 64 ^ k
  | 0, _ => by simp [rfold]; omega
  | k + 1, h => by
    simp only [conts, Bool.and_eq_true, inCont, decide_eq_true_eq] at h
    have := rfold_le t hr k h.1
    simp only [rfold, Nat.pow_succ]
    omega

theorem u8i32 (x : Int) (w : World) (K : KV) : cvT P T.uint8 T.int32 (.int .u8 x) w K = K (.int .i32 (IntKind.i32.wrap x)) w := cv_int (ks := .u8) (by kernel_rfl) (by kernel_rfl) .u8 x w K
theorem wrap_i32 {x : Int} (h0 : -2147483648 ≤ x) (h1 : x < 2147483648) : IntKind.i32.wrap x = x := by
  show (if (true && decide (x % 4294967296 ≥ 2147483648)) = true then x % 4294967296 - 4294967296 else x % 4294967296) = x
  by_cases h : x % 4294967296 ≥ 2147483648
  · simp [h]; omega
  · simp [h]; omega

theorem conts_no {t : ByteArray} {k : Nat} (h : inCont t (k + 1) = false) : ∀ {n : Nat}, k + 1 < n → conts t (n - 1) = false
  | 0, hn => by omega
  | n + 1, hn => by
    rw [Nat.add_sub_cancel]
    by_cases hk : k + 1 = n
    · subst hk; simp [conts, h]
    · have := conts_no h (n := n) (by omega)
      cases n with
      | zero => omega
      | succ n => rw [Nat.add_sub_cancel] at this; simp [conts, this]
def RuneI (w : World) (t : ByteArray) (r n : Nat) : KL := fun x w1 => ∃ (a b : Value) (k : Nat), x = [a, b, .int .i32 (rfold t r k : Nat), .int .i64 ((k + 1 : Nat) : Int)] ∧ w1 = w ∧ k + 1 ≤ n ∧ conts t k = true

/-- The bytes behind the first one. -/
theorem rune_cont {w : World} {t : ByteArray} {n least r : Nat} (hn : 2 ≤ n) (hn4 : n ≤ 4) (hr : r ≤ 31) (hl : least ≤ 65536) (hsz : n ≤ t.size) {x3 x2 : List Value} (e1 : gv x2 1 = .int .i64 (n : Nat)) (e2 : gv x2 2 = .int .i32 (least : Nat)) (e3 : gv x2 3 = .int .i32 (r : Nat)) {K : KV}
    (h : K (.tuple #[.int .i32 ((if conts t (n - 1) = false then 0 else if rfold t r (n - 1) < least ∨ 1114111 < rfold t r (n - 1) ∨ (55296 ≤ rfold t r (n - 1) ∧ rfold t r (n - 1) ≤ 57343) then 0 else rfold t r (n - 1) : Nat) : Int), .int .i64 ((if conts t (n - 1) = false then 0 else if rfold t r (n - 1) < least ∨ 1114111 < rfold t r (n - 1) ∨ (55296 ≤ rfold t r (n - 1) ∧ rfold t r (n - 1) ≤ 57343) then 0 else n : Nat) : Int)]) w) :
    M.winnowref03_Rune.j3 x3 x2 (.string t) w K := by
  unfold M.winnowref03_Rune.j3
  simp only [joinT_eq, e3]
  refine ⟨RuneI w t r n, fun x _ => n - ms x 3, ⟨_, _, 0, rfl, rfl, by omega, rfl⟩, ?_⟩
  rintro x w1 ⟨a, b, k, rfl, rfl, hk, hc⟩
  have g2 : gv [a, b, .int .i32 (rfold t r k : Nat), .int .i64 ((k + 1 : Nat) : Int)] 2 = .int .i32 (rfold t r k : Nat) := rfl
  have g3 : gv [a, b, .int .i32 (rfold t r k : Nat), .int .i64 ((k + 1 : Nat) : Int)] 3 = .int .i64 ((k + 1 : Nat) : Int) := rfl
  simp only [e1, g3]
  have hb := rfold_le t hr k hc
  have hp : (64 : Nat) ^ k ≤ 64 ^ 3 := Nat.pow_le_pow_right (by omega) (by omega)
  by_cases hlt : k + 1 < n
  · have hlt' : ((k + 1 : Nat) : Int) < n := by omega
    have hix : ∀ K, ixT P T.string (.string t) (.int .i64 ((k + 1 : Nat) : Int)) w1 K = K (.int .u8 (byt t (k + 1))) w1 := fun K => ix_str t (by omega) w1 K
    simp only [bin_lss, hlt', decide_true, Eng.cond_true]
    unfold M.winnowref03_Rune.j6
    have hix' := hix
    push_cast at hix'
    have hbl := byt_lt t (k + 1)
    have hw : IntKind.i64.wrap (((k + 1 : Nat) : Int) + 1) = ((k + 1 + 1 : Nat) : Int) := by rw [wrap_id (by omega) (by omega)]; rfl
    simp only [joinT_eq, g2, g3, hix]
    by_cases h1 : byt t (k + 1) < 128
    · have h1' : (byt t (k + 1) : Int) < 128 := by omega
      have hcf : conts t (n - 1) = false := conts_no (by simp [inCont]; omega) hlt
      simp [h1']
      rw [hcf] at h
      simpa using h
    · have h1' : ¬ (byt t (k + 1) : Int) < 128 := by omega
      by_cases h2 : 191 < byt t (k + 1)
      · have h2' : (191 : Int) < byt t (k + 1) := by omega
        have hcf : conts t (n - 1) = false := conts_no (by simp [inCont]; omega) hlt
        simp [h1', hix', h2']
        rw [hcf] at h
        simpa using h
      · have h2' : ¬ (191 : Int) < byt t (k + 1) := by omega
        simp [h1', hix', h2']
        unfold M.winnowref03_Rune.j8
        have hm1 : IntKind.i32.wrap ((rfold t r k : Int) * 64) = (rfold t r k : Int) * 64 := wrap_i32 (by omega) (by omega)
        have hm2 : IntKind.i32.wrap (byt t (k + 1) : Int) = byt t (k + 1) := wrap_i32 (by omega) (by omega)
        have hm3 : IntKind.i32.wrap ((rfold t r k : Int) * 64 + byt t (k + 1)) = (rfold t r k : Int) * 64 + byt t (k + 1) := wrap_i32 (by omega) (by omega)
        have hm4 : IntKind.i32.wrap ((rfold t r k : Int) * 64 + byt t (k + 1) - 128) = ((rfold t r (k + 1) : Nat) : Int) := by
          rw [wrap_i32 (by omega) (by omega)]
          simp only [rfold]; omega
        push_cast at g2 g3 hw
        simp only [g2, g3, hix', u8i32, bin_mul, bin_add, bin_sub, hm1, hm2, hm3, hm4, hw]
        refine ⟨⟨_, _, k + 1, rfl, rfl, by omega, by simp [conts, hc, inCont]; omega⟩, ?_⟩
        simp [ms, gv]; omega
  · have hke : n - 1 = k := by omega
    have hlt' : ¬ ((k + 1 : Nat) : Int) < n := by omega
    rw [hke, hc] at h
    simp only [bin_lss, hlt', decide_false, Eng.cond_false]
    unfold M.winnowref03_Rune.j4
    have q3 : ∀ p q s u : Value, gv [p, q, s, u] 3 = u := fun _ _ _ _ => rfl
    simp only [joinT_eq, q3, g2, e1, e2]
    generalize rfold t r k = v at *
    simp only [Bool.true_eq_false, if_false] at h
    by_cases a1 : v < least
    · have a1' : (v : Int) < least := by omega
      simp [a1, a1'] at h ⊢
      exact h
    by_cases a2 : 1114111 < v
    · have a1' : ¬ (v : Int) < least := by omega
      have a2' : (1114111 : Int) < v := by omega
      simp [a1, a1', a2, a2'] at h ⊢
      exact h
    by_cases a3 : 55296 ≤ v
    · by_cases a4 : v ≤ 57343
      · have a1' : ¬ (v : Int) < least := by omega
        have a2' : ¬ (1114111 : Int) < v := by omega
        have a3' : (55296 : Int) ≤ v := by omega
        have a4' : (v : Int) ≤ 57343 := by omega
        simp [a1, a1', a2, a2', a3, a3', a4, a4'] at h ⊢
        exact h
      · have a1' : ¬ (v : Int) < least := by omega
        have a2' : ¬ (1114111 : Int) < v := by omega
        have a3' : (55296 : Int) ≤ v := by omega
        have a4' : ¬ (v : Int) ≤ 57343 := by omega
        simp [a1, a1', a2, a2', a3, a3', a4, a4'] at h ⊢
        exact h
    · have a1' : ¬ (v : Int) < least := by omega
      have a2' : ¬ (1114111 : Int) < v := by omega
      have a3' : ¬ (55296 : Int) ≤ v := by omega
      simp [a1, a1', a2, a2', a3, a3'] at h ⊢
      exact h
end Go.Proofs.Ytgcpljghnlohbaa
set_option maxRecDepth 100000
namespace Go.Proofs.Ytgcpljghnlohbaa
open Go.Eng

theorem rune_ok {w : World} (t : ByteArray) {K : KV} (h : K (.tuple #[.int .i32 ((rr t).1 : Nat), .int .i64 ((rr t).2 : Nat)]) w) : callT P F.winnowref03_Rune [.string t] w K := by
  apply M.winnowref03_Rune.calls
  unfold M.winnowref03_Rune
  simp only [joinT_eq]
  unfold rr at h
  by_cases h0 : t.size = 0
  · simp [h0] at h ⊢
    exact h
  have hsz : 0 < t.size := by omega
  have hix : ∀ K, ixT P T.string (.string t) (.int .i64 0) w K = K (.int .u8 (byt t 0)) w := fun K => ix_str t hsz w K
  have hbl := byt_lt t 0
  have hw0 : IntKind.i32.wrap (byt t 0 : Int) = byt t 0 := wrap_i32 (by omega) (by omega)
  simp [h0] at h ⊢
  unfold M.winnowref03_Rune.j0
  simp only [joinT_eq, hix]
  by_cases h1 : byt t 0 < 128
  · have h1' : (byt t 0 : Int) < 128 := by omega
    simp [h1, h1', u8i32, hw0] at h ⊢
    exact h
  have h1' : ¬ (byt t 0 : Int) < 128 := by omega
  simp [h1, h1'] at h ⊢
  unfold M.winnowref03_Rune.j1
  simp only [joinT_eq]
  have fin : ∀ (n least r : Nat) (x2 : List Value), rcls (byt t 0) = (n, least, r) → n ≠ 0 → 2 ≤ n → n ≤ 4 → r ≤ 31 → least ≤ 65536 → gv x2 1 = .int .i64 (n : Nat) → gv x2 2 = .int .i32 (least : Nat) → gv x2 3 = .int .i32 (r : Nat) → M.winnowref03_Rune.j2 x2 (.string t) [.int .i32 0, .int .i64 0] w K := by
    intro n least r x2 hc hn0 hn hn4 hr hl e1 e2 e3
    rw [hc] at h
    unfold M.winnowref03_Rune.j2
    have hn0' : ¬ (n : Int) = 0 := by omega
    by_cases hs : t.size < n
    · have hs' : (t.size : Int) < n := by omega
      simp [e1, hn0, hn0', hs, hs'] at h ⊢
      exact h
    · have hs' : ¬ (t.size : Int) < n := by omega
      simp only [joinT_eq]
      simp [e1, hn0, hn0', hs, hs'] at h ⊢
      refine rune_cont hn hn4 hr hl (by omega) e1 e2 e3 ?_
      by_cases hcs : conts t (n - 1) = false
      · simp [hcs] at h ⊢; exact h
      · by_cases hv : rfold t r (n - 1) < least ∨ 1114111 < rfold t r (n - 1) ∨ (55296 ≤ rfold t r (n - 1) ∧ rfold t r (n - 1) ≤ 57343)
        · simp [hcs, hv] at h ⊢; exact h
        · simp [hcs, hv] at h ⊢; exact h
  generalize hb0 : byt t 0 = b0 at *
  have hsub : ∀ (y : Int), 0 ≤ y → y < 300 → (b0 : Int) - y = (((b0 : Int) - y)) := fun _ _ _ => rfl
  by_cases c1 : 194 ≤ b0 ∧ b0 ≤ 223
  · have p1 : (194 : Int) ≤ b0 := by omega
    have p2 : (b0 : Int) ≤ 223 := by omega
    have hw1 : IntKind.i32.wrap ((b0 : Int) - 192) = ((b0 - 192 : Nat) : Int) := by rw [wrap_i32 (by omega) (by omega)]; omega
    simp [p1, p2, u8i32, hw0, hw1]
    refine fin 2 128 (b0 - 192) _ (by simp [rcls, c1]) (by decide) (by decide) (by decide) (by omega) (by decide) rfl rfl rfl
  have hz : ∀ x2, gv x2 1 = .int .i64 0 → rcls b0 = (0, 0, 0) → M.winnowref03_Rune.j2 x2 (.string t) [.int .i32 0, .int .i64 0] w K := by
    intro x2 e1 hc
    rw [hc] at h
    unfold M.winnowref03_Rune.j2
    simp only [joinT_eq]
    simp [e1] at h ⊢
    exact h
  by_cases d1 : 224 ≤ b0
  · have p1 : (194 : Int) ≤ b0 := by omega
    have p2 : ¬ (b0 : Int) ≤ 223 := by omega
    have p3 : (224 : Int) ≤ b0 := by omega
    by_cases d2 : b0 ≤ 239
    · have p4 : (b0 : Int) ≤ 239 := by omega
      have hw1 : IntKind.i32.wrap ((b0 : Int) - 224) = ((b0 - 224 : Nat) : Int) := by rw [wrap_i32 (by omega) (by omega)]; omega
      simp [p1, p2, p3, p4, u8i32, hw0, hw1]
      exact fin 3 2048 (b0 - 224) _ (by simp [rcls, c1, d1, d2]) (by decide) (by decide) (by decide) (by omega) (by decide) rfl rfl rfl
    · have p4 : ¬ (b0 : Int) ≤ 239 := by omega
      have p5 : (240 : Int) ≤ b0 := by omega
      by_cases d3 : b0 ≤ 244
      · have p6 : (b0 : Int) ≤ 244 := by omega
        have hw1 : IntKind.i32.wrap ((b0 : Int) - 240) = ((b0 - 240 : Nat) : Int) := by rw [wrap_i32 (by omega) (by omega)]; omega
        simp [p1, p2, p3, p4, p5, p6, u8i32, hw0, hw1]
        exact fin 4 65536 (b0 - 240) _ (by unfold rcls; rw [if_neg c1, if_neg (by omega), if_pos (by omega)]) (by decide) (by decide) (by decide) (by omega) (by decide) rfl rfl rfl
      · have p6 : ¬ (b0 : Int) ≤ 244 := by omega
        simp [p1, p2, p3, p4, p5, p6, u8i32, hw0]
        exact hz _ rfl (by unfold rcls; rw [if_neg c1, if_neg (by omega), if_neg (by omega)])
  · have p1 : ¬ (194 : Int) ≤ b0 := by omega
    have p3 : ¬ (224 : Int) ≤ b0 := by omega
    have p5 : ¬ (240 : Int) ≤ b0 := by omega
    simp [p1, p3, p5]
    exact hz _ rfl (by unfold rcls; rw [if_neg c1, if_neg (by omega), if_neg (by omega)])
end Go.Proofs.Ytgcpljghnlohbaa
set_option maxRecDepth 100000
namespace Go.Proofs.Ytgcpljghnlohbaa
open Go.Eng

/-- What the document says of a class of first bytes. -/
theorem rr_cls {t : ByteArray} (h0 : 0 < t.size) (h1 : ¬ byt t 0 < 128) {n least r : Nat} (hc : rcls (byt t 0) = (n, least, r)) :
    rr t = if n = 0 ∨ t.size < n then (0, 0) else if conts t (n - 1) = false then (0, 0) else if rfold t r (n - 1) < least ∨ 1114111 < rfold t r (n - 1) ∨ (55296 ≤ rfold t r (n - 1) ∧ rfold t r (n - 1) ≤ 57343) then (0, 0) else (rfold t r (n - 1), n) := by
  unfold rr
  rw [if_neg (by omega), if_neg h1, hc]
theorem valid_eq (v : Nat) : Utf8.valid (v : Int) = decide (¬ (1114111 < v ∨ (55296 ≤ v ∧ v ≤ 57343))) := by
  unfold Utf8.valid
  rw [Bool.eq_iff_iff]
  simp only [Bool.or_eq_true, Bool.and_eq_true, decide_eq_true_eq]
  omega
def DCont (t : ByteArray) (k : Nat) : Bool := decide (k < t.size) && inCont t k
def dOne (least n v : Nat) : Nat × Nat := if least ≤ v ∧ ¬ (1114111 < v ∨ (55296 ≤ v ∧ v ≤ 57343)) then (v, n) else (65533, 1)
theorem decode_eq (t : ByteArray) : Utf8.decode t 0 = if byt t 0 < 128 then (byt t 0, 1) else if byt t 0 / 32 = 6 ∧ DCont t 1 = true then (if 128 ≤ byt t 0 % 32 * 64 + byt t 1 % 64 then (byt t 0 % 32 * 64 + byt t 1 % 64, 2) else (65533, 1))
    else if byt t 0 / 16 = 14 ∧ DCont t 1 = true ∧ DCont t 2 = true then dOne 2048 3 (byt t 0 % 16 * 4096 + byt t 1 % 64 * 64 + byt t 2 % 64)
    else if byt t 0 / 8 = 30 ∧ DCont t 1 = true ∧ DCont t 2 = true ∧ DCont t 3 = true then dOne 65536 4 (byt t 0 % 8 * 262144 + byt t 1 % 64 * 4096 + byt t 2 % 64 * 64 + byt t 3 % 64) else (65533, 1) := by
  have e : ∀ k, (t.get! (0 + k)).toNat = byt t k := fun k => by rw [Nat.zero_add]; rfl
  have c0 : ∀ k, (decide (0 + k < t.size) && byt t k / 64 == 2) = DCont t k := fun k => by
    have := byt_lt t k
    have : (byt t k / 64 == 2) = inCont t k := by
      unfold inCont
      by_cases h : 128 ≤ byt t k <;> by_cases h' : byt t k ≤ 191
      · have : byt t k / 64 = 2 := by omega
        simp [h, h', this]
      · have : ¬ byt t k / 64 = 2 := by omega
        simp [h, h', this]
      · have : ¬ byt t k / 64 = 2 := by omega
        simp [h, h', this]
      · omega
    rw [this, Nat.zero_add]; rfl
  unfold Utf8.decode dOne
  simp only [e, c0, valid_eq, Bool.and_eq_true, beq_iff_eq, and_assoc, decide_eq_true_eq, ge_iff_le, Utf8.runeError]
theorem dcont {t : ByteArray} {k : Nat} (h : DCont t k = true) : k < t.size ∧ inCont t k = true ∧ 128 ≤ byt t k ∧ byt t k ≤ 191 := by
  unfold DCont inCont at h
  simp only [Bool.and_eq_true, decide_eq_true_eq] at h
  exact ⟨h.1, by unfold inCont; simp [h.2], h.2.1, h.2.2⟩
theorem dcont' {t : ByteArray} {k : Nat} (h : ¬ DCont t k = true) (hs : k < t.size) : inCont t k = false := by
  unfold DCont at h
  simpa [hs] using h
def fixR (c : Nat × Nat) : Nat × Nat := if c.2 = 0 then (65533, 1) else c
theorem fix_one {least n v : Nat} (hn : n ≠ 0) : dOne least n v = fixR (if v < least ∨ 1114111 < v ∨ (55296 ≤ v ∧ v ≤ 57343) then (0, 0) else (v, n)) := by
  unfold dOne fixR
  by_cases g : v < least ∨ 1114111 < v ∨ (55296 ≤ v ∧ v ≤ 57343)
  · rw [if_pos g, if_neg (by omega)]; rfl
  · rw [if_neg g, if_pos (by omega)]; simp [hn]
theorem conts_all {t : ByteArray} : ∀ {n : Nat}, conts t n = true ↔ ∀ k, 1 ≤ k → k ≤ n → inCont t k = true
  | 0 => ⟨fun _ k h1 h2 => by omega, fun _ => rfl⟩
  | n + 1 => by
    simp only [conts, Bool.and_eq_true, conts_all (n := n)]
    constructor
    · rintro ⟨h1, h2⟩ k hk1 hk2
      by_cases hk : k = n + 1
      · subst hk; exact h2
      · exact h1 k hk1 (by omega)
    · intro h
      exact ⟨fun k h1 h2 => h k h1 (by omega), h (n + 1) (by omega) (by omega)⟩
theorem rr_yes {t : ByteArray} (h0 : 0 < t.size) (h1 : ¬ byt t 0 < 128) {n least r : Nat} (hc : rcls (byt t 0) = (n, least, r)) (hn : 2 ≤ n) (h : ∀ k, 1 ≤ k → k ≤ n - 1 → DCont t k = true) :
    rr t = if rfold t r (n - 1) < least ∨ 1114111 < rfold t r (n - 1) ∨ (55296 ≤ rfold t r (n - 1) ∧ rfold t r (n - 1) ≤ 57343) then (0, 0) else (rfold t r (n - 1), n) := by
  rw [rr_cls h0 h1 hc]
  have := (dcont (h (n - 1) (by omega) (by omega))).1
  rw [if_neg (by omega), if_neg]
  rw [conts_all.2 fun k h1 h2 => (dcont (h k h1 h2)).2.1]; simp
theorem rr_no {t : ByteArray} (h0 : 0 < t.size) (h1 : ¬ byt t 0 < 128) {n least r : Nat} (hc : rcls (byt t 0) = (n, least, r)) (hn : 2 ≤ n) (h : ¬ ∀ k, 1 ≤ k → k ≤ n - 1 → DCont t k = true) : rr t = (0, 0) := by
  rw [rr_cls h0 h1 hc]
  by_cases hs : t.size < n
  · rw [if_pos (.inr hs)]
  · rw [if_neg (by omega), if_pos]
    cases hcs : conts t (n - 1) with
    | false => rfl
    | true =>
      refine absurd (fun k h1 h2 => ?_) h
      unfold DCont
      rw [conts_all.1 hcs k h1 h2]
      simp; omega
theorem all1 {p : Nat → Prop} : (∀ k, 1 ≤ k → k ≤ 2 - 1 → p k) ↔ p 1 := ⟨fun h => h 1 (by omega) (by omega), fun h k h1 h2 => by
  obtain rfl : k = 1 := by omega
  exact h⟩
theorem all2 {p : Nat → Prop} : (∀ k, 1 ≤ k → k ≤ 3 - 1 → p k) ↔ p 1 ∧ p 2 := ⟨fun h => ⟨h 1 (by omega) (by omega), h 2 (by omega) (by omega)⟩, fun h k h1 h2 => by
  have : k = 1 ∨ k = 2 := by omega
  rcases this with rfl | rfl
  · exact h.1
  · exact h.2⟩
theorem all3 {p : Nat → Prop} : (∀ k, 1 ≤ k → k ≤ 4 - 1 → p k) ↔ p 1 ∧ p 2 ∧ p 3 := ⟨fun h => ⟨h 1 (by omega) (by omega), h 2 (by omega) (by omega), h 3 (by omega) (by omega)⟩, fun h k h1 h2 => by
  have : k = 1 ∨ k = 2 ∨ k = 3 := by omega
  rcases this with rfl | rfl | rfl
  · exact h.1
  · exact h.2.1
  · exact h.2.2⟩
theorem mod64 {x : Nat} (h1 : 128 ≤ x) (h2 : x ≤ 191) : x % 64 = x - 128 := by omega
theorem rf1 (t : ByteArray) (r : Nat) : rfold t r 1 = r * 64 + byt t 1 - 128 := rfl
theorem rf2 (t : ByteArray) (r : Nat) : rfold t r 2 = (r * 64 + byt t 1 - 128) * 64 + byt t 2 - 128 := rfl
theorem rf3 (t : ByteArray) (r : Nat) : rfold t r 3 = ((r * 64 + byt t 1 - 128) * 64 + byt t 2 - 128) * 64 + byt t 3 - 128 := rfl
theorem dec2 {t : ByteArray} (h0 : 0 < t.size) (c1 : 194 ≤ byt t 0 ∧ byt t 0 ≤ 223) : Utf8.decode t 0 = fixR (rr t) := by
  have h1 : ¬ byt t 0 < 128 := by omega
  have hc : rcls (byt t 0) = (2, 128, byt t 0 - 192) := by unfold rcls; rw [if_pos c1]
  rw [decode_eq, if_neg h1]
  by_cases hd : DCont t 1 = true
  · rw [rr_yes h0 h1 hc (by decide) (all1.2 hd), if_pos ⟨by omega, hd⟩, ← fix_one (by decide)]
    obtain ⟨_, _, g1, g2⟩ := dcont hd
    have hv : rfold t (byt t 0 - 192) (2 - 1) = byt t 0 % 32 * 64 + byt t 1 % 64 := by
      show rfold t (byt t 0 - 192) 1 = _
      rw [rf1, mod64 g1 g2]; omega
    rw [hv]
    have hle : byt t 0 % 32 * 64 + byt t 1 % 64 < 55296 := by omega
    unfold dOne
    by_cases hg : 128 ≤ byt t 0 % 32 * 64 + byt t 1 % 64
    · rw [if_pos hg, if_pos ⟨hg, by omega⟩]
    · rw [if_neg hg, if_neg fun h => hg h.1]
  · rw [if_neg fun h => hd h.2, if_neg (by omega), if_neg (by omega), rr_no h0 h1 hc (by decide) fun h => hd (all1.1 h)]; rfl
theorem dec3 {t : ByteArray} (h0 : 0 < t.size) (c1 : 224 ≤ byt t 0 ∧ byt t 0 ≤ 239) : Utf8.decode t 0 = fixR (rr t) := by
  have h1 : ¬ byt t 0 < 128 := by omega
  have hc : rcls (byt t 0) = (3, 2048, byt t 0 - 224) := by unfold rcls; rw [if_neg (by omega), if_pos c1]
  rw [decode_eq, if_neg h1, if_neg (by omega)]
  by_cases hd : DCont t 1 = true ∧ DCont t 2 = true
  · rw [rr_yes h0 h1 hc (by decide) (all2.2 hd), if_pos ⟨by omega, hd⟩, ← fix_one (by decide)]
    obtain ⟨_, _, g1, g2⟩ := dcont hd.1
    obtain ⟨_, _, g3, g4⟩ := dcont hd.2
    have hv : rfold t (byt t 0 - 224) (3 - 1) = byt t 0 % 16 * 4096 + byt t 1 % 64 * 64 + byt t 2 % 64 := by
      show rfold t (byt t 0 - 224) 2 = _
      rw [rf2, mod64 g1 g2, mod64 g3 g4]; omega
    rw [hv]
  · rw [if_neg fun h => hd h.2, if_neg (by omega), rr_no h0 h1 hc (by decide) fun h => hd (all2.1 h)]; rfl
theorem dec4 {t : ByteArray} (h0 : 0 < t.size) (c1 : 240 ≤ byt t 0 ∧ byt t 0 ≤ 244) : Utf8.decode t 0 = fixR (rr t) := by
  have h1 : ¬ byt t 0 < 128 := by omega
  have hc : rcls (byt t 0) = (4, 65536, byt t 0 - 240) := by unfold rcls; rw [if_neg (by omega), if_neg (by omega), if_pos c1]
  rw [decode_eq, if_neg h1, if_neg (by omega), if_neg (by omega)]
  by_cases hd : DCont t 1 = true ∧ DCont t 2 = true ∧ DCont t 3 = true
  · rw [rr_yes h0 h1 hc (by decide) (all3.2 hd), if_pos ⟨by omega, hd⟩, ← fix_one (by decide)]
    obtain ⟨_, _, g1, g2⟩ := dcont hd.1
    obtain ⟨_, _, g3, g4⟩ := dcont hd.2.1
    obtain ⟨_, _, g5, g6⟩ := dcont hd.2.2
    have hv : rfold t (byt t 0 - 240) (4 - 1) = byt t 0 % 8 * 262144 + byt t 1 % 64 * 4096 + byt t 2 % 64 * 64 + byt t 3 % 64 := by
      show rfold t (byt t 0 - 240) 3 = _
      rw [rf3, mod64 g1 g2, mod64 g3 g4, mod64 g5 g6]; omega
    rw [hv]
  · rw [if_neg fun h => hd h.2, rr_no h0 h1 hc (by decide) fun h => hd (all3.1 h)]; rfl
theorem decode_rr (t : ByteArray) (h0 : 0 < t.size) : Utf8.decode t 0 = fixR (rr t) := by
  by_cases h1 : byt t 0 < 128
  · have hr : rr t = (byt t 0, 1) := by unfold rr; rw [if_neg (by omega), if_pos h1]
    rw [decode_eq, if_pos h1, hr]; rfl
  by_cases c1 : 194 ≤ byt t 0 ∧ byt t 0 ≤ 223
  · exact dec2 h0 c1
  by_cases c2 : 224 ≤ byt t 0 ∧ byt t 0 ≤ 239
  · exact dec3 h0 c2
  by_cases c3 : 240 ≤ byt t 0 ∧ byt t 0 ≤ 244
  · exact dec4 h0 c3
  have hc : rcls (byt t 0) = (0, 0, 0) := by unfold rcls; rw [if_neg c1, if_neg c2, if_neg c3]
  have hr : rr t = (0, 0) := by rw [rr_cls h0 h1 hc]; simp
  have hb := byt_lt t 0
  rw [hr, decode_eq, if_neg h1]
  show _ = (65533, 1)
  by_cases d1 : byt t 0 / 32 = 6 ∧ DCont t 1 = true
  · obtain ⟨_, _, g1, g2⟩ := dcont d1.2
    rw [if_pos d1, if_neg (by omega)]
  · rw [if_neg d1, if_neg (by omega)]
    by_cases d3 : byt t 0 / 8 = 30 ∧ DCont t 1 = true ∧ DCont t 2 = true ∧ DCont t 3 = true
    · rw [if_pos d3]
      unfold dOne
      rw [if_neg (by omega)]
    · rw [if_neg d3]
end Go.Proofs.Ytgcpljghnlohbaa
set_option maxRecDepth 100000
namespace Go.Proofs.Ytgcpljghnlohbaa
open Go.Eng

/-! ### The rest of a text -/
def restS (s : ByteArray) (i : Nat) : ByteArray := s.extract i s.size
theorem size_rest (s : ByteArray) (i : Nat) : (restS s i).size = s.size - i := by simp [restS]
theorem get_eq (s : ByteArray) (k : Nat) : s.get! k = s.data[k]! := by cases s; rfl
theorem byt_rest (s : ByteArray) (i k : Nat) : byt (restS s i) k = byt s (i + k) := by
  unfold byt
  rw [get_eq, get_eq]
  have h : (restS s i).data = s.data.extract i s.size := by simp [restS]
  rw [h, getElem!_def, getElem!_def, Array.getElem?_extract]
  have hs : s.size = s.data.size := rfl
  by_cases hk : k < min s.size s.data.size - i
  · rw [if_pos (by omega)]
  · rw [if_neg (by omega), Array.getElem?_eq_none (by omega)]
theorem rest_rest (s : ByteArray) (i n : Nat) : restS (restS s i) n = restS s (i + n) := by
  unfold restS
  rw [ByteArray.extract_extract]
  congr 1
  simp; omega
theorem decode_rest (s : ByteArray) (i : Nat) : Utf8.decode s i = Utf8.decode (restS s i) 0 := by
  have e : ∀ k, (s.get! (i + k)).toNat = byt (restS s i) k := fun k => by rw [byt_rest]; rfl
  have e' : ∀ k, ((restS s i).get! (0 + k)).toNat = byt (restS s i) k := fun k => by rw [Nat.zero_add]; rfl
  have c : ∀ k, decide (i + k < s.size) = decide (0 + k < (restS s i).size) := fun k => by
    rw [size_rest, decide_eq_decide]; omega
  unfold Utf8.decode
  simp only [e, e', c]

/-! ### U+FFFD -/
theorem pre_iff (t : ByteArray) : hasPre t runeErr = true ↔ 3 ≤ t.size ∧ byt t 0 = 239 ∧ byt t 1 = 191 ∧ byt t 2 = 189 := by
  have hs : t.size = t.data.toList.length := Array.length_toList.symm
  have hr : runeErr.toList = [239, 191, 189] := by decide +kernel
  have hz : runeErr.size = 3 := rfl
  unfold hasPre
  rw [hr, hz, Bool.and_eq_true, decide_eq_true_eq, beq_iff_eq]
  have he : (t.extract 0 3).toList = t.data.toList.take 3 := by
    rw [ByteArray.toList_eq]
    simp
  rw [he]
  have b : ∀ k, byt t k = (t.data.toList[k]?.getD default).toNat := fun k => by
    unfold byt
    rw [get_eq, getElem!_def]
    simp only [Array.getElem?_toList]
    cases t.data[k]? <;> rfl
  rw [b, b, b, hs]
  have u : ∀ (x : UInt8) (n : Nat) (h : n < 256), x.toNat = n ↔ x = UInt8.ofNat n := fun x n h => by
    constructor
    · intro hx; rw [← hx]; simp
    · rintro rfl; simp; omega
  match t.data.toList with
  | [] => simp
  | [x] => simp
  | [x, y] => simp
  | x :: y :: z :: r =>
    simp [u x 239 (by decide), u y 191 (by decide), u z 189 (by decide)]
theorem rr_err (t : ByteArray) (h0 : 0 < t.size) : ((rr t).2 ≠ 0 ∧ (rr t).1 = 65533) ↔ (3 ≤ t.size ∧ byt t 0 = 239 ∧ byt t 1 = 191 ∧ byt t 2 = 189) := by
  have hb := byt_lt t 0
  by_cases h1 : byt t 0 < 128
  · have hr : rr t = (byt t 0, 1) := by unfold rr; rw [if_neg (by omega), if_pos h1]
    rw [hr]; simp; omega
  by_cases c1 : 194 ≤ byt t 0 ∧ byt t 0 ≤ 223
  · have hc : rcls (byt t 0) = (2, 128, byt t 0 - 192) := by unfold rcls; rw [if_pos c1]
    by_cases hd : DCont t 1 = true
    · rw [rr_yes h0 h1 hc (by decide) (all1.2 hd)]
      obtain ⟨_, _, g1, g2⟩ := dcont hd
      have hv : rfold t (byt t 0 - 192) (2 - 1) = (byt t 0 - 192) * 64 + byt t 1 - 128 := rfl
      rw [hv]
      split <;> simp <;> omega
    · rw [rr_no h0 h1 hc (by decide) fun h => hd (all1.1 h)]; simp; omega
  by_cases c2 : 224 ≤ byt t 0 ∧ byt t 0 ≤ 239
  · have hc : rcls (byt t 0) = (3, 2048, byt t 0 - 224) := by unfold rcls; rw [if_neg (by omega), if_pos c2]
    by_cases hd : DCont t 1 = true ∧ DCont t 2 = true
    · rw [rr_yes h0 h1 hc (by decide) (all2.2 hd)]
      obtain ⟨_, _, g1, g2⟩ := dcont hd.1
      obtain ⟨g5, _, g3, g4⟩ := dcont hd.2
      have hv : rfold t (byt t 0 - 224) (3 - 1) = ((byt t 0 - 224) * 64 + byt t 1 - 128) * 64 + byt t 2 - 128 := rfl
      rw [hv]
      split <;> simp <;> omega
    · rw [rr_no h0 h1 hc (by decide) fun h => hd (all2.1 h)]
      simp only [ne_eq, not_true_eq_false, false_and, false_iff]
      rintro ⟨k0, k1, k2, k3⟩
      apply hd
      unfold DCont inCont
      simp [k2, k3]; omega
  by_cases c3 : 240 ≤ byt t 0 ∧ byt t 0 ≤ 244
  · have hc : rcls (byt t 0) = (4, 65536, byt t 0 - 240) := by unfold rcls; rw [if_neg (by omega), if_neg (by omega), if_pos c3]
    by_cases hd : DCont t 1 = true ∧ DCont t 2 = true ∧ DCont t 3 = true
    · rw [rr_yes h0 h1 hc (by decide) (all3.2 hd)]
      generalize rfold t (byt t 0 - 240) (4 - 1) = v
      split <;> simp <;> omega
    · rw [rr_no h0 h1 hc (by decide) fun h => hd (all3.1 h)]; simp; omega
  have hc : rcls (byt t 0) = (0, 0, 0) := by unfold rcls; rw [if_neg c1, if_neg c2, if_neg c3]
  have hr : rr t = (0, 0) := by rw [rr_cls h0 h1 hc]; simp
  rw [hr]; simp; omega

/-! ### The runes of a text -/
theorem rr_width (t : ByteArray) : (rr t).2 ≤ t.size := by
  unfold rr
  by_cases h0 : t.size = 0
  · rw [if_pos h0]; omega
  rw [if_neg h0]
  split
  · simp; omega
  split
  · simp
  split
  · simp
  split
  · simp
  · simp; omega
/-- The runes from a place on; none: the text is not right. -/
def rrs (s : ByteArray) (i : Nat) : Option (List Nat) :=
  if h : i < s.size then (if h2 : (rr (restS s i)).2 = 0 then none else (rrs s (i + (rr (restS s i)).2)).map ((rr (restS s i)).1 :: ·)) else some []
termination_by s.size - i
decreasing_by omega
def ctl (c : Nat) : Bool := decide (c < 32) || (decide (127 ≤ c) && decide (c ≤ 159))
theorem runes_eq (s : ByteArray) : ∀ (m i : Nat), s.size - i ≤ m → runesOk s i = match rrs s i with
    | none => false
    | some l => l.all fun c => !ctl c := by
  intro m
  induction m with
  | zero =>
    intro i hm
    unfold runesOk rrs
    rw [dif_neg (by omega), dif_neg (by omega)]; rfl
  | succ m ih =>
    intro i hm
    unfold runesOk rrs
    by_cases hi : i < s.size
    · rw [dif_pos hi, dif_pos hi]
      have ht : 0 < (restS s i).size := by rw [size_rest]; omega
      have hd : Utf8.decode s i = fixR (rr (restS s i)) := by rw [decode_rest, decode_rr _ ht]
      have he := rr_err (restS s i) ht
      rw [← pre_iff] at he
      unfold badRune
      have hrest : s.extract i s.size = restS s i := rfl
      rw [hrest, hd]
      by_cases h2 : (rr (restS s i)).2 = 0
      · rw [dif_pos h2]
        have hp : hasPre (restS s i) runeErr = false := by
          cases hq : hasPre (restS s i) runeErr with
          | false => rfl
          | true => exact absurd h2 (he.2 hq).1
        simp [fixR, h2, hp]
      · rw [dif_neg h2]
        have hf : fixR (rr (restS s i)) = rr (restS s i) := by simp [fixR, h2]
        rw [hf, ih (i + (rr (restS s i)).2) (by omega)]
        have hb : (decide ((rr (restS s i)).1 < 32) || (decide (127 ≤ (rr (restS s i)).1) && decide ((rr (restS s i)).1 ≤ 159) || decide ((rr (restS s i)).1 = 65533) && !hasPre (restS s i) runeErr)) = ctl (rr (restS s i)).1 := by
          unfold ctl
          by_cases hc : (rr (restS s i)).1 = 65533
          · rw [he.1 ⟨h2, hc⟩, hc]; decide
          · simp [hc]
        rw [hb]
        cases rrs s (i + (rr (restS s i)).2) with
        | none => simp
        | some l => simp
    · rw [dif_neg hi, dif_neg hi]; rfl

def encR (c : Nat) : List Value := [.int .i32 (c : Nat)]
abbrev OwR (w : World) (base : Nat) (v : Value) (l : List Nat) : Prop := Ow w base T.int32 1 encR v l
def strLen (v : Value) : Nat := match v with
  | .string s => s.size
  | _ => 0
def RunI (w : World) (s : ByteArray) : KL := fun x w1 => ∃ (i : Nat) (l : List Nat), x.length = 6 ∧ gv x 5 = .string (restS s i) ∧ OwR w1 w.heap.size (gv x 4) l ∧ Fr (fun _ => False) w w1 ∧ i ≤ s.size ∧ l.length ≤ i ∧ rrs s 0 = (rrs s i).map (l ++ ·)
theorem runes_ok {w : World} {s : ByteArray} (hs : s.size < 100000) {K : KV} (h0 : rrs s 0 = none → ∀ w', Fr (fun _ => False) w w' → K (.tuple #[.slice none 0 0, .bool false]) w')
    (h1 : ∀ l, rrs s 0 = some l → l.length ≤ s.size → ∀ w' v, OwR w' w.heap.size v l → Fr (fun _ => False) w w' → K (.tuple #[v, .bool true]) w') : callT P F.winnowref03_Runes [.string s] w K := by
  apply M.winnowref03_Runes.calls
  unfold M.winnowref03_Runes
  rw [joinT_eq]
  refine ⟨RunI w s, fun x _ => strLen (gv x 5), ⟨0, [], rfl, ?_, Ow.none, Fr.refl _ _, Nat.zero_le _, Nat.le_refl _, by simp⟩, ?_⟩
  · show Value.string s = _
    unfold restS; simp
  rintro x w1 ⟨i, l, hx, e5, o1, f1, hi, hl, hR⟩
  unfold M.winnowref03_Runes.j1
  simp only [joinT_eq, e5, lenS]
  have hsz := size_rest s i
  by_cases hlt : i < s.size
  · have hlt' : (0 : Int) < ((restS s i).size : Int) := by omega
    simp only [bin_gtr, hlt', decide_true, Eng.cond_true]
    unfold M.winnowref03_Runes.j2
    rw [e5, M.winnowref03_Rune.fcall]
    refine rune_ok _ ?_
    simp only [ex_2_0, ex_2_1, joinT_eq, bin_eql]
    rw [show rrs s i = _ from rrs.eq_1 s i, dif_pos hlt] at hR
    by_cases h2 : (rr (restS s i)).2 = 0
    · have h2' : (((rr (restS s i)).2 : Nat) : Int) = 0 := by omega
      simp only [h2', decide_true, Eng.cond_true]
      rw [dif_pos h2] at hR
      exact h0 hR w1 f1
    · have h2' : ¬ (((rr (restS s i)).2 : Nat) : Int) = 0 := by omega
      simp only [h2', decide_false, Eng.cond_false]
      rw [dif_neg h2] at hR
      have hwd := rr_width (restS s i)
      unfold M.winnowref03_Runes.j3
      simp [e5]
      have fa : Fr (fun _ => False) w1 (w1.alloc (.cells #[.int .i32 ((rr (restS s i)).1 : Nat)] T.int32)) := (Fr.refl _ w1).alloc _
      have hge := f1.size
      refine app_sl et.sl_int32 (fun _ => rfl) (fun x u hu => by simp [encR] at hu; subst hu; rfl) (o1.fr fa fun _ _ h => h) (Sl.one (x := (rr (restS s i)).1) rfl rfl) (by simp; omega) (by decide) (by simp; omega) _ fun v' w2 o2 f2 g2 => ?_
      rw [sl_str (i := (rr (restS s i)).2) strT (.inr ⟨_, rfl⟩) (.inl ⟨rfl, rfl⟩) hwd (Nat.le_refl _)]
      refine ⟨⟨i + (rr (restS s i)).2, l ++ [(rr (restS s i)).1], rfl, ?_, o2, ?_, by omega, by simp; omega, ?_⟩, ?_⟩
      · show Value.string _ = _
        rw [← rest_rest]; rfl
      · refine f1.trans' ((fa.mono fun _ _ h => h.elim).trans f2) fun b hb he => ?_
        have := (o1.lt he).1; omega
      · rw [hR]
        cases rrs s (i + (rr (restS s i)).2) <;> simp
      · show strLen (.string ((restS s i).extract (rr (restS s i)).2 (restS s i).size)) < strLen (.string (restS s i))
        simp only [strLen, ByteArray.size_extract]
        omega
  · have hlt' : ¬ (0 : Int) < ((restS s i).size : Int) := by omega
    simp only [bin_gtr, hlt', decide_false, Eng.cond_false]
    rw [show rrs s i = _ from rrs.eq_1 s i, dif_neg hlt] at hR
    exact h1 l (by simpa using hR) (by omega) w1 _ o1 f1

/-! ### Name, Right -/
def NmI (w : World) (l : List Nat) : KL := fun x w1 => ∃ (u : Value) (i : Nat), x = [u, .int .i64 (i : Nat)] ∧ w1 = w ∧ i ≤ l.length ∧ ∀ j c, l[j]? = some c → j < i → ctl c = false
theorem refName_ok {w : World} (s : ByteArray) {K : KV} (h : ∀ w', Fr (fun _ => False) w w' → K (.int .i64 (nameK s)) w') : callT P F.winnowref03_Name [.string s] w K := by
  apply M.winnowref03_Name.calls
  unfold M.winnowref03_Name
  unfold nameK at h
  simp only [joinT_eq, lenS, bin_lss]
  by_cases h0 : s.size = 0
  · have : (s.size : Int) < 1 := by omega
    simp [h0] at h ⊢
    exact h w (Fr.refl _ _)
  have h0' : ¬ (s.size : Int) < 1 := by omega
  by_cases h1 : 32 < s.size
  · have h1' : (32 : Int) < s.size := by omega
    simp [h0, h0', h1, h1'] at h ⊢
    exact h w (Fr.refl _ _)
  have h1' : ¬ (32 : Int) < s.size := by omega
  simp [h0, h0', h1, h1'] at h ⊢
  unfold M.winnowref03_Name.j0
  rw [M.winnowref03_Runes.fcall]
  rw [runes_eq s _ 0 (Nat.le_refl _)] at h
  refine runes_ok (by omega) (fun hr w1 f1 => ?_) fun l hr hll w1 v o1 f1 => ?_
  · rw [hr] at h
    simp only [ex_2_0, ex_2_1, joinT_eq]
    refine ⟨fun x w2 => gv x 1 = .int .i64 0 ∧ w2 = w1, fun _ _ => 0, ⟨rfl, rfl⟩, ?_⟩
    rintro x w2 ⟨e1, rfl⟩
    simp [e1]
    have := h w2 f1
    simpa using this
  · rw [hr] at h
    simp only [ex_2_0, ex_2_1, joinT_eq]
    have hsl : Sl w1 1 encR v l := o1.sl fun _ => rfl
    refine ⟨NmI w1 l, fun x _ => l.length - ms x 1, ⟨_, 0, rfl, rfl, Nat.zero_le _, fun j c _ h => by omega⟩, ?_⟩
    rintro x w2 ⟨u, i, rfl, rfl, hi, hall⟩
    have q0 : ∀ a b : Value, gv [a, b] 0 = a := fun _ _ => rfl
    have q1 : ∀ a b : Value, gv [a, b] 1 = b := fun _ _ => rfl
    simp only [q0, q1]
    rw [hsl.len_ok (by simp)]
    by_cases hil : i < l.length
    · have hil' : (i : Int) < l.length := by omega
      simp only [bin_lss, hil', decide_true, Eng.cond_true]
      unfold M.winnowref03_Name.j3
      obtain ⟨b, o, cap, rfl, hb, _, hc⟩ := hsl.at hil
      have c0 := hc 0 _ rfl
      simp only [Nat.mul_one, Nat.add_zero] at c0
      generalize hli : l[i] = c at *
      have hgi : l[i]? = some c := by rw [List.getElem?_eq_getElem hil, hli]
      have hw : IntKind.i64.wrap ((i : Int) + 1) = ((i + 1 : Nat) : Int) := by rw [wrap_id (by omega) (by omega)]; rfl
      have bad : ctl c = true → K (.int .i64 5) w2 := fun hct => by
        have : (l.all fun c => !ctl c) = false := by
          rw [List.all_eq_false]
          exact ⟨c, List.mem_of_getElem? hgi, by simp [hct]⟩
        have hh := h w2 f1
        simpa [this] using hh
      have good : ctl c = false → ∀ u, NmI w2 l [u, .int .i64 ((i : Int) + 1)] w2 ∧ l.length - ms [u, .int .i64 ((i : Int) + 1)] 1 < l.length - ms [u, .int .i64 (i : Int)] 1 := fun hct u => by
        refine ⟨⟨u, i + 1, rfl, rfl, by omega, fun j c' hj hlt => ?_⟩, by simp [ms, gv]; omega⟩
        by_cases hji : j = i
        · subst hji; rw [hgi] at hj; cases hj; exact hct
        · exact hall j c' hj (by omega)
      by_cases d1 : c < 32
      · have d1' : (c : Int) < 32 := by omega
        simp [q0, q1, hil, c0, d1']
        exact bad (by simp [ctl, d1])
      have d1' : ¬ (c : Int) < 32 := by omega
      by_cases d2 : 127 ≤ c
      · have d2' : (127 : Int) ≤ c := by omega
        by_cases d3 : c ≤ 159
        · have d3' : (c : Int) ≤ 159 := by omega
          simp [q0, q1, hil, c0, d1', d2', d3']
          exact bad (by simp [ctl, d2, d3])
        · have d3' : ¬ (c : Int) ≤ 159 := by omega
          simp [q0, q1, hil, c0, d1', d2', d3', hw]
          exact good (by simp [ctl, d1, d3]) _
      · have d2' : ¬ (127 : Int) ≤ c := by omega
        simp [q0, q1, hil, c0, d1', d2', hw]
        exact good (by simp [ctl, d1, d2]) _
    · have hil' : ¬ (i : Int) < l.length := by omega
      simp only [bin_lss, hil', decide_false, Eng.cond_false]
      have : (l.all fun c => !ctl c) = true := by
        rw [List.all_eq_true]
        intro c hc
        obtain ⟨j, hj, rfl⟩ := List.mem_iff_getElem.1 hc
        rw [hall j _ (List.getElem?_eq_getElem hj) (by omega)]; rfl
      simp
      have hh := h w2 f1
      simpa [this] using hh
theorem orK2 (a b : Int) : orK [a, b] = if a = 0 then b else a := by
  unfold orK
  by_cases ha : a = 0 <;> by_cases hb : b = 0 <;> simp [List.find?, ha, hb]
theorem nameK_or (s : ByteArray) : nameK s = 0 ∨ nameK s = 5 := by
  unfold nameK
  split
  · exact .inr rfl
  split
  · exact .inl rfl
  · exact .inr rfl
theorem refRight_ok {w : World} (s : Spn) {K : KV} (h : ∀ w', Fr (fun _ => False) w w' → K (.int .i64 (rightK s)) w') : callT P F.winnowref03_Right [aggS s] w K := by
  apply M.winnowref03_Right.calls
  unfold M.winnowref03_Right
  rw [box_agg]
  have hb := boxS_new w s
  have hf : Fr (fun _ => False) w (w.alloc (.cells #[.int .u64 s.trace, .int .u64 s.id, .int .u64 s.parent, .int .u64 s.start, .int .u64 s.len, .string s.service, .string s.name, .bool s.fail] T.api_Span)) := (Fr.refl _ w).alloc _
  generalize w.alloc (.cells #[.int .u64 s.trace, .int .u64 s.id, .int .u64 s.parent, .int .u64 s.start, .int .u64 s.len, .string s.service, .string s.name, .bool s.fail] T.api_Span) = wa at *
  have c0 := boxS_at hb 0 _ rfl
  have c1 := boxS_at hb 1 _ rfl
  have c3 := boxS_at hb 3 _ rfl
  have c4 := boxS_at hb 4 _ rfl
  have c5 := boxS_at hb 5 _ rfl
  unfold rightK at h
  simp only [joinT_eq]
  by_cases h0 : s.trace = 0
  · simp [c0, h0] at h ⊢
    exact h wa hf
  by_cases h1 : s.id = 0
  · simp [c0, c1, h0, h1] at h ⊢
    exact h wa hf
  by_cases h2 : 1099511627776 < s.start
  · have h3 : 1099511627776 < max s.start s.len := by omega
    simp [c0, c1, c3, h0, h1, h2, h3] at h ⊢
    exact h wa hf
  by_cases h2' : 1099511627776 < s.len
  · have h3 : 1099511627776 < max s.start s.len := by omega
    simp [c0, c1, c3, c4, h0, h1, h2, h2', h3] at h ⊢
    exact h wa hf
  have h3 : ¬ 1099511627776 < max s.start s.len := by omega
  rw [if_neg (by simp [h0, h1, h3]), orK2] at h
  simp [c0, c1, c3, c4, h0, h1, h2, h2']
  unfold M.winnowref03_Right.j0
  simp [c5]
  rw [M.winnowref03_Name.fcall]
  refine refName_ok _ fun w2 f2 => ?_
  have hb2 : boxS w2 w.heap.size s := f2.heap hb fun h => h
  have d6 := boxS_at hb2 6 _ rfl
  by_cases n1 : nameK s.service = 0
  · simp [n1, d6] at h ⊢
    rw [M.winnowref03_Name.fcall]
    refine refName_ok _ fun w3 f3 => ?_
    have hh := h w3 ((hf.trans f2).trans f3)
    rcases nameK_or s.name with n2 | n2
    · simp [n2] at hh ⊢; exact hh
    · simp [n2] at hh ⊢; exact hh
  · have n5 : nameK s.service = 5 := (nameK_or _).resolve_left n1
    have hh := h w2 (hf.trans f2)
    simp [n5] at hh ⊢
    exact hh
end Go.Proofs.Ytgcpljghnlohbaa
set_option maxRecDepth 100000
namespace Go.Proofs.Ytgcpljghnlohbaa
open Go.Eng

/-! ### What Put leaves -/
theorem fullS_find (A : List AE) (k y : Int) : (fullS A k).find? (fun e => decide (e.t = y)) = (A.find? fun e => decide (e.t = y)).map fun e => if e.t = k then { e with over := true } else e := by
  unfold fullS
  induction A with
  | nil => rfl
  | cons a A ih =>
    simp only [List.map_cons, List.find?_cons]
    have ht : (if a.t = k then { a with over := true } else a).t = a.t := by split <;> rfl
    rw [ht]
    by_cases h : a.t = y
    · simp [h]
    · simp [h, ih]
theorem addS_find (A : List AE) (k y : Int) (s : Spn) : (addS A k s).find? (fun e => decide (e.t = y)) = (A.find? fun e => decide (e.t = y)).map fun e => if e.t = k then { e with l := e.l ++ [s] } else e := by
  unfold addS
  induction A with
  | nil => rfl
  | cons a A ih =>
    simp only [List.map_cons, List.find?_cons]
    have ht : (if a.t = k then { a with l := a.l ++ [s] } else a).t = a.t := by split <;> rfl
    rw [ht]
    by_cases h : a.t = y
    · simp [h]
    · simp [h, ih]
/-- A trace is there with such a span. -/
def HasId (A : List AE) (t i : Int) : Prop := ∃ e, A.find? (fun e => decide (e.t = t)) = some e ∧ (e.l.any fun x => decide (x.id = i)) = true
theorem put_has {g : Cfg} {A : List AE} {s : Spn} (h : putK g A s = 0) : HasId (putA g A s) s.trace s.id := by
  unfold putK at h
  unfold putA HasId
  by_cases hr : rightK s = 0
  · simp only [hr, ne_eq, not_true_eq_false, if_false] at h ⊢
    rcases find_ae A s.trace with ⟨e, hf, he, het⟩ | ⟨hf, hno⟩
    · rw [hf] at h ⊢
      simp only at h ⊢
      by_cases ha : (e.l.any fun x => decide (x.id = s.id)) = true
      · rw [if_pos ha]; exact ⟨e, hf, ha⟩
      · rw [if_neg ha] at h ⊢
        by_cases hg : g.spans ≤ e.l.length
        · rw [if_pos hg] at h; omega
        · rw [if_neg hg, addS_find, hf]
          refine ⟨_, rfl, ?_⟩
          simp [het]
    · rw [hf] at h ⊢
      simp only at h ⊢
      by_cases hg : g.traces ≤ A.length
      · rw [if_pos hg] at h; omega
      · rw [if_neg hg, List.find?_append, hf]
        exact ⟨⟨s.trace, [s], false⟩, by simp, by simp⟩
  · simp only [hr, ne_eq, not_false_eq_true, if_true] at h
theorem put_keeps {g : Cfg} {A : List AE} {s : Spn} {t i : Int} (h : HasId A t i) : HasId (putA g A s) t i := by
  obtain ⟨e0, hf0, h0⟩ := h
  unfold putA HasId
  by_cases hr : rightK s = 0
  · simp only [hr, ne_eq, not_true_eq_false, if_false]
    rcases find_ae A s.trace with ⟨e, hf, he, het⟩ | ⟨hf, hno⟩
    · rw [hf]
      simp only
      by_cases ha : (e.l.any fun x => decide (x.id = s.id)) = true
      · rw [if_pos ha]; exact ⟨e0, hf0, h0⟩
      · rw [if_neg ha]
        by_cases hg : g.spans ≤ e.l.length
        · rw [if_pos hg, fullS_find, hf0]
          refine ⟨_, rfl, ?_⟩
          show ((if e0.t = s.trace then ({ e0 with over := true } : AE) else e0).l.any _) = true
          split <;> exact h0
        · rw [if_neg hg, addS_find, hf0]
          refine ⟨_, rfl, ?_⟩
          show ((if e0.t = s.trace then ({ e0 with l := e0.l ++ [s] } : AE) else e0).l.any _) = true
          split
          · simp only [List.any_append, h0, Bool.true_or]
          · exact h0
    · rw [hf]
      simp only
      by_cases hg : g.traces ≤ A.length
      · rw [if_pos hg]; exact ⟨e0, hf0, h0⟩
      · rw [if_neg hg, List.find?_append, hf0]
        exact ⟨e0, rfl, h0⟩
  · simp only [hr, ne_eq, not_false_eq_true, if_true]
    exact ⟨e0, hf0, h0⟩
theorem put_size (g : Cfg) (A : List AE) (s : Spn) {n : Nat} (h1 : A.length ≤ n) (h2 : ∀ e ∈ A, e.l.length ≤ n) : (putA g A s).length ≤ n + 1 ∧ ∀ e ∈ putA g A s, e.l.length ≤ n + 1 := by
  unfold putA
  split
  · exact ⟨by omega, fun e he => by have := h2 e he; omega⟩
  split
  · split
    · exact ⟨by omega, fun e he => by have := h2 e he; omega⟩
    · refine ⟨by simp; omega, fun e he => ?_⟩
      rcases List.mem_append.1 he with he | he
      · have := h2 e he; omega
      · simp at he; subst he; simp
  · split
    · exact ⟨by omega, fun e he => by have := h2 e he; omega⟩
    · split
      · refine ⟨by simp [fullS]; omega, fun e he => ?_⟩
        obtain ⟨x, hx, rfl⟩ := List.mem_map.1 he
        have := h2 x hx
        split <;> (simp; omega)
      · exact ⟨by simp [addS]; omega, addS_len A _ _ h2⟩
theorem put_same {g : Cfg} {A : List AE} {s : Spn} {c : CT} {now : Int} {e : AE} (hf : A.find? (fun e => decide (e.t = s.trace)) = some e) (h : (e.l.any fun x => decide (x.id = s.id)) = true) : putA g A s = A ∧ putC g A c s now = c ∧ putK g A s = rightK s := by
  unfold putA putC putK
  rw [hf]
  by_cases hr : rightK s = 0
  · simp [hr, h]
  · simp [hr]

theorem twice_alive {W w : World} {L : List Asn} (S : St W w L) {K : KV} (h : ∀ w', Fr (fun _ => False) W w' → K (.bool true) w') : fcallT P F.winnowlaw16_alive [] w fun t w => K t w := by
  rw [M.winnowlaw16_alive.fcall]
  exact alive_ok fun w' f => h w' (S.fr.trans f)

structure TwI (W w : World) (hb : Nat) (g : Cfg) (i : Nat) (l : List Spn) (A : List AE) (c : CT) (R : List Asn) : Prop where
  st : St W w (bufA hb g A c :: R)
  al : A.length ≤ i
  el : ∀ e ∈ A, e.l.length ≤ i
  has : ∀ j (h : j < l.length), j < i → HasId A l[j].trace l[j].id
def TwL (W : World) (hb : Nat) (g : Cfg) (l : List Spn) (R : List Asn) : KL := fun x w => ∃ (u : Value) (i : Nat) (A : List AE) (c : CT), x = [u, .int .i64 (i : Nat)] ∧ i ≤ l.length ∧ TwI W w hb g i l A c R

theorem bufferTwice_ok {W : World} {lv : Value} {l : List Spn} (hl : SlS W lv l) {at' : Int} (hat : -9223372036854775808 ≤ at' ∧ at' < 9223372036854775808) (other : Spn) {K : KV} (h : ∀ w', Fr (fun _ => False) W w' → K (.bool true) w') :
    callT P F.winnowlaw16_BufferTwice [lv, .int .i64 at', aggS other] W K := by
  apply M.winnowlaw16_BufferTwice.calls
  unfold M.winnowlaw16_BufferTwice
  rw [box_agg]
  have hbx0 := boxS_new W other
  have S0 : St W (W.alloc (.cells #[.int .u64 other.trace, .int .u64 other.id, .int .u64 other.parent, .int .u64 other.start, .int .u64 other.len, .string other.service, .string other.name, .bool other.fail] T.api_Span)) [blkA W.heap.size (encS other).toArray T.api_Span] :=
    (St.start W).add ((Fr.refl _ W).alloc _) (B := fun b => b = W.heap.size) ⟨hbx0, rfl⟩ fun b hb => by subst hb; simp
  generalize hwa : W.alloc (.cells #[.int .u64 other.trace, .int .u64 other.id, .int .u64 other.parent, .int .u64 other.start, .int .u64 other.len, .string other.service, .string other.name, .bool other.fail] T.api_Span) = w1 at *
  have hlen : ∀ (w : World) (L : List Asn), St W w L → ∀ (cs : List Bool) (K : KV), biT P .len #[T.sl_api_Span] T.int cs [lv] w K = K (.int .i64 l.length) w := fun w L S cs K => (S.old hl).len_ok (by simp) cs
  simp only [joinT_eq]
  rw [hlen _ _ S0]
  by_cases h60 : 60 < l.length
  · have h60' : (60 : Int) < l.length := by omega
    simp [h60']
    exact twice_alive S0 h
  have h60' : ¬ (60 : Int) < l.length := by omega
  by_cases hneg : at' < 0
  · simp [h60', hneg]
    exact twice_alive S0 h
  by_cases hge : (l.length : Int) ≤ at'
  · simp [h60', hneg, hge]
    rw [hlen _ _ S0]
    simp [hge]
    exact twice_alive S0 h
  obtain ⟨k, rfl⟩ : ∃ k : Nat, at' = k := ⟨at'.toNat, by omega⟩
  have hk : k < l.length := by omega
  have hge' : ¬ (l.length : Int) ≤ k := by omega
  simp [h60', hneg]
  rw [hlen _ _ S0]
  simp [hge']
  unfold M.winnowlaw16_BufferTwice.j0
  refine new_st S0 8 8 5 (fun hx => by omega) fun g w2 hb e1 e2 e3 g1 g2 g3 g4 g5 S2 => ?_
  have hwt : 0 ≤ g.wait := by omega
  simp
  refine ⟨TwL W hb g l [blkA W.heap.size (encS other).toArray T.api_Span], fun x _ => l.length - ms x 1, ⟨_, 0, [], [], rfl, Nat.zero_le _, ⟨S2, Nat.le_refl _, fun e he => (by cases he), fun j _ hj => by omega⟩⟩, ?_⟩
  rintro x w3 ⟨u, i, A, c, rfl, hi, S3, hA, hE, hH⟩
  have q0 : ∀ a b : Value, gv [a, b] 0 = a := fun _ _ => rfl
  have q1 : ∀ a b : Value, gv [a, b] 1 = b := fun _ _ => rfl
  unfold M.winnowlaw16_BufferTwice.j3
  simp only [joinT_eq, q0, q1]
  rw [hlen _ _ S3]
  by_cases hil : i < l.length
  · have hil' : (i : Int) < l.length := by omega
    simp only [bin_lss, hil', decide_true, Eng.cond_true]
    unfold M.winnowlaw16_BufferTwice.j4
    obtain ⟨b, o, cap, hv, hb0, _, hr⟩ := (S3.old hl).at hil
    have c6 := hr 6 _ rfl
    have c5 := hr 5 _ rfl
    have hw : IntKind.i64.wrap ((i : Int) + 1) = ((i + 1 : Nat) : Int) := by rw [wrap_id (by omega) (by omega)]; rfl
    simp only [joinT_eq, q0, q1]
    rw [hv]
    by_cases hn : 200 < l[i].name.size
    · have hn' : (200 : Int) < l[i].name.size := by omega
      simp [hil, c6, hn']
      exact twice_alive S3 h
    have hn' : ¬ (200 : Int) < l[i].name.size := by omega
    by_cases hm : 200 < l[i].service.size
    · have hm' : (200 : Int) < l[i].service.size := by omega
      simp [hil, c6, c5, hn', hm']
      exact twice_alive S3 h
    have hm' : ¬ (200 : Int) < l[i].service.size := by omega
    simp [hil, c6, c5, hn', hm']
    unfold M.winnowlaw16_BufferTwice.j6
    have hld : ∀ K, ldN P 8 b (o + i * 8) w3 K = K (aggS l[i]) w3 := fun K => ldS hr K
    simp [q0, q1, hil, hld]
    refine put_st S3 (by omega) (fun e he => by have := hE e he; omega) l[i] (now := 0) (by omega) hwt fun w4 S4 => ?_
    by_cases hp : putK g A l[i] = 0
    · have hz := put_size g A l[i] hA hE
      simp [hp, hw]
      refine ⟨⟨_, i + 1, _, _, rfl, by omega, ⟨S4, hz.1, hz.2, fun j hj hji => ?_⟩⟩, by simp [ms, gv]; omega⟩
      by_cases hje : j = i
      · subst hje; exact put_has hp
      · exact put_keeps (hH j hj (by omega))
    · simp [hp]
      exact twice_alive S4 h
  · have hil' : ¬ (i : Int) < l.length := by omega
    simp only [bin_lss, hil', decide_false, Eng.cond_false]
    unfold M.winnowlaw16_BufferTwice.j2
    obtain ⟨e, hf, hany⟩ := hH k hk (by omega)
    obtain ⟨b, o, cap, hv, hb0, _, hr0⟩ := hl.at hk
    have hrd : ∀ w L, St W w L → ∀ j v, (encS l[k])[j]? = some v → cellOf w b (o + k * 8 + j) = some v := fun w L S j v hj => by
      rw [cellOf_heap (S.fr.keep b hb0 fun h => h)]; exact hr0 j v hj
    have kn : (k : Int) < l.length := by omega
    have c0 := hrd _ _ S3 0 _ rfl
    simp only [Nat.add_zero] at c0
    rw [hv]
    simp [hk, c0]
    have hE' : ∀ e ∈ A, e.l.length ≤ 1000 := fun e he => by have := hE e he; omega
    refine get_st S3 hE' _ (fun hn => by rw [hf] at hn; cases hn) fun e' hf' w4 v4 S4 => ?_
    rw [hf] at hf'; cases hf'
    have S4' := S4.third
    have hbx4 : boxS w4 W.heap.size other := S4'.blk
    have d0 := hrd _ _ S4 0 _ rfl
    have d1 := hrd _ _ S4 1 _ rfl
    simp only [Nat.add_zero] at d0
    have b0 := boxS_at hbx4 0 _ rfl
    have b1 := boxS_at hbx4 1 _ rfl
    have f0 := frzOf_of hbx4 0
    have f1 := frzOf_of hbx4 1
    have hne : b ≠ W.heap.size := by omega
    simp [hk, d0, d1, b0, b1, f0, f1, cellOf_setCell, frzOf_setCell, hne, hne.symm]
    -- the other span, turned
    have hbx5 : boxS (((dr w4 1).setCell ⟨W.heap.size, 0, none⟩ (.int .u64 l[k].trace)).setCell ⟨W.heap.size, 1, none⟩ (.int .u64 l[k].id)) W.heap.size { other with trace := l[k].trace, id := l[k].id } :=
      boxS_id (boxS_trace (w := dr w4 1) hbx4 l[k].trace) l[k].id
    have fx : Fr (fun b => b = W.heap.size) w4 (((dr w4 1).setCell ⟨W.heap.size, 0, none⟩ (.int .u64 l[k].trace)).setCell ⟨W.heap.size, 1, none⟩ (.int .u64 l[k].id)) := (((Fr.refl (fun b => b = W.heap.size) w4).dr 1).setCell (.inl rfl) _ _).setCell (.inl rfl) _ _
    have S5 := S4'.turn fx hbx5
    generalize (((dr w4 1).setCell ⟨W.heap.size, 0, none⟩ (.int .u64 l[k].trace)).setCell ⟨W.heap.size, 1, none⟩ (.int .u64 l[k].id)) = w5 at *
    generalize hoth : ({ other with trace := l[k].trace, id := l[k].id } : Spn) = oth at *
    have ht : oth.trace = l[k].trace := by rw [← hoth]
    have hid : oth.id = l[k].id := by rw [← hoth]
    rw [ldBox hbx5]
    obtain ⟨p1, p2, p3⟩ := put_same (g := g) (s := oth) (c := c) (now := 9) (by rw [ht]; exact hf) (by rw [hid]; exact hany)
    refine put_st S5.third (by omega) hE' oth (now := 9) (by omega) hwt fun w6 S6 => ?_
    rw [p1, p2, p3] at *
    have e0 := hrd _ _ S6 0 _ rfl
    simp only [Nat.add_zero] at e0
    simp [hk, e0]
    refine get_st S6 hE' _ (fun hn => by rw [hf] at hn; cases hn) fun e' hf' w7 v7 S7 => ?_
    rw [hf] at hf'; cases hf'
    have hbx7 : boxS w7 W.heap.size oth := S7.third.blk
    simp only [ex_3_0, ex_3_1, ex_3_2]
    rw [ldBox hbx7, M.winnowref03_Right.fcall]
    refine refRight_ok oth fun w8 f8 => ?_
    have S8 := S7.step f8
    have hlen' : e.l.length < 1000000 := by have := hE' e (List.mem_of_find?_eq_some hf); omega
    have hsame : sameL e.l e.l := ⟨rfl, fun j h1 h2 => sameS_refl _⟩
    -- the rest, whatever Right says
    have tail : ∀ w9, Fr (fun _ => False) w8 w9 → M.winnowlaw16_BufferTwice.j7 (.slice (some ⟨b, o, none⟩) l.length cap) (.int .i64 (k : Nat)) (.pointer (some ⟨hb, 0, none⟩)) v4 w9 K := by
      intro w9 f9
      have S9 := S8.step f9
      unfold M.winnowlaw16_BufferTwice.j7
      have g0 := hrd _ _ S9 0 _ rfl
      simp only [Nat.add_zero] at g0
      simp [hk, g0]
      refine take_st S9.swap (by omega) _ (fun hn => by rw [hf] at hn; cases hn) fun e' hf' w10 v10 s10 S10 => ?_
      rw [hf] at hf'; cases hf'
      have g1 := hrd _ _ S10 0 _ rfl
      simp only [Nat.add_zero] at g1
      have hno : (without A l[k].trace).find? (fun e => decide (e.t = l[k].trace)) = none := by
        rw [List.find?_eq_none]
        intro x hx
        unfold without at hx
        rw [List.mem_filter] at hx
        simpa using hx.2
      have hE10 : ∀ e ∈ without A l[k].trace, e.l.length ≤ 1000 := fun x hx => hE' x (List.mem_filter.1 hx).1
      simp [hk, g1]
      refine get_st S10 hE10 _ (fun _ => ?_) fun e' hf' => by rw [hno] at hf'; cases hf'
      simp
      have s4 : SlS w10 v4 e.l := S10.fourth.rd
      rw [M.winnowref03_Spans.fcall]
      refine spans_ok s10 s4 hlen' hsame fun w11 f11 => ?_
      have S11 := S10.step f11
      have g2 := hrd _ _ S11 0 _ rfl
      simp only [Nat.add_zero] at g2
      simp [hk, g2]
      have hAl : (without A l[k].trace).length ≤ 1000 := by
        have := List.length_filter_le (fun e : AE => !decide (e.t = l[k].trace)) A
        unfold without; omega
      refine take_st S11 hAl _ (fun _ => ?_) fun e' hf' => by rw [hno] at hf'; cases hf'
      simp [hk, g2]
      refine delay_no_st S11 _ _ (fun x hx => ?_) ?_
      · have := List.find?_eq_none.1 hno x hx
        simpa using this
      · simp
        exact twice_alive S11 h
    have sp : ∀ {K' : KV}, (∀ w', Fr (fun _ => False) w8 w' → K' (.bool true) w') → fcallT P F.winnowref03_Spans [v4, v7] w8 K' := fun {K'} hK' => by
      rw [M.winnowref03_Spans.fcall]
      exact spans_ok S8.fourth.rd S8.rd hlen' hsame hK'
    by_cases hr : rightK oth = 0
    · simp [hr]
      refine sp fun w9 f9 => ?_
      simp
      exact tail w9 f9
    · simp [hr]
      refine sp fun w9 f9 => ?_
      simp
      exact tail w9 f9
theorem wf_i64 {x : Int} (h : (Lit.int .i64 x).wf = true) : -9223372036854775808 ≤ x ∧ x < 9223372036854775808 := by
  simp [Lit.wf, IntKind.min, IntKind.max, IntKind.bits, IntKind.signed] at h
  omega
theorem BufferTwice_law {W : World} {n0 : Nat} {v0 : Value} (h0 : TV P W n0 T.sl_api_Span [v0]) {a1 : Int} (h1 : (Lit.int .i64 a1).wf = true) {n2 : Nat} {c2 : Array Value} (h2 : TV P W n2 T.api_Span c2.toList) {K : KV}
    (h : ∀ w', Fr (fun _ => False) W w' → K (.bool true) w') : callT P F.winnowlaw16_BufferTwice [v0, .int .i64 a1, .agg c2] W K := by
  obtain ⟨l, hl⟩ := spans_of h0
  obtain ⟨s, hs⟩ := agg_of h2
  rw [hs]
  exact bufferTwice_ok hl (wf_i64 h1) s h
end Go.Proofs.Ytgcpljghnlohbaa
