/-
  The laws' own small functions: two rows of numbers, the chapter's example. No condition.
-/
import Derived.Test.YtgcpljghnlohbaaBuf5
set_option maxRecDepth 100000
namespace Go.Proofs.Ytgcpljghnlohbaa
open Go.Eng

def encU (k : Int) : List Value := [.int .u64 k]
theorem encU_len (p : Int) : (encU p).length = 1 := rfl
theorem encU_one (p : Int) : ∀ u ∈ encU p, oneC u = true := fun u hu => by
  simp only [encU, List.mem_cons, List.not_mem_nil, or_false] at hu
  subst hu; rfl
abbrev SlU (w : World) (v : Value) (l : List Int) : Prop := Sl w 1 encU v l
abbrev OwU (w : World) (base : Nat) (v : Value) (l : List Int) : Prop := Ow w base T.uint64 1 encU v l
theorem flat_encU (l : List Int) : l.flatMap encU = u64s l := by
  unfold u64s
  induction l with
  | nil => rfl
  | cons x l ih => rw [List.flatMap_cons, List.map_cons, ih]; rfl
theorem owU_of_row {w : World} {base n : Nat} {v : Value} {l : List Int} (h : w.ownsRow base T.uint64 1 v n (u64s l)) : OwU w base v l := by
  have hn : l.length = n := by have := row_len h; simpa [u64s] using this
  unfold OwU Ow
  rw [flat_encU, hn]; exact h
theorem slU_at {w : World} {v : Value} {l : List Int} (h : SlU w v l) {i : Nat} (hi : i < l.length) : ∃ b o cap, v = .slice (some ⟨b, o, none⟩) l.length cap ∧ b < w.heap.size ∧ cellOf w b (o + i) = some (.int .u64 l[i]) := by
  obtain ⟨b, o, cap, hv, hb, _, hr⟩ := h.at hi
  have := hr 0 _ rfl
  simp only [Nat.mul_one, Nat.add_zero] at this
  exact ⟨b, o, cap, hv, hb, this⟩

def UintsI (w : World) (l1 l2 : List Int) : KL := fun x w1 => ∃ (a : Value) (i : Nat), x = [a, .int .i64 (i : Nat)] ∧ i ≤ l1.length ∧ l1.take i = l2.take i ∧ Fr (fun _ => False) w w1
theorem uints_ok {w : World} {v1 v2 : Value} {l1 l2 : List Int} (h1 : SlU w v1 l1) (h2 : SlU w v2 l2) (hn : l1.length < 1000000) {K : KV}
    (h : ∀ w', Fr (fun _ => False) w w' → K (.bool (decide (l1 = l2))) w') : callT P F.winnowlaw16_uints [v1, v2] w K := by
  apply M.winnowlaw16_uints.calls
  unfold M.winnowlaw16_uints
  simp only [joinT_eq]
  rw [h1.len_ok (by simp), h2.len_ok (by simp)]
  by_cases hne : l1.length = l2.length
  · have hne' : (l1.length : Int) = l2.length := by omega
    simp [hne]
    unfold M.winnowlaw16_uints.j0
    simp only [joinT_eq]
    refine ⟨UintsI w l1 l2, fun x _ => l1.length - ms x 1, ⟨_, 0, rfl, Nat.zero_le _, by simp, Fr.refl _ _⟩, ?_⟩
    rintro x w1 ⟨a, i, rfl, hin, htk, hf1⟩
    have g1 : gv [a, .int .i64 (i : Int)] 1 = .int .i64 (i : Int) := rfl
    simp only [g1]
    have hr1 : SlU w1 v1 l1 := h1.fr hf1 fun _ _ _ h => h
    have hr2 : SlU w1 v2 l2 := h2.fr hf1 fun _ _ _ h => h
    rw [hr1.len_ok (by simp)]
    by_cases hlt : i < l1.length
    · have hlt2 : i < l2.length := by omega
      obtain ⟨b1, o1, c1, rfl, _, k1⟩ := slU_at hr1 hlt
      obtain ⟨b2, o2, c2, rfl, _, k2⟩ := slU_at hr2 hlt2
      have hw : IntKind.i64.wrap ((i : Int) + 1) = ((i + 1 : Nat) : Int) := by rw [wrap_id (by omega) (by omega)]; rfl
      simp [hlt]
      unfold M.winnowlaw16_uints.j3
      simp only [joinT_eq, g1]
      by_cases heq : l1[i] = l2[i]
      · simp [hlt, hlt2, k1, k2, heq, hw]
        refine ⟨⟨_, i + 1, rfl, by omega, ?_, hf1.dr 1⟩, by simp [ms, gv]; omega⟩
        rw [List.take_succ_eq_append_getElem hlt, List.take_succ_eq_append_getElem hlt2, htk, heq]
      · have hne : ¬ l1 = l2 := fun h => heq (by subst h; rfl)
        simp [hlt, hlt2, k1, k2, heq]
        have := h _ (hf1.dr 1)
        simpa [hne] using this
    · have hin' : i = l1.length := by omega
      subst hin'
      rw [List.take_of_length_le (by omega), List.take_of_length_le (by omega)] at htk
      simp
      have := h _ hf1
      simpa [htk] using this
  · have hne' : ¬ ((l1.length : Int) = l2.length) := by omega
    have hl : ¬ l1 = l2 := fun h => hne (by rw [h])
    simp [hne, hne']
    have := h w (Fr.refl _ _)
    simpa [hl] using this

/-! ### The example -/
def spn (t i : Int) : Spn := ⟨t, i, 0, 0, 0, ⟨#[97]⟩, ⟨#[98]⟩, false⟩
theorem nameA : nameK ⟨#[97]⟩ = 0 := by decide +kernel
theorem nameB : nameK ⟨#[98]⟩ = 0 := by decide +kernel
theorem right_spn {t i : Int} (ht : t ≠ 0) (hi : i ≠ 0) : rightK (spn t i) = 0 := by
  unfold rightK spn
  simp only [ht, hi, false_or, nameA, nameB]
  decide

theorem boxS_trace {w : World} {b : Nat} {s : Spn} (h : boxS w b s) (t : Int) : boxS (w.setCell ⟨b, 0, none⟩ (.int .u64 t)) b { s with trace := t } := by
  unfold boxS; rw [setCell_at h]; rfl
theorem boxS_id {w : World} {b : Nat} {s : Spn} (h : boxS w b s) (t : Int) : boxS (w.setCell ⟨b, 1, none⟩ (.int .u64 t)) b { s with id := t } := by
  unfold boxS; rw [setCell_at h]; rfl
theorem ldBox {w : World} {b : Nat} {s : Spn} (h : boxS w b s) (K : KV) : ldN P 8 b 0 w K = K (aggS s) w := ldS (fun k v hk => by rw [Nat.zero_add]; exact boxS_at h k v hk) K
theorem st_box {w : World} {b i : Nat} {s : Spn} (h : boxS w b s) (hi : i < 8) (k : IntKind) (x : Int) (K : KV) : st1 P b i (.int k x) w K = K undef (w.setCell ⟨b, i, none⟩ (.int k x)) :=
  st1_int k x (by rw [cellOf_of h, Array.getElem?_eq_getElem (by simpa using hi)]; rfl) (frzOf_of h i) K

theorem alive_ok {w : World} {K : KV} (h : ∀ w', Fr (fun _ => False) w w' → K (.bool true) w') : callT P F.winnowlaw16_alive [] w K := by
  apply M.winnowlaw16_alive.calls
  unfold M.winnowlaw16_alive
  rw [M.buffer_New.fcall]
  refine new_ok 1 1 5 (fun hx => by omega) fun g w1 hg1 hg2 hg3 _ _ _ _ _ I1 f1 => ?_
  have t1 : g.traces = 1 := by omega
  have t2 : g.spans = 1 := by omega
  simp
  unfold M.winnowlaw16_alive.j0
  simp
  generalize hwa : w1.alloc (.cells #[.int .u64 0, .int .u64 0, .int .u64 0, .int .u64 0, .int .u64 0, .string ⟨#[]⟩, .string ⟨#[]⟩, .bool false] T.api_Span) = wa
  have hba : wa.heap[w1.heap.size]? = some (.cells #[.int .u64 0, .int .u64 0, .int .u64 0, .int .u64 0, .int .u64 0, .string ⟨#[]⟩, .string ⟨#[]⟩, .bool false] T.api_Span (0, 0)) := by rw [← hwa, alloc_heap, if_pos rfl]
  have hfa : Fr (fun _ => False) w1 wa := by rw [← hwa]; exact (Fr.refl _ w1).alloc _
  refine stN_all (vs := encS (spn 1 1)) hba rfl (encS_one _) fun w2 hb2 fb => ?_
  have f2 : Fr (fun _ => False) w1 w2 := hfa.trans' fb fun g hg h' => by omega
  have bx2 : boxS w2 w1.heap.size (spn 1 1) := hb2
  have I2 := I1.keep f2 fun _ _ h => h
  have sz2 : w1.heap.size < w2.heap.size := heap_lt bx2
  generalize hB1 : (fun b => b = w.heap.size ∨ b = w.heap.size + 1) = B1 at *
  have hB1w : ∀ b, B1 b → w.heap.size ≤ b ∧ b < w1.heap.size := fun b hb => ⟨by rw [← hB1] at hb; omega, I1.lt b hb⟩
  have r11 : rightK (spn 1 1) = 0 := right_spn (by decide) (by decide)
  have r21 : rightK (spn 2 1) = 0 := right_spn (by decide) (by decide)
  have r12 : rightK (spn 1 2) = 0 := right_spn (by decide) (by decide)
  rw [ldBox bx2, M.pbuffer_Buffer_Put.fcall]
  refine put_ok I2 (by simp) (by simp) (spn 1 1) (by omega) (by omega) (fun hx => absurd r11 hx) (fun _ _ hx => by simp at hx; omega) (fun _ _ _ w3 B3 I3 f3 p3 => ?_) (fun _ e he => by simp at he) (fun _ e he => by simp at he) (fun _ e he => by simp at he)
  have hw5 : g.wait = 5 := hg3.symm
  have hd5 : dueAt g 0 = 5 := by unfold dueAt; rw [hw5]; decide
  have hc5 : cset [] (spn 1 1).trace (dueAt g 0) = [(1, 5)] := by rw [hd5]; rfl
  rw [hc5] at I3
  have I3' : Buf w3 (w.heap.size + 1) g B3 [⟨1, [spn 1 1], false⟩] [(1, 5)] := I3
  have nB1 : ¬ B1 w1.heap.size := fun hb => by have := (hB1w _ hb).2; omega
  have nB3 : ¬ B3 w1.heap.size := fun hb => by
    rcases p3 _ hb with h' | h'
    · exact nB1 h'
    · omega
  have bx3 : boxS w3 w1.heap.size (spn 1 1) := f3.heap bx2 nB1
  have F3 : Fr (fun _ => False) w w3 := (f1.trans f2).trans' f3 fun b hlt hb => by have := (hB1w b hb).1; omega
  have ge1 := f1.size
  have B3w : ∀ b, B3 b → w.heap.size ≤ b := fun b hb => by
    rcases p3 _ hb with h' | h'
    · exact (hB1w b h').1
    · have := f2.size; omega
  rw [st_box bx3 (by decide)]
  have bx4 : boxS (w3.setCell ⟨w1.heap.size, 0, none⟩ (.int .u64 2)) w1.heap.size (spn 2 1) := boxS_trace bx3 2
  have f4 : Fr (fun b => b = w1.heap.size) w3 (w3.setCell ⟨w1.heap.size, 0, none⟩ (.int .u64 2)) := (Fr.refl (fun b => b = w1.heap.size) w3).setCell (.inl rfl) 0 _
  generalize w3.setCell ⟨w1.heap.size, 0, none⟩ (.int .u64 2) = w4 at *
  have I4 := I3'.keep f4 fun b hb h' => nB3 (h' ▸ hb)
  have F4 : Fr (fun _ => False) w w4 := F3.trans' f4 fun b hlt h' => by omega
  rw [ldBox bx4, M.pbuffer_Buffer_Put.fcall]
  refine put_ok I4 (by simp) (by simp) (spn 2 1) (by omega) (by omega) (fun hx => absurd r21 hx) (fun _ _ _ w5 I5 f5 => ?_) (fun _ _ hx => by simp [t1] at hx) (fun _ e he het => by simp at he; subst he; exact absurd het (by decide)) (fun _ e he het => by simp at he; subst he; exact absurd het (by decide)) (fun _ e he het => by simp at he; subst he; exact absurd het (by decide))
  have bx5 : boxS w5 w1.heap.size (spn 2 1) := f5.heap bx4 fun h => h
  have F5 := F4.trans f5
  simp
  rw [st_box bx5 (by decide)]
  have bx6 : boxS (w5.setCell ⟨w1.heap.size, 0, none⟩ (.int .u64 1)) w1.heap.size (spn 1 1) := boxS_trace bx5 1
  have f6 : Fr (fun b => b = w1.heap.size) w5 (w5.setCell ⟨w1.heap.size, 0, none⟩ (.int .u64 1)) := (Fr.refl (fun b => b = w1.heap.size) w5).setCell (.inl rfl) 0 _
  generalize w5.setCell ⟨w1.heap.size, 0, none⟩ (.int .u64 1) = w6 at *
  skip
  rw [st_box bx6 (by decide)]
  have bx7 : boxS (w6.setCell ⟨w1.heap.size, 1, none⟩ (.int .u64 2)) w1.heap.size (spn 1 2) := boxS_id bx6 2
  have f7 : Fr (fun b => b = w1.heap.size) w6 (w6.setCell ⟨w1.heap.size, 1, none⟩ (.int .u64 2)) := (Fr.refl (fun b => b = w1.heap.size) w6).setCell (.inl rfl) 1 _
  generalize w6.setCell ⟨w1.heap.size, 1, none⟩ (.int .u64 2) = w7 at *
  have I7 := (I5.keep f6 fun b hb h' => nB3 (h' ▸ hb)).keep f7 fun b hb h' => nB3 (h' ▸ hb)
  have F7 : Fr (fun _ => False) w w7 := (F5.trans' f6 fun b hlt h' => by omega).trans' f7 fun b hlt h' => by omega
  rw [ldBox bx7, M.pbuffer_Buffer_Put.fcall]
  refine put_ok I7 (by simp) (by simp) (spn 1 2) (by omega) (by omega) (fun hx => absurd r12 hx) (fun _ hx => absurd rfl (hx ⟨1, [spn 1 1], false⟩ (by simp))) (fun _ hx => absurd rfl (hx ⟨1, [spn 1 1], false⟩ (by simp))) (fun _ e he _ hx => by simp at he; subst he; exact absurd hx (by decide)) (fun _ e he het _ _ w8 I8 f8 => ?_) (fun _ e he _ _ hx => by simp at he; subst he; simp [t2] at hx)
  have I8' : Buf w8 (w.heap.size + 1) g B3 [⟨1, [spn 1 1], true⟩] [(1, 5)] := I8
  have F8 : Fr (fun _ => False) w w8 := F7.trans' f8 fun b hlt hb => by have := B3w b hb; omega
  simp
  rw [M.pbuffer_Buffer_Get.fcall]
  refine get_ok I8' (by simp) 1 (fun hx => absurd rfl (hx ⟨1, [spn 1 1], true⟩ (by simp))) fun e he _ w9 v9 s9 o9 f9 => ?_
  simp at he
  subst he
  have I9 := I8'.keep f9 fun _ _ h => h
  have F9 := F8.trans f9
  simp
  have hl9 : ∀ w K, biT P .len #[T.sl_api_Span] T.int [false] [v9] w K = K (.int .i64 1) w := fun w K => s9.len_ok (by simp) _
  rw [hl9]
  simp
  rw [M.pbuffer_Buffer_Due.fcall]
  refine due_ok I9 (by simp) 4 fun w10 v10 B10 I10 r10 _ f10 p10 => ?_
  have hc4 : cdue [(1, 5)] 4 = [] := by simp [cdue, srt]
  rw [hc4] at r10
  have hl10 : ∀ w K, biT P .len #[T.sl_uint64] T.int [false] [v10] w K = K (.int .i64 0) w := fun w K => ((owU_of_row r10).sl encU_len).len_ok (by simp) _
  have F10 : Fr (fun _ => False) w w10 := F9.trans' f10 fun b hlt hb => by have := B3w b hb; omega
  rw [hl10]
  simp
  rw [M.pbuffer_Buffer_Due.fcall]
  refine due_ok I10 (by simp) 5 fun w11 v11 B11 I11 r11' _ f11 p11 => ?_
  have hc5' : cdue [(1, 5)] 5 = [1] := by simp [cdue, srt]
  rw [hc5'] at r11'
  have hl11 : ∀ w K, biT P .len #[T.sl_uint64] T.int [false] [v11] w K = K (.int .i64 1) w := fun w K => ((owU_of_row r11').sl encU_len).len_ok (by simp) _
  have ge9 := F9.size
  have F11 : Fr (fun _ => False) w w11 := F10.trans' f11 fun b hlt hb => by
    rcases p10 b hb with h' | h'
    · have := B3w b h'; omega
    · omega
  rw [hl11]
  simp
  exact h w11 F11
end Go.Proofs.Ytgcpljghnlohbaa
