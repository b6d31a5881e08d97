/-
  The law TimersLast: of a key that is set again the last time counts. No condition.
-/
import Derived.Test.YtiolnbhnahlphaaTim6
import Derived.Test.YtiolnbhnahlphaaEngArgs
namespace Go.Proofs.Ytiolnbhnahlphaa
open Go.Eng

/-- A pair of a key and a time, at a place. -/
def rdDue (w : World) (b o : Nat) (p : Int × Int) : Prop := cellOf w b o = some (.int .u64 p.1) ∧ cellOf w b (o + 1) = some (.int .u64 p.2) ∧ (0 ≤ p.1 ∧ p.1 ≤ 18446744073709551615) ∧ 0 ≤ p.2 ∧ p.2 ≤ 18446744073709551615

theorem rdDue_keep {w w' : World} {S : Nat → Prop} (hf : Fr S w w') {b o : Nat} {p : Int × Int} (hb : b < w.heap.size) (hn : ¬ S b) (h : rdDue w b o p) : rdDue w' b o p := by
  unfold rdDue at h ⊢
  rw [cellOf_heap (hf.keep b hb hn), cellOf_heap (hf.keep b hb hn)]
  exact h
theorem sl_len {α : Type} {w w' : World} {sz : Nat} {rd : World → Nat → Nat → α → Prop} {v : Value} {l : List α} (h : SlOf w sz rd v l) {t ty : TypeId} (ht : isSlB P t = true) (cs : List Bool) {K : KV} (hk : K (.int .i64 l.length) w') : biT P .len #[t] ty cs [v] w' K := by
  obtain ⟨a, cap, rfl, _⟩ := h
  rw [len_sl ht]; exact hk

theorem del_any {w : World} {hb : Nat} {O : Nat → Prop} {c : CT} (H : Hp w hb O c) (hlen : c.length < 1000000) (k : Int) {K : KV} (h : ∀ w' b, Hp w' hb O (cdel c k) → Fr O w w' → K (.bool b) w') : callT P F.ptimers_Heap_Del [ptrH hb, .int .u64 k] w K := by
  cases hk : cget c k with
  | none =>
    refine del_none H k hk ?_
    have : cdel c k = c := cdel_none ((cget_none_iff _ _).1 hk)
    exact h w false (by rw [this]; exact H) (Fr.refl _ _)
  | some a => exact del_some H hlen k a hk fun w' H' hf => h w' true H' hf

theorem cdel_len (c : CT) (k : Int) : (cdel c k).length ≤ c.length := List.length_filter_le _ _
theorem cset_len (c : CT) (k a : Int) : (cset c k a).length ≤ c.length + 1 := by
  have := cdel_len c k
  simp [cset]; omega
theorem cdel_cdel (c : CT) (k : Int) : cdel (cdel c k) k = cdel c k := cdel_none (cdel_not_mem c k)
theorem cdel_cset (c : CT) (k a : Int) : cdel (cset c k a) k = cdel c k := by
  unfold cset
  have : cdel ((k, a) :: cdel c k) k = cdel (cdel c k) k := by
    conv => lhs; unfold cdel
    rw [List.filter_cons]
    simp only [decide_true, Bool.not_true, Bool.false_eq_true, if_false]
    rfl
  rw [this, cdel_cdel]
theorem cset_cset (c : CT) (k a b : Int) : cset (cset c k a) k b = cset c k b := by
  have h := cdel_cset c k a
  unfold cset at h ⊢
  rw [h]
theorem cset_cdel (c : CT) (k a : Int) : cset (cdel c k) k a = cset c k a := by unfold cset; rw [cdel_cdel]

/-- Two heaps beside one another, both new. -/
structure Two (w0 w : World) (h1 h2 : Nat) (c : CT) : Prop where
  ex : ∃ O1 O2, Hp w h1 O1 c ∧ Hp w h2 O2 c ∧ (∀ b, O1 b → ¬ O2 b) ∧ (∀ b, O1 b → w0.heap.size ≤ b) ∧ ∀ b, O2 b → w0.heap.size ≤ b
  fr : Fr (fun _ => False) w0 w

def LastI (w0 : World) (h1 h2 : Nat) (l : List (Int × Int)) : KL := fun x w1 => ∃ (i : Nat) (c : CT), x = [.int .i64 (i : Nat)] ∧ i ≤ l.length ∧ c.length ≤ i ∧ Two w0 w1 h1 h2 c

theorem last_end {w0 w : World} {h1 h2 : Nat} {c : CT} (T : Two w0 w h1 h2 c) (hlen : c.length ≤ 300) (k a : Int) {K : KV} (h : ∀ w', Fr (fun _ => False) w0 w' → K (.bool true) w') :
    M.winnowlaw15_TimersLast.j1 (ptrH h1) (.int .u64 k) (.int .u64 a) (ptrH h2) w K := by
  obtain ⟨⟨O1, O2, H1, H2, hd, g1, g2⟩, hf⟩ := T
  unfold M.winnowlaw15_TimersLast.j1
  have l1 := cset_len c k a
  have l2 := cdel_len c k
  rw [M.ptimers_Heap_Set.fcall]
  refine set_ok H1 (by omega) k a fun w1 P1 H1a f1 p1 => ?_
  have H2a := H2.keep f1 fun b hb h => hd b h hb
  have s1 := f1.size
  rw [M.ptimers_Heap_Set.fcall]
  refine set_ok H1a (by omega) k a fun w2 P2 H1b f2 p2 => ?_
  have s2 := f2.size
  have d1 : ∀ b, P1 b → ¬ O2 b := fun b hb h => by
    rcases p1 b hb with h' | h'
    · exact hd b h' h
    · have := H2.lt b h; omega
  have H2b := H2a.keep f2 fun b hb h => d1 b h hb
  have d2 : ∀ b, P2 b → ¬ O2 b := fun b hb h => by
    rcases p2 b hb with h' | h'
    · exact d1 b h' h
    · have := H2a.lt b h; omega
  rw [cset_cset] at H1b
  rw [M.ptimers_Heap_Del.fcall]
  refine del_any H2b (by omega) k fun w3 b0 H2c f3 => ?_
  have s3 := f3.size
  have H1c := H1b.keep f3 fun b hb h => d2 b hb h
  rw [M.ptimers_Heap_Set.fcall]
  refine set_ok H2c (by omega) k a fun w4 Q2 H2d f4 q2 => ?_
  have s4 := f4.size
  rw [cset_cdel] at H2d
  have H1d := H1c.keep f4 fun b hb h => d2 b hb h
  have d4 : ∀ b, P2 b → ¬ Q2 b := fun b hb h => by
    rcases q2 b h with h' | h'
    · exact d2 b hb h'
    · have := H1c.lt b hb; omega
  have gP1 : ∀ b, P1 b → w0.heap.size ≤ b := fun b hb => by
    rcases p1 b hb with h' | h'
    · exact g1 b h'
    · have := hf.size; omega
  have gP2 : ∀ b, P2 b → w0.heap.size ≤ b := fun b hb => by
    rcases p2 b hb with h' | h'
    · exact gP1 b h'
    · have := hf.size; omega
  have gQ2 : ∀ b, Q2 b → w0.heap.size ≤ b := fun b hb => by
    rcases q2 b hb with h' | h'
    · exact g2 b h'
    · have := hf.size; omega
  have F4 : Fr (fun _ => False) w0 w4 := (((hf.trans' f1 fun b hlt hb => by have := g1 b hb; omega).trans' f2 fun b hlt hb => by have := gP1 b hb; omega).trans' f3 fun b hlt hb => by have := g2 b hb; omega).trans' f4 fun b hlt hb => by have := g2 b hb; omega
  rw [M.ptimers_Heap_At.fcall]
  have hget : cget (cset c k a) k = some a := by rw [cget_cset, if_pos rfl]
  refine at_ok H1d k (fun hn => by rw [hget] at hn; cases hn) fun a' ha' => ?_
  rw [hget] at ha'; cases ha'
  simp
  rw [M.ptimers_Heap_Len.fcall]
  refine len_ok H1d ?_
  rw [M.ptimers_Heap_Len.fcall]
  refine len_ok H2d ?_
  simp
  generalize hcd : cset c k a = d at *
  rw [M.ptimers_Heap_Pop.fcall]
  refine pop_ok H1d (by omega) a fun w5 v5 H1e r5 f5 => ?_
  have s5 := f5.size
  have H2e := H2d.keep f5 fun b hb h => d4 b h hb
  rw [M.ptimers_Heap_Pop.fcall]
  refine pop_ok H2e (by omega) a fun w6 v6 H2f r6 f6 => ?_
  have s6 := f6.size
  have H1f := H1e.keep f6 fun b hb h => d4 b hb h
  have r5' : w6.ownsRow w4.heap.size T.uint64 1 v5 (cdue d a).length (u64s (cdue d a)) := row_keep r5 fun g hg => by
    obtain ⟨cap, cur, _, hge, hgb, _⟩ := row_at r5 hg
    exact f6.keep g (heap_lt hgb) fun hO => by have := H2d.lt g hO; omega
  have ld : (cdue d a).length ≤ d.length := by
    unfold cdue
    rw [List.length_map]
    have := List.length_filter_le (fun p : Int × Int => decide (p.2 ≤ a)) (srt d)
    have h2 := (srt_perm d).length_eq
    omega
  rw [M.winnowlaw15_uints.fcall]
  refine uints_ok r5' r6 (by omega) fun w7 f7 => ?_
  have s7 := f7.size
  have H1g := H1f.keep f7 fun _ _ h => h
  have H2g := H2f.keep f7 fun _ _ h => h
  have F7 : Fr (fun _ => False) w0 w7 := ((F4.trans' f5 fun b hlt hb => by have := gP2 b hb; omega).trans' f6 fun b hlt hb => by have := gQ2 b hb; omega).trans f7
  simp
  have lr : (crest d a).length ≤ d.length := List.length_filter_le _ _
  generalize crest d a = e at *
  rw [M.ptimers_Heap_Pop.fcall]
  refine pop_ok H1g (by omega) _ fun w8 v8 H1h r8 f8 => ?_
  have s8 := f8.size
  have H2h := H2g.keep f8 fun b hb h => d4 b h hb
  rw [M.ptimers_Heap_Pop.fcall]
  refine pop_ok H2h (by omega) _ fun w9 v9 H2i r9 f9 => ?_
  have r8' : w9.ownsRow w7.heap.size T.uint64 1 v8 (cdue e 18446744073709551615).length (u64s (cdue e 18446744073709551615)) := row_keep r8 fun g hg => by
    obtain ⟨cap, cur, _, hge, hgb, _⟩ := row_at r8 hg
    exact f9.keep g (heap_lt hgb) fun hO => by have := H2g.lt g hO; omega
  have le : (cdue e 18446744073709551615).length ≤ e.length := by
    unfold cdue
    rw [List.length_map]
    have := List.length_filter_le (fun p : Int × Int => decide (p.2 ≤ 18446744073709551615)) (srt e)
    have h2 := (srt_perm e).length_eq
    omega
  rw [M.winnowlaw15_uints.fcall]
  refine uints_ok r8' r9 (by omega) fun w10 f10 => ?_
  have F10 : Fr (fun _ => False) w0 w10 := ((F7.trans' f8 fun b hlt hb => by have := gP2 b hb; omega).trans' f9 fun b hlt hb => by have := gQ2 b hb; omega).trans f10
  simp
  rw [M.winnowlaw15_alive.fcall]
  refine alive_ok fun w11 f11 => ?_
  exact h w11 (F10.trans f11)

theorem last_ok {w : World} {v : Value} {l : List (Int × Int)} (hl : SlOf w 2 rdDue v l) (k a : Int) {K : KV} (h : ∀ w', Fr (fun _ => False) w w' → K (.bool true) w') : callT P F.winnowlaw15_TimersLast [v, .int .u64 k, .int .u64 a] w K := by
  apply M.winnowlaw15_TimersLast.calls
  unfold M.winnowlaw15_TimersLast
  simp only [joinT_eq]
  refine sl_len hl (by simp) _ ?_
  by_cases hbig : 200 < l.length
  · have hb' : (200 : Int) < l.length := by omega
    simp [hb']
    rw [M.winnowlaw15_alive.fcall]
    exact alive_ok h
  · have hb' : ¬ (200 : Int) < l.length := by omega
    simp [hb']
    unfold M.winnowlaw15_TimersLast.j0
    simp
    generalize hw1 : (w.alloc (.cells #[.slice none 0 0, .map none] T.timers_Heap)).alloc (.cells #[.slice none 0 0, .map none] T.timers_Heap) = w1
    have hb1 : w1.heap[w.heap.size]? = some (.cells #[.slice none 0 0, .map none] T.timers_Heap (0, 0)) := by
      rw [← hw1, alloc_heap, alloc_size, if_neg (by omega), alloc_heap, if_pos rfl]
    have hb2 : w1.heap[w.heap.size + 1]? = some (.cells #[.slice none 0 0, .map none] T.timers_Heap (0, 0)) := by
      rw [← hw1, alloc_heap, alloc_size, if_pos rfl]
    have hf1 : Fr (fun _ => False) w w1 := by rw [← hw1]; exact ((Fr.refl _ w).alloc _).alloc _
    refine ⟨LastI w w.heap.size (w.heap.size + 1) l, fun x _ => l.length - ms x 0, ⟨0, [], rfl, Nat.zero_le _, Nat.le_refl _, ⟨⟨_, _, Hp.new hb1, Hp.new hb2, fun b h1 h2 => by omega, fun b hb => by omega, fun b hb => by omega⟩, hf1⟩⟩, ?_⟩
    rintro x w2 ⟨i, c, rfl, hi, hc, T2⟩
    unfold M.winnowlaw15_TimersLast.j2
    simp only [joinT_eq, gv_0]
    have hl2 : SlOf w2 2 rdDue v l := hl.keep T2.fr.size fun b o p hb hr => rdDue_keep T2.fr hb (fun h => h) hr
    refine sl_len hl2 (by simp) _ ?_
    by_cases hil : i < l.length
    · have hi' : (i : Int) < l.length := by omega
      simp [hil]
      unfold M.winnowlaw15_TimersLast.j3
      obtain ⟨a', cap, hv, hcl, hcm, hat⟩ := hl2
      obtain ⟨b, o, rfl, hblt, e0, e1, _⟩ := hat i l[i] (List.getElem?_eq_getElem hil)
      subst hv
      have hw : IntKind.i64.wrap ((i : Int) + 1) = ((i + 1 : Nat) : Int) := by rw [wrap_id (by omega) (by omega)]; rfl
      obtain ⟨⟨O1, O2, H1, H2, hd, g1, g2⟩, hf2⟩ := T2
      simp [hil, e0, e1]
      rw [M.ptimers_Heap_Set.fcall]
      refine set_ok (H1.keep ((Fr.refl (fun _ => False) w2).dr 1) fun _ _ h => h) (by omega) _ _ fun w3 P1 H1a f3 p1 => ?_
      have f3' : Fr O1 w2 w3 := ⟨f3.size, f3.keep, f3.tape, f3.os, f3.output⟩
      have s3 := f3'.size
      have H2a := H2.keep f3' fun b hb h => hd b h hb
      have hbl : b < w.heap.size := by
        obtain ⟨a'', cap'', hv'', _, _, hat''⟩ := hl
        obtain ⟨b'', o'', ha'', hb'', _⟩ := hat'' i l[i] (List.getElem?_eq_getElem hil)
        injection hv'' with q1 _ _
        rw [ha''] at q1
        injection q1 with q1
        injection q1 with q1 _ _
        omega
      have e0' : cellOf w3 b (o + i * 2) = some (.int .u64 l[i].1) := by rw [cellOf_heap (f3'.keep b hblt fun h => by have := g1 b h; omega)]; exact e0
      have e1' : cellOf w3 b (o + i * 2 + 1) = some (.int .u64 l[i].2) := by rw [cellOf_heap (f3'.keep b hblt fun h => by have := g1 b h; omega)]; exact e1
      simp [hil, e0', e1']
      rw [M.ptimers_Heap_Set.fcall]
      refine set_ok (H2a.keep ((Fr.refl (fun _ => False) w3).dr 1) fun _ _ h => h) (by omega) _ _ fun w4 P2 H2b f4 p2 => ?_
      have f4' : Fr O2 w3 w4 := ⟨f4.size, f4.keep, f4.tape, f4.os, f4.output⟩
      have dP : ∀ b, P1 b → ¬ O2 b := fun b hb h => by
        rcases p1 b hb with h' | h'
        · exact hd b h' h
        · have := H2.lt b h; simp [dr_heap] at h'; omega
      have H1b := H1a.keep f4' fun b hb h => dP b hb h
      simp [hw]
      have lc := cset_len c l[i].1 l[i].2
      refine ⟨⟨i + 1, _, rfl, by omega, by omega, ⟨⟨P1, P2, H1b, H2b, fun b hb h => ?_, fun b hb => ?_, fun b hb => ?_⟩, (hf2.trans' f3' fun b hlt hb => by have := g1 b hb; omega).trans' f4' fun b hlt hb => by have := g2 b hb; omega⟩⟩, ?_⟩
      · rcases p2 b h with h' | h'
        · exact dP b hb h'
        · have := H1a.lt b hb; simp [dr_heap] at h'; omega
      · rcases p1 b hb with h' | h'
        · exact g1 b h'
        · have := hf2.size; simp [dr_heap] at h'; omega
      · rcases p2 b hb with h' | h'
        · exact g2 b h'
        · have := hf2.size; simp [dr_heap] at h'; omega
      · simp [ms, gv]; omega
    · have hi' : ¬ (i : Int) < l.length := by omega
      simp [hil]
      exact last_end T2 (by omega) k a h
end Go.Proofs.Ytiolnbhnahlphaa
