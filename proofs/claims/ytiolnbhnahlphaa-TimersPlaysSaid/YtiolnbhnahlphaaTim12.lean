/-
  The law TimersPlays. No condition.
-/
import Derived.Test.YtiolnbhnahlphaaTim11
namespace Go.Proofs.Ytiolnbhnahlphaa
open Go.Eng

theorem isBo : isBoB P T.bool = true := by kernel_rfl
@[simp] theorem neqB (rx ry : Operand) (x y : Bool) (w : World) (K : KV) : binT P .neq T.bool rx ry (.bool x) (.bool y) w K = K (.bool !(x == y)) w := bin_neqB isBo

structure TOp where
  kind : Int
  key : Int
  tm : Int
def encO (p : TOp) : List Value := [.int .i64 p.kind, .int .u64 p.key, .int .u64 p.tm]
abbrev SlO (w : World) (v : Value) (l : List TOp) : Prop := Sl w 3 encO v l
theorem slO_at {w : World} {v : Value} {l : List TOp} (h : SlO w v l) {i : Nat} (hi : i < l.length) : ∃ b o cap, v = .slice (some ⟨b, o, none⟩) l.length cap ∧ b < w.heap.size ∧ cellOf w b (o + i * 3) = some (.int .i64 l[i].kind) ∧ cellOf w b (o + i * 3 + 1) = some (.int .u64 l[i].key) ∧ cellOf w b (o + i * 3 + 2) = some (.int .u64 l[i].tm) := by
  obtain ⟨b, o, cap, hv, hb, _, hr⟩ := h.at hi
  exact ⟨b, o, cap, hv, hb, hr 0 _ rfl, hr 1 _ rfl, hr 2 _ rfl⟩
theorem tops {w : World} {n : Nat} {v : Value} (h : TV P w n T.sl_winnowlaw15_Op [v]) : ∃ l, SlO w v l := by
  refine sl_of_tv (sz := 3) Try.underlying45 (by kernel_rfl) (by decide) (fun n b o cs ht hl hc => ?_) h
  obtain ⟨_, hf⟩ := tv_struct Try.underlying47 ht
  obtain ⟨m0, t0⟩ := hf 0 _ rfl
  obtain ⟨m1, t1⟩ := hf 1 _ rfl
  obtain ⟨m2, t2⟩ := hf 2 _ rfl
  obtain ⟨x0, e0, w0⟩ := tv_int Try.underlying3 t0
  obtain ⟨x1, e1, w1⟩ := tv_int Try.underlying31 t1
  obtain ⟨x2, e2, w2⟩ := tv_int Try.underlying31 t2
  have c0 : Try.prog.cellsOf 3 = 1 := by kernel_rfl
  have c1 : Try.prog.cellsOf 31 = 1 := by kernel_rfl
  match cs, hl with
  | [u0, u1, u2], _ =>
    simp [c0, c1] at e0 e1 e2
    subst e0 e1 e2
    refine ⟨⟨x0, x1, x2⟩, fun j u hj => ?_⟩
    exact hc j u hj

structure Pl (w0 w : World) (hb : Nat) (mv : Value) (c : CT) : Prop where
  ex : ∃ O, Hp w hb O c ∧ (∀ b, O b → w0.heap.size ≤ b) ∧ ∀ g, mv.ownBlock = some g → ¬ O g
  sl : SlD w mv (srt c)
  lt : ∀ g, mv.ownBlock = some g → g < w.heap.size
  fr : Fr (fun _ => False) w0 w

theorem srt_nodup {c : CT} (h : (ckeys c).Nodup) : (ckeys (srt c)).Nodup := by
  unfold ckeys at h ⊢
  exact ((srt_perm c).map _).nodup_iff.2 h
theorem cget_srt {c : CT} (h : (ckeys c).Nodup) (k : Int) : cget (srt c) k = cget c k := cget_perm (srt_nodup h) (srt_perm c) k
theorem srt_head {c : CT} {p : Int × Int} (hp : p ∈ c) (hm : ∀ q ∈ c, leP p q = true) : ∃ l, srt c = p :: l := by
  have := (srt_perm c).mem_iff.2 hp
  cases hs : srt c with
  | nil => rw [hs] at this; cases this
  | cons q l =>
    have hq : q ∈ c := (srt_perm c).mem_iff.1 (by rw [hs]; exact List.mem_cons_self ..)
    have h1 := hm q hq
    have h2 := srt_pw c
    rw [hs] at h2 this
    rcases List.mem_cons.1 this with rfl | hl
    · exact ⟨l, rfl⟩
    · have := leP_anti h1 ((List.pairwise_cons.1 h2).1 p hl)
      exact ⟨l, by rw [this]⟩

theorem plays_tail {w0 w : World} {hb : Nat} {mv : Value} {c : CT} (L : Pl w0 w hb mv c) (hlen : c.length ≤ 1000) {a0 : Value} {l : List TOp} (hs : SlO w0 a0 l) {i : Nat} (hi : i < l.length) {x2 x5 : List Value} (h2 : gv x2 16 = .int .i64 (i : Nat)) (h5 : gv x5 1 = mv) {K4 : KL} {K : KV}
    (h : ∀ w' xs, gv xs 1 = mv → Pl w0 w' hb mv c → K4 xs w') : M.winnowlaw15_TimersPlays.j5 a0 x2 (ptrH hb) x5 K4 w K := by
  obtain ⟨⟨O, H, hO, hd⟩, sl, hlt, fr⟩ := L
  obtain ⟨b, o, cap, rfl, hb', z0, z1, z2⟩ := slO_at hs hi
  have e1 : cellOf w b (o + i * 3 + 1) = some (.int .u64 l[i].key) := by rw [cellOf_heap (fr.keep b hb' fun h => h)]; exact z1
  unfold M.winnowlaw15_TimersPlays.j5
  simp [h2, h5, hi, e1]
  rw [M.ptimers_Heap_At.fcall]
  have hl : (srt c).length = c.length := (srt_perm c).length_eq
  refine at_ok H _ (fun hg => ?_) fun a hg => ?_
  all_goals
    simp [hi, e1]
    rw [M.winnowref15_At.fcall]
    refine rat_ok sl (srt_nodup H.nd) (by omega) _ (fun hg' => ?_) fun a' hg' => ?_
  all_goals rw [cget_srt H.nd, hg] at hg'
  all_goals cases hg'
  all_goals
    simp
    rw [M.ptimers_Heap_Next.fcall]
    refine next_ok H (by omega) (fun hc => ?_) fun k t hkt hkm => ?_
  case refine_1.refine_1.refl.refine_1 | refine_2.refine_2.refl.refine_1 =>
    subst hc
    simp
    rw [M.ptimers_Heap_Len.fcall]
    refine len_ok H ?_
    have hz : (srt ([] : CT)).length = 0 := by rw [(srt_perm _).length_eq]; rfl
    simp [sl.len_ok, hz]
    unfold M.winnowlaw15_TimersPlays.j8
    have hw0 : IntKind.u64.wrap 0 = 0 := by rw [wrap_u64 (by omega) (by omega)]
    simp [hw0]
    exact h w _ h5 ⟨⟨O, H, hO, hd⟩, sl, hlt, fr⟩
  all_goals
    have fd : Fr (fun _ => False) w (dr w 1) := (Fr.refl _ w).dr 1
    have Hd := H.keep fd fun _ _ h => h
    have sld : SlD (dr w 1) mv (srt c) := sl.fr fd fun _ _ _ h => h
    obtain ⟨lr, hlr⟩ := srt_head hkt hkm
    have hpos : 0 < (srt c).length := by rw [hlr]; simp
    have h0 : (srt c)[0] = (k, t) := by simp [hlr]
    simp
    rw [M.ptimers_Heap_Len.fcall]
    refine len_ok Hd ?_
    have hgt : (0 : Int) < (c.length : Int) := by omega
    obtain ⟨bb, oo, cc, rfl, hbb, u0, u1⟩ := slD_at sld hpos
    rw [h0] at u0 u1
    simp only [Nat.zero_mul, Nat.add_zero] at u0 u1
    rw [hl] at h5 sl sld hlt hd h ⊢
    have hpos' : 0 < c.length := by omega
    simp [hpos', h5]
    unfold M.winnowlaw15_TimersPlays.j8
    simp [h5, hpos', u0, u1]
    exact h (dr w 1) _ rfl ⟨⟨O, Hd, hO, hd⟩, sld, hlt, fr.trans fd⟩

theorem Pl.ext {w0 w w' : World} {hb : Nat} {mv : Value} {c : CT} (L : Pl w0 w hb mv c) (f : Fr (fun _ => False) w w') : Pl w0 w' hb mv c := by
  obtain ⟨⟨O, H, hO, hd⟩, sl, hlt, fr⟩ := L
  exact ⟨⟨O, H.keep f fun _ _ h => h, hO, hd⟩, sl.fr f fun _ _ _ h => h, fun g hg => Nat.lt_of_lt_of_le (hlt g hg) f.size, fr.trans f⟩

theorem srt_srtd (c : CT) : Srtd (srt c) := srt_pw c
theorem srt_cset {c : CT} (k a : Int) : srt (cset (srt c) k a) = srt (cset c k a) := srt_congr (cset_perm (srt_perm c) k a)
theorem srt_cdel {c : CT} (k : Int) : cdel (srt c) k = srt (cdel c k) := sorted_eq ((cdel_perm (srt_perm c) k).trans (srt_perm _).symm) (cdel_srtd (srt_pw c) k) (srt_pw _)
theorem srt_crest {c : CT} (now : Int) : (srt c).filter (fun p => decide (now < p.2)) = srt (crest c now) := sorted_eq (((srt_perm c).filter _).trans (srt_perm _).symm) ((srt_pw c).filter _) (srt_pw _)
theorem crest_len (c : CT) (now : Int) : (crest c now).length ≤ c.length := List.length_filter_le _ _
theorem srt_len (c : CT) : (srt c).length = c.length := (srt_perm c).length_eq

theorem plays_step {w0 w : World} {hb : Nat} {mv : Value} {c : CT} (L : Pl w0 w hb mv c) (hlen : c.length ≤ 500) {a0 : Value} {l : List TOp} (hs : SlO w0 a0 l) {i : Nat} (hi : i < l.length) (hi' : i < 1000) {x2 : List Value} (h2 : gv x2 16 = .int .i64 (i : Nat)) (h1 : gv x2 1 = mv) {K2 : KL} {K : KV}
    (h : ∀ w' xs mv' c', gv xs 1 = mv' → gv xs 16 = .int .i64 ((i + 1 : Nat) : Int) → c'.length ≤ c.length + 1 → Pl w0 w' hb mv' c' → K2 xs w') : M.winnowlaw15_TimersPlays.j3 a0 x2 (ptrH hb) K2 w K := by
  obtain ⟨⟨O, H, hO, hd⟩, sl, hlt, fr⟩ := L
  have L0 : SlO w0 a0 l := hs
  obtain ⟨b, o, cap, ha0, hb', z0, z1, z2⟩ := slO_at hs hi
  have hw : IntKind.i64.wrap ((i : Int) + 1) = ((i + 1 : Nat) : Int) := by rw [wrap_id (by omega) (by omega)]; rfl
  have e0 : cellOf w b (o + i * 3) = some (.int .i64 l[i].kind) := by rw [cellOf_heap (fr.keep b hb' fun h => h)]; exact z0
  have e1 : cellOf w b (o + i * 3 + 1) = some (.int .u64 l[i].key) := by rw [cellOf_heap (fr.keep b hb' fun h => h)]; exact z1
  have e2 : cellOf w b (o + i * 3 + 2) = some (.int .u64 l[i].tm) := by rw [cellOf_heap (fr.keep b hb' fun h => h)]; exact z2
  -- behind the switch
  have tail : ∀ w' x5 mv' c', gv x5 1 = mv' → c'.length ≤ c.length + 1 → Pl w0 w' hb mv' c' → M.winnowlaw15_TimersPlays.j5 a0 x2 (ptrH hb) x5 (fun x4 w => M.winnowlaw15_TimersPlays.j4 x2 K2 x4 w K) w' K := by
    intro w' x5 mv' c' h5 hc' L'
    refine plays_tail L' (by omega) hs hi h2 h5 fun w'' xs hx L'' => ?_
    unfold M.winnowlaw15_TimersPlays.j4
    simp only [h2, bin_add, hw]
    exact h w'' _ mv' c' hx rfl hc' L''
  unfold M.winnowlaw15_TimersPlays.j3
  simp only [joinT_eq, h2, h1]
  rw [ha0] at tail ⊢
  simp [hi]
  rw [ldN3 e0 e1 e2]
  simp
  generalize hwa : w.alloc (.cells #[.int .i64 0, .int .u64 0, .int .u64 0] T.winnowlaw15_Op) = wa
  have hba : wa.heap[w.heap.size]? = some (.cells #[.int .i64 0, .int .u64 0, .int .u64 0] T.winnowlaw15_Op (0, 0)) := by rw [← hwa, alloc_heap, if_pos rfl]
  have hfa : Fr (fun _ => False) w wa := by rw [← hwa]; exact (Fr.refl _ w).alloc _
  refine stN_all (vs := [.int .i64 l[i].kind, .int .u64 l[i].key, .int .u64 l[i].tm]) hba rfl (by simp) fun w1 hb1 fb => ?_
  have f1 : Fr (fun _ => False) w w1 := hfa.trans' fb fun g hg h' => by omega
  have H1 := H.keep f1 fun _ _ h => h
  have sl1 := sl.fr f1 fun _ _ _ h => h
  have hlt1 : ∀ g, mv.ownBlock = some g → g < w1.heap.size := fun g hg => Nat.lt_of_lt_of_le (hlt g hg) f1.size
  have F1 := fr.trans f1
  obtain ⟨c0, c1, c2⟩ := cells3 hb1
  have Hn := H.nd
  have hOb : ∀ g, O g → g ≠ w.heap.size := fun g hg he => by have := H.lt g hg; omega
  have sll := srt_len c
  by_cases k0 : l[i].kind = 0
  · simp [c0, c1, c2, k0]
    rw [M.ptimers_Heap_Set.fcall]
    refine set_ok H1 (by omega) _ _ fun w2 O2 H2 f2 p2 => ?_
    have hb2 := f2.heap hb1 fun h' => hOb _ h' rfl
    obtain ⟨d0, d1, d2⟩ := cells3 hb2
    simp [d1, d2]
    rw [M.winnowref15_Set.fcall]
    have s2 := f2.size
    refine rset_ok (sl1.fr f2 fun g hg _ h' => hd g hg h') (fun g hg => Nat.lt_of_lt_of_le (hlt1 g hg) s2) (srt_nodup Hn) (srt_pw c) (by omega) _ _ fun w3 v3 o3 f3 => ?_
    have hc := cset_len c l[i].key l[i].tm
    refine tail w3 _ v3 (cset c l[i].key l[i].tm) rfl hc ⟨⟨O2, H2.keep f3 fun _ _ h => h, fun g hg => ?_, fun g hg h' => ?_⟩, ?_, fun g hg => (o3.lt hg).2, (F1.trans' f2 fun g hg h' => by have := hO g h'; omega).trans f3⟩
    · rcases p2 g hg with h' | h'
      · exact hO g h'
      · have := F1.size; omega
    · have := (o3.lt hg).1; have := H2.lt g h'; omega
    · rw [srt_cset] at o3; exact o3.sl encD_len
  · by_cases k1 : l[i].kind = 1
    · simp [c0, c1, c2, k1]
      rw [M.winnowref15_Del.fcall]
      refine rdel_ok sl1 (srt_nodup Hn) (by omega) _ (fun hk => ?_) fun hk w2 v2 o2 f2 => ?_
      · simp [c1]
        rw [M.ptimers_Heap_Del.fcall]
        have hcn : cget c l[i].key = none := by rw [← cget_srt Hn]; exact (cget_none_iff _ _).2 hk
        refine del_none H1 _ hcn ?_
        simp
        exact tail w1 _ mv c rfl (by omega) ⟨⟨O, H1, hO, hd⟩, sl1, hlt1, F1⟩
      · have hb2 := f2.heap hb1 fun h => h
        obtain ⟨d0, d1, d2⟩ := cells3 hb2
        simp [d1]
        rw [M.ptimers_Heap_Del.fcall]
        obtain ⟨a, ha⟩ : ∃ a, cget c l[i].key = some a := by
          cases hg : cget c l[i].key with
          | none => rw [← cget_srt Hn] at hg; exact absurd hk ((cget_none_iff _ _).1 hg)
          | some a => exact ⟨a, rfl⟩
        refine del_some (H1.keep f2 fun _ _ h => h) (by omega) _ a ha fun w3 H3 f3 => ?_
        simp
        have hcl := cdel_len c l[i].key
        have ho2 : ∀ g, v2.ownBlock = some g → ¬ O g := fun g hg h' => by have := (o2.lt hg).1; have := H1.lt g h'; omega
        refine tail w3 _ v2 (cdel c l[i].key) rfl (by omega) ⟨⟨O, H3, hO, ho2⟩, ?_, fun g hg => Nat.lt_of_lt_of_le (o2.lt hg).2 f3.size, (F1.trans f2).trans' f3 fun g hg h' => by have := hO g h'; omega⟩
        have := (o2.sl encD_len).fr f3 fun g hg _ h' => ho2 g hg h'
        rw [srt_cdel] at this; exact this
    · by_cases k2 : l[i].kind = 2
      · simp [c0, c1, c2, k2]
        rw [M.winnowref15_Pop.fcall]
        refine rpop_ok sl1 hlt1 (srt_pw c) (by omega) _ fun w2 ov rv r2 s2 hrv f2 => ?_
        have hb2 := f2.heap hb1 fun h => h
        obtain ⟨d0, d1, d2⟩ := cells3 hb2
        simp [d2]
        rw [M.ptimers_Heap_Pop.fcall]
        refine pop_ok (H1.keep f2 fun _ _ h => h) (by omega) _ fun w3 v3 H3 r3 f3 => ?_
        rw [M.winnowlaw15_uints.fcall]
        have ro : w3.ownsRow w1.heap.size T.uint64 1 ov _ (u64s _) := row_keep (u64row_row r2) fun g hg => f3.keep g (r2.lt hg).2 fun h' => by have := (r2.lt hg).1; have := H1.lt g h'; omega
        have lc : (cdue c l[i].tm).length ≤ c.length := by
          unfold cdue
          rw [List.length_map]
          have := List.length_filter_le (fun p : Int × Int => decide (p.2 ≤ l[i].tm)) (srt c)
          omega
        refine uints_ok r3 ro (by omega) fun w4 f4 => ?_
        have heq : cdue c l[i].tm = ((srt c).filter fun p => decide (p.2 ≤ l[i].tm)).map (·.1) := rfl
        simp [heq]
        have hcl := crest_len c l[i].tm
        have ho : ∀ g, rv.ownBlock = some g → ¬ O g := fun g hg => hd g (hrv g hg)
        refine tail w4 _ rv (crest c l[i].tm) rfl (by omega) ⟨⟨O, H3.keep f4 fun _ _ h => h, hO, ho⟩, ?_, fun g hg => ?_, ((F1.trans f2).trans' f3 fun g hg h' => by have := hO g h'; omega).trans f4⟩
        · rw [srt_crest] at s2
          exact (s2.fr f3 fun g hg _ h' => ho g hg h').fr f4 fun _ _ _ h => h
        · have := hlt1 g (hrv g hg); have := f2.size; have := f3.size; have := f4.size; omega
      · simp [c0, c1, c2, k0, k1, k2]
        exact tail w1 _ mv c rfl (by omega) ⟨⟨O, H1, hO, hd⟩, sl1, hlt1, F1⟩

def PlayI (w0 : World) (hb : Nat) (l : List TOp) : KL := fun x w1 => ∃ (i : Nat) (mv : Value) (c : CT), gv x 16 = .int .i64 (i : Nat) ∧ gv x 1 = mv ∧ i ≤ l.length ∧ c.length ≤ i ∧ Pl w0 w1 hb mv c

theorem plays_ok {w : World} {v : Value} {l : List TOp} (hs : SlO w v l) {K : KV} (h : ∀ w', Fr (fun _ => False) w w' → K (.bool true) w') : callT P F.winnowlaw15_TimersPlays [v] w K := by
  apply M.winnowlaw15_TimersPlays.calls
  unfold M.winnowlaw15_TimersPlays
  simp only [joinT_eq]
  rw [hs.len_ok (by simp)]
  by_cases hbig : 200 < l.length
  · have hb' : (200 : Int) < l.length := by omega
    simp [hb']
    rw [M.winnowlaw15_alive.fcall]
    exact alive_ok h
  · have hb' : ¬ (200 : Int) < l.length := by omega
    simp [hb']
    unfold M.winnowlaw15_TimersPlays.j0
    simp
    generalize hw1 : w.alloc (.cells #[.slice none 0 0, .map none] T.timers_Heap) = w1
    have hb1 : w1.heap[w.heap.size]? = some (.cells #[.slice none 0 0, .map none] T.timers_Heap (0, 0)) := by
      rw [← hw1, alloc_heap, if_pos rfl]
    have hf1 : Fr (fun _ => False) w w1 := by rw [← hw1]; exact (Fr.refl _ w).alloc _
    refine ⟨PlayI w w.heap.size l, fun x _ => l.length - ms x 16, ⟨0, _, [], rfl, rfl, Nat.zero_le _, Nat.le_refl _, ⟨⟨_, Hp.new hb1, fun b hb => by omega, fun g hg => by simp [gv, Value.ownBlock] at hg⟩, by rw [show srt ([] : CT) = [] from List.eq_nil_of_length_eq_zero (srt_len [])]; exact Sl.nil, fun g hg => by simp [gv, Value.ownBlock] at hg, hf1⟩⟩, ?_⟩
    rintro x w2 ⟨i, mv, c, h16, h1, hi, hc, L⟩
    unfold M.winnowlaw15_TimersPlays.j2
    simp only [joinT_eq, h16]
    rw [hs.len_ok (by simp)]
    by_cases hil : i < l.length
    · simp [hil]
      refine plays_step L (by omega) hs hil (by omega) h16 h1 fun w3 xs mv' c' g1 g16 hc' L3 => ⟨⟨i + 1, mv', c', g16, g1, by omega, by omega, L3⟩, ?_⟩
      simp [ms, g16, h16]; omega
    · simp [hil]
      rw [M.winnowlaw15_alive.fcall]
      exact alive_ok fun w3 f3 => h w3 (L.fr.trans f3)

theorem TimersPlays_law {W : World} {n0 : Nat} {v0 : Value} (h0 : TV P W n0 T.sl_winnowlaw15_Op [v0]) {K : KV} (h : ∀ w', Fr (fun _ => False) W w' → K (.bool true) w') : callT P F.winnowlaw15_TimersPlays [v0] W K := by
  obtain ⟨l, hl⟩ := tops h0
  exact plays_ok hl h
end Go.Proofs.Ytiolnbhnahlphaa
