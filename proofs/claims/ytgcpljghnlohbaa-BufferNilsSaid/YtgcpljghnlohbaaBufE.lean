/-
  The law BufferDue: its first loop. No condition.
-/
import Derived.Test.YtgcpljghnlohbaaBufD
set_option maxRecDepth 100000
namespace Go.Proofs.Ytgcpljghnlohbaa
open Go.Eng

structure BD (w0 w : World) (hb : Nat) (g : Cfg) (idsv atv : Value) (i : Nat) (B : Nat → Prop) (A : List AE) (c : CT) (ids ats : List Int) : Prop where
  buf : Buf w hb g B A c
  bw : ∀ b, B b → w0.heap.size ≤ b
  oi : OwU w w0.heap.size idsv ids
  oa : OwU w w0.heap.size atv ats
  ni : ∀ x, idsv.ownBlock = some x → ¬ B x
  na : ∀ x, atv.ownBlock = some x → ¬ B x
  nn : ∀ x, idsv.ownBlock = some x → atv.ownBlock ≠ some x
  fr : Fr (fun _ => False) w0 w
  le : ids.length = ats.length
  li : ids.length ≤ i
  al : A.length ≤ i
  el : ∀ e ∈ A, e.l.length ≤ i
  cp : c.Perm (ids.zip ats)
  ak : ∀ k, (∃ e ∈ A, e.t = k) ↔ k ∈ ids

theorem addS_keys (A : List AE) (k : Int) (s : Spn) (y : Int) : (∃ e ∈ addS A k s, e.t = y) ↔ ∃ e ∈ A, e.t = y := by
  unfold addS
  constructor
  · rintro ⟨e, he, rfl⟩
    obtain ⟨x, hx, rfl⟩ := List.mem_map.1 he
    exact ⟨x, hx, by split <;> rfl⟩
  · rintro ⟨x, hx, rfl⟩
    exact ⟨_, List.mem_map_of_mem hx, by split <;> rfl⟩
theorem addS_len (A : List AE) (k : Int) (s : Spn) {n : Nat} (h : ∀ e ∈ A, e.l.length ≤ n) : ∀ e ∈ addS A k s, e.l.length ≤ n + 1 := by
  intro e he
  obtain ⟨x, hx, rfl⟩ := List.mem_map.1 he
  have := h x hx
  split <;> simp <;> omega

theorem bd_step {w0 w : World} {hb : Nat} {g : Cfg} {idsv atv : Value} {i : Nat} {B : Nat → Prop} {A : List AE} {c : CT} {ids ats : List Int} (D : BD w0 w hb g idsv atv i B A c ids ats) {a1 : Value} {l : List Spn} (hs : SlS w0 a1 l) (hi : i < l.length) (hl : l.length ≤ 20)
    {gap : Int} (hg : 0 ≤ gap ∧ gap ≤ 1000) (hwt : 0 ≤ g.wait ∧ g.wait ≤ 1099511627776) {x2 : List Value} (e3 : gv x2 3 = idsv) (e4 : gv x2 4 = atv) (e5 : gv x2 5 = .int .u64 ((i : Int) * gap)) (e6 : gv x2 6 = .int .i64 (i : Nat)) {K2 : KL} {K : KV} (hK : ∀ w', Fr (fun _ => False) w0 w' → K (.bool true) w')
    (h : ∀ w' xs idsv' atv' B' A' c' ids' ats', gv xs 3 = idsv' → gv xs 4 = atv' → gv xs 5 = .int .u64 (((i + 1 : Nat) : Int) * gap) → gv xs 6 = .int .i64 ((i + 1 : Nat) : Int) → BD w0 w' hb g idsv' atv' (i + 1) B' A' c' ids' ats' → K2 xs w') :
    M.winnowlaw16_BufferDue.j3 a1 x2 (.pointer (some ⟨hb, 0, none⟩)) (.int .u64 g.wait) (.int .u64 gap) K2 w K := by
  obtain ⟨b, o, cap, hv, hb0, _, hr⟩ := hs.at hi
  have hil : i < 9223372036854775807 := by omega
  have hw : IntKind.i64.wrap ((i : Int) + 1) = ((i + 1 : Nat) : Int) := by rw [wrap_id (by omega) (by omega)]; rfl
  have hit : (i : Int) * gap ≤ 20 * 1000 := Int.mul_le_mul (by omega) hg.2 hg.1 (by omega)
  have hit0 : 0 ≤ (i : Int) * gap := Int.mul_nonneg (by omega) hg.1
  have hsw : ∀ w', Fr (fun _ => False) w0 w' → SlS w' a1 l := fun w' f => hs.fr f fun _ _ _ h => h
  have hrw : ∀ w', Fr (fun _ => False) w0 w' → ∀ k v, (encS l[i])[k]? = some v → cellOf w' b (o + i * 8 + k) = some v := fun w' f k v hk => by
    rw [cellOf_heap (f.keep b hb0 fun h => h)]; exact hr k v hk
  have c6 := hrw w D.fr 6 _ rfl
  have c5 := hrw w D.fr 5 _ rfl
  have al : ∀ w', Fr (fun _ => False) w0 w' → fcallT P F.winnowlaw16_alive [] w' (fun t80 w => K t80 w) := fun w' f => by
    rw [M.winnowlaw16_alive.fcall]
    exact alive_ok fun w'' f' => hK w'' (f.trans f')
  have kI : Buf w hb g B A c := D.buf
  -- behind a Put that said OK
  have tail : ∀ w' B' A' c' y0, Buf w' hb g B' A' c' → Fr B w w' → (∀ b, B' b → B b ∨ w.heap.size ≤ b) → A'.length ≤ i + 1 → (∀ e ∈ A', e.l.length ≤ i + 1) →
      (l[i].trace ∈ ids → c'.Perm (ids.zip ats) ∧ ∀ k, (∃ e ∈ A', e.t = k) ↔ k ∈ ids) → (l[i].trace ∉ ids → c'.Perm ((ids ++ [l[i].trace]).zip (ats ++ [(i : Int) * gap + g.wait])) ∧ ∀ k, (∃ e ∈ A', e.t = k) ↔ k ∈ ids ++ [l[i].trace]) →
      loopT [.bool false, .int .i64 0] w' fun K7 x7 w => M.winnowlaw16_BufferDue.j7 x2 x7 (fun x6 w => M.winnowlaw16_BufferDue.j6 x6 a1 x2 (.int .u64 g.wait) (.int .u64 gap) (fun x4 w => K2 [(gv x4 0), (gv x4 1), (gv x4 2), (gv x4 3), (gv x4 4), (gv x4 5), .int .i64 (IntKind.i64.wrap ((i : Int) + 1))] w) [y0] w K) a1 K7 w K := by
    intro w' B' A' c' y0 I' f' hB' hA' hL' hin hout
    have F' : Fr (fun _ => False) w0 w' := D.fr.trans' f' fun b hlt hb => by have := D.bw b hb; omega
    have oi' := D.oi.fr f' D.ni
    have oa' := D.oa.fr f' D.na
    have hge := D.fr.size
    have bw' : ∀ b, B' b → w0.heap.size ≤ b := fun b hb => by
      rcases hB' b hb with h | h
      · exact D.bw b h
      · omega
    have ni' : ∀ x, idsv.ownBlock = some x → ¬ B' x := fun x hx hbx => by
      rcases hB' x hbx with h | h
      · exact D.ni x hx h
      · have := (D.oi.lt hx).2; omega
    have na' : ∀ x, atv.ownBlock = some x → ¬ B' x := fun x hx hbx => by
      rcases hB' x hbx with h | h
      · exact D.na x hx h
      · have := (D.oa.lt hx).2; omega
    have hidl := D.li
    have hle := D.le
    refine is_loop1 (oi'.sl encU_len) (by omega) (hsw w' F') hi e3 e6 fun w2 jv f2 => ?_
    have F2 := F'.trans f2
    have I2 := I'.keep f2 fun _ _ h => h
    have oi2 := oi'.fr f2 fun _ _ h => h
    have oa2 := oa'.fr f2 fun _ _ h => h
    have hw3 : IntKind.u64.wrap ((i : Int) * gap + gap) = ((i + 1 : Nat) : Int) * gap := by
      have he : ((i + 1 : Nat) : Int) * gap = (i : Int) * gap + gap := by rw [show ((i + 1 : Nat) : Int) = (i : Int) + 1 from by omega, Int.add_mul, Int.one_mul]
      rw [he]; exact wrap_u64 (by omega) (by omega)
    unfold M.winnowlaw16_BufferDue.j6
    have g1 : ∀ bb, gv [jv, .bool bb] 1 = .bool bb := fun _ => rfl
    simp only [joinT_eq, g1]
    by_cases hm : l[i].trace ∈ ids
    · have hany : (ids.any fun y => decide (y = l[i].trace)) = true := List.any_eq_true.2 ⟨_, hm, by simp⟩
      rw [hany]
      simp [e5, e6, e3, e4, hw, hw3]
      obtain ⟨hc, hk⟩ := hin hm
      exact h w2 _ idsv atv B' A' c' ids ats rfl rfl rfl rfl ⟨I2, bw', oi2, oa2, ni', na', D.nn, F2, D.le, by omega, hA', hL', hc, hk⟩
    · have hany : (ids.any fun y => decide (y = l[i].trace)) = false := by
        rw [List.any_eq_false]
        intro y hy
        simp
        exact fun h => hm (h ▸ hy)
      rw [hany]
      obtain ⟨hc, hk⟩ := hout hm
      have d0 := hrw w2 F2 0 _ rfl
      simp only [Nat.add_zero] at d0
      have hw4 : IntKind.u64.wrap ((i : Int) * gap + g.wait) = (i : Int) * gap + g.wait := wrap_u64 (by omega) (by omega)
      simp [e5, e6, e3, e4, hv, hi, d0]
      have fa : Fr (fun _ => False) w2 (w2.alloc (.cells #[.int .u64 l[i].trace] T.uint64)) := (Fr.refl _ w2).alloc _
      have hs2 := F2.size
      refine app_sl et.sl_uint64 encU_len encU_one (oi2.fr fa fun _ _ h => h) (Sl.one (x := l[i].trace) rfl rfl) (by simp; omega) (by decide) (by simp; omega) _ fun v3 w3 o3 f3 g3 => ?_
      simp [e5, hw4]
      have f23 : Fr (fun b => idsv.ownBlock = some b) w2 w3 := (fa.mono fun _ _ h => h.elim).trans f3
      have oa3 := oa2.fr f23 fun x hx hx' => D.nn x hx' hx
      have I3 := I2.keep f23 fun b hb hx => ni' b hx hb
      have F3 : Fr (fun _ => False) w0 w3 := F2.trans' f23 fun b hlt hx => by have := (oi2.lt hx).1; omega
      have fb : Fr (fun _ => False) w3 (w3.alloc (.cells #[.int .u64 ((i : Int) * gap + g.wait)] T.uint64)) := (Fr.refl _ w3).alloc _
      have hs3 := F3.size
      have sz23 := f23.size
      refine app_sl et.sl_uint64 encU_len encU_one (oa3.fr fb fun _ _ h => h) (Sl.one (x := (i : Int) * gap + g.wait) rfl rfl) (by simp; omega) (by decide) (by simp; omega) _ fun v4 w4 o4 f4 g4 => ?_
      have f34 : Fr (fun b => atv.ownBlock = some b) w3 w4 := (fb.mono fun _ _ h => h.elim).trans f4
      have n3 : ∀ x, v3.ownBlock = some x → ¬ atv.ownBlock = some x := fun x hx hx' => by
        rcases g3 with g3 | ⟨y, q1, q2⟩
        · exact D.nn x (by rw [← g3]; exact hx) hx'
        · rw [hx] at q1; cases q1
          have := (oa2.lt hx').2; simp at q2; omega
      have nB3 : ∀ x, v3.ownBlock = some x → ¬ B' x := fun x hx hbx => by
        rcases g3 with g3 | ⟨y, q1, q2⟩
        · exact ni' x (by rw [← g3]; exact hx) hbx
        · rw [hx] at q1; cases q1
          have := I2.lt x hbx; simp at q2; omega
      have nB4 : ∀ x, v4.ownBlock = some x → ¬ B' x := fun x hx hbx => by
        rcases g4 with g4 | ⟨y, q1, q2⟩
        · exact na' x (by rw [← g4]; exact hx) hbx
        · rw [hx] at q1; cases q1
          have := I3.lt x hbx; simp at q2; omega
      have o34 := o3.fr f34 n3
      simp [e5, e6, hw, hw3]
      refine h w4 _ v3 v4 B' A' c' (ids ++ [l[i].trace]) (ats ++ [(i : Int) * gap + g.wait]) rfl rfl rfl rfl ⟨I3.keep f34 fun b hb hx => na' b hx hb, bw', o34, o4, nB3, nB4, fun x hx hx' => ?_, F3.trans' f34 fun b hlt hx => by have := (oa3.lt hx).1; omega, by simp [hle], by simp; omega, hA', hL', hc, hk⟩
      rcases g4 with g4 | ⟨y, q1, q2⟩
      · exact n3 x hx (by rw [← g4]; exact hx')
      · rw [hx'] at q1; cases q1
        have := (o3.lt hx).2; simp at q2; omega
  unfold M.winnowlaw16_BufferDue.j3
  simp only [joinT_eq, e6]
  rw [hv] at tail ⊢
  have hlen200 : ∀ s : ByteArray, (200 : Int) < s.size ∨ ¬ (200 : Int) < s.size := fun s => Decidable.em _
  by_cases hn : 200 < l[i].name.size
  · have hn' : (200 : Int) < l[i].name.size := by omega
    simp [hi, c6, hn, hn']
    exact al w D.fr
  by_cases hm : 200 < l[i].service.size
  · have hn' : ¬ (200 : Int) < l[i].name.size := by omega
    have hm' : (200 : Int) < l[i].service.size := by omega
    simp [hi, c6, c5, hn, hn', hm, hm']
    exact al w D.fr
  have hn' : ¬ (200 : Int) < l[i].name.size := by omega
  have hm' : ¬ (200 : Int) < l[i].service.size := by omega
  have hld : ∀ K, ldN P 8 b (o + i * 8) w K = K (aggS l[i]) w := fun K => ldS (hrw w D.fr) K
  simp [hi, c6, c5, hn, hn', hm, hm', hld, e5]
  rw [M.pbuffer_Buffer_Put.fcall]
  have hAl := D.al
  have hEl := D.el
  have hdue : dueAt g ((i : Int) * gap) = (i : Int) * gap + g.wait := by unfold dueAt; omega
  have hnd : (ckeys c).Nodup := by
    obtain ⟨⟨O, r, m, es, _, J, _⟩, _⟩ := kI
    exact @Hp.nd (bufE g r) _ _ _ _ J.hp
  have hge := D.fr.size
  refine put_ok kI (by omega) (fun e he => by have := hEl e he; omega) l[i] (now := (i : Int) * gap) (by omega) (by omega) (fun hx w' I' f' => ?_) (fun _ _ _ w' I' f' => ?_) (fun _ hne _ w' B' I' f' p' => ?_) (fun _ e he het _ w' I' f' => ?_) (fun _ e he het _ _ w' I' f' => ?_) (fun _ e he het _ _ w' B' I' f' p' => ?_)
  · simp [hx]
    exact al w' (D.fr.trans f')
  · simp
    exact al w' (D.fr.trans f')
  · simp
    have hni : l[i].trace ∉ ids := fun hh => by
      obtain ⟨e, he, het⟩ := (D.ak _).2 hh
      exact hne e he het
    refine tail w' B' _ _ _ I' f' p' (by simp; omega) (fun e he => ?_) (fun hh => absurd hh hni) fun _ => ⟨?_, fun k => ?_⟩
    · rcases List.mem_append.1 he with h' | h'
      · have := hEl e h'; omega
      · simp at h'; subst h'; simp
    · have hkc : l[i].trace ∉ ckeys c := fun hh => by
        have h2 : l[i].trace ∈ (ids.zip ats).map (·.1) := by
          unfold ckeys at hh
          exact (D.cp.map _).mem_iff.1 hh
        obtain ⟨⟨q1, q2⟩, hq, hqe⟩ := List.mem_map.1 h2
        exact hni (by rw [← hqe]; exact (List.of_mem_zip hq).1)
      unfold cset
      rw [cdel_none hkc, hdue, List.zip_append D.le]
      exact (D.cp.cons _).trans (List.perm_append_comm (l₁ := [_]))
    · rw [List.mem_append, ← D.ak k]
      constructor
      · rintro ⟨e, he, rfl⟩
        rcases List.mem_append.1 he with h' | h'
        · exact .inl ⟨e, h', rfl⟩
        · simp at h'; subst h'; exact .inr (by simp)
      · rintro (⟨e, he, rfl⟩ | h')
        · exact ⟨e, List.mem_append_left _ he, rfl⟩
        · simp at h'; exact ⟨⟨l[i].trace, [l[i]], false⟩, by simp, h'.symm⟩
  · simp
    have hin : l[i].trace ∈ ids := (D.ak _).1 ⟨e, he, het⟩
    exact tail w' B A c _ I' (f'.mono fun _ _ h => h.elim) (fun b hb => .inl hb) (by omega) (fun e he => by have := hEl e he; omega) (fun _ => ⟨D.cp, D.ak⟩) fun hh => absurd hin hh
  · simp
    have F' := D.fr.trans' f' fun b hlt hb => by have := D.bw b hb; omega
    exact al w' F'
  · simp
    have hin : l[i].trace ∈ ids := (D.ak _).1 ⟨e, he, het⟩
    refine tail w' B' _ c _ I' f' p' (by simp [addS]; omega) (addS_len A _ _ hEl) (fun _ => ⟨D.cp, fun k => ?_⟩) fun hh => absurd hin hh
    rw [addS_keys]; exact D.ak k
end Go.Proofs.Ytgcpljghnlohbaa
