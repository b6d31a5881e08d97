/-
  The law BufferDue. No condition.
-/
import Derived.Test.YtgcpljghnlohbaaRows
import Derived.Test.YtgcpljghnlohbaaBufF
set_option maxRecDepth 100000
namespace Go.Proofs.Ytgcpljghnlohbaa
open Go.Eng

theorem cdue_len {c L : CT} (h : c.Perm L) (now : Int) : (cdue c now).length = cntP L now := by
  unfold cdue cntP
  rw [List.length_map, ← List.countP_eq_length_filter, ((srt_perm c).trans h).countP_eq]
theorem cdue_any {c : CT} {ids ats : List Int} (hn : (ckeys c).Nodup) (hp : c.Perm (ids.zip ats)) (now : Int) (i : Nat) (hi : i < ids.length) (hi' : i < ats.length) : ((cdue c now).any fun y => decide (y = ids[i])) = decide (ats[i] ≤ now) := by
  have hz : (ids[i], ats[i]) ∈ ids.zip ats := by
    have : (ids.zip ats)[i]? = some (ids[i], ats[i]) := by rw [List.getElem?_zip_eq_some]; exact ⟨List.getElem?_eq_getElem hi, List.getElem?_eq_getElem hi'⟩
    exact List.mem_of_getElem? this
  have hc : (ids[i], ats[i]) ∈ c := hp.mem_iff.2 hz
  by_cases hd : ats[i] ≤ now
  · simp only [hd, decide_true]
    exact List.any_eq_true.2 ⟨ids[i], cdue_mem.2 ⟨ats[i], hc, hd⟩, by simp⟩
  · simp only [hd, decide_false]
    rw [List.any_eq_false]
    intro y hy
    simp
    rintro rfl
    obtain ⟨a, ha, hle⟩ := cdue_mem.1 hy
    have h1 := cget_of_mem hn ha
    have h2 := cget_of_mem hn hc
    rw [h1] at h2
    cases h2
    exact hd hle

theorem due_end {w0 w : World} {hb : Nat} {g : Cfg} {idsv atv : Value} {i : Nat} {B : Nat → Prop} {A : List AE} {c : CT} {ids ats : List Int} (D : BD w0 w hb g idsv atv i B A c ids ats) (hi : i ≤ 20) {now : Int} (hnow : 0 ≤ now ∧ now ≤ 1099511627776) {x1 : List Value} (e4 : gv x1 4 = idsv) (e5 : gv x1 5 = atv) {K : KV}
    (hK : ∀ w', Fr (fun _ => False) w0 w' → K (.bool true) w') : M.winnowlaw16_BufferDue.j1 (.pointer (some ⟨hb, 0, none⟩)) (.int .u64 now) x1 w K := by
  have hAl := D.al
  have hli := D.li
  have hle := D.le
  have hge := D.fr.size
  have hnd : (ckeys c).Nodup := by
    obtain ⟨⟨O, r, m, es, _, J, _⟩, _⟩ := D.buf
    exact @Hp.nd (bufE g r) _ _ _ _ J.hp
  have hcl : c.length = ids.length := by rw [D.cp.length_eq, List.length_zip]; omega
  have hdl : ∀ t, (cdue c t).length ≤ c.length := fun t => by
    unfold cdue
    rw [List.length_map]
    have := List.length_filter_le (fun p : Int × Int => decide (p.2 ≤ t)) (srt c)
    have := (srt_perm c).length_eq
    omega
  unfold M.winnowlaw16_BufferDue.j1
  simp only [joinT_eq]
  rw [M.pbuffer_Buffer_Due.fcall]
  refine due_ok D.buf (by omega) now fun w2 v2 B2 I2 r2 n2 f2 p2 => ?_
  have B2w : ∀ b, B2 b → w0.heap.size ≤ b := fun b hb => by
    rcases p2 b hb with h | h
    · exact D.bw b h
    · omega
  have F2 : Fr (fun _ => False) w0 w2 := D.fr.trans' f2 fun b hlt hb => by have := D.bw b hb; omega
  have oi2 := D.oi.fr f2 D.ni
  have oa2 := D.oa.fr f2 D.na
  have o2 := owU_of_row r2
  have hd2 := hdl now
  refine cnt_loop (o2.sl encU_len) (by omega) (oi2.sl encU_len) (oa2.sl encU_len) hle (by omega) (fun j hj hj' => cdue_any hnd D.cp now j hj hj') e4 e5 _ fun w3 q0 q1 q2 q3 f3 => ?_
  have F3 := F2.trans f3
  have I3 := I2.keep f3 fun _ _ h => h
  have o3 := o2.fr f3 fun _ _ h => h
  unfold M.winnowlaw16_BufferDue.j11
  have hw5 : IntKind.u64.wrap (now + 5) = now + 5 := wrap_u64 (by omega) (by omega)
  simp [hw5]
  rw [M.pbuffer_Buffer_Due.fcall]
  refine due_ok I3 (by omega) (now + 5) fun w4 v4 B4 I4 r4 n4 f4 p4 => ?_
  have hs3 := F3.size
  have B4w : ∀ b, B4 b → w0.heap.size ≤ b := fun b hb => by
    rcases p4 b hb with h | h
    · exact B2w b h
    · omega
  have F4 : Fr (fun _ => False) w0 w4 := F3.trans' f4 fun b hlt hb => by have := B2w b hb; omega
  have o3' := o3.fr f4 fun x hx => n2 x hx
  have o4 := owU_of_row r4
  have s3 := o3'.sl encU_len
  have s4 := o4.sl encU_len
  have hcnt : cntP (ids.zip ats) now = (cdue c now).length := (cdue_len D.cp now).symm
  have hmono : (cdue c now).length ≤ (cdue c (now + 5)).length := by
    have := congrArg List.length (cdue_prefix c (now := now) (later := now + 5) (by omega))
    rw [List.length_take] at this
    omega
  have l3 : ∀ w K, biT P .len #[T.sl_uint64] T.int [false] [v2] w K = K (.int .i64 (cdue c now).length) w := fun w K => s3.len_ok (by simp) _
  have l4 : ∀ w K, biT P .len #[T.sl_uint64] T.int [false] [v4] w K = K (.int .i64 (cdue c (now + 5)).length) w := fun w K => s4.len_ok (by simp) _
  have hmono' : ((cdue c now).length : Int) ≤ (cdue c (now + 5)).length := by omega
  obtain ⟨v5, s5, p5, q5⟩ := s4.sub (P := P) (t := T.sl_uint64) (lo := none) (hi := some (.int .i64 ((cdue c now).length : Int))) (i := 0) (j := (cdue c now).length) (by simp) (by simp) (.inl ⟨rfl, rfl⟩) (.inr ⟨_, rfl⟩) (Nat.zero_le _) hmono
  rw [Nat.sub_zero, List.drop_zero, cdue_prefix c (by omega)] at s5
  simp [l3, l4, hcnt, hmono', q5]
  rw [M.winnowlaw16_uints.fcall]
  refine uints_ok s5 s3 (by omega) fun w5 f5 => ?_
  have F5 := F4.trans f5
  have I5 := I4.keep f5 fun _ _ h => h
  have o5 := o3'.fr f5 fun _ _ h => h
  simp
  rw [M.pbuffer_Buffer_Due.fcall]
  refine due_ok I5 (by omega) now fun w6 v6 B6 I6 r6 n6 f6 p6 => ?_
  have nv2 : ∀ x, v2.ownBlock = some x → ¬ B4 x := fun x hx hb => by
    rcases p4 x hb with h | h
    · exact n2 x hx h
    · have := (o3.lt hx).2; omega
  have o6 := o5.fr f6 fun x hx => nv2 x hx
  have F6 : Fr (fun _ => False) w0 w6 := F5.trans' f6 fun b hlt hb => by have := B4w b hb; omega
  have l6 : ∀ w K, biT P .len #[T.sl_uint64] T.int [false] [v6] w K = K (.int .i64 (cdue c now).length) w := fun w K => ((owU_of_row r6).sl encU_len).len_ok (by simp) _
  rw [M.winnowlaw16_uints.fcall]
  refine uints_ok ((owU_of_row r6).sl encU_len) (o6.sl encU_len) (by omega) fun w7 f7 => ?_
  simp
  rw [M.winnowlaw16_alive.fcall]
  exact alive_ok fun w8 f8 => by simpa using hK w8 ((F6.trans f7).trans f8)

def BDI (w0 : World) (hb : Nat) (g : Cfg) (gap : Int) (l : List Spn) : KL := fun x w1 => ∃ (i : Nat) (B : Nat → Prop) (A : List AE) (c : CT) (ids ats : List Int), gv x 5 = .int .u64 ((i : Int) * gap) ∧ gv x 6 = .int .i64 (i : Nat) ∧ i ≤ l.length ∧ BD w0 w1 hb g (gv x 3) (gv x 4) i B A c ids ats

theorem bufferDue_ok {w : World} {wait gap now : Int} (hwt : 0 ≤ wait) (hg : 0 ≤ gap) (hn : 0 ≤ now) {a1 : Value} {l : List Spn} (hs : SlS w a1 l) {K : KV} (hK : ∀ w', Fr (fun _ => False) w w' → K (.bool true) w') : callT P F.winnowlaw16_BufferDue [.int .u64 wait, a1, .int .u64 gap, .int .u64 now] w K := by
  apply M.winnowlaw16_BufferDue.calls
  unfold M.winnowlaw16_BufferDue
  have al : ∀ w', Fr (fun _ => False) w w' → fcallT P F.winnowlaw16_alive [] w' (fun t80 w => K t80 w) := fun w' f => by
    rw [M.winnowlaw16_alive.fcall]
    exact alive_ok fun w'' f' => hK w'' (f.trans f')
  rw [M.buffer_New.fcall]
  refine new_ok 16 16 wait (fun _ => ?_) fun g w1 hg1 hg2 hg3 _ _ _ _ hgw I1 f1 => ?_
  · simp only [joinT_eq]
    by_cases hbig : 20 < l.length
    · have hb' : (20 : Int) < l.length := by omega
      simp [hs.len_ok, hbig, hb']
      exact al w (Fr.refl _ _)
    · have hb' : ¬ (20 : Int) < l.length := by omega
      simp [hs.len_ok, hbig, hb']
      exact al w (Fr.refl _ _)
  · subst hg3
    have hs1 : SlS w1 a1 l := hs.fr f1 fun _ _ _ h => h
    simp only [joinT_eq]
    simp [hs1.len_ok]
    by_cases hbig : 20 < l.length
    · have hb' : (20 : Int) < l.length := by omega
      simp [hbig, hb']
      exact al w1 f1
    have hb' : ¬ (20 : Int) < l.length := by omega
    by_cases hgb : 1000 < gap
    · simp [hbig, hb', hgb]
      exact al w1 f1
    by_cases hnb : 1099511627776 < now
    · simp [hbig, hb', hgb, hnb]
      exact al w1 f1
    simp [hbig, hb', hgb, hnb]
    refine ⟨BDI w (w.heap.size + 1) g gap l, fun x _ => l.length - ms x 6, ⟨0, _, [], [], [], [], by simp [gv], rfl, Nat.zero_le _, ⟨I1, fun b hb => by omega, Ow.none, Ow.none, fun x hx => by simp [gv, Value.ownBlock] at hx, fun x hx => by simp [gv, Value.ownBlock] at hx, fun x hx => by simp [gv, Value.ownBlock] at hx, f1, rfl, Nat.le_refl _, Nat.le_refl _, fun e he => by (cases he), List.Perm.refl _, fun k => by simp⟩⟩, ?_⟩
    rintro x w2 ⟨i, B, A, c, ids, ats, e5, e6, hi, D⟩
    unfold M.winnowlaw16_BufferDue.j2
    simp only [joinT_eq, e6]
    have hs2 : SlS w2 a1 l := hs.fr D.fr fun _ _ _ h => h
    rw [hs2.len_ok (by simp)]
    by_cases hil : i < l.length
    · simp [hil]
      refine bd_step D hs hil (by omega) ⟨hg, by omega⟩ ⟨hwt, hgw⟩ rfl rfl e5 e6 hK fun w3 xs idsv' atv' B' A' c' ids' ats' q3 q4 q5 q6 D' => ⟨⟨i + 1, B', A', c', ids', ats', q5, q6, by omega, by rw [q3, q4]; exact D'⟩, ?_⟩
      simp [ms, e6, q6]; omega
    · simp [hil]
      exact due_end D (by omega) ⟨hn, by omega⟩ rfl rfl hK
end Go.Proofs.Ytgcpljghnlohbaa
