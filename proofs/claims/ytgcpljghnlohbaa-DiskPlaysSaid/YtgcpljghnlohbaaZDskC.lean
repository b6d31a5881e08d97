/-
  The document's disk, told as a disk: Append. No condition.
  The document's disk, told as a disk: Crash. No condition.
  A disk against the document's. No condition.
-/
import Derived.Test.YtgcpljghnlohbaaZDsk2
set_option maxRecDepth 100000
namespace Go.Proofs.Ytgcpljghnlohbaa
open Go.Eng Go.Proofs.Ytgcpljghnlohbaa.Sint
section
variable {w0 w : World} {hr fb : Nat} {es : List REnt} {D D' : Dk} {R : List Asn} {e e' : REnt} {n : Nat}
theorem refL_congr (h1 : D'.room = D.room) (h2 : armR D' = armR D) (h3 : D'.down = D.down) : refL hr fb es D' = refL hr fb es D := by
  unfold refL; rw [h1, h2, h3]
theorem sl_same {v v1 v2 : Value} {hi : Option Value} (h1 : ∀ w1 (K : KV), slT P T.sl_uint8 v none hi none w1 K = K v1 w1) (h2 : ∀ w1 (K : KV), slT P T.sl_uint8 v none hi none w1 K = K v2 w1) (w : World) : v2 = v1 := by
  have a := h1 w (fun v _ => v = v1)
  have b := h2 w (fun v _ => v = v1)
  rw [a] at b
  exact b.mp rfl
theorem emptyB (S : St w0 w R) : St w0 (w.alloc (.cells #[] T.uint8)) (rowB (.slice (some ⟨w.heap.size, 0, none⟩) 0 0) [] :: R) :=
  S.add (a := rowB (.slice (some ⟨w.heap.size, 0, none⟩) 0 0) []) ((Fr.refl _ w).alloc _) (B := fun x => x = w.heap.size) ⟨Ow.empty (by rw [alloc_heap, if_pos rfl]) (Nat.zero_le _), fun b hb => by simpa [Value.ownBlock] using hb.symm⟩ fun x hx => by subst hx; rw [alloc_size]; omega
theorem bs0 (w : World) (K : KV) : bsT P T.sl_uint8 0 #[] w K = K (.slice (some ⟨w.heap.size, 0, none⟩) 0 0) (w.alloc (.cells #[] T.uint8)) := by refine Eq.trans ?_ rfl; kernel_rfl
theorem rappJ4 (hlen : es.length = 64) (S : St w0 w (refL hr fb es D ++ R)) (hn : n < 64) (he : es[n]? = some e) {v2 kk : Value} {l2 : List Int} (hs : ∀ w' L, St w0 w' (L ++ R) → SlB w' v2 l2) (hsz : e.b.length + l2.length ≤ 1000000000) {K : KV}
    (h : ∀ w' v', St w0 w' (refL hr fb (es.set n ⟨true, v', e.b ++ l2, e.fast⟩) D ++ R) → K kk w') : M.pwinnowref06_Disk_Append.j4 (.pointer (some ⟨hr, 0, none⟩)) (.int .i64 (n : Nat)) [v2, kk] w K := by
  unfold M.pwinnowref06_Disk_Append.j4
  have hn' : (n : Int) < 64 := by omega
  obtain ⟨_, c1, _⟩ := rfHeadCells S
  obtain ⟨k0, k1, k2, fz⟩ := rfCells S he
  -- is
  have S1 := rfFB S
  have s1 := rfSl S he
  have S2 := (rdsSet (n := n) (e' := { e with is := true }) S1.swap (show SlB _ e.v e.b from s1) he fun b hb => hb).swap
  have S3 := rfBack (D := D) (rfStore (e' := { e with is := true }) S2 he (j := 0) (u := .bool true) (by decide) rfl)
  have he3 : (es.set n { e with is := true })[n]? = some { e with is := true } := List.getElem?_set_self (by rw [hlen]; exact hn)
  simp [c1, hn', k0, fz]
  generalize hw3 : w.setCell ⟨fb, n * 3 + 0, none⟩ (.bool true) = w3 at S3
  have hw3' : w.setCell ⟨fb, n * 3, none⟩ (.bool true) = w3 := by rw [← hw3]; rfl
  -- the copy
  have S4 := S3.step ((Fr.refl _ w3).dr 1)
  obtain ⟨_, d1, _⟩ := rfHeadCells S4
  obtain ⟨_, m1, _⟩ := rfCells S4 he3
  have s4 : SlB (Eng.dr w3 1) e.v e.b := rfSl (e := { e with is := true }) S4 he3
  obtain ⟨a5, c5, hv, _⟩ := id s4
  have m1' : cellOf (Eng.dr w3 1) fb (n * 3 + 1) = some (.slice a5 e.b.length c5) := by rw [← hv]; exact m1
  have d1' : cellOf w3 hr 1 = some (.slice (some ⟨fb, 0, none⟩) 64 64) := d1
  have m1'' : cellOf w3 fb (n * 3 + 1) = some (.slice a5 e.b.length c5) := m1'
  have hsz3 : w3.heap.size = w.heap.size := by rw [← hw3']; exact setCell_size _ _ _
  have S5 := emptyB S4
  rw [show (Eng.dr w3 1).heap.size = w.heap.size from hsz3] at S5
  generalize hw5 : (Eng.dr w3 1).alloc (.cells #[] T.uint8) = w5 at S5 ⊢
  obtain ⟨_, p1, _⟩ := rfHeadCells S5.drop
  obtain ⟨_, q1, _⟩ := rfCells S5.drop he3
  have s5 : SlB w5 e.v e.b := rfSl (e := { e with is := true }) S5.drop he3
  have q1' : cellOf w5 fb (n * 3 + 1) = some (.slice a5 e.b.length c5) := by rw [← hv]; exact q1
  simp [d1', m1'', p1, q1', hn']
  rw [hv] at s5
  refine moreRow S5 s5 (by simp; omega) fun w6 v6 S6 => ?_
  obtain ⟨_, r1, _⟩ := rfHeadCells S6.drop
  simp [r1, hn']
  have hs6 := hs w6 (rowB v6 ([] ++ e.b) :: refL hr fb (es.set n { e with is := true }) D) S6
  refine moreRow S6 hs6 (by simp; omega) fun w7 v7 S7 => ?_
  obtain ⟨_, t1, _⟩ := rfHeadCells S7.drop
  obtain ⟨_, u1, _, fz7⟩ := rfCells S7.drop he3
  obtain ⟨a7, c7, hv7, _⟩ := S7.row encB_len
  generalize ([] ++ e.b ++ l2 : List Int).length = L7 at hv7
  simp [t1, hn']
  have S8 : St w0 w7 (rowB v7 ([] ++ e.b ++ l2) :: rdsA (es.set n { e with is := true }) :: blkA fb ((es.set n { e with is := true }).flatMap cellsR).toArray T.winnowref06_File :: blkA hr #[.int .i64 D.room, .slice (some ⟨fb, 0, none⟩) 64 64, .int .i64 (armR D), .bool D.down] T.winnowref06_Disk :: R) :=
    S7.tail ((List.Perm.cons _ (List.Perm.swap _ _ _)).trans ((List.Perm.swap _ _ _).trans (List.Perm.cons _ (List.Perm.swap _ _ _))))
  have S9 := (rdsNew (n := n) (e' := ⟨true, v7, e.b ++ l2, e.fast⟩) S8 rfl (by simp)).swap
  have S10 := rfStore (e' := ⟨true, v7, e.b ++ l2, e.fast⟩) S9 he3 (j := 1) (u := v7) (by decide) rfl
  rw [List.set_set] at S10
  have S11 := rfBack (D := D) S10
  rw [hv7] at S11 ⊢
  simp [u1, fz7]
  exact h _ _ S11
theorem after_room (D : Dk) (l : List Int) : (D.after l).room = D.room := by unfold Dk.after; split <;> rfl
theorem put_head (D : Dk) (k : Int) (l : List Int) : (D.put k l).room = D.room ∧ armR (D.put k l) = armR (D.after l) ∧ (D.put k l).down = (D.after l).down := by
  unfold Dk.put
  split <;> (unfold Dk.after armR; cases ha : D.armed <;> simp [Dk.setF, Dk.addF, ha])
theorem put_get (D : Dk) (n : Nat) (l : List Int) (h : rfOk (D.get (n : Int)) e) (v : Value) : rfOk ((D.put n l).get (n : Int)) ⟨true, v, e.b ++ D.takes l, e.fast⟩ := by
  unfold Dk.put
  cases hg : D.get (n : Int) with
  | none =>
    rw [hg] at h
    simp only
    rw [after_get, setF_get, if_pos rfl, addF_get _ _ _ hg, if_pos rfl]
    refine ⟨rfl, ?_, ?_⟩
    · show e.b ++ _ = [] ++ _
      rw [h.2.1]
    · show e.fast = _
      rw [h.2.2]; rfl
  | some f =>
    rw [hg] at h
    simp only
    rw [after_get, setF_get, if_pos rfl, hg]
    refine ⟨rfl, ?_, h.2.2⟩
    show e.b ++ _ = f.fast ++ (f.loose ++ _)
    rw [h.2.1, List.append_assoc]
theorem put_other (D : Dk) (n : Nat) (l : List Int) : ∀ j : Int, j ≠ (n : Int) → (D.put n l).get j = D.get j := by
  intro j hj
  unfold Dk.put
  cases hg : D.get (n : Int) with
  | none => simp only; rw [after_get, setF_get, if_neg hj, addF_get _ _ _ hg, if_neg hj]
  | some f => simp only; rw [after_get, setF_get, if_neg hj]
theorem rappend_ok (S : St w0 w (refA hr D :: R)) (k : Int) {bv : Value} {l : List Int} (hbs : ∀ w' L, St w0 w' (L ++ R) → SlB w' bv l) (hl : l.length ≤ 100000000) (g : Good (D.append k l).1) {K : KV}
    (h : ∀ w', St w0 w' (refA hr (D.append k l).1 :: R) → K (.int .i64 (D.append k l).2) w') : fcallT P F.pwinnowref06_Disk_Append [.pointer (some ⟨hr, 0, none⟩), .int .i64 k, bv] w K := by
  obtain ⟨fb, es, hk, S0⟩ := unRf S
  obtain ⟨c0, c1, c2, c3, fz⟩ := rfHeadCells S0
  rw [M.pwinnowref06_Disk_Append.fcall]
  apply M.pwinnowref06_Disk_Append.calls
  unfold M.pwinnowref06_Disk_Append
  unfold Dk.append at h g
  cases hd : D.down with
  | true =>
    rw [hd] at c3
    simp [hd] at h
    simp [c3]
    exact h w S
  | false =>
  rw [hd] at c3
  simp [c3]
  unfold M.pwinnowref06_Disk_Append.j0
  by_cases h0 : k < 0
  · simp [hd, h0] at h ⊢; exact h w S
  by_cases h1 : 64 ≤ k
  · simp [hd, h0, h1] at h ⊢; exact h w S
  simp [h0, h1]
  unfold M.pwinnowref06_Disk_Append.j1
  obtain ⟨n, rfl⟩ : ∃ n : Nat, k = (n : Int) := ⟨k.toNat, by omega⟩
  have hn : n < 64 := by omega
  have hs := hbs w _ S0
  obtain ⟨a5, c5, hbv, _⟩ := id hs
  have hlen : ∀ w' K', biT P .len #[T.sl_uint8] T.int [false] [bv] w' K' = K' (.int .i64 l.length) w' := fun w' K' => hs.len_ok (by kernel_rfl) [false]
  have hu := hk.used
  have hr' := hk.room
  have hw : IntKind.i64.wrap (D.room - (D.used : Int)) = D.room - (D.used : Int) := wrap_id (by omega) (by omega)
  simp [hlen, c0]
  refine rused_ok (S.step ((Fr.refl _ w).dr 1)) ?_
  simp [c0, hlen, hw]
  by_cases h2 : D.room < D.used + l.length
  · have h2' : D.room - (D.used : Int) < l.length := by omega
    simp [hd, h0, h1, h2] at h
    simp [h2']
    exact h _ (S.step ((Fr.refl _ w).dr 1))
  have h2' : ¬ D.room - (D.used : Int) < l.length := by omega
  simp [hd, h0, h1, h2] at h g
  simp [h2']
  unfold M.pwinnowref06_Disk_Append.j2
  have S1 := S0.step ((Fr.refl _ w).dr 1)
  obtain ⟨e, he, hf⟩ := hk.file hn
  have heb : e.b.length ≤ 1048576 := by
    have h5 := rfOk_len hf
    have h6 := upR_le D (n + 1) 64 (by omega)
    rw [upR_succ, upR_used hk.key hk.nd] at h6
    have : lenOf D (n : Int) = ((D.get (n : Int)).map Fil.len).getD 0 := rfl
    omega
  obtain ⟨ph1, ph2, ph3⟩ := put_head D n l
  -- the head stands; the file is turned
  have fin : ∀ w1 v2, St w0 w1 (refL hr fb es (D.after l) ++ R) → (∀ w' L, St w0 w' (L ++ R) → SlB w' v2 (D.takes l)) → M.pwinnowref06_Disk_Append.j4 (.pointer (some ⟨hr, 0, none⟩)) (.int .i64 (n : Nat)) [v2, .int .i64 (if (D.put n l).down = true then 10 else 0)] w1 K := by
    intro w1 v2 S2 hs2
    have htk : (D.takes l).length ≤ l.length := by
      unfold Dk.takes
      split
      · rw [List.length_take]; omega
      · exact Nat.le_refl _
    refine rappJ4 hk.len S2 hn he hs2 (by omega) fun w' v' S3 => ?_
    refine h w' (mkRf (fb := fb) (es := es.set n ⟨true, v', e.b ++ D.takes l, e.fast⟩) (hk.set hn g (put_other D n l) (put_get D n l hf v')) ?_)
    rw [refL_congr (D := D.after l) (ph1.trans (after_room D l).symm) ph2 ph3]
    exact S3
  have ctx : ∀ w', (Eng.dr w 1 = w' ∨ True) → True := fun _ _ => trivial
  simp only [joinT_eq]
  cases ha : D.armed with
  | false =>
    have hav : armR D = -1 := by unfold armR; rw [ha]; rfl
    have hafter : D.after l = D := by unfold Dk.after; rw [ha]; rfl
    have htk : D.takes l = l := by unfold Dk.takes; rw [ha]; rfl
    rw [hav] at c2
    rw [hafter, htk] at fin
    have hdn : (D.put n l).down = false := by rw [ph3, hafter, hd]
    rw [hdn] at fin
    simp [c2]
    unfold M.pwinnowref06_Disk_Append.j3
    simp [c2]
    exact fin _ bv S1 hbs
  | true =>
    obtain ⟨hle, hlt⟩ := hk.arm ha
    have hav : armR D = D.left := by unfold armR; rw [ha]; rfl
    have hafter : D.after l = { D with down := decide (D.left < l.length), left := D.left - (min (l.length : Int) D.left).toNat } := by unfold Dk.after; rw [ha]; rfl
    have htk : D.takes l = l.take (min (l.length : Int) D.left).toNat := by unfold Dk.takes; rw [ha]; rfl
    have harm' : armR (D.after l) = D.left - (min (l.length : Int) D.left).toNat := by rw [hafter]; unfold armR; rw [ha]; rfl
    have hdn' : (D.after l).down = decide (D.left < l.length) := by rw [hafter]
    have hrm' := after_room D l
    rw [hav] at c2
    have hh := rfHead S1
    by_cases h3 : D.left < l.length
    · have hm : (min (l.length : Int) D.left).toNat = D.left.toNat := by omega
      have hlc : ((D.left.toNat : Nat) : Int) = D.left := by omega
      obtain ⟨v', s', hsub, hsl⟩ := hs.sub (P := P) (t := T.sl_uint8) (lo := none) (hi := some (.int .i64 (D.left.toNat : Nat))) (i := 0) (j := D.left.toNat) (by kernel_rfl) (by kernel_rfl) (.inl ⟨rfl, rfl⟩) (.inr ⟨_, rfl⟩) (Nat.zero_le _) (by omega)
      rw [List.drop_zero, Nat.sub_zero] at s'
      have hs2 : ∀ w' L, St w0 w' (L ++ R) → SlB w' v' (l.take D.left.toNat) := fun w' L S' => by
        obtain ⟨v'', s'', _, hsl''⟩ := (hbs w' L S').sub (P := P) (t := T.sl_uint8) (lo := none) (hi := some (.int .i64 (D.left.toNat : Nat))) (i := 0) (j := D.left.toNat) (by kernel_rfl) (by kernel_rfl) (.inl ⟨rfl, rfl⟩) (.inr ⟨_, rfl⟩) (Nat.zero_le _) (by omega)
        rw [List.drop_zero, Nat.sub_zero] at s''
        rw [sl_same hsl'' hsl w]; exact s''
      rw [hlc] at hsl
      have hml : (l.take D.left.toNat).length = D.left.toNat := by rw [List.length_take]; omega
      have hlen' : ∀ w' K', biT P .len #[T.sl_uint8] T.int [false] [v'] w' K' = K' (.int .i64 D.left) w' := fun w' K' => by
        have := s'.len_ok (P := P) (w := w') (t := T.sl_uint8) (ty := T.int) (by kernel_rfl) [false] (K := K')
        rw [hml, hlc] at this; exact this
      have hdn : (D.put n l).down = true := by rw [ph3, hdn']; exact decide_eq_true h3
      rw [hdn] at fin
      have hw0 : IntKind.i64.wrap 0 = 0 := wrap_id (by omega) (by omega)
      simp [c2, hle, hlen, h3, hsl, c3, fz]
      unfold M.pwinnowref06_Disk_Append.j3
      simp [c2, hle, hlen', cellOf_setCell, frzOf_setCell, fz, hw0]
      refine fin _ v' (rfHeadTurn S1 (((Fr.refl (fun x => x = hr) _).setCell (.inl rfl) _ _).setCell (.inl rfl) _ _) ?_) (by rw [htk, hm]; exact hs2)
      rw [setCell_at (setCell_at hh), hrm', harm', hdn', decide_eq_true h3, hm, hlc, Int.sub_self]; rfl
    · have hm : (min (l.length : Int) D.left).toNat = l.length := by omega
      have hdn : (D.put n l).down = false := by rw [ph3, hdn']; exact decide_eq_false h3
      rw [hdn] at fin
      have hw1 : IntKind.i64.wrap (D.left - l.length) = D.left - l.length := wrap_id (by omega) (by omega)
      simp [c2, hle, hlen, h3]
      unfold M.pwinnowref06_Disk_Append.j3
      simp [c2, hle, hlen, fz, hw1]
      refine fin _ bv (rfHeadTurn S1 ((Fr.refl (fun x => x = hr) _).setCell (.inl rfl) _ _) ?_) (by rw [htk, hm, List.take_length]; exact hbs)
      rw [setCell_at hh, hrm', harm', hdn', decide_eq_false h3, hm, hd]; rfl
end
end Go.Proofs.Ytgcpljghnlohbaa
set_option maxRecDepth 100000
namespace Go.Proofs.Ytgcpljghnlohbaa
open Go.Eng Go.Proofs.Ytgcpljghnlohbaa.Sint
theorem sum_le_map {α : Type} (f g : α → Nat) : ∀ l : List α, (∀ x ∈ l, f x ≤ g x) → (l.map f).sum ≤ (l.map g).sum
  | [], _ => Nat.le_refl _
  | x :: l, h => by
    have := sum_le_map f g l fun y hy => h y (List.mem_cons_of_mem _ hy)
    have := h x (List.mem_cons_self ..)
    simp only [List.map_cons, List.sum_cons]; omega
theorem Good.crStep {D : Dk} (g : Good D) (kl : List Int) (k : Int) (i : Nat) : Good (crStep kl D k i) := by
  have hkeys := crStep_keys kl D k i
  cases hg : D.get k with
  | none => unfold Go.Proofs.Ytgcpljghnlohbaa.crStep; rw [hg]; exact g
  | some f =>
    have hst : Go.Proofs.Ytgcpljghnlohbaa.crStep kl D k i = D.setF k (f.fast ++ f.loose.take (stays kl i f.loose.length)) [] := by unfold Go.Proofs.Ytgcpljghnlohbaa.crStep; rw [hg]
    have hu : (Go.Proofs.Ytgcpljghnlohbaa.crStep kl D k i).used ≤ D.used := by
      rw [hst]
      unfold Dk.used Dk.setF
      rw [List.map_map]
      refine sum_le_map _ _ _ fun x hx => ?_
      show (if x.n = k then (⟨k, f.fast ++ f.loose.take (stays kl i f.loose.length), []⟩ : Fil) else x).len ≤ x.len
      split
      · rename_i hxk
        have hfm : f ∈ D.fs := List.mem_of_find?_eq_some (show D.fs.find? _ = some f from hg)
        have : x = f := nodup_map_inj g.nd hx hfm (hxk.trans (get_n hg).symm)
        subst this
        simp [Fil.len]; omega
      · exact Nat.le_refl _
    have hroom : (Go.Proofs.Ytgcpljghnlohbaa.crStep kl D k i).room = D.room := by rw [hst]; rfl
    have h1 := g.used
    exact ⟨by rw [hroom]; exact g.room, by rw [hroom]; omega, by rw [hkeys]; exact g.key, by rw [hkeys]; exact g.nd, by rw [hst]; exact g.arm⟩
section
variable {w0 w : World} {hr fb : Nat} {es : List REnt} {D D' : Dk} {R : List Asn} {e e' : REnt} {n : Nat}
theorem rf_good (S : St w0 w (refA hr D :: R)) : Good D := by
  obtain ⟨fb, es, hk, _⟩ := unRf S
  exact hk.toGood
theorem crStep_other (kl : List Int) (D : Dk) (k : Int) (i : Nat) : ∀ j, j ≠ k → (crStep kl D k i).get j = D.get j := by
  intro j hj
  unfold crStep
  split
  · rfl
  · rw [setF_get, if_neg hj]
theorem crStep_head (kl : List Int) (D : Dk) (k : Int) (i : Nat) : (crStep kl D k i).room = D.room ∧ armR (crStep kl D k i) = armR D ∧ (crStep kl D k i).down = D.down := by
  unfold crStep
  split <;> exact ⟨rfl, rfl, rfl⟩
theorem rcrJ4 (hk : RfOk D es) (S : St w0 w (refL hr fb es D ++ R)) (hn : n < 64) (he : es[n]? = some e) {f : Fil} (hf : rfOk (some f) e) {m : Nat} (hm : m ≤ f.loose.length) {K3 : KL} {K : KV}
    (h : ∀ w' v', St w0 w' (refL hr fb (es.set n ⟨e.is, v', f.fast ++ f.loose.take m, (f.fast ++ f.loose.take m).length⟩) D ++ R) → K3 [.pointer (some ⟨fb, n * 3, none⟩), .int .i64 (m : Int)] w') :
    M.pwinnowref06_Disk_Crash.j4 (.pointer (some ⟨fb, n * 3, none⟩)) [.int .i64 (m : Int)] K3 w K := by
  unfold M.pwinnowref06_Disk_Crash.j4
  obtain ⟨k0, k1, k2, fz⟩ := rfCells S he
  have s1 := rfSl S he
  obtain ⟨a5, c5, hv, _⟩ := id s1
  have hu := hk.used
  have hrm := hk.room
  have hbl : e.b.length ≤ 1048576 := by
    obtain ⟨e2, he2, hf2⟩ := hk.file hn
    rw [he] at he2; cases he2
    have h5 := rfOk_len hf2
    have h6 := upR_le D (n + 1) 64 (by omega)
    rw [upR_succ, upR_used hk.key hk.nd] at h6
    have : lenOf D (n : Int) = ((D.get (n : Int)).map Fil.len).getD 0 := rfl
    omega
  have hebl : e.b.length = f.fast.length + f.loose.length := by rw [hf.2.1]; simp
  have hL : (f.fast ++ f.loose.take m).length = f.fast.length + m := by rw [List.length_append, List.length_take]; omega
  have htk : e.b.take (f.fast.length + m) = f.fast ++ f.loose.take m := by
    rw [hf.2.1, List.take_append, List.take_of_length_le (by omega)]
    congr 2; omega
  have hw1 : IntKind.i64.wrap (e.fast + (m : Int)) = ((f.fast.length + m : Nat) : Int) := by
    rw [hf.2.2, wrap_id (by omega) (by omega)]; omega
  obtain ⟨v', s', hsub, hsl⟩ := s1.sub (P := P) (t := T.sl_uint8) (lo := none) (hi := some (.int .i64 ((f.fast.length + m : Nat) : Int))) (i := 0) (j := f.fast.length + m) (by kernel_rfl) (by kernel_rfl) (.inl ⟨rfl, rfl⟩) (.inr ⟨_, rfl⟩) (Nat.zero_le _) (by omega)
  rw [List.drop_zero, Nat.sub_zero, htk] at s'
  obtain ⟨a6, c6, hv', _⟩ := id s'
  have hlen' : ∀ w' K', biT P .len #[T.sl_uint8] T.int [false] [v'] w' K' = K' (.int .i64 (f.fast ++ f.loose.take m).length) w' := fun w' K' => s'.len_ok (by kernel_rfl) [false]
  have k1' := k1
  rw [hv] at k1' hsl
  have S1 := rfFB (S.step ((Fr.refl _ w).dr 1))
  have S2 := (rdsSet (n := n) (e' := ⟨e.is, v', f.fast ++ f.loose.take m, (f.fast ++ f.loose.take m).length⟩) S1.swap (s'.fr ((Fr.refl (fun _ => False) w).dr 1) fun _ _ _ h => h) he hsub).swap
  have S3 := rfStore (e' := { e with v := v', b := f.fast ++ f.loose.take m }) S2 he (j := 1) (u := v') (by decide) rfl
  have he3 : (es.set n { e with v := v', b := f.fast ++ f.loose.take m })[n]? = some { e with v := v', b := f.fast ++ f.loose.take m } := List.getElem?_set_self (by rw [hk.len]; exact hn)
  have S4 := rfStore (e' := ⟨e.is, v', f.fast ++ f.loose.take m, (f.fast ++ f.loose.take m).length⟩) S3 he3 (j := 2) (u := .int .i64 ((f.fast ++ f.loose.take m).length : Nat)) (by decide) rfl
  rw [List.set_set] at S4
  have S5 := rfBack (D := D) S4
  generalize (f.fast ++ f.loose.take m).length = L at *
  subst hv'
  simp [k1', k2, hw1, hsl, fz, cellOf_setCell, frzOf_setCell, hlen', -Int.natCast_add]
  exact h _ _ S5
def RcI (w0 : World) (hr : Nat) (D : Dk) (kl : List Int) (R : List Asn) (v : Value) : KL := fun x w1 => ∃ (u0 u1 : Value) (i : Nat), i ≤ D.files.length ∧ x = [u0, u1, .int .i64 (i : Nat)] ∧ St w0 w1 (rowI v D.files :: refA hr (crN kl D D.files i) :: R)
theorem rcrash_ok (S : St w0 w (refA hr D :: R)) {kv : Value} {kl : List Int} (hks : ∀ w' L, St w0 w' (L ++ R) → Sl w' 1 encL kv kl) {K : KV}
    (h : ∀ w', St w0 w' (refA hr (D.crash kl) :: R) → K (.tuple #[]) w') : fcallT P F.pwinnowref06_Disk_Crash [.pointer (some ⟨hr, 0, none⟩), kv] w K := by
  rw [M.pwinnowref06_Disk_Crash.fcall]
  apply M.pwinnowref06_Disk_Crash.calls
  unfold M.pwinnowref06_Disk_Crash
  refine rfiles_ok S fun w1 v S1 => ?_
  have g0 := rf_good S
  have hfl : D.files.length ≤ 64 := by
    have hp := keys_perm g0.key g0.nd
    unfold Dk.files
    rw [(srtd_perm _).length_eq, ← hp.length_eq]
    refine Nat.le_trans (List.length_filter_le ..) ?_
    simp
  rw [joinT_eq]
  refine ⟨RcI w0 hr D kl R v, fun x _ => D.files.length - ms x 2, ⟨_, _, 0, Nat.zero_le _, rfl, S1⟩, ?_⟩
  rintro x w2 ⟨u0, u1, i, hi, rfl, S2⟩
  have q2 : gv [u0, u1, .int .i64 (i : Nat)] 2 = .int .i64 (i : Nat) := rfl
  have hsl : Sl w2 1 encL v D.files := S2.row encL_len
  unfold M.pwinnowref06_Disk_Crash.j1
  simp only [joinT_eq, q2]
  rw [hsl.len_ok (by kernel_rfl)]
  by_cases hil : i < D.files.length
  · have hil' : (i : Int) < D.files.length := by omega
    simp [hil']
    unfold M.pwinnowref06_Disk_Crash.j2
    obtain ⟨bb, o, cap, hv, hbb, _, hc⟩ := hsl.at hil
    have c0 := hc 0 _ rfl
    simp only [Nat.mul_one, Nat.add_zero] at c0
    have hmem : D.files[i] ∈ D.keys := (srtd_perm _).mem_iff.1 (List.getElem_mem hil)
    have hnext : crN kl D D.files (i + 1) = crStep kl (crN kl D D.files i) D.files[i] i := by
      show crStep kl _ (D.files.getD i 0) i = _
      rw [List.getD_eq_getElem?_getD, List.getElem?_eq_getElem hil]; rfl
    have hkk := crN_keys kl D D.files i
    obtain ⟨fb, es, hk, S3⟩ := unRf S2.swap
    generalize hD : crN kl D D.files i = D1 at *
    rw [← hkk] at hmem
    obtain ⟨n, hn0⟩ : ∃ n : Nat, D.files[i] = (n : Int) := ⟨D.files[i].toNat, by have := hk.key _ hmem; omega⟩
    have hn : n < 64 := by have := hk.key _ hmem; omega
    rw [hn0] at c0 hnext hmem
    obtain ⟨e, he, hf⟩ := hk.file hn
    obtain ⟨f, hg⟩ : ∃ f, D1.get (n : Int) = some f := by
      cases hg : D1.get (n : Int) with
      | some f => exact ⟨f, rfl⟩
      | none =>
        have := rfOk_is hf
        rw [hg] at hf
        rw [hf.1, decide_eq_true hmem] at this
        cases this
    rw [hg] at hf
    have hst : crStep kl D1 (n : Int) i = D1.setF n (f.fast ++ f.loose.take (stays kl i f.loose.length)) [] := by unfold crStep; rw [hg]
    obtain ⟨_, c1, _⟩ := rfHeadCells S3
    obtain ⟨k0, k1, k2, fz⟩ := rfCells S3 he
    have s1 := rfSl S3 he
    obtain ⟨a5, c5, hev, _⟩ := id s1
    have hlen : ∀ w' K', biT P .len #[T.sl_uint8] T.int [false] [e.v] w' K' = K' (.int .i64 e.b.length) w' := fun w' K' => s1.len_ok (by kernel_rfl) [false]
    have hks2 := hks w2 (rowI v D.files :: [refA hr D1]) S2
    have hlenk := fun w' K => hks2.len_ok (P := P) (w := w') (t := T.sl_int) (ty := T.int) (by kernel_rfl) [false] (K := K)
    have k1' := k1
    rw [hev] at k1' hlen
    have hn' : (n : Int) < 64 := by omega
    have hwi : IntKind.i64.wrap ((i : Int) + 1) = ((i + 1 : Nat) : Int) := by rw [wrap_id (by omega) (by omega)]; rfl
    have hebl : e.b.length = f.fast.length + f.loose.length := by rw [hf.2.1]; simp
    have hbl : e.b.length ≤ 1048576 := by
      have hu := hk.used
      have hrm := hk.room
      have h6 := upR_le D1 (n + 1) 64 (by omega)
      rw [upR_succ, upR_used hk.key hk.nd] at h6
      have : lenOf D1 (n : Int) = ((D1.get (n : Int)).map Fil.len).getD 0 := rfl
      rw [hg] at this
      simp [Fil.len] at this
      omega
    have hstl : stays kl i f.loose.length ≤ f.loose.length := by unfold stays; omega
    have fin : ∀ w' v' y0 y1, St w0 w' (refL hr fb (es.set n ⟨e.is, v', f.fast ++ f.loose.take (stays kl i f.loose.length), (f.fast ++ f.loose.take (stays kl i f.loose.length)).length⟩) D1 ++ (rowI v D.files :: R)) →
        RcI w0 hr D kl R v [y0, y1, .int .i64 ((i + 1 : Nat) : Int)] w' ∧ D.files.length - ms [y0, y1, .int .i64 ((i + 1 : Nat) : Int)] 2 < D.files.length - ms [u0, u1, .int .i64 (i : Nat)] 2 := by
      intro w' v' y0 y1 S'
      refine ⟨⟨y0, y1, i + 1, by omega, rfl, ?_⟩, by simp [ms, gv]; omega⟩
      rw [hnext]
      obtain ⟨p1, p2, p3⟩ := crStep_head kl D1 (n : Int) i
      refine (mkRf (fb := fb) (es := es.set n ⟨e.is, v', f.fast ++ f.loose.take (stays kl i f.loose.length), (f.fast ++ f.loose.take (stays kl i f.loose.length)).length⟩) (hk.set hn (hk.toGood.crStep kl n i) (crStep_other kl D1 n i) ?_) ?_ : St w0 w' (refA hr (crStep kl D1 (n : Int) i) :: (rowI v D.files :: R))).swap
      · rw [hst, setF_get, if_pos rfl, hg]
        exact ⟨hf.1, by simp, rfl⟩
      · rw [refL_congr p1 p2 p3]; exact S'
    rw [hv]
    by_cases hik : i < kl.length
    · have hik' : (i : Int) < kl.length := by omega
      obtain ⟨bk, ok, capk, hkv, hbk2, _, hck⟩ := hks2.at hik
      have ck := hck 0 _ rfl
      simp only [Nat.mul_one, Nat.add_zero] at ck
      have hsty : ((stays kl i f.loose.length : Nat) : Int) = max 0 (min kl[i] ((e.b.length : Int) - e.fast)) := by
        unfold stays
        rw [List.getD_eq_getElem?_getD, List.getElem?_eq_getElem hik, hf.2.2]
        simp only [Option.getD_some]
        omega
      have hws : IntKind.i64.wrap ((e.b.length : Int) - e.fast) = (e.b.length : Int) - e.fast := wrap_id (by rw [hf.2.2]; omega) (by rw [hf.2.2]; omega)
      simp [q2, hil, c0, c1, hn', hlenk, hik]
      rw [hkv]
      simp [hik, ck, k1', k2, hlen, min_ints, max_ints, hws, ← hsty]
      have S4 := (S3.step ((Fr.refl _ w2).dr 1)).step ((Fr.refl _ (Eng.dr w2 1)).dr 1)
      refine rcrJ4 (R := rowI v D.files :: R) hk S4 hn he hf hstl fun w' v' S' => ?_
      rw [hwi, ← hv]
      exact fin w' v' _ _ S'
    · have hik' : ¬ (i : Int) < kl.length := by omega
      have hst0 : stays kl i f.loose.length = 0 := by
        unfold stays
        rw [List.getD_eq_getElem?_getD, List.getElem?_eq_none (by omega)]
        simp only [Option.getD_none]
        omega
      rw [hst0] at fin
      simp [q2, hil, c0, c1, hn', hlenk, hik]
      refine rcrJ4 (m := 0) (R := rowI v D.files :: R) hk (S3.step ((Fr.refl _ w2).dr 1)) hn he hf (Nat.zero_le _) fun w' v' S' => ?_
      rw [hwi, ← hv]
      exact fin w' v' _ _ S'
  · have hil' : ¬ (i : Int) < D.files.length := by omega
    have hii : i = D.files.length := by omega
    subst hii
    obtain ⟨fb, es, hk, S3⟩ := unRf S2.drop
    obtain ⟨_, _, c2, c3, fz⟩ := rfHeadCells S3
    have hh := rfHead S3
    simp [hil', c2, c3, fz, cellOf_setCell, frzOf_setCell]
    refine h _ (mkRf (fb := fb) (es := es) (D := D.crash kl) { hk with arm := fun h => by cases h } (rfHeadTurn S3 (((Fr.refl (fun x => x = hr) w2).setCell (.inl rfl) _ _).setCell (.inl rfl) _ _) ?_))
    rw [setCell_at (setCell_at hh)]; rfl
end
end Go.Proofs.Ytgcpljghnlohbaa
set_option maxRecDepth 100000
namespace Go.Proofs.Ytgcpljghnlohbaa
open Go.Eng Go.Proofs.Ytgcpljghnlohbaa.Sint
section
variable {w0 w : World} {hb hr : Nat} {D : Dk}
def opAgg (x : OpV) : Value := .agg #[.int .i64 x.kind, .int .i64 x.file, .int .i64 x.n, x.bv, x.kv]
theorem one06 (S : St w0 w [diskA hb D, refA hr D]) (x : OpV) (z1 : SlB w0 x.bv x.b) (z2 : Sl w0 1 encL x.kv x.keep) (hn : x.n < 9223372036854775808) (hb5 : x.b.length ≤ 5000) {K : KV} (h : ∀ w' D', St w0 w' [diskA hb D', refA hr D'] → K (.bool true) w') :
    fcallT P F.winnowlaw06_one [.pointer (some ⟨hb, 0, none⟩), .pointer (some ⟨hr, 0, none⟩), opAgg x] w K := by
  rw [M.winnowlaw06_one.fcall]
  apply M.winnowlaw06_one.calls
  unfold M.winnowlaw06_one opAgg
  obtain ⟨a5, c5, hbv, _⟩ := id z1
  obtain ⟨a6, c6, hkv, _⟩ := id z2
  rw [hbv] at z1 ⊢
  rw [hkv] at z2 ⊢
  have S1 : St w0 (w.alloc (.cells #[.int .i64 x.kind, .int .i64 x.file, .int .i64 x.n, .slice a5 x.b.length c5, .slice a6 x.keep.length c6] T.winnowlaw06_Op)) (blkA w.heap.size #[.int .i64 x.kind, .int .i64 x.file, .int .i64 x.n, .slice a5 x.b.length c5, .slice a6 x.keep.length c6] T.winnowlaw06_Op :: [diskA hb D, refA hr D]) :=
    S.add ((Fr.refl _ w).alloc _) (B := fun x => x = w.heap.size) ⟨by rw [alloc_heap, if_pos rfl], rfl⟩ fun x hx => by subst hx; rw [alloc_size]; omega
  simp
  generalize hw1 : w.alloc (.cells #[.int .i64 x.kind, .int .i64 x.file, .int .i64 x.n, .slice a5 x.b.length c5, .slice a6 x.keep.length c6] T.winnowlaw06_Op) = w1 at S1 ⊢
  generalize hnb : w.heap.size = nb at S1 ⊢
  have hce : ∀ {w' L}, St w0 w' (blkA nb #[.int .i64 x.kind, .int .i64 x.file, .int .i64 x.n, .slice a5 x.b.length c5, .slice a6 x.keep.length c6] T.winnowlaw06_Op :: L) → cellOf w' nb 0 = some (.int .i64 x.kind) ∧ cellOf w' nb 1 = some (.int .i64 x.file) ∧ cellOf w' nb 2 = some (.int .i64 x.n) ∧ cellOf w' nb 3 = some (.slice a5 x.b.length c5) ∧ cellOf w' nb 4 = some (.slice a6 x.keep.length c6) := fun S' => by
    have hh := S'.blk
    exact ⟨by rw [cellOf_of hh]; rfl, by rw [cellOf_of hh]; rfl, by rw [cellOf_of hh]; rfl, by rw [cellOf_of hh]; rfl, by rw [cellOf_of hh]; rfl⟩
  obtain ⟨k0, k1, k2, k3, k4⟩ := hce S1
  have Sd := S1.step ((Fr.refl _ w1).dr 1)
  by_cases h0 : x.kind = 0
  · simp [k0, k1, k3, h0]
    refine append_st Sd.swap x.file (fun w' L S' => S'.old z1) (by omega) fun w2 S2 => ?_
    have g := dk_good S2
    obtain ⟨_, e1, _, e3, _⟩ := hce S2.swap
    simp [e1, e3]
    refine rappend_ok S2.third x.file (fun w' L S' => S'.old z1) (by omega) g fun w3 S3 => ?_
    simp
    exact h w3 _ S3.third.drop.swap
  by_cases h1 : x.kind = 1
  · simp [k0, k1, h1]
    refine sync_st Sd.swap x.file fun w2 S2 => ?_
    have g := dk_good S2
    obtain ⟨_, e1, _⟩ := hce S2.swap
    simp [e1]
    refine rsync_ok S2.third x.file g fun w3 S3 => ?_
    simp
    exact h w3 _ S3.third.drop.swap
  by_cases h2 : x.kind = 2
  · simp [k0, k1, k2, h2]
    refine cut_st Sd.swap x.file x.n fun w2 S2 => ?_
    have g := dk_good S2
    obtain ⟨_, e1, e2, _⟩ := hce S2.swap
    simp [e1, e2]
    refine rcut_ok S2.third x.file x.n g fun w3 S3 => ?_
    simp
    exact h w3 _ S3.third.drop.swap
  by_cases h3 : x.kind = 3
  · simp [k0, k1, h3]
    refine remove_st Sd.swap x.file fun w2 S2 => ?_
    have g := dk_good S2
    obtain ⟨_, e1, _⟩ := hce S2.swap
    simp [e1]
    refine rremove_ok S2.third x.file g fun w3 S3 => ?_
    simp
    exact h w3 _ S3.third.drop.swap
  by_cases h4 : x.kind = 4
  · simp [k0, k2, h4]
    refine arm_st S1.swap hn fun w2 S2 => ?_
    obtain ⟨_, _, e2, _⟩ := hce S2.swap
    simp [e2]
    refine rarm_ok S2.third x.n hn fun w3 S3 => ?_
    exact h w3 _ S3.third.drop.swap
  by_cases h5 : x.kind = 5
  · simp [k0, k4, h5]
    refine crash_st S1.swap (kl := x.keep) (fun w' L S' => S'.old z2) fun w2 S2 => ?_
    obtain ⟨_, _, _, _, e4⟩ := hce S2.swap
    simp [e4]
    refine rcrash_ok S2.third (kl := x.keep) (fun w' L S' => S'.old z2) fun w3 S3 => ?_
    exact h w3 _ S3.third.drop.swap
  simp [k0, h0, h1, h2, h3, h4, h5]
  exact h w1 _ S1.drop
def m6 (x : List Value) : Nat := match gv x 5 with
  | .int _ i => (65 - i).toNat
  | _ => 0
def SmI (w0 : World) (hb hr : Nat) (D : Dk) : KL := fun x w1 => ∃ (u0 u1 u2 u3 u4 : Value) (i : Int), -1 ≤ i ∧ i ≤ 65 ∧ x = [u0, u1, u2, u3, u4, .int .i64 i] ∧ St w0 w1 [diskA hb D, refA hr D]
theorem Same06 (S : St w0 w [diskA hb D, refA hr D]) {K : KV} (h : ∀ w', St w0 w' [diskA hb D, refA hr D] → K (.bool true) w') : fcallT P F.winnowlaw06_Same [.pointer (some ⟨hb, 0, none⟩), .pointer (some ⟨hr, 0, none⟩)] w K := by
  rw [M.winnowlaw06_Same.fcall]
  apply M.winnowlaw06_Same.calls
  unfold M.winnowlaw06_Same
  have hfew := dk_few S
  have hrc : ∀ {w' L}, St w0 w' (refA hr D :: L) → cellOf w' hr 3 = some (.bool D.down) := fun S' => by
    obtain ⟨fb, es, _, S''⟩ := unRf S'
    exact (rfHeadCells S'').2.2.2.1
  simp only [joinT_eq]
  simp
  refine files_st (S.step ((Fr.refl _ w).dr 1)) fun w1 v1 S1 => ?_
  refine rfiles_ok S1.third fun w2 v2 S2 => ?_
  refine ints06 (l := D.files) (S2.third.row encL_len) (S2.row encL_len) (by omega) fun w3 f3 => ?_
  have S3 : St w0 w3 [diskA hb D, refA hr D] := ((S2.step f3).drop.perm ((List.Perm.swap _ _ _).trans (List.Perm.cons _ (List.Perm.swap _ _ _)))).drop
  have c3 := hrc S3.swap
  simp [c3]
  refine used_st S3 fun w4 S4 => ?_
  refine rused_ok S4.swap ?_
  have c4 := hrc S4.swap
  simp [c4]
  refine down_st S4 ?_
  simp [c4]
  rw [bin_neqB (by kernel_rfl)]
  simp
  refine ⟨SmI w0 hb hr D, fun x _ => m6 x, ⟨_, _, _, _, _, -1, by omega, by omega, rfl, S4⟩, ?_⟩
  rintro x w5 ⟨u0, u1, u2, u3, u4, i, hi1, hi2, rfl, S5⟩
  have q5 : gv [u0, u1, u2, u3, u4, .int .i64 i] 5 = .int .i64 i := rfl
  unfold M.winnowlaw06_Same.j2
  simp only [joinT_eq, q5]
  by_cases hil : i ≤ 64
  · have hwi : IntKind.i64.wrap (i + 1) = i + 1 := wrap_id (by omega) (by omega)
    simp [hil]
    unfold M.winnowlaw06_Same.j3
    simp only [joinT_eq, q5, bin_add, hwi]
    have hll := read_len S5 i
    refine read_st S5 i fun w6 va S6 => ?_
    refine rread_ok S6.third i fun vb hvb => ?_
    have sb := hvb w6 S6.third (Fr.refl _ _)
    simp
    refine same01 (S6.row encB_len) sb (by omega) fun w7 f7 => ?_
    simp
    exact ⟨⟨_, _, _, _, _, i + 1, by omega, by omega, rfl, (S6.step f7).drop⟩, by (show (65 - (i + 1)).toNat < (65 - i).toNat; omega)⟩
  · simp [hil]
    exact h w5 S5
end
def PlI (w0 : World) (hb hr n : Nat) : KL := fun x w1 => ∃ (u : Value) (i : Nat) (D : Dk), i ≤ n ∧ x = [u, .int .i64 (i : Nat)] ∧ St w0 w1 [diskA hb D, refA hr D]
theorem DiskPlays_law {W : World} {room : Int} (_h0 : (Lit.int .i64 room).wf = true) {n1 : Nat} {v1 : Value} (h1 : TV P W n1 T.sl_winnowlaw06_Op [v1]) {K : KV}
    (h : ∀ w', Fr (fun _ => False) W w' → K (.bool true) w') : callT P F.winnowlaw06_DiskPlays [.int .i64 room, v1] W K := by
  apply M.winnowlaw06_DiskPlays.calls
  unfold M.winnowlaw06_DiskPlays
  obtain ⟨l, hs⟩ := ops_of h1
  simp only [joinT_eq]
  refine light6 hs fun bb hbb => ?_
  cases bb with
  | false => simp; exact alive6 h
  | true =>
  obtain ⟨hl, hb5⟩ := hbb rfl
  simp
  unfold M.winnowlaw06_DiskPlays.j0
  have bad : (room < 1 ∨ 1048576 < room) ∨ (1 ≤ room ∧ room ≤ 1048576) := by omega
  have nb : ∀ {x y : Bool} {rx ry : Operand} {w : World} {K : KV}, binT P .neq T.bool rx ry (.bool x) (.bool y) w K = K (.bool !(x == y)) w := bin_neqB (by kernel_rfl)
  rcases bad with hbad | hok
  · refine dnew_ok (St.start W) room (fun _ => ?_) fun h1 h2 => by omega
    simp
    refine rnew_ok (St.start W) room (fun _ => ?_) fun h1 h2 => by omega
    simp [nb]
    refine alive6 fun w1 f1 => ?_
    simp
    unfold M.winnowlaw06_DiskPlays.j1
    simp
    exact h w1 f1
  · refine dnew_ok (St.start W) room (fun h => by omega) fun _ _ w1 hb S1 => ?_
    simp
    refine rnew_ok S1 room (fun h => by omega) fun _ _ w2 hr S2 => ?_
    simp [nb]
    refine alive6 fun w3 f3 => ?_
    simp
    unfold M.winnowlaw06_DiskPlays.j1
    simp
    have S3 := (S2.step f3).swap
    refine ⟨PlI W hb hr l.length, fun x _ => l.length - ms x 1, ⟨_, 0, _, Nat.zero_le _, rfl, S3⟩, ?_⟩
    rintro x w4 ⟨u, i, D, hi, rfl, S4⟩
    have q1 : gv [u, .int .i64 (i : Int)] 1 = .int .i64 (i : Int) := rfl
    unfold M.winnowlaw06_DiskPlays.j4
    simp only [q1, joinT_eq]
    rw [hs.len_ok (by kernel_rfl)]
    by_cases hil : i < l.length
    · have hil' : (i : Int) < l.length := by omega
      simp [hil']
      unfold M.winnowlaw06_DiskPlays.j5
      have hwi : IntKind.i64.wrap ((i : Int) + 1) = ((i + 1 : Nat) : Int) := by rw [wrap_id (by omega) (by omega)]; rfl
      obtain ⟨bb, o, cap, hv, hbb, hr0⟩ := ops_at hs hil
      obtain ⟨k0, k1, k2, k3, k4⟩ := op_cells (opRd_fr hbb hr0 S4.fr)
      obtain ⟨z1, z2, hn⟩ := hr0.2
      have hb5' := hb5 _ (List.getElem_mem hil)
      simp only [q1, joinT_eq, bin_add, hwi]
      rw [hv]
      simp [hil]
      rw [ldN5 k0 k1 k2 k3 k4]
      refine one06 S4 l[i] z1 z2 hn hb5' fun w5 D' S5 => ?_
      simp
      refine Same06 S5 fun w6 S6 => ?_
      simp
      exact ⟨⟨_, i + 1, D', by omega, rfl, S6⟩, by simp [ms, gv]; omega⟩
    · have hil' : ¬ (i : Int) < l.length := by omega
      simp [hil']
      exact h w4 S4.fr
end Go.Proofs.Ytgcpljghnlohbaa
