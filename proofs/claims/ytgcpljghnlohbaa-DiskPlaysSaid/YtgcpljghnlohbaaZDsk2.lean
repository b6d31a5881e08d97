/-
  A disk: Sync, Cut, Remove. No condition.
  A disk: Append. No condition.
  A disk: Crash. No condition.
  A disk: the example that the statements hold up, and what a nil one answers. No condition.
  A disk: operations, whether they are light, equal rows. No condition.
  A disk: which file it has after which call. No condition.
  A disk that crashes twice. No condition.
  A disk that takes just so many bytes. No condition.
  The document's disk, told as a disk: what it is in memory; New, Used, Files, asked, Read. No condition.
  The document's disk, told as a disk: New, Sync, Cut, Remove, Arm. No condition.
-/
import Derived.Test.YtgcpljghnlohbaaZCatB
import Derived.Test.YtgcpljghnlohbaaZEngSimp
set_option maxRecDepth 100000
namespace Go.Eng
section
variable {P : Program} {t ty : TypeId} {k : IntKind} {x y : Int} {w : World} {K : KV}
theorem min_ints (a b : TypeId) (cs : List Bool) : biT P .min #[a, b] ty cs [.int k x, .int k y] w K = K (.int k (min x y)) w := by
  simp [biT, nextT, builtin, Builtin.min_, Builtin.min2, Sem.run_bind, Result.andThen, Sem.run_pure]
  congr 1
  by_cases h : x ≤ y
  · rw [Int.min_eq_left h, if_neg (by omega)]
  · rw [Int.min_eq_right (by omega), if_pos (by omega)]
theorem max_ints (a b : TypeId) (cs : List Bool) : biT P .max #[a, b] ty cs [.int k x, .int k y] w K = K (.int k (max x y)) w := by
  simp [biT, nextT, builtin, Builtin.max_, Builtin.max2, Sem.run_bind, Result.andThen, Sem.run_pure]
  by_cases h : x < y
  · rw [Int.max_eq_right (by omega), if_pos h]
  · rw [Int.max_eq_left (by omega), if_neg h]
end
end Go.Eng
namespace Go.Proofs.Ytgcpljghnlohbaa
open Go.Eng Go.Proofs.Ytgcpljghnlohbaa.Sint

def Dk.setF (D : Dk) (k : Int) (fa lo : List Int) : Dk := { D with fs := D.fs.map fun f => if f.n = k then ⟨k, fa, lo⟩ else f }
def Dk.rem (D : Dk) (k : Int) : Dk := { D with fs := D.fs.filter fun f => decide (f.n ≠ k) }
section
variable {w0 w : World} {hb r : Nat} {m : MP} {es a b : List FE} {D : Dk} {R : List Asn} {e e' : FE}
theorem DkOk.apart (h : DkOk m (a ++ e :: b) D) : ∀ x, x ∈ a ∨ x ∈ b → x.n ≠ e.n := by
  have hn := h.tn
  rw [List.map_append, List.map_cons, List.nodup_append, List.nodup_cons] at hn
  rintro x (hx | hx) he
  · exact hn.2.2 x.n (List.mem_map_of_mem hx) e.n (List.mem_cons_self ..) he
  · exact hn.2.1.1 (he ▸ List.mem_map_of_mem hx)
theorem setF_fs (h : DkOk m (a ++ e :: b) D) (fa lo : List Int) : (D.setF e.n fa lo).fs = a.map FE.abs ++ ⟨e.n, fa, lo⟩ :: b.map FE.abs := by
  unfold Dk.setF
  simp only [h.fs, List.map_append, List.map_cons, List.map_map]
  have hx : ∀ x : FE, x ∈ a ∨ x ∈ b → ((fun f : Fil => if f.n = e.n then (⟨e.n, fa, lo⟩ : Fil) else f) ∘ FE.abs) x = x.abs := fun x hx => by
    show (if x.n = e.n then _ else x.abs) = _
    rw [if_neg (h.apart x hx)]
  rw [List.map_congr_left fun x hxa => hx x (.inl hxa), List.map_congr_left (l := b) fun x hxb => hx x (.inr hxb)]
  simp [FE.abs]
theorem setF_used (h : DkOk m (a ++ e :: b) D) (fa lo : List Int) : (D.setF e.n fa lo).used + (e.fast.length + e.loose.length) = D.used + (fa.length + lo.length) := by
  unfold Dk.used
  rw [setF_fs h, h.fs]
  simp [FE.abs, Fil.len]
  omega
theorem DkOk.setF (h : DkOk m (a ++ e :: b) D) (hn : e'.n = e.n) (hp : e'.p = e.p) (hu : ((D.setF e.n e'.fast e'.loose).used : Int) ≤ D.room) : DkOk m (a ++ e' :: b) (D.setF e.n e'.fast e'.loose) where
  fs := by rw [setF_fs h, ← hn]; simp [FE.abs]
  ml := by rw [h.ml]; simp
  mg x hx := by
    rcases List.mem_append.1 hx with hx | hx
    · exact h.mg x (by simp [hx])
    · rcases List.mem_cons.1 hx with rfl | hx
      · rw [hn, h.mg e (by simp)]; simp [FE.ptr, hp]
      · exact h.mg x (by simp [hx])
  mz k hk := h.mz k fun x hx => by
    rcases List.mem_append.1 hx with hx | hx
    · exact hk x (by simp [hx])
    · rcases List.mem_cons.1 hx with rfl | hx
      · rw [← hn]; exact hk e' (by simp)
      · exact hk x (by simp [hx])
  tn := by have := h.tn; simp only [List.map_append, List.map_cons] at *; rw [hn]; exact this
  kp := by have := h.kp; simp only [List.map_append, List.map_cons] at *; rw [hn]; exact this
  room := h.room
  used := hu
  rng x hx := by
    rcases List.mem_append.1 hx with hx | hx
    · exact h.rng x (by simp [hx])
    · rcases List.mem_cons.1 hx with rfl | hx
      · rw [hn]; exact h.rng e (by simp)
      · exact h.rng x (by simp [hx])
  arm := h.arm
theorem DkOk.rem (h : DkOk m (a ++ e :: b) D) : DkOk (mdel m e.n) (a ++ b) (D.rem e.n) where
  fs := by
    unfold Dk.rem
    simp only [h.fs, List.map_append, List.map_cons, List.filter_append]
    have hx : ∀ l : List FE, (∀ x ∈ l, x.n ≠ e.n) → (l.map FE.abs).filter (fun f => decide (f.n ≠ e.n)) = l.map FE.abs := fun l hl => List.filter_eq_self.2 fun f hf => by
      obtain ⟨x, hx, rfl⟩ := List.mem_map.1 hf
      exact decide_eq_true (hl x hx)
    rw [List.filter_cons, hx a fun x h' => h.apart x (.inl h'), hx b fun x h' => h.apart x (.inr h')]
    simp [FE.abs]
  ml := by
    have h1 := mkeys_mdel m e.n
    have h2 : (mkeys (mdel m e.n)).length = (mkeys m).length - 1 := by
      rw [h1, List.length_erase_of_mem]
      exact h.kp.mem_iff.2 (List.mem_map_of_mem (by simp))
    simp only [mkeys, List.length_map] at h2
    rw [h2, h.ml]
    simp
  mg x hx := by
    rw [mget_mdel_ne _ _ _ fun he => h.apart x (List.mem_append.1 hx) he.symm]
    exact h.mg x (by rcases List.mem_append.1 hx with h | h <;> simp [h])
  mz k hk := by
    by_cases hek : e.n = k
    · subst hek; exact mget_mdel_same _ _ h.nd
    · rw [mget_mdel_ne _ _ _ hek]
      refine h.mz k fun x hx => ?_
      rcases List.mem_append.1 hx with hx | hx
      · exact hk x (by simp [hx])
      · rcases List.mem_cons.1 hx with rfl | hx
        · exact hek
        · exact hk x (by simp [hx])
  tn := by
    have := h.tn
    rw [(List.Perm.map FE.n (List.perm_middle (l₁ := a) (a := e) (l₂ := b))).nodup_iff] at this
    exact (List.nodup_cons.1 this).2
  kp := by
    rw [mkeys_mdel]
    have h1 := (h.kp.trans (List.Perm.map FE.n (List.perm_middle (l₁ := a) (a := e) (l₂ := b)))).erase e.n
    rw [List.map_cons, List.erase_cons_head] at h1
    exact h1
  room := h.room
  used := by
    have h1 := h.used
    have h2 : (D.rem e.n).used ≤ D.used := by
      unfold Dk.rem Dk.used
      have : ∀ l : List Fil, ((l.filter fun f => decide (f.n ≠ e.n)).map Fil.len).sum ≤ (l.map Fil.len).sum := fun l => by
        induction l with
        | nil => simp
        | cons f l ih =>
          rw [List.filter_cons]
          split
          · rw [List.map_cons, List.map_cons, List.sum_cons, List.sum_cons]; omega
          · rw [List.map_cons, List.sum_cons]; omega
      exact this D.fs
    show ((D.rem e.n).used : Int) ≤ D.room
    omega
  rng x hx := h.rng x (by rcases List.mem_append.1 hx with h | h <;> simp [h])
  arm := h.arm

theorem nilRow (S : St w0 w R) : St w0 w (rowB (.slice none 0 0) [] :: R) := S.add (a := rowB (.slice none 0 0) []) (Fr.refl _ w) (B := fun _ => False) ⟨Ow.none, fun b hb => by simp [Value.ownBlock] at hb⟩ fun b hb => hb.elim
/-- A file's bytes, anew. -/
theorem setFile {v : Value} {l : List Int} (S : St w0 w (rowB v l :: fileA e :: R)) : St w0 ((w.setCell ⟨e.p, 0, none⟩ v).setCell ⟨e.p, 1, none⟩ (.slice none 0 0)) (fileA { e with fv := v, lv := .slice none 0 0, fast := l, loose := [] } :: R) := by
  have S1 := dkFile S.swap
  have S2 : St w0 w (blkA e.p #[e.fv, e.lv] T.disk_file :: rowB v l :: R) := (S1.swap.drop.swap.drop : St w0 w _)
  have hh := S2.blk
  have S3 := S2.turn (cs' := #[v, .slice none 0 0]) (e' := T.disk_file) (w' := (w.setCell ⟨e.p, 0, none⟩ v).setCell ⟨e.p, 1, none⟩ (.slice none 0 0)) (((Fr.refl (fun x => x = e.p) w).setCell (.inl rfl) _ _).setCell (.inl rfl) _ _) (by rw [setCell_at (setCell_at hh)]; rfl)
  exact mkFile (e := { e with fv := v, lv := .slice none 0 0, fast := l, loose := [] }) ((nilRow S3).perm ((List.Perm.swap _ _ _).trans (List.Perm.cons _ (List.Perm.swap _ _ _))))
theorem Ow.take {α : Type} {enc : α → List Value} {base : Nat} {et : TypeId} {v : Value} {l : List α} {t : TypeId} (he : ∀ x, (enc x).length = 1) (h : Ow w base et 1 enc v l) (ht : isSlB P t = true) (hz : szE P t = 1) {n : Nat} (hn : n ≤ l.length) {k : IntKind} :
    ∃ v', Ow w base et 1 enc v' (l.take n) ∧ (∀ g, v'.ownBlock = some g → v.ownBlock = some g) ∧ ∀ w1 K, slT P t v none (some (.int k (n : Int))) none w1 K = K v' w1 := by
  have h' := h
  obtain ⟨h1, h2⟩ := h
  have hlen : (l.take n).length = n := by rw [List.length_take]; omega
  have hfl : (l.take n).flatMap enc = (l.flatMap enc).take (n * 1) := by
    clear h' h1 h2 hlen
    induction l generalizing n with
    | nil => simp
    | cons x l ih =>
      cases n with
      | zero => simp
      | succ n =>
        have := ih (n := n) (by simpa using hn)
        rw [List.take_succ_cons, List.flatMap_cons, this, List.flatMap_cons, List.take_append, he]
        have hx := he x
        have e : (n + 1) * 1 - 1 = n * 1 := by omega
        rw [e, List.take_of_length_le (l := enc x) (by rw [hx]; omega)]
  rcases h2 with ⟨rfl, h0⟩ | ⟨g, cap, cur, rfl, hb0, hb, hc, hr⟩
  · have : n = 0 := by omega
    subst this
    refine ⟨.slice none 0 0, ?_, fun g hg => hg, fun w1 K => by rw [sl_gen ht (.inl ⟨rfl, rfl⟩) (.inr ⟨k, rfl⟩) (Nat.le_refl _) (Nat.le_refl _)]; simp⟩
    rw [List.take_zero]; exact Ow.none
  · refine ⟨.slice (some ⟨g, 0, none⟩) n cap, ?_, fun g hg => hg, fun w1 K => ?_⟩
    · unfold Ow
      rw [hlen, hfl]
      exact row_take h' hn
    · rw [sl_gen ht (.inl ⟨rfl, rfl⟩) (.inr ⟨k, rfl⟩) (Nat.zero_le _) (by omega)]
      simp [Addr.add]
theorem cutRow {v : Value} {l : List Int} (S : St w0 w (rowB v l :: R)) {n : Nat} (hn : n ≤ l.length) : ∃ v', (∀ w1 K, slT P T.sl_uint8 v none (some (.int .i64 (n : Int))) none w1 K = K v' w1) ∧ St w0 w (rowB v' (l.take n) :: R) := by
  obtain ⟨B, ⟨h1, h2⟩, hB, cl⟩ := S.open
  obtain ⟨v', o, g, f⟩ := Ow.take encB_len h1 (t := T.sl_uint8) (by kernel_rfl) (by kernel_rfl) hn (k := .i64)
  exact ⟨v', f, cl w [rowB v' (l.take n)] (Fr.refl _ _) (Rs.one (B := B) ⟨o, fun b hb => h2 b (g b hb)⟩ fun b hb => .inl hb)⟩

def Dk.sync (D : Dk) (k : Int) : Dk × Int := if D.down then (D, 10) else match D.get k with
  | none => (D, 11)
  | some f => (D.setF k (f.fast ++ f.loose) [], 0)
def Dk.cut (D : Dk) (k n : Int) : Dk × Int := if D.down then (D, 10) else match D.get k with
  | none => (D, 11)
  | some f => if n < 0 ∨ (f.fast.length + f.loose.length : Nat) < n then (D, 1) else (D.setF k ((f.fast ++ f.loose).take n.toNat) [], 0)
def Dk.remove (D : Dk) (k : Int) : Dk × Int := if D.down then (D, 10) else match D.get k with
  | none => (D, 11)
  | some _ => (D.rem k, 0)
theorem fcells (S : St w0 w (blkA e.p #[e.fv, e.lv] T.disk_file :: R)) : cellOf w e.p 0 = some e.fv ∧ cellOf w e.p 1 = some e.lv ∧ ∀ i, frzOf w e.p i = false := by
  have hh := S.blk
  exact ⟨by rw [cellOf_of hh]; rfl, by rw [cellOf_of hh]; rfl, frzOf_of hh⟩
theorem sync_st (S : St w0 w (diskA hb D :: R)) (k : Int) {K : KV} (h : ∀ w', St w0 w' (diskA hb (D.sync k).1 :: R) → K (.int .i64 (D.sync k).2) w') : fcallT P F.pdisk_Disk_Sync [.pointer (some ⟨hb, 0, none⟩), .int .i64 k] w K := by
  obtain ⟨r, m, es, hk, S'⟩ := unDk S
  rw [M.pdisk_Disk_Sync.fcall]
  apply M.pdisk_Disk_Sync.calls
  unfold M.pdisk_Disk_Sync
  unfold Dk.sync at h
  refine find_ok hk S' k (fun hd => ?_) (fun hd hn => ?_) fun hd a e b he hek => ?_
  · simp [hd] at h ⊢
    exact h w S
  · rw [hk.get_none hn] at h
    simp [hd] at h ⊢
    exact h w S
  · subst he
    have hl := len_le_used hk
    have hu := hk.used
    have hr := hk.room
    rw [← hek, hk.get_some] at h
    simp [hd, FE.abs] at h ⊢
    refine all_ok (S'.perm (disk_perm hb r m a b e D R)) (by omega) fun w' v S2 => ?_
    have S3 := setFile S2
    obtain ⟨x1, x2, hv, _⟩ := S2.row encB_len
    generalize (e.fast ++ e.loose).length = L at hv
    subst hv
    obtain ⟨c0, c1, fz⟩ := fcells (dkFile S2.swap)
    simp [FE.ptr, c0, c1, fz, cellOf_setCell, frzOf_setCell]
    refine h _ (mkDk (m := m) (r := r) (es := a ++ { e with fv := .slice x1 L x2, lv := .slice none 0 0, fast := e.fast ++ e.loose, loose := [] } :: b) (hk.setF (e' := { e with fv := .slice x1 L x2, lv := .slice none 0 0, fast := e.fast ++ e.loose, loose := [] }) rfl rfl ?_) (S3.perm (disk_perm hb r m a b _ _ R).symm))
    have := setF_used hk (e.fast ++ e.loose) []
    simp at this ⊢
    omega
theorem cut_st (S : St w0 w (diskA hb D :: R)) (k n : Int) {K : KV} (h : ∀ w', St w0 w' (diskA hb (D.cut k n).1 :: R) → K (.int .i64 (D.cut k n).2) w') : fcallT P F.pdisk_Disk_Cut [.pointer (some ⟨hb, 0, none⟩), .int .i64 k, .int .i64 n] w K := by
  obtain ⟨r, m, es, hk, S'⟩ := unDk S
  rw [M.pdisk_Disk_Cut.fcall]
  apply M.pdisk_Disk_Cut.calls
  unfold M.pdisk_Disk_Cut
  unfold Dk.cut at h
  refine find_ok hk S' k (fun hd => ?_) (fun hd hn => ?_) fun hd a e b he hek => ?_
  · simp [hd] at h ⊢
    exact h w S
  · rw [hk.get_none hn] at h
    simp [hd] at h ⊢
    exact h w S
  · subst he
    have hl := len_le_used hk
    have hu := hk.used
    have hr := hk.room
    rw [← hek, hk.get_some] at h
    simp [hd, FE.abs] at h ⊢
    unfold M.pdisk_Disk_Cut.j0
    refine all_ok (S'.perm (disk_perm hb r m a b e D R)) (by omega) fun w' v S2 => ?_
    have hlen := fun K => (S2.row encB_len).len_ok (P := P) (t := T.sl_uint8) (ty := T.int) (w := w') (by kernel_rfl) [false] (K := K)
    have hback : St w0 w' (diskA hb D :: R) := mkDk hk (S2.drop.perm (disk_perm hb r m a b e D R).symm)
    by_cases h0 : n < 0
    · simp [h0] at h ⊢
      exact h w' hback
    · by_cases h1 : ((e.fast.length : Int) + e.loose.length) < n
      · simp [h0, h1, hlen] at h ⊢
        exact h w' hback
      · simp [h0, h1, hlen] at h ⊢
        unfold M.pdisk_Disk_Cut.j1
        obtain ⟨v', hs, S3⟩ := cutRow (n := n.toNat) S2 (by simp; omega)
        have hn : ((n.toNat : Nat) : Int) = n := by omega
        rw [hn] at hs
        rw [hs]
        have S4 := setFile S3
        obtain ⟨x1, x2, hv, _⟩ := S3.row encB_len
        generalize (List.take n.toNat (e.fast ++ e.loose)).length = L at hv
        subst hv
        obtain ⟨c0, c1, fz⟩ := fcells (dkFile S3.swap)
        simp [FE.ptr, c0, c1, fz, cellOf_setCell, frzOf_setCell]
        refine h _ (mkDk (m := m) (r := r) (es := a ++ { e with fv := .slice x1 L x2, lv := .slice none 0 0, fast := (e.fast ++ e.loose).take n.toNat, loose := [] } :: b) ?_ (S4.perm (disk_perm hb r m a b _ _ R).symm))
        have := setF_used hk ((e.fast ++ e.loose).take n.toNat) []
        simp [List.take_append] at this ⊢
        have hh := hk.setF (e' := { e with fv := .slice x1 L x2, lv := .slice none 0 0, fast := (e.fast ++ e.loose).take n.toNat, loose := [] }) rfl rfl (by
          simp [List.take_append]
          omega)
        simpa [List.take_append] using hh
theorem remove_st (S : St w0 w (diskA hb D :: R)) (k : Int) {K : KV} (h : ∀ w', St w0 w' (diskA hb (D.remove k).1 :: R) → K (.int .i64 (D.remove k).2) w') : fcallT P F.pdisk_Disk_Remove [.pointer (some ⟨hb, 0, none⟩), .int .i64 k] w K := by
  obtain ⟨r, m, es, hk, S'⟩ := unDk S
  rw [M.pdisk_Disk_Remove.fcall]
  apply M.pdisk_Disk_Remove.calls
  unfold M.pdisk_Disk_Remove
  unfold Dk.remove at h
  refine find_ok hk S' k (fun hd => ?_) (fun hd hn => ?_) fun hd a e b he hek => ?_
  · simp [hd] at h ⊢
    exact h w S
  · rw [hk.get_none hn] at h
    simp [hd] at h ⊢
    exact h w S
  · subst he
    rw [← hek, hk.get_some] at h
    obtain ⟨_, c1, _⟩ := head_cells (dkHead S')
    simp [hd, c1] at h ⊢
    refine del_ok mt.map_int_p_disk_file (dkMap S').1 k _ _ _ fun o hm => ?_
    refine h _ (mkDk (m := mdel m e.n) (r := r) (es := a ++ b) hk.rem ?_)
    have S2 : St w0 w (mapA r .i64 m :: headA hb r (D.rem e.n) :: ((a ++ b).map fileA ++ R)) := ((S'.perm (disk_perm hb r m a b e D R)).drop : St w0 w (headA hb r D :: mapA r .i64 m :: ((a ++ b).map fileA ++ R))).swap
    obtain ⟨B, ⟨h1, h2⟩, hB, cl⟩ := S2.open
    refine (cl (World.setObj w r o) [mapA r .i64 (mdel m e.n)] ((Fr.refl B w).setObj (.inl h2) o) (Rs.one (B := B) ⟨⟨?_, ?_⟩, h2⟩ fun b hb => .inl hb)).swap
    · rw [hek]; exact hm
    · rw [mkeys_mdel]; exact h1.2.erase _
end
end Go.Proofs.Ytgcpljghnlohbaa
set_option maxRecDepth 100000
namespace Go.Proofs.Ytgcpljghnlohbaa
open Go.Eng Go.Proofs.Ytgcpljghnlohbaa.Sint

def Dk.addF (D : Dk) (k : Int) : Dk := { D with fs := D.fs ++ [⟨k, [], []⟩] }
/-- What the file takes. -/
def Dk.takes (D : Dk) (l : List Int) : List Int := if D.armed then l.take (min (l.length : Int) D.left).toNat else l
def Dk.after (D : Dk) (l : List Int) : Dk := if D.armed then { D with down := decide (D.left < l.length), left := D.left - (min (l.length : Int) D.left).toNat } else D
def Dk.put (D : Dk) (k : Int) (l : List Int) : Dk := match D.get k with
  | none => ((D.addF k).setF k [] (D.takes l)).after l
  | some f => (D.setF k f.fast (f.loose ++ D.takes l)).after l
def Dk.append (D : Dk) (k : Int) (l : List Int) : Dk × Int :=
  if D.down then (D, 10) else if k < 0 ∨ 64 ≤ k then (D, 1) else if D.room < D.used + l.length then (D, 9) else (D.put k l, if (D.put k l).down then 10 else 0)
section
variable {w0 w : World} {hb r : Nat} {m : MP} {es a b : List FE} {D : Dk} {R : List Asn} {e e' : FE}
/-- A row takes more. -/
theorem moreRow {v v2 : Value} {l l2 : List Int} (S : St w0 w (rowB v l :: R)) (hs : SlB w v2 l2) (hl : l.length + l2.length ≤ 1000000000) {cs : List Bool} {ty : TypeId} {K : KV} (h : ∀ w' v', St w0 w' (rowB v' (l ++ l2) :: R) → K v' w') :
    biT P .append #[T.sl_uint8, T.sl_uint8] ty cs [v, v2] w K := by
  obtain ⟨B, ⟨h1, h2⟩, hB, cl⟩ := S.open
  refine app_sl et.sl_uint8 encB_len encB_one h1 hs hl (by decide) (Nat.zero_le _) cs fun v' w' o f g => ?_
  refine h w' v' (cl w' [rowB v' (l ++ l2)] (f.mono fun x _ hx => h2 x hx) (Rs.one (B := fun x => v'.ownBlock = some x) ⟨o, fun b hb => hb⟩ fun x hx => ?_))
  rcases g with g | ⟨y, g1, g2⟩
  · exact .inl (h2 x (by rw [← g]; exact hx))
  · rw [hx] at g1; cases g1
    exact .inr ⟨g2, (o.lt hx).2⟩
theorem state_st (S : St w0 w (diskA hb D :: R)) {K : KV} (h : K (.int .i64 (if D.down then 10 else 0)) w) : fcallT P F.pdisk_Disk_state [.pointer (some ⟨hb, 0, none⟩)] w K := by
  obtain ⟨r, m, es, hk, S'⟩ := unDk S
  exact state_ok (dkHead S') h
theorem used_st (S : St w0 w (diskA hb D :: R)) {K : KV} (h : ∀ w', St w0 w' (diskA hb D :: R) → K (.int .i64 (D.used : Nat)) w') : fcallT P F.pdisk_Disk_Used [.pointer (some ⟨hb, 0, none⟩)] w K := by
  obtain ⟨r, m, es, hk, S'⟩ := unDk S
  exact used_ok hk S' fun w' S2 => h w' (mkDk hk S2)
theorem setF_addF_get (h : DkOk m es D) {k : Int} (hk : ∀ e ∈ es, e.n ≠ k) : (D.addF k).get k = some ⟨k, [], []⟩ := by
  have := h.get_none hk
  unfold Dk.get at this ⊢
  unfold Dk.addF
  rw [List.find?_append, this]
  simp
/-- The bytes go to a file that is there. -/
theorem appJ2 (hk : DkOk m (a ++ e :: b) D) (S : St w0 w (diskL hb r m (a ++ e :: b) D ++ R)) {v2 : Value} {l2 : List Int} (hs : SlB w v2 l2) (hu : ((D.used + l2.length : Nat) : Int) ≤ D.room) {K : KV}
    (h : ∀ w', St w0 w' (diskA hb (D.setF e.n e.fast (e.loose ++ l2)) :: R) → K (.int .i64 (if D.down then 10 else 0)) w') : M.pdisk_Disk_Append.j2 [e.ptr] [v2] (.pointer (some ⟨hb, 0, none⟩)) w K := by
  unfold M.pdisk_Disk_Append.j2
  have hl := len_le_used hk
  have hr := hk.room
  have S1 := dkFile (S.perm (disk_perm hb r m a b e D R))
  obtain ⟨c0, c1, fz⟩ := fcells S1
  obtain ⟨x1, x2, hv, _⟩ := S1.third.row encB_len
  have c1' := c1
  rw [hv] at c1'
  simp [FE.ptr, c1']
  rw [← hv]
  refine moreRow S1.third hs (by omega) fun w1 v' S2 => ?_
  have S3 := S2.third.tail (List.Perm.refl _)
  have S4 : St w0 w1 (blkA e.p #[e.fv, e.lv] T.disk_file :: rowB v' (e.loose ++ l2) :: rowB e.fv e.fast :: (diskL hb r m (a ++ b) D ++ R)) := S2.swap
  obtain ⟨d0, d1, fz1⟩ := fcells S4
  have hcell : ∃ x y z, v' = .slice x y z := by
    obtain ⟨x, z, hv, _⟩ := S2.row encB_len
    exact ⟨x, _, z, hv⟩
  obtain ⟨y1, y2, y3, rfl⟩ := hcell
  have hh := S4.blk
  have S5 := S4.turn (cs' := #[e.fv, .slice y1 y2 y3]) (e' := T.disk_file) (w' := w1.setCell ⟨e.p, 1, none⟩ (.slice y1 y2 y3)) ((Fr.refl (fun x => x = e.p) w1).setCell (.inl rfl) _ _) (by rw [setCell_at hh]; rfl)
  simp [d1, fz1]
  have S6 := mkFile (e := { e with lv := .slice y1 y2 y3, loose := e.loose ++ l2 }) (S5.tail (.swap _ _ _))
  have hk' := hk.setF (e' := { e with lv := .slice y1 y2 y3, loose := e.loose ++ l2 }) rfl rfl (by
    have := setF_used hk e.fast (e.loose ++ l2)
    simp at this ⊢
    omega)
  have S7 : St w0 (w1.setCell ⟨e.p, 1, none⟩ (.slice y1 y2 y3)) (diskA hb (D.setF e.n e.fast (e.loose ++ l2)) :: R) := mkDk (m := m) (r := r) (es := a ++ { e with lv := .slice y1 y2 y3, loose := e.loose ++ l2 } :: b) hk' (S6.perm (disk_perm hb r m a b _ _ R).symm)
  exact state_st S7 (h _ S7)
theorem appJ1 (hk : DkOk m (a ++ e :: b) D) (S : St w0 w (diskL hb r m (a ++ e :: b) D ++ R)) (hd : D.down = false) {bv : Value} {l : List Int} (hbs : ∀ w' L, St w0 w' (L ++ R) → SlB w' bv l) (hu : ((D.used + l.length : Nat) : Int) ≤ D.room) {K : KV}
    (h : ∀ w', St w0 w' (diskA hb ((D.setF e.n e.fast (e.loose ++ D.takes l)).after l) :: R) → K (.int .i64 (if ((D.setF e.n e.fast (e.loose ++ D.takes l)).after l).down then 10 else 0)) w') : M.pdisk_Disk_Append.j1 (.pointer (some ⟨hb, 0, none⟩)) bv [e.ptr] w K := by
  unfold M.pdisk_Disk_Append.j1
  have hh := dkHead S
  have hr := hk.room
  obtain ⟨_, _, c2, c3, c4, fz⟩ := head_cells hh
  have hs := hbs w _ S
  have hlen := fun w' K => hs.len_ok (P := P) (w := w') (t := T.sl_uint8) (ty := T.int) (by kernel_rfl) [false] (K := K)
  rw [joinT_eq]
  cases ha : D.armed with
  | false =>
    rw [ha] at c3
    simp [c3]
    have e1 : D.takes l = l := by unfold Dk.takes; rw [ha]; rfl
    have e2 : (D.setF e.n e.fast (e.loose ++ l)).after l = D.setF e.n e.fast (e.loose ++ l) := by
      unfold Dk.after
      rw [show (D.setF e.n e.fast (e.loose ++ l)).armed = D.armed from rfl, ha]; rfl
    rw [e1, e2] at h
    exact appJ2 hk S hs hu h
  | true =>
    rw [ha] at c3
    obtain ⟨hle, hlt⟩ := hk.arm ha
    have S2 : St w0 ((w.setCell ⟨hb, 4, none⟩ (.bool (decide (D.left < l.length)))).setCell ⟨hb, 2, none⟩ (.int .i64 (D.left - min (l.length : Int) D.left))) (diskL hb r m (a ++ e :: b) { D with down := decide (D.left < l.length), left := D.left - min (l.length : Int) D.left } ++ R) :=
      St.turn (cs' := #[.int .i64 D.room, .map (some r), .int .i64 (D.left - min (l.length : Int) D.left), .bool D.armed, .bool (decide (D.left < l.length))]) (e' := T.disk_Disk) S (((Fr.refl (fun x => x = hb) w).setCell (.inl rfl) _ _).setCell (.inl rfl) _ _) (by rw [setCell_at (setCell_at hh)]; rfl)
    obtain ⟨v', s', hsub, hsl⟩ := (hbs _ _ S2).sub (P := P) (t := T.sl_uint8) (lo := none) (hi := some (.int .i64 ((min (l.length : Int) D.left).toNat : Nat))) (i := 0) (j := (min (l.length : Int) D.left).toNat) (by kernel_rfl) (by kernel_rfl) (.inl ⟨rfl, rfl⟩) (.inr ⟨_, rfl⟩) (Nat.zero_le _) (by omega)
    rw [List.drop_zero, Nat.sub_zero] at s'
    have hmin : (((min (l.length : Int) D.left).toNat : Nat) : Int) = min (l.length : Int) D.left := by omega
    have hmlen : (l.take (min (l.length : Int) D.left).toNat).length = (min (l.length : Int) D.left).toNat := by rw [List.length_take]; omega
    rw [hmin] at hsl
    have hlen' := fun w' K => s'.len_ok (P := P) (w := w') (t := T.sl_uint8) (ty := T.int) (by kernel_rfl) [false] (K := K)
    rw [hmlen] at hlen'
    have hwr : IntKind.i64.wrap (D.left - min (l.length : Int) D.left) = D.left - min (l.length : Int) D.left := wrap_id (by omega) (by omega)
    simp only [nil_some]
    simp [c2, c3, c4, fz, hlen, min_ints, cellOf_setCell, frzOf_setCell, hsl, hlen', hmin, hwr]
    have e1 : D.takes l = l.take (min (l.length : Int) D.left).toNat := by unfold Dk.takes; rw [ha]; rfl
    have e2 : (D.setF e.n e.fast (e.loose ++ D.takes l)).after l = Dk.setF { D with down := decide (D.left < l.length), left := D.left - min (l.length : Int) D.left } e.n e.fast (e.loose ++ l.take (min (l.length : Int) D.left).toNat) := by
      unfold Dk.after
      rw [show (D.setF e.n e.fast (e.loose ++ D.takes l)).armed = D.armed from rfl, ha, e1]
      show Dk.mk _ _ _ _ _ = Dk.mk _ _ _ _ _
      congr 1
      show D.left - _ = _
      rw [← hmin]; rfl
    rw [e2] at h
    refine appJ2 (D := { D with down := decide (D.left < l.length), left := D.left - min (l.length : Int) D.left }) { hk with arm := fun _ => ⟨?_, ?_⟩ } S2 s' ?_ h
    · show 0 ≤ D.left - min (l.length : Int) D.left; omega
    · show D.left - min (l.length : Int) D.left < _; omega
    · show ((D.used + _ : Nat) : Int) ≤ D.room
      rw [hmlen]; omega
theorem newFile (hk : DkOk m es D) (S : St w0 w (diskL hb r m es D ++ R)) {k : Int} (hall : ∀ e ∈ es, e.n ≠ k) (hr : 0 ≤ k ∧ k < 64) :
    DkOk (mset m k (FE.ptr ⟨k, w.heap.size, .slice none 0 0, .slice none 0 0, [], []⟩)) (es ++ ⟨k, w.heap.size, .slice none 0 0, .slice none 0 0, [], []⟩ :: []) (D.addF k) ∧
    St w0 (w.alloc (.cells #[.slice none 0 0, .slice none 0 0] T.disk_file)) (fileA ⟨k, w.heap.size, .slice none 0 0, .slice none 0 0, [], []⟩ :: (diskL hb r m es D ++ R)) := by
  have hkn : k ∉ mkeys m := fun h => by
    obtain ⟨e, he, h'⟩ := List.mem_map.1 (hk.kp.mem_iff.1 h)
    exact hall e he h'
  have hmk : mkeys (mset m k (FE.ptr ⟨k, w.heap.size, .slice none 0 0, .slice none 0 0, [], []⟩)) = mkeys m ++ [k] := by rw [mkeys_mset, if_neg hkn]
  have hml : (mset m k (FE.ptr ⟨k, w.heap.size, .slice none 0 0, .slice none 0 0, [], []⟩)).length = m.length + 1 := by
    have := congrArg List.length hmk
    simpa [mkeys] using this
  refine ⟨⟨?_, ?_, ?_, ?_, ?_, ?_, hk.room, ?_, ?_, hk.arm⟩, ?_⟩
  · show D.fs ++ _ = _
    rw [hk.fs]; simp [FE.abs]
  · rw [hml, hk.ml]; simp
  · intro x hx
    rw [mget_mset]
    rcases List.mem_append.1 hx with hx | hx
    · rw [if_neg fun h => hall x hx h.symm]; exact hk.mg x hx
    · rw [List.mem_singleton] at hx
      subst hx
      rw [if_pos rfl]
  · intro j hj
    rw [mget_mset, if_neg (c := k = j) fun h => hj ⟨k, w.heap.size, .slice none 0 0, .slice none 0 0, [], []⟩ (by simp) h]
    exact hk.mz j fun e he => hj e (by simp [he])
  · rw [List.map_append, List.nodup_append]
    refine ⟨hk.tn, by simp, ?_⟩
    rintro x hx y hy rfl
    obtain ⟨e, he, rfl⟩ := List.mem_map.1 hx
    simp at hy
    exact hall e he hy
  · rw [hmk, List.map_append]
    exact hk.kp.append_right _
  · have : (D.addF k).used = D.used := by unfold Dk.addF Dk.used; simp [Fil.len]
    rw [this]; exact hk.used
  · intro x hx
    rcases List.mem_append.1 hx with hx | hx
    · exact hk.rng x hx
    · rw [List.mem_singleton] at hx
      subst hx
      exact hr
  · have S1 : St w0 (w.alloc (.cells #[.slice none 0 0, .slice none 0 0] T.disk_file)) (blkA w.heap.size #[.slice none 0 0, .slice none 0 0] T.disk_file :: (diskL hb r m es D ++ R)) :=
      S.add ((Fr.refl _ w).alloc _) (B := fun x => x = w.heap.size) ⟨by rw [alloc_heap, if_pos rfl], rfl⟩ fun x hx => by subst hx; rw [alloc_size]; omega
    exact mkFile (e := ⟨k, w.heap.size, .slice none 0 0, .slice none 0 0, [], []⟩) ((nilRow (nilRow S1)).third)
theorem append_st (S : St w0 w (diskA hb D :: R)) (k : Int) {bv : Value} {l : List Int} (hbs : ∀ w' L, St w0 w' (L ++ R) → SlB w' bv l) (hl : l.length ≤ 1000000000) {K : KV}
    (h : ∀ w', St w0 w' (diskA hb (D.append k l).1 :: R) → K (.int .i64 (D.append k l).2) w') : fcallT P F.pdisk_Disk_Append [.pointer (some ⟨hb, 0, none⟩), .int .i64 k, bv] w K := by
  rw [M.pdisk_Disk_Append.fcall]
  apply M.pdisk_Disk_Append.calls
  unfold M.pdisk_Disk_Append
  unfold Dk.append at h
  refine state_st S ?_
  cases hd : D.down with
  | true => simp [hd] at h ⊢; exact h w S
  | false =>
  by_cases h0 : k < 0
  · simp [hd, h0] at h ⊢; exact h w S
  by_cases h1 : 64 ≤ k
  · simp [hd, h0, h1] at h ⊢; exact h w S
  have hlen := fun w' K L (S' : St w0 w' (L ++ R)) => (hbs w' L S').len_ok (P := P) (w := w') (t := T.sl_uint8) (ty := T.int) (by kernel_rfl) [false] (K := K)
  obtain ⟨r, m, es, hk, S'⟩ := unDk S
  obtain ⟨a1, k1, hbv, _⟩ := hbs w _ S'
  have hh := dkHead S'
  obtain ⟨c0, _⟩ := head_cells hh
  have hlen1 := fun w' K => (hbs w _ S').len_ok (P := P) (w := w') (t := T.sl_uint8) (ty := T.int) (by kernel_rfl) [false] (K := K)
  have hr := hk.room
  have hu0 := hk.used
  simp [hd, h0, h1, c0, hlen1]
  refine used_ok hk (S'.step ((Fr.refl _ w).dr 1)) fun w1 S1 => ?_
  obtain ⟨c0, c1, _⟩ := head_cells (dkHead S1)
  have hw : IntKind.i64.wrap ((D.used : Int) + l.length) = (D.used : Int) + l.length := wrap_id (by omega) (by omega)
  simp [c0, hw]
  by_cases h2 : D.room < D.used + l.length
  · simp [h2]
    simp [hd, h0, h1, h2] at h
    exact h w1 (mkDk hk S1)
  simp [h2]
  simp [hd, h0, h1, h2] at h
  unfold M.pdisk_Disk_Append.j0
  simp [c1]
  rw [lu_eq mt.map_int_p_disk_file (dkMap S1).1]
  unfold Dk.put at h
  rcases hk.find k with ⟨hn, hall⟩ | ⟨a, e, b, he, hek, hg⟩
  · rw [hk.get_none hall] at h
    rw [hn]
    have c1' : ∀ o, cellOf (w1.alloc o) hb 1 = some (.map (some r)) := fun o => by
      have hlt := (Array.getElem?_eq_some_iff.1 (dkHead S1)).1; exact (cellOf_heap (w := w1) (w' := w1.alloc o) (b := hb) (by rw [alloc_heap, if_neg (by omega)]) 1).trans c1
    simp [c1']
    obtain ⟨hk2, S2⟩ := newFile hk S1 hall (by omega)
    have S3 := S2
    refine mu_ok mt.map_int_p_disk_file (w := w1.alloc (.cells #[.slice none 0 0, .slice none 0 0] T.disk_file)) (r := r) (m := m) ?_ k _ _ fun o hm => ?_
    · exact (dkMap S2.drop).1
    obtain ⟨B, ⟨h1, h2⟩, hB, cl⟩ := S2.third.open
    have S4 := cl (World.setObj (w1.alloc (.cells #[.slice none 0 0, .slice none 0 0] T.disk_file)) r o) [mapA r .i64 (mset m k (FE.ptr ⟨k, w1.heap.size, .slice none 0 0, .slice none 0 0, [], []⟩))] ((Fr.refl B _).setObj (.inl h2) o) (Rs.one (B := B) ⟨⟨hm, hk2.nd⟩, h2⟩ fun b hb => .inl hb)
    have S5 : St w0 (World.setObj (w1.alloc (.cells #[.slice none 0 0, .slice none 0 0] T.disk_file)) r o) (diskL hb r (mset m k (FE.ptr ⟨k, w1.heap.size, .slice none 0 0, .slice none 0 0, [], []⟩)) (es ++ ⟨k, w1.heap.size, .slice none 0 0, .slice none 0 0, [], []⟩ :: []) (D.addF k) ++ R) := by
      refine St.perm S4 (List.Perm.trans ?_ (disk_perm hb r _ es [] ⟨k, w1.heap.size, .slice none 0 0, .slice none 0 0, [], []⟩ (D.addF k) R).symm)
      rw [List.append_nil]
      exact (List.Perm.swap _ _ _).trans (List.Perm.cons _ (List.Perm.swap _ _ _))
    exact appJ1 (e := ⟨k, w1.heap.size, .slice none 0 0, .slice none 0 0, [], []⟩) hk2 S5 hd hbs (by
      have : (D.addF k).used = D.used := by unfold Dk.addF Dk.used; simp [Fil.len]
      rw [this]
      show _ ≤ D.room
      omega) h
  · subst he
    rw [← hek, hk.get_some] at h
    rw [hg]
    simp [FE.ptr]
    exact appJ1 hk S1 hd hbs (by omega) h
end
end Go.Proofs.Ytgcpljghnlohbaa
set_option maxRecDepth 100000
namespace Go.Proofs.Ytgcpljghnlohbaa
open Go.Eng Go.Proofs.Ytgcpljghnlohbaa.Sint

def stays (kl : List Int) (i len : Nat) : Nat := (max 0 (min (kl.getD i 0) (len : Int))).toNat
def crStep (kl : List Int) (D : Dk) (k : Int) (i : Nat) : Dk := match D.get k with
  | none => D
  | some f => D.setF k (f.fast ++ f.loose.take (stays kl i f.loose.length)) []
def crN (kl : List Int) (D : Dk) (F : List Int) : Nat → Dk
  | 0 => D
  | i + 1 => crStep kl (crN kl D F i) (F.getD i 0) i
def Dk.crash (D : Dk) (kl : List Int) : Dk := { crN kl D D.files D.files.length with armed := false, down := false }
section
variable {w0 w : World} {hb r : Nat} {m : MP} {es a b : List FE} {D : Dk} {R : List Asn} {e e' : FE}
theorem setF_keys (D : Dk) (k : Int) (fa lo : List Int) : (D.setF k fa lo).keys = D.keys := by
  unfold Dk.keys Dk.setF
  rw [List.map_map]
  refine List.map_congr_left fun f hf => ?_
  show (if f.n = k then (⟨k, fa, lo⟩ : Fil) else f).n = f.n
  split
  · rename_i h; exact h.symm
  · rfl
theorem crStep_keys (kl : List Int) (D : Dk) (k : Int) (i : Nat) : (crStep kl D k i).keys = D.keys := by
  unfold crStep
  split
  · rfl
  · exact setF_keys ..
theorem crN_keys (kl : List Int) (D : Dk) (F : List Int) : ∀ i, (crN kl D F i).keys = D.keys
  | 0 => rfl
  | i + 1 => (crStep_keys kl _ _ _).trans (crN_keys kl D F i)
theorem crJ5 (hk : DkOk m (a ++ e :: b) D) (S : St w0 w (diskL hb r m (a ++ e :: b) D ++ R)) {n : Nat} (hn : n ≤ e.loose.length) {x2 : List Value} {t17 : Value} {K4 : KL} {K : KV}
    (h : ∀ w', St w0 w' (diskA hb (D.setF e.n (e.fast ++ e.loose.take n) []) :: R) → K4 [gv x2 4, t17, e.ptr, .int .i64 (n : Int)] w') : M.pdisk_Disk_Crash.j5 e.ptr [.int .i64 (n : Int)] K4 x2 t17 w K := by
  unfold M.pdisk_Disk_Crash.j5
  have hl := len_le_used hk
  have hu := hk.used
  have hr := hk.room
  have S1 := S.perm (disk_perm hb r m a b e D R)
  have S2 := dkFile S1
  obtain ⟨c0, c1, fz⟩ := fcells S2
  have s1 : SlB w e.fv e.fast := S2.swap.row encB_len
  have s2 : SlB w e.lv e.loose := S2.third.row encB_len
  obtain ⟨v', s', hsub, hsl⟩ := s2.sub (P := P) (t := T.sl_uint8) (lo := none) (hi := some (.int .i64 (n : Int))) (i := 0) (j := n) (by kernel_rfl) (by kernel_rfl) (.inl ⟨rfl, rfl⟩) (.inr ⟨_, rfl⟩) (Nat.zero_le _) hn
  rw [List.drop_zero, Nat.sub_zero] at s'
  obtain ⟨a1, k1, hv1, _⟩ := id s1
  obtain ⟨a2, k2, hv2, _⟩ := id s2
  obtain ⟨a3, k3, hv3, _⟩ := id s'
  have c0' := c0
  have c1' := c1
  rw [hv1] at c0'
  rw [hv2] at c1' hsl
  rw [hv3] at hsl
  simp [FE.ptr, c0', c1', hsl]
  rw [← hv1]
  have hmin : (List.take n e.loose).length = min n e.loose.length := by simp
  rw [← hmin, ← hv3]
  have hbl : ((Eng.dr w 1).alloc (.cells #[e.fv, v'] T.sl_uint8)).heap[w.heap.size]? = some (.cells (([(e.fv, e.fast), (v', e.loose.take n)] : List (Value × List Int)).map (·.1)).toArray T.sl_uint8 (0, 0)) := by
    rw [alloc_heap, if_pos (by simp)]; rfl
  have f1 : Fr (fun _ => False) w ((Eng.dr w 1).alloc (.cells #[e.fv, v'] T.sl_uint8)) := ((Fr.refl _ w).dr 1).alloc _
  rw [M.slices_Concat_byte_byte.fcall]
  refine CB.concat_ok (L := [(e.fv, e.fast), (v', e.loose.take n)]) hbl (fun p hp => ?_) (by simp [CB.tot]; omega) (by simp) fun w' v o f2 => ?_
  · simp at hp
    rcases hp with rfl | rfl
    · exact s1.fr f1 fun _ _ _ h => h
    · exact s'.fr f1 fun _ _ _ h => h
  · have hs : w.heap.size ≤ ((Eng.dr w 1).alloc (.cells #[e.fv, v'] T.sl_uint8)).heap.size := f1.size
    have S3 : St w0 w' (rowB v (e.fast ++ e.loose.take n) :: fileA e :: (diskL hb r m (a ++ b) D ++ R)) := S1.add (a := rowB v (e.fast ++ e.loose.take n)) (f1.trans f2) (B := fun b => v.ownBlock = some b) ⟨by simpa using o.mono (Nat.zero_le _), fun b hb => hb⟩ fun b hb => by
      have := o.lt hb
      exact ⟨by omega, this.2⟩
    have S4 := setFile S3
    obtain ⟨d0, d1, fz1⟩ := fcells (dkFile S3.swap)
    obtain ⟨y1, y2, hv, _⟩ := S3.row encB_len
    generalize (e.fast ++ e.loose.take n).length = L at hv
    subst hv
    simp [d0, d1, fz1, cellOf_setCell, frzOf_setCell]
    refine h _ (mkDk (m := m) (r := r) (es := a ++ { e with fv := .slice y1 L y2, lv := .slice none 0 0, fast := e.fast ++ e.loose.take n, loose := [] } :: b) (hk.setF (e' := { e with fv := .slice y1 L y2, lv := .slice none 0 0, fast := e.fast ++ e.loose.take n, loose := [] }) rfl rfl ?_) (S4.perm (disk_perm hb r m a b _ _ R).symm))
    have := setF_used hk (e.fast ++ e.loose.take n) []
    simp at this ⊢
    omega
def CrI (w0 : World) (hb : Nat) (D : Dk) (kl : List Int) (R : List Asn) (v : Value) : KL := fun x w1 => ∃ (u0 u1 u2 u3 : Value) (i : Nat), x = [u0, u1, u2, u3, .int .i64 (i : Nat)] ∧ i ≤ D.files.length ∧ St w0 w1 (rowI v D.files :: diskA hb (crN kl D D.files i) :: R)
theorem crash_st (S : St w0 w (diskA hb D :: R)) {kv : Value} {kl : List Int} (hks : ∀ w' L, St w0 w' (L ++ R) → Sl w' 1 encL kv kl) {K : KV}
    (h : ∀ w', St w0 w' (diskA hb (D.crash kl) :: R) → K (.tuple #[]) w') : fcallT P F.pdisk_Disk_Crash [.pointer (some ⟨hb, 0, none⟩), kv] w K := by
  rw [M.pdisk_Disk_Crash.fcall]
  apply M.pdisk_Disk_Crash.calls
  unfold M.pdisk_Disk_Crash
  simp
  unfold M.pdisk_Disk_Crash.j0
  rw [joinT_eq]
  obtain ⟨r0, m0, es0, hk0, S0⟩ := unDk S
  have hfl : D.files.length ≤ 64 := by
    have := hk0.few
    unfold Dk.files
    rw [(srtd_perm _).length_eq, hk0.keys, List.length_map]; exact this
  refine files_ok hk0 S0 fun w1 v S1 => ?_
  have S1' : St w0 w1 (rowI v D.files :: diskA hb D :: R) := ((mkDk hk0 (S1.perm List.perm_middle.symm)) : St w0 w1 (diskA hb D :: (rowI v D.files :: R))).swap
  have hsl : ∀ {w i}, St w0 w (rowI v D.files :: diskA hb (crN kl D D.files i) :: R) → Sl w 1 encL v D.files := fun S => S.row encL_len
  rw [(hsl (i := 0) S1').len_ok (by simp)]
  refine ⟨CrI w0 hb D kl R v, fun x _ => D.files.length - ms x 4, ⟨_, _, _, _, 0, rfl, Nat.zero_le _, S1'⟩, ?_⟩
  rintro x w2 ⟨u0, u1, u2, u3, i, rfl, hi, S2⟩
  have q : ∀ a b c d e : Value, gv [a, b, c, d, e] 4 = e := fun _ _ _ _ _ => rfl
  simp only [q, bin_lss, joinT_eq]
  by_cases hil : i < D.files.length
  · have hil' : (i : Int) < D.files.length := by omega
    simp only [hil', decide_true, Eng.cond_true]
    unfold M.pdisk_Disk_Crash.j3
    obtain ⟨bb, o, cap, hv, hbb, _, hc⟩ := (hsl S2).at hil
    have c0 := hc 0 _ rfl
    simp only [Nat.mul_one, Nat.add_zero] at c0
    have hmem : D.files[i] ∈ D.files := List.getElem_mem hil
    have hnext : crN kl D D.files (i + 1) = crStep kl (crN kl D D.files i) D.files[i] i := by
      show crStep kl _ (D.files.getD i 0) i = _
      rw [List.getD_eq_getElem?_getD, List.getElem?_eq_getElem hil]; rfl
    have hmem' : D.files[i] ∈ (crN kl D D.files i).keys := by
      rw [crN_keys]; exact (srtd_perm _).mem_iff.1 hmem
    obtain ⟨r, m, es, hk, S3⟩ := unDk S2.swap
    generalize hD : crN kl D D.files i = D1 at *
    generalize hki : D.files[i] = k at *
    rw [hk.keys] at hmem'
    obtain ⟨e, he, hek⟩ := List.mem_map.1 hmem'
    obtain ⟨a, b, hab⟩ := List.append_of_mem he
    subst hab
    obtain ⟨_, c1, _⟩ := head_cells (dkHead S3)
    have hg := hk.mg e (by simp)
    have hlu : ∀ K, luT P T.map_int_p_disk_file (.map (some r)) (.int .i64 k) false w2 K = K e.ptr w2 := fun K => by
      rw [lu_eq mt.map_int_p_disk_file (dkMap S3).1, ← hek, hg]; rfl
    obtain ⟨hbk, s1, s2⟩ := fileOf (a := a) (e := e) (b := b) S3
    have d1 : cellOf w2 e.p 1 = some e.lv := by rw [cellOf_of hbk]; rfl
    have hlenl := fun w' K => s2.len_ok (P := P) (w := w') (t := T.sl_uint8) (ty := T.int) (by kernel_rfl) [false] (K := K)
    have hks2 := hks w2 (rowI v D.files :: [diskA hb D1]) S2
    have hlenk := fun w' K => hks2.len_ok (P := P) (w := w') (t := T.sl_int) (ty := T.int) (by kernel_rfl) [false] (K := K)
    obtain ⟨a2, k2, hv2, _⟩ := id s2
    have d1' := d1
    rw [hv2] at d1' hlenl
    have hwi : IntKind.i64.wrap ((i : Int) + 1) = ((i + 1 : Nat) : Int) := by rw [wrap_id (by omega) (by omega)]; rfl
    have hst : crN kl D D.files (i + 1) = D1.setF e.n (e.fast ++ e.loose.take (stays kl i e.loose.length)) [] := by
      rw [hnext]
      unfold crStep
      rw [← hek, hk.get_some]; rfl
    have fin : ∀ w' y0 y1 y2 y3, St w0 w' (diskA hb (D1.setF e.n (e.fast ++ e.loose.take (stays kl i e.loose.length)) []) :: rowI v D.files :: R) → CrI w0 hb D kl R v [y0, y1, y2, y3, .int .i64 ((i + 1 : Nat) : Int)] w' ∧ D.files.length - ms [y0, y1, y2, y3, .int .i64 ((i + 1 : Nat) : Int)] 4 < D.files.length - ms [u0, u1, u2, u3, .int .i64 (i : Nat)] 4 := fun w' y0 y1 y2 y3 S' => ⟨⟨_, _, _, _, i + 1, rfl, by omega, by rw [hst]; exact S'.swap⟩, by simp only [ms, q]; simp; omega⟩
    rw [hv]
    by_cases hik : i < kl.length
    · have hik' : (i : Int) < kl.length := by omega
      obtain ⟨bk, ok, capk, hkv, hbk2, _, hck⟩ := hks2.at hik
      have ck := hck 0 _ rfl
      simp only [Nat.mul_one, Nat.add_zero] at ck
      have hsty : ((stays kl i e.loose.length : Nat) : Int) = max 0 (min kl[i] (e.loose.length : Int)) := by
        unfold stays
        rw [List.getD_eq_getElem?_getD, List.getElem?_eq_getElem hik]
        simp only [Option.getD_some]
        omega
      simp [q, hil, c0, c1, hlu, hlenk, hik]
      rw [hkv]
      simp [hik, ck, FE.ptr, d1', hlenl, min_ints, max_ints, ← hsty]
      have S4 := S3.step ((Fr.refl _ w2).dr 1)
      refine crJ5 (n := stays kl i e.loose.length) (R := rowI v D.files :: R) hk S4 (by omega) fun w' S' => ?_
      rw [← hv]
      have := fin w' (gv [u0, u1, u2, u3, .int .i64 (i : Nat)] 4) (.int .i64 k) e.ptr (.int .i64 (stays kl i e.loose.length : Nat)) S'
      rw [hwi]
      exact this
    · have hik' : ¬ (i : Int) < kl.length := by omega
      have hst0 : stays kl i e.loose.length = 0 := by
        unfold stays
        rw [List.getD_eq_getElem?_getD, List.getElem?_eq_none (by omega)]
        simp only [Option.getD_none]
        omega
      rw [hst0] at fin
      simp [q, hil, c0, c1, hlu, hlenk, hik]
      refine crJ5 (n := 0) (R := rowI v D.files :: R) hk S3 (by omega) fun w' S' => ?_
      rw [← hv]
      have := fin w' (gv [u0, u1, u2, u3, .int .i64 (i : Nat)] 4) (.int .i64 k) e.ptr (.int .i64 (0 : Nat)) S'
      rw [hwi]
      exact this
  · have hil' : ¬ (i : Int) < D.files.length := by omega
    simp only [hil', decide_false, Eng.cond_false]
    have hii : i = D.files.length := by omega
    subst hii
    obtain ⟨r, m, es, hk, S3⟩ := unDk S2.drop
    obtain ⟨_, _, _, c3, c4, fz⟩ := head_cells (dkHead S3)
    have hh := dkHead S3
    simp [c3, c4, fz, cellOf_setCell, frzOf_setCell]
    refine h _ (mkDk (r := r) (m := m) (es := es) (D := D.crash kl) { hk with arm := fun h => by cases h } (St.turn (cs' := #[.int .i64 (crN kl D D.files D.files.length).room, .map (some r), .int .i64 (crN kl D D.files D.files.length).left, .bool false, .bool false]) (e' := T.disk_Disk) S3 (((Fr.refl (fun x => x = hb) w2).setCell (.inl rfl) _ _).setCell (.inl rfl) _ _) ?_))
    rw [setCell_at (setCell_at hh)]; rfl
end
end Go.Proofs.Ytgcpljghnlohbaa
set_option maxRecDepth 100000
namespace Go.Proofs.Ytgcpljghnlohbaa
open Go.Eng Go.Proofs.Ytgcpljghnlohbaa.Sint

section
variable {w0 w : World} {hb : Nat} {D : Dk} {R : List Asn}
theorem read_st (S : St w0 w (diskA hb D :: R)) (k : Int) {K : KV} (h : ∀ w' v, St w0 w' (rowB v (D.read k).1 :: diskA hb D :: R) → K (.tuple #[v, .int .i64 (D.read k).2]) w') : fcallT P F.pdisk_Disk_Read [.pointer (some ⟨hb, 0, none⟩), .int .i64 k] w K := by
  obtain ⟨r, m, es, hk, S'⟩ := unDk S
  exact read_ok hk S' k fun w' v S2 => h w' v (mkDk hk (S2.perm List.perm_middle.symm) : St w0 w' (diskA hb D :: (rowB v (D.read k).1 :: R))).swap
theorem files_st (S : St w0 w (diskA hb D :: R)) {K : KV} (h : ∀ w' v, St w0 w' (rowI v D.files :: diskA hb D :: R) → K v w') : fcallT P F.pdisk_Disk_Files [.pointer (some ⟨hb, 0, none⟩)] w K := by
  obtain ⟨r, m, es, hk, S'⟩ := unDk S
  exact files_ok hk S' fun w' v S2 => h w' v (mkDk hk (S2.perm List.perm_middle.symm) : St w0 w' (diskA hb D :: (rowI v D.files :: R))).swap
theorem arm_st (S : St w0 w (diskA hb D :: R)) {n : Int} (hn : n < 9223372036854775808) {K : KV} (h : ∀ w', St w0 w' (diskA hb { D with armed := decide (0 ≤ n), left := n } :: R) → K (.tuple #[]) w') : fcallT P F.pdisk_Disk_Arm [.pointer (some ⟨hb, 0, none⟩), .int .i64 n] w K := by
  obtain ⟨r, m, es, hk, S'⟩ := unDk S
  exact arm_ok hk S' hn fun w' hk' S2 => h w' (mkDk hk' S2)
theorem down_st (S : St w0 w (diskA hb D :: R)) {K : KV} (h : K (.bool D.down) w) : fcallT P F.pdisk_Disk_Down [.pointer (some ⟨hb, 0, none⟩)] w K := by
  obtain ⟨r, m, es, hk, S'⟩ := unDk S
  exact down_ok S' h
end
theorem srtd_one (k : Int) : srtd [k] = [k] := List.perm_singleton.1 (srtd_perm [k])
theorem alive6 {w : World} {K : KV} (h : ∀ w', Fr (fun _ => False) w w' → K (.bool true) w') : fcallT P F.winnowlaw06_alive [] w K := by
  rw [M.winnowlaw06_alive.fcall]
  apply M.winnowlaw06_alive.calls
  unfold M.winnowlaw06_alive
  refine dnew_ok (St.start w) 10 (fun h => by omega) fun _ _ w1 hb S1 => ?_
  simp
  unfold M.winnowlaw06_alive.j0
  simp
  refine lit_bytes (by kernel_rfl) encB_len S1 (l := [97, 98]) rfl (by decide) fun w2 v2 S2 => ?_
  have a1 : (⟨10, 0, false, false, []⟩ : Dk).append 1 [97, 98] = (⟨10, 0, false, false, [⟨1, [], [97, 98]⟩]⟩, 0) := by rfl
  refine append_st S2.swap 1 (fun w' L S => (S.perm List.perm_middle).rd) (by decide) fun w3 S3 => ?_
  rw [a1] at S3 ⊢
  have a2 : (⟨10, 0, false, false, [⟨1, [], [97, 98]⟩]⟩ : Dk).sync 1 = (⟨10, 0, false, false, [⟨1, [97, 98], []⟩]⟩, 0) := by rfl
  refine sync_st S3 1 fun w4 S4 => ?_
  rw [a2] at S4 ⊢
  simp
  refine lit_bytes (by kernel_rfl) encB_len S4 (l := [99, 100]) rfl (by decide) fun w5 v5 S5 => ?_
  have a3 : (⟨10, 0, false, false, [⟨1, [97, 98], []⟩]⟩ : Dk).append 1 [99, 100] = (⟨10, 0, false, false, [⟨1, [97, 98], [99, 100]⟩]⟩, 0) := by rfl
  refine append_st S5.swap 1 (fun w' L S => (S.perm List.perm_middle).rd) (by decide) fun w6 S6 => ?_
  rw [a3] at S6 ⊢
  simp
  have S7 : St w (w6.alloc (.cells #[.int .i64 1] T.int)) (rdA 1 encL (.slice (some ⟨w6.heap.size, 0, none⟩) 1 1) [1] :: _) := S6.add (a := rdA 1 encL (.slice (some ⟨w6.heap.size, 0, none⟩) 1 1) [1]) ((Fr.refl _ w6).alloc _) (B := fun x => x = w6.heap.size) ⟨Sl.one rfl rfl, fun x hx => by simpa [Value.ownBlock] using hx.symm⟩ fun x hx => by subst hx; rw [alloc_size]; omega
  refine crash_st S7.swap (kl := [1]) (fun w' L S => (S.perm List.perm_middle).rd) fun w8 S8 => ?_
  have a4 : (⟨10, 0, false, false, [⟨1, [97, 98], [99, 100]⟩]⟩ : Dk).crash [1] = ⟨10, 0, false, false, [⟨1, [97, 98, 99], []⟩]⟩ := by
    have : (⟨10, 0, false, false, [⟨1, [97, 98], [99, 100]⟩]⟩ : Dk).files = [1] := srtd_one 1
    unfold Dk.crash
    rw [this]
    rfl
  rw [a4] at S8
  refine read_st S8 1 fun w9 v9 S9 => ?_
  have a5 : (⟨10, 0, false, false, [⟨1, [97, 98, 99], []⟩]⟩ : Dk).read 1 = ([97, 98, 99], 0) := by rfl
  rw [a5] at S9 ⊢
  simp
  rw [cv_bs (l := [97, 98, 99]) (by kernel_rfl) (by kernel_rfl) (S9.row encB_len)]
  have e : ((strB [97, 98, 99]).toList == [97, 98, 99]) = true := by kernel_rfl
  simp [bin_eqlS]
  rw [e]
  exact h w9 S9.fr

theorem append6_nil {w : World} {k v : Value} {K : KV} (h : K (.int .i64 13) w) : fcallT P F.pdisk_Disk_Append [.pointer none, k, v] w K := by
  rw [M.pdisk_Disk_Append.fcall]
  apply M.pdisk_Disk_Append.calls
  unfold M.pdisk_Disk_Append
  rw [joinT_eq, M.pdisk_Disk_state.fcall]
  apply M.pdisk_Disk_state.calls
  unfold M.pdisk_Disk_state
  simp
  exact h
theorem find6_nil {w : World} {k : Value} {K : KV} (h : K (.tuple #[.pointer none, .int .i64 13]) w) : fcallT P F.pdisk_Disk_find [.pointer none, k] w K := by
  rw [M.pdisk_Disk_find.fcall]
  apply M.pdisk_Disk_find.calls
  unfold M.pdisk_Disk_find
  rw [joinT_eq, M.pdisk_Disk_state.fcall]
  apply M.pdisk_Disk_state.calls
  unfold M.pdisk_Disk_state
  simp
  exact h
theorem sync6_nil {w : World} {k : Value} {K : KV} (h : K (.int .i64 13) w) : fcallT P F.pdisk_Disk_Sync [.pointer none, k] w K := by
  rw [M.pdisk_Disk_Sync.fcall]
  apply M.pdisk_Disk_Sync.calls
  unfold M.pdisk_Disk_Sync
  refine find6_nil ?_
  simp
  exact h
theorem cut6_nil {w : World} {k n : Value} {K : KV} (h : K (.int .i64 13) w) : fcallT P F.pdisk_Disk_Cut [.pointer none, k, n] w K := by
  rw [M.pdisk_Disk_Cut.fcall]
  apply M.pdisk_Disk_Cut.calls
  unfold M.pdisk_Disk_Cut
  refine find6_nil ?_
  simp
  exact h
theorem remove6_nil {w : World} {k : Value} {K : KV} (h : K (.int .i64 13) w) : fcallT P F.pdisk_Disk_Remove [.pointer none, k] w K := by
  rw [M.pdisk_Disk_Remove.fcall]
  apply M.pdisk_Disk_Remove.calls
  unfold M.pdisk_Disk_Remove
  refine find6_nil ?_
  simp
  exact h
theorem read6_nil {w : World} {k : Value} {K : KV} (h : K (.tuple #[.slice none 0 0, .int .i64 13]) w) : fcallT P F.pdisk_Disk_Read [.pointer none, k] w K := by
  rw [M.pdisk_Disk_Read.fcall]
  apply M.pdisk_Disk_Read.calls
  unfold M.pdisk_Disk_Read
  refine find6_nil ?_
  simp
  exact h
theorem files6_nil {w : World} {K : KV} (h : K (.slice none 0 0) w) : fcallT P F.pdisk_Disk_Files [.pointer none] w K := by
  rw [M.pdisk_Disk_Files.fcall]
  apply M.pdisk_Disk_Files.calls
  unfold M.pdisk_Disk_Files
  simp
  exact h
theorem used6_nil {w : World} {K : KV} (h : K (.int .i64 0) w) : fcallT P F.pdisk_Disk_Used [.pointer none] w K := by
  rw [M.pdisk_Disk_Used.fcall]
  apply M.pdisk_Disk_Used.calls
  unfold M.pdisk_Disk_Used
  rw [joinT_eq]
  refine files6_nil ?_
  have hl : ∀ K', biT P .len #[T.sl_int] T.int [false] [.slice none 0 0] w K' = K' (.int .i64 0) w := fun K' => (Sl.nil (w := w) (enc := encL) (sz := 1)).len_ok (by kernel_rfl) [false]
  rw [hl]
  refine ⟨fun x w1 => w1 = w ∧ ∃ u, x = [u, .int .i64 0, .int .i64 0], fun _ _ => 0, ⟨rfl, _, rfl⟩, ?_⟩
  rintro x w1 ⟨rfl, u, rfl⟩
  have q : ∀ a b c : Value, gv [a, b, c] 2 = c := fun _ _ _ => rfl
  simp [q, joinT_eq]
  exact h
theorem arm6_nil {w : World} {n : Value} {K : KV} (h : K (.tuple #[]) w) : fcallT P F.pdisk_Disk_Arm [.pointer none, n] w K := by
  rw [M.pdisk_Disk_Arm.fcall]
  apply M.pdisk_Disk_Arm.calls
  unfold M.pdisk_Disk_Arm
  simp
  exact h
theorem crash6_nil {w : World} {n : Value} {K : KV} (h : K (.tuple #[]) w) : fcallT P F.pdisk_Disk_Crash [.pointer none, n] w K := by
  rw [M.pdisk_Disk_Crash.fcall]
  apply M.pdisk_Disk_Crash.calls
  unfold M.pdisk_Disk_Crash
  simp
  exact h
theorem down6_nil {w : World} {K : KV} (h : K (.bool false) w) : fcallT P F.pdisk_Disk_Down [.pointer none] w K := by
  rw [M.pdisk_Disk_Down.fcall]
  apply M.pdisk_Disk_Down.calls
  unfold M.pdisk_Disk_Down
  simp
  exact h
theorem bytes_of {w : World} {n : Nat} {v : Value} (h : TV P w n T.sl_uint8 [v]) : ∃ l, SlB w v l := by
  refine sl_of_tv (sz := 1) (rd := rdE encB) (e := T.uint8) (by kernel_rfl) (by kernel_rfl) (by decide) (fun n b o cs ht hl hc => ?_) h
  obtain ⟨x, hx, _⟩ := tv_int (k := .u8) (by kernel_rfl) ht
  subst hx
  exact ⟨x, fun j u hj => hc j u hj⟩
theorem DiskNils_law {W : World} {a0 : Int} (_h0 : (Lit.int .i64 a0).wf = true) {a1 : Int} (_h1 : (Lit.int .i64 a1).wf = true) {n2 : Nat} {v2 : Value} (h2 : TV P W n2 T.sl_uint8 [v2]) {K : KV}
    (h : ∀ w', Fr (fun _ => False) W w' → K (.bool true) w') : callT P F.winnowlaw06_DiskNils [.int .i64 a0, .int .i64 a1, v2] W K := by
  apply M.winnowlaw06_DiskNils.calls
  unfold M.winnowlaw06_DiskNils
  obtain ⟨l, hs⟩ := bytes_of h2
  simp only [joinT_eq]
  rw [hs.len_ok (by kernel_rfl)]
  by_cases hl : 1000 < l.length
  · have : (1000 : Int) < l.length := by omega
    simp [this]
    exact alive6 h
  have : ¬ (1000 : Int) < l.length := by omega
  simp [this]
  unfold M.winnowlaw06_DiskNils.j0
  refine arm6_nil ?_
  simp
  refine crash6_nil ?_
  refine read6_nil ?_
  simp
  refine append6_nil ?_
  simp
  refine sync6_nil ?_
  simp
  refine cut6_nil ?_
  simp
  refine remove6_nil ?_
  simp
  refine files6_nil ?_
  have hln : ∀ w' K', biT P .len #[T.sl_int] T.int [false] [.slice none 0 0] w' K' = K' (.int .i64 0) w' := fun w' K' => (Sl.nil (w := w') (enc := encL) (sz := 1)).len_ok (by kernel_rfl) [false]
  simp [hln]
  refine used6_nil ?_
  have w0 : IntKind.i64.wrap 0 = 0 := wrap_id (by omega) (by omega)
  simp [w0]
  refine down6_nil ?_
  simp
  exact alive6 fun w' f => h w' (((Fr.refl _ W).alloc _).trans f)
end Go.Proofs.Ytgcpljghnlohbaa
set_option maxRecDepth 100000
namespace Go.Proofs.Ytgcpljghnlohbaa
open Go.Eng Go.Proofs.Ytgcpljghnlohbaa.Sint

structure OpV where
  kind : Int
  file : Int
  n : Int
  bv : Value
  kv : Value
  b : List Int
  keep : List Int
def cellsO (x : OpV) : List Value := [.int .i64 x.kind, .int .i64 x.file, .int .i64 x.n, x.bv, x.kv]
def opRd (w : World) (b o : Nat) (x : OpV) : Prop := (∀ j u, (cellsO x)[j]? = some u → cellOf w b (o + j) = some u) ∧ SlB w x.bv x.b ∧ Sl w 1 encL x.kv x.keep ∧ x.n < 9223372036854775808
theorem wf_i64' {x : Int} (h : (Lit.int .i64 x).wf = true) : -9223372036854775808 ≤ x ∧ x < 9223372036854775808 := by
  simp [Lit.wf, IntKind.min, IntKind.max, IntKind.bits, IntKind.signed] at h
  omega
theorem ints_of {w : World} {n : Nat} {v : Value} (h : TV P w n T.sl_int [v]) : ∃ l, Sl w 1 encL v l := by
  refine sl_of_tv (sz := 1) (rd := rdE encL) (e := T.int) (by kernel_rfl) (by kernel_rfl) (by decide) (fun n b o cs ht hl hc => ?_) h
  obtain ⟨x, hx, _⟩ := tv_int (k := .i64) (by kernel_rfl) ht
  subst hx
  exact ⟨x, fun j u hj => hc j u hj⟩
theorem ops_of {w : World} {n : Nat} {v : Value} (h : TV P w n T.sl_winnowlaw06_Op [v]) : ∃ l, SlOf w 5 opRd v l := by
  have hel := et.sl_winnowlaw06_Op
  refine sl_of_tv (sz := 5) (rd := opRd) (e := T.winnowlaw06_Op) hel.ty (by kernel_rfl) (by decide) (fun n b o cs ht hl hc => ?_) h
  have hu := Try.underlying51
  obtain ⟨_, hf⟩ := tv_struct hu ht
  obtain ⟨m0, t0⟩ : ∃ m, TV P w m T.int ((cs.drop 0).take (P.cellsOf T.int)) := hf 0 _ rfl
  obtain ⟨m1, t1⟩ : ∃ m, TV P w m T.int ((cs.drop 1).take (P.cellsOf T.int)) := hf 1 _ rfl
  obtain ⟨m2, t2⟩ : ∃ m, TV P w m T.int ((cs.drop 2).take (P.cellsOf T.int)) := hf 2 _ rfl
  obtain ⟨m3, t3⟩ : ∃ m, TV P w m T.sl_uint8 ((cs.drop 3).take (P.cellsOf T.sl_uint8)) := hf 3 _ rfl
  obtain ⟨m4, t4⟩ : ∃ m, TV P w m T.sl_int ((cs.drop 4).take (P.cellsOf T.sl_int)) := hf 4 _ rfl
  have c0 : P.cellsOf T.int = 1 := by kernel_rfl
  have c1 : P.cellsOf T.sl_uint8 = 1 := by kernel_rfl
  have c2 : P.cellsOf T.sl_int = 1 := by kernel_rfl
  match cs, hl with
  | [u0, u1, u2, u3, u4], _ =>
    simp only [c0, c1, c2, List.drop_zero, List.drop_succ_cons, List.take_succ_cons, List.take_zero] at t0 t1 t2 t3 t4
    obtain ⟨x0, e0, _⟩ := tv_int (k := .i64) (by kernel_rfl) t0
    obtain ⟨x1, e1, _⟩ := tv_int (k := .i64) (by kernel_rfl) t1
    obtain ⟨x2, e2, w2⟩ := tv_int (k := .i64) (by kernel_rfl) t2
    obtain ⟨l3, s3⟩ := bytes_of t3
    obtain ⟨l4, s4⟩ := ints_of t4
    simp only [List.cons.injEq, and_true] at e0 e1 e2
    subst e0 e1 e2
    exact ⟨⟨x0, x1, x2, u3, u4, l3, l4⟩, hc, s3, s4, (wf_i64' w2).2⟩
section
variable {w0 w w' : World} {R : List Asn} {v : Value} {l : List OpV}
theorem opRd_fr {b o : Nat} {x : OpV} (hb : b < w.heap.size) (h : opRd w b o x) (hf : Fr (fun _ => False) w w') : opRd w' b o x :=
  ⟨fun j u hj => by rw [cellOf_heap (hf.keep b hb fun h => h)]; exact h.1 j u hj, h.2.1.fr hf fun _ _ _ h => h, h.2.2.1.fr hf fun _ _ _ h => h, h.2.2.2⟩
theorem ops_fr (h : SlOf w 5 opRd v l) (hf : Fr (fun _ => False) w w') : SlOf w' 5 opRd v l := h.keep hf.size fun b o x hb hr => opRd_fr hb hr hf
theorem ops_at (h : SlOf w 5 opRd v l) {i : Nat} (hi : i < l.length) : ∃ b o cap, v = .slice (some ⟨b, o, none⟩) l.length cap ∧ b < w.heap.size ∧ opRd w b (o + i * 5) l[i] := by
  obtain ⟨a, cap, hv, _, _, h3⟩ := h
  obtain ⟨b, o, rfl, hb, hr⟩ := h3 i l[i] (List.getElem?_eq_getElem hi)
  exact ⟨b, o, cap, hv, hb, hr⟩
theorem op_cells {b o : Nat} {x : OpV} (h : opRd w b o x) : cellOf w b o = some (.int .i64 x.kind) ∧ cellOf w b (o + 1) = some (.int .i64 x.file) ∧ cellOf w b (o + 2) = some (.int .i64 x.n) ∧ cellOf w b (o + 3) = some x.bv ∧ cellOf w b (o + 4) = some x.kv :=
  ⟨h.1 0 _ rfl, h.1 1 _ rfl, h.1 2 _ rfl, h.1 3 _ rfl, h.1 4 _ rfl⟩
def LgI (w : World) (l : List OpV) : KL := fun x w1 => ∃ (u : Value) (n : Int) (i : Nat), x = [u, .int .i64 n, .int .i64 (i : Nat)] ∧ w1 = w ∧ i ≤ l.length ∧ ∀ (j : Nat) y, l[j]? = some y → j < i → y.b.length ≤ 5000
theorem light6 (hs : SlOf w 5 opRd v l) {K : KV} (h : ∀ bb, (bb = true → l.length ≤ 60 ∧ ∀ x ∈ l, x.b.length ≤ 5000) → K (.bool bb) w) : fcallT P F.winnowlaw06_light [v] w K := by
  rw [M.winnowlaw06_light.fcall]
  apply M.winnowlaw06_light.calls
  unfold M.winnowlaw06_light
  simp only [joinT_eq]
  rw [hs.len_ok (by kernel_rfl)]
  by_cases hl : 60 < l.length
  · have : (60 : Int) < l.length := by omega
    simp [this]
    exact h false fun h => by cases h
  have hn : ¬ (60 : Int) < l.length := by omega
  simp [hn]
  refine ⟨LgI w l, fun x _ => l.length - ms x 2, ⟨_, _, 0, rfl, rfl, Nat.zero_le _, fun j k _ h => by omega⟩, ?_⟩
  rintro x w1 ⟨u, n, i, rfl, rfl, hi, hz⟩
  have q1 : gv [u, .int .i64 n, .int .i64 (i : Int)] 1 = .int .i64 n := rfl
  have q2 : gv [u, .int .i64 n, .int .i64 (i : Int)] 2 = .int .i64 (i : Int) := rfl
  have p1 : ∀ a b c d : Value, gv [a, b, c] 2 = c := fun _ _ _ _ => rfl
  unfold M.winnowlaw06_light.j2
  simp only [joinT_eq, q2]
  rw [hs.len_ok (by kernel_rfl)]
  by_cases hil : i < l.length
  · have hil' : (i : Int) < l.length := by omega
    obtain ⟨b, o, cap, hv, hb, hr⟩ := ops_at hs hil
    obtain ⟨k0, k1, k2, k3, k4⟩ := op_cells hr
    obtain ⟨s1, s2, _⟩ := hr.2
    obtain ⟨a5, c5, hbv, _⟩ := id s1
    have hlen : ∀ K', biT P .len #[T.sl_uint8] T.int [false] [l[i].bv] w1 K' = K' (.int .i64 l[i].b.length) w1 := fun K' => s1.len_ok (by kernel_rfl) [false]
    have hwi : IntKind.i64.wrap ((i : Int) + 1) = ((i + 1 : Nat) : Int) := by rw [wrap_id (by omega) (by omega)]; rfl
    subst hv
    have k3' := k3
    rw [hbv] at hlen k3'
    simp [hil']
    unfold M.winnowlaw06_light.j3
    simp only [joinT_eq]
    by_cases h5 : 5000 < l[i].b.length
    · have : (5000 : Int) < l[i].b.length := by omega
      simp [hil, k3', hlen, this, q2]
      exact h false fun h => by cases h
    · have : ¬ (5000 : Int) < l[i].b.length := by omega
      simp [hil, k3', hlen, this, q2]
      unfold M.winnowlaw06_light.j5
      simp [hil, k3', hlen, q1, q2]
      rw [hwi]
      refine ⟨⟨_, _, i + 1, rfl, rfl, by omega, fun j y hj hlt => ?_⟩, by simp [ms, gv]; omega⟩
      by_cases hji : j = i
      · subst hji
        rw [List.getElem?_eq_getElem hil] at hj
        cases hj; omega
      · exact hz j y hj (by omega)
  · have hil' : ¬ (i : Int) < l.length := by omega
    simp [hil', gv]
    refine h _ fun _ => ⟨by omega, fun x hx => ?_⟩
    obtain ⟨j, hj, rfl⟩ := List.getElem_of_mem hx
    exact hz j _ (List.getElem?_eq_getElem hj) (by omega)
end

def EqI (w0 : World) (n : Nat) : KL := fun x w1 => ∃ (u : Value) (i : Nat), x = [u, .int .i64 (i : Nat)] ∧ Fr (fun _ => False) w0 w1 ∧ i ≤ n
theorem same01 {w : World} {v1 v2 : Value} {l : List Int} (s1 : SlB w v1 l) (s2 : SlB w v2 l) (hl : l.length ≤ 1000000000) {K : KV} (h : ∀ w', Fr (fun _ => False) w w' → K (.bool true) w') : fcallT P F.winnowref01_Same [v1, v2] w K := by
  rw [M.winnowref01_Same.fcall]
  apply M.winnowref01_Same.calls
  unfold M.winnowref01_Same
  simp only [joinT_eq]
  rw [s1.len_ok (by kernel_rfl), s2.len_ok (by kernel_rfl)]
  simp
  unfold M.winnowref01_Same.j0
  simp only [joinT_eq]
  refine ⟨EqI w l.length, fun x _ => l.length - ms x 1, ⟨_, 0, rfl, Fr.refl _ _, Nat.zero_le _⟩, ?_⟩
  rintro x w1 ⟨u, i, rfl, f1, hi⟩
  have q1 : gv [u, .int .i64 (i : Int)] 1 = .int .i64 (i : Int) := rfl
  have t1 : SlB w1 v1 l := s1.fr f1 fun _ _ _ h => h
  have t2 : SlB w1 v2 l := s2.fr f1 fun _ _ _ h => h
  simp only [q1]
  rw [t1.len_ok (by kernel_rfl)]
  by_cases hil : i < l.length
  · have hil' : (i : Int) < l.length := by omega
    simp [hil']
    unfold M.winnowref01_Same.j3
    obtain ⟨b1, o1, cap1, rfl, _, _, e1⟩ := t1.at hil
    obtain ⟨b2, o2, cap2, rfl, _, _, e2⟩ := t2.at hil
    have d1 := e1 0 _ rfl
    have d2 := e2 0 _ rfl
    simp only [Nat.mul_one, Nat.add_zero] at d1 d2
    have hwi : IntKind.i64.wrap ((i : Int) + 1) = ((i + 1 : Nat) : Int) := by rw [wrap_id (by omega) (by omega)]; rfl
    simp [q1, hil, d1, d2]
    rw [hwi]
    exact ⟨⟨_, i + 1, rfl, f1.dr 1, by omega⟩, by simp [ms, gv]; omega⟩
  · have hil' : ¬ (i : Int) < l.length := by omega
    simp [hil']
    exact h w1 f1
theorem ints06 {w : World} {v1 v2 : Value} {l : List Int} (s1 : Sl w 1 encL v1 l) (s2 : Sl w 1 encL v2 l) (hl : l.length ≤ 1000000000) {K : KV} (h : ∀ w', Fr (fun _ => False) w w' → K (.bool true) w') : fcallT P F.winnowlaw06_ints [v1, v2] w K := by
  rw [M.winnowlaw06_ints.fcall]
  apply M.winnowlaw06_ints.calls
  unfold M.winnowlaw06_ints
  simp only [joinT_eq]
  rw [s1.len_ok (by kernel_rfl), s2.len_ok (by kernel_rfl)]
  simp
  unfold M.winnowlaw06_ints.j0
  simp only [joinT_eq]
  refine ⟨EqI w l.length, fun x _ => l.length - ms x 1, ⟨_, 0, rfl, Fr.refl _ _, Nat.zero_le _⟩, ?_⟩
  rintro x w1 ⟨u, i, rfl, f1, hi⟩
  have q1 : gv [u, .int .i64 (i : Int)] 1 = .int .i64 (i : Int) := rfl
  have t1 : Sl w1 1 encL v1 l := s1.fr f1 fun _ _ _ h => h
  have t2 : Sl w1 1 encL v2 l := s2.fr f1 fun _ _ _ h => h
  simp only [q1]
  rw [t1.len_ok (by kernel_rfl)]
  by_cases hil : i < l.length
  · have hil' : (i : Int) < l.length := by omega
    simp [hil']
    unfold M.winnowlaw06_ints.j3
    obtain ⟨b1, o1, cap1, rfl, _, _, e1⟩ := t1.at hil
    obtain ⟨b2, o2, cap2, rfl, _, _, e2⟩ := t2.at hil
    have d1 := e1 0 _ rfl
    have d2 := e2 0 _ rfl
    simp only [Nat.mul_one, Nat.add_zero] at d1 d2
    have hwi : IntKind.i64.wrap ((i : Int) + 1) = ((i + 1 : Nat) : Int) := by rw [wrap_id (by omega) (by omega)]; rfl
    simp [q1, hil, d1, d2]
    rw [hwi]
    exact ⟨⟨_, i + 1, rfl, f1.dr 1, by omega⟩, by simp [ms, gv]; omega⟩
  · have hil' : ¬ (i : Int) < l.length := by omega
    simp [hil']
    exact h w1 f1
end Go.Proofs.Ytgcpljghnlohbaa
set_option maxRecDepth 100000
namespace Go.Proofs.Ytgcpljghnlohbaa
open Go.Eng Go.Proofs.Ytgcpljghnlohbaa.Sint
section
variable {D : Dk} {k j : Int} {f : Fil}
theorem get_n (h : D.get k = some f) : f.n = k := by
  unfold Dk.get at h
  simpa using List.find?_some h
theorem setF_get (D : Dk) (k : Int) (fa lo : List Int) (j : Int) : (D.setF k fa lo).get j = if j = k then (D.get k).map fun _ => ⟨k, fa, lo⟩ else D.get j := by
  unfold Dk.get Dk.setF
  simp only
  generalize D.fs = L
  induction L with
  | nil => simp
  | cons f L ih =>
    rw [List.map_cons, List.find?_cons, List.find?_cons, List.find?_cons]
    by_cases hfk : f.n = k
    · by_cases hj : j = k
      · simp [hfk, hj]
      · have : ¬ k = j := fun h => hj h.symm
        have : ¬ f.n = j := fun h => hj (h.symm.trans hfk)
        rw [if_neg hj] at ih ⊢
        simp only [hfk, if_true, if_neg hj]
        have e1 : decide (k = j) = false := decide_eq_false (fun h => hj h.symm)
        simp only [e1]
        exact ih
    · rw [if_neg hfk]
      by_cases hfj : f.n = j
      · have hj : j ≠ k := fun h => hfk (hfj.trans h)
        simp [hfj, hj]
      · have e1 : decide (f.n = j) = false := decide_eq_false hfj
        have e2 : decide (f.n = k) = false := decide_eq_false hfk
        simp only [e1, e2]
        exact ih
theorem addF_get (D : Dk) (k j : Int) (h : D.get k = none) : (D.addF k).get j = if j = k then some ⟨k, [], []⟩ else D.get j := by
  unfold Dk.get Dk.addF at *
  simp only
  rw [List.find?_append]
  by_cases hj : j = k
  · subst hj; rw [h, if_pos rfl]; simp
  · have e : decide (k = j) = false := decide_eq_false fun h => hj h.symm
    rw [if_neg hj]
    simp [e]
theorem rem_get (D : Dk) (k j : Int) (h : j ≠ k) : (D.rem k).get j = D.get j := by
  unfold Dk.get Dk.rem
  simp only
  generalize D.fs = L
  induction L with
  | nil => rfl
  | cons f L ih =>
    rw [List.filter_cons, List.find?_cons]
    by_cases hfk : f.n = k
    · have e : decide (f.n ≠ k) = false := decide_eq_false fun h => h hfk
      have e2 : decide (f.n = j) = false := decide_eq_false fun h' => h (h'.symm.trans hfk)
      simp only [e, e2]
      simpa using ih
    · have e : decide (f.n ≠ k) = true := decide_eq_true hfk
      simp only [e, if_true, List.find?_cons, ih]
theorem after_get (D : Dk) (l : List Int) (j : Int) : (D.after l).get j = D.get j := by
  unfold Dk.after; split <;> rfl
/-- What is synced in a file stays at its head. -/
def Has (D : Dk) (k : Int) (b : List Int) : Prop := ∃ f, D.get k = some f ∧ b <+: f.fast
theorem Has.append {b : List Int} (h : Has D k b) (j : Int) (l : List Int) : Has (D.append j l).1 k b := by
  obtain ⟨f, hf, hb⟩ := h
  unfold Dk.append
  split
  · exact ⟨f, hf, hb⟩
  split
  · exact ⟨f, hf, hb⟩
  split
  · exact ⟨f, hf, hb⟩
  show Has (D.put j l) k b
  unfold Dk.put
  split
  · rename_i hn
    have hkj : k ≠ j := fun h => by rw [h, hn] at hf; cases hf
    refine ⟨f, ?_, hb⟩
    rw [after_get, setF_get, if_neg hkj, addF_get _ _ _ hn, if_neg hkj]; exact hf
  · rename_i f' hf'
    by_cases hkj : k = j
    · subst hkj
      rw [hf] at hf'; cases hf'
      exact ⟨⟨k, f.fast, _⟩, by rw [after_get, setF_get, if_pos rfl, hf]; rfl, hb⟩
    · exact ⟨f, by rw [after_get, setF_get, if_neg hkj]; exact hf, hb⟩
theorem Has.setF {b : List Int} (h : Has D k b) (j : Int) (fa lo : List Int) (hj : ∀ f, D.get j = some f → f.fast <+: fa) : Has (D.setF j fa lo) k b := by
  obtain ⟨f, hf, hb⟩ := h
  by_cases hkj : k = j
  · subst hkj
    exact ⟨⟨k, fa, lo⟩, by rw [setF_get, if_pos rfl, hf]; rfl, hb.trans (hj f hf)⟩
  · exact ⟨f, by rw [setF_get, if_neg hkj]; exact hf, hb⟩
theorem Has.sync {b : List Int} (h : Has D k b) (j : Int) : Has (D.sync j).1 k b := by
  unfold Dk.sync
  split
  · exact h
  split
  · exact h
  · rename_i f' hf'
    exact h.setF j _ _ fun f hf => by rw [hf'] at hf; cases hf; exact List.prefix_append ..
theorem Has.remove {b : List Int} (h : Has D k b) (j : Int) (hj : j ≠ k) : Has (D.remove j).1 k b := by
  unfold Dk.remove
  split
  · exact h
  split
  · exact h
  · obtain ⟨f, hf, hb⟩ := h
    exact ⟨f, by rw [rem_get _ _ _ hj.symm]; exact hf, hb⟩
theorem Has.crStep {b : List Int} (h : Has D k b) (kl : List Int) (j : Int) (i : Nat) : Has (crStep kl D j i) k b := by
  unfold Go.Proofs.Ytgcpljghnlohbaa.crStep
  split
  · exact h
  · rename_i f' hf'
    exact h.setF j _ _ fun f hf => by rw [hf'] at hf; cases hf; exact List.prefix_append ..
theorem Has.crN {b : List Int} (h : Has D k b) (kl : List Int) (F : List Int) : ∀ i, Has (crN kl D F i) k b
  | 0 => h
  | i + 1 => (Has.crN h kl F i).crStep kl _ _
theorem Has.crash {b : List Int} (h : Has D k b) (kl : List Int) : Has (D.crash kl) k b := by
  obtain ⟨f, hf, hb⟩ := h.crN kl D.files D.files.length
  exact ⟨f, hf, hb⟩
end

def FsI (w0 : World) (hb : Nat) (b : List Int) (n : Nat) : KL := fun x w1 => ∃ (u0 u1 u2 u3 u4 : Value) (i : Nat) (D : Dk), x = [u0, u1, u2, u3, u4, .int .i64 (i : Nat)] ∧ i ≤ n ∧ Has D 3 b ∧ St w0 w1 [diskA hb D]
theorem ldN5 {w : World} {b i : Nat} {u0 u1 u2 u3 u4 : Value} (h0 : cellOf w b i = some u0) (h1 : cellOf w b (i + 1) = some u1) (h2 : cellOf w b (i + 2) = some u2) (h3 : cellOf w b (i + 3) = some u3) (h4 : cellOf w b (i + 4) = some u4) (K : KV) : ldN P 5 b i w K = K (.agg #[u0, u1, u2, u3, u4]) w :=
  ldN_eq [u0, u1, u2, u3, u4] 5 rfl (fun k v hk => by
    match k with
    | 0 => simp at hk; subst hk; exact h0
    | 1 => simp at hk; subst hk; exact h1
    | 2 => simp at hk; subst hk; exact h2
    | 3 => simp at hk; subst hk; exact h3
    | 4 => simp at hk; subst hk; exact h4
    | k + 5 => simp at hk) K
theorem fastJ4 {w0 w : World} {hb : Nat} {D : Dk} {b : List Int} {v : Value} {l : List OpV} (hs : SlOf w0 5 opRd v l) (S : St w0 w [diskA hb D]) (hD : Has D 3 b) {i : Nat} (hil : i < l.length) (hb5 : ∀ x ∈ l, x.b.length ≤ 5000) (hl : l.length ≤ 60)
    {u0 u1 u2 u3 u4 : Value} {K3 : KL} {K : KV} (h : ∀ w' D' y0 y1 y2 y3 y4, Has D' 3 b → St w0 w' [diskA hb D'] → K3 [y0, y1, y2, y3, y4, .int .i64 ((i + 1 : Nat) : Int)] w') :
    M.winnowlaw06_DiskFast.j4 v [u0, u1, u2, u3, u4, .int .i64 (i : Nat)] (.pointer (some ⟨hb, 0, none⟩)) K3 w K := by
  unfold M.winnowlaw06_DiskFast.j4
  have hs1 := ops_fr hs S.fr
  obtain ⟨bb, o, cap, hv, hbb, hr⟩ := ops_at hs1 hil
  obtain ⟨k0, k1, k2, k3, k4⟩ := op_cells hr
  have q5 : gv [u0, u1, u2, u3, u4, .int .i64 (i : Int)] 5 = .int .i64 (i : Int) := rfl
  have hwi : IntKind.i64.wrap ((i : Int) + 1) = ((i + 1 : Nat) : Int) := by rw [wrap_id (by omega) (by omega)]; rfl
  have hmem : l[i] ∈ l := List.getElem_mem hil
  obtain ⟨s1, s2, hn⟩ := hr.2
  obtain ⟨_, _, _, _, _, hr0⟩ := ops_at hs hil
  obtain ⟨z1, z2, _⟩ := hr0.2
  have hb5' := hb5 _ hmem
  generalize l[i] = x at *
  obtain ⟨a5, c5, hbv, _⟩ := id s1
  obtain ⟨a6, c6, hkv, _⟩ := id s2
  subst hv
  have k3' := k3
  have k4' := k4
  rw [hbv] at k3'
  rw [hkv] at k4'
  simp only [q5, joinT_eq, bin_add, hwi]
  simp [hil]
  rw [ldN5 k0 k1 k2 k3' k4']
  simp
  have hba : (w.alloc (.cells #[(.int .i64 0), (.int .i64 0), (.int .i64 0), (.slice none 0 0), (.slice none 0 0)] T.winnowlaw06_Op)).heap[w.heap.size]? = some (.cells #[(.int .i64 0), (.int .i64 0), (.int .i64 0), (.slice none 0 0), (.slice none 0 0)] T.winnowlaw06_Op (0, 0)) := by rw [alloc_heap, if_pos rfl]
  refine stN_all (vs := [.int .i64 x.kind, .int .i64 x.file, .int .i64 x.n, .slice a5 x.b.length c5, .slice a6 x.keep.length c6]) hba rfl (by simp [oneC]) fun w2 hb2 fb => ?_
  have f2 : Fr (fun _ => False) w w2 := ((Fr.refl _ w).alloc _).trans' fb fun y hy he => by subst he; omega
  have S2 := S.step f2
  have e0 : cellOf w2 w.heap.size 0 = some (.int .i64 x.kind) := by rw [cellOf_of hb2]; rfl
  have e1 : cellOf w2 w.heap.size 1 = some (.int .i64 x.file) := by rw [cellOf_of hb2]; rfl
  have e2 : cellOf w2 w.heap.size 2 = some (.int .i64 x.n) := by rw [cellOf_of hb2]; rfl
  have e3 : cellOf w2 w.heap.size 3 = some (.slice a5 x.b.length c5) := by rw [cellOf_of hb2]; rfl
  have e4 : cellOf w2 w.heap.size 4 = some (.slice a6 x.keep.length c6) := by rw [cellOf_of hb2]; rfl
  rw [hbv] at z1
  rw [hkv] at z2
  simp [e0, e1, e2, e3, e4]
  by_cases h0 : x.kind = 0
  · simp [h0, e0, e1, e2, e3, e4]
    refine append_st S2 x.file (fun w' L S' => S'.old z1) (by omega) fun w3 S3 => ?_
    exact h w3 _ _ _ _ _ _ (hD.append _ _) S3
  by_cases h1 : x.kind = 1
  · simp [h0, h1, e0, e1, e2, e3, e4]
    refine sync_st S2 x.file fun w3 S3 => ?_
    exact h w3 _ _ _ _ _ _ (hD.sync _) S3
  by_cases h3 : x.kind = 3 ∧ x.file ≠ 3
  · obtain ⟨h3, hf⟩ := h3
    simp [h0, h1, h3, hf, e0, e1, e2, e3, e4]
    refine remove_st S2 x.file fun w3 S3 => ?_
    exact h w3 _ _ _ _ _ _ (hD.remove _ hf) S3
  by_cases h3' : x.kind = 3
  · have hf : x.file = 3 := Decidable.not_not.1 fun hf => h3 ⟨h3', hf⟩
    simp [h3', hf, e0, e1, e2, e3, e4]
    exact h w2 _ _ _ _ _ _ hD S2
  by_cases h4 : x.kind = 4
  · simp [h4, e0, e1, e2, e3, e4]
    refine arm_st S2 hn fun w3 S3 => ?_
    exact h w3 { D with armed := decide (0 ≤ x.n), left := x.n } _ _ _ _ _ hD S3
  by_cases h5 : x.kind = 5
  · simp [h5, e0, e1, e2, e3, e4]
    refine crash_st S2 (kl := x.keep) (fun w' L S' => S'.old z2) fun w3 S3 => ?_
    exact h w3 _ _ _ _ _ _ (hD.crash _) S3
  simp [h0, h1, h3', h4, h5, e0, e1, e2, e3, e4]
  exact h w2 _ _ _ _ _ _ hD S2
theorem DiskFast_law {W : World} {n0 : Nat} {v0 : Value} (h0 : TV P W n0 T.sl_uint8 [v0]) {n1 : Nat} {v1 : Value} (h1 : TV P W n1 T.sl_winnowlaw06_Op [v1]) {K : KV}
    (h : ∀ w', Fr (fun _ => False) W w' → K (.bool true) w') : callT P F.winnowlaw06_DiskFast [v0, v1] W K := by
  apply M.winnowlaw06_DiskFast.calls
  unfold M.winnowlaw06_DiskFast
  obtain ⟨b, hb⟩ := bytes_of h0
  obtain ⟨l, hs⟩ := ops_of h1
  simp only [joinT_eq]
  refine light6 hs fun bb hbb => ?_
  cases bb with
  | false => simp; exact alive6 h
  | true =>
  obtain ⟨hl, hb5⟩ := hbb rfl
  have hlb : ∀ w' K', biT P .len #[T.sl_uint8] T.int [false] [v0] w' K' = K' (.int .i64 b.length) w' := fun w' K' => hb.len_ok (by kernel_rfl) [false]
  by_cases hbl : 1000 < b.length
  · have : (1000 : Int) < b.length := by omega
    simp [hlb, this]
    exact alive6 h
  have : ¬ (1000 : Int) < b.length := by omega
  simp [hlb, this]
  unfold M.winnowlaw06_DiskFast.j0
  refine dnew_ok (St.start W) 100000 (fun h => by omega) fun _ _ w1 hbk S1 => ?_
  simp
  refine append_st S1 3 (fun w' L S' => S'.old hb) (by omega) fun w2 S2 => ?_
  have ea : (⟨100000, 0, false, false, []⟩ : Dk).append 3 b = (⟨100000, 0, false, false, [⟨3, [], b⟩]⟩, 0) := by
    have h1 : ¬ (100000 : Int) < ((0 : Nat) : Int) + b.length := by omega
    have h2 : (⟨100000, 0, false, false, []⟩ : Dk).used = 0 := rfl
    unfold Dk.append
    rw [h2]
    simp only [Bool.false_eq_true, if_false, h1]
    rfl
  rw [ea] at S2 ⊢
  simp
  refine sync_st S2 3 fun w3 S3 => ?_
  have es : (⟨100000, 0, false, false, [⟨3, [], b⟩]⟩ : Dk).sync 3 = (⟨100000, 0, false, false, [⟨3, b, []⟩]⟩, 0) := rfl
  rw [es] at S3 ⊢
  simp
  refine ⟨FsI W hbk b l.length, fun x _ => l.length - ms x 5, ⟨_, _, _, _, _, 0, _, rfl, Nat.zero_le _, ⟨⟨3, b, []⟩, rfl, List.prefix_refl _⟩, S3⟩, ?_⟩
  rintro x w4 ⟨u0, u1, u2, u3, u4, i, D, rfl, hi, hD, S4⟩
  have q5 : gv [u0, u1, u2, u3, u4, .int .i64 (i : Int)] 5 = .int .i64 (i : Int) := rfl
  unfold M.winnowlaw06_DiskFast.j3
  simp only [q5, joinT_eq]
  rw [hs.len_ok (by kernel_rfl)]
  by_cases hil : i < l.length
  · have hil' : (i : Int) < l.length := by omega
    simp [hil']
    refine fastJ4 hs S4 hD hil hb5 hl fun w5 D' y0 y1 y2 y3 y4 hD' S5 => ?_
    exact ⟨⟨_, _, _, _, _, i + 1, D', rfl, by omega, hD', S5⟩, by simp [ms, gv]; omega⟩
  · have hil' : ¬ (i : Int) < l.length := by omega
    simp [hil']
    unfold M.winnowlaw06_DiskFast.j2
    have snil : ∀ w' L, St W w' (L ++ []) → Sl w' 1 encL (.slice none 0 0) [] := fun _ _ _ => Sl.nil
    refine crash_st S4 (kl := []) snil fun w5 S5 => ?_
    obtain ⟨f, hf, hpre⟩ := hD.crash []
    refine read_st S5 3 fun w6 v6 S6 => ?_
    have er : (D.crash []).read 3 = (f.fast ++ f.loose, 0) := by
      unfold Dk.read
      rw [hf]; rfl
    rw [er] at S6 ⊢
    have s6 : SlB w6 v6 (f.fast ++ f.loose) := S6.row encB_len
    have hpl : b.length ≤ (f.fast ++ f.loose).length := by
      have := hpre.length_le
      rw [List.length_append]; omega
    have htk : (f.fast ++ f.loose).take b.length = b := by
      obtain ⟨t, ht⟩ := hpre
      rw [← ht, List.append_assoc, List.take_left]
    obtain ⟨v', s', _, hsl⟩ := s6.sub (P := P) (t := T.sl_uint8) (lo := none) (hi := some (.int .i64 (b.length : Int))) (i := 0) (j := b.length) (by kernel_rfl) (by kernel_rfl) (.inl ⟨rfl, rfl⟩) (.inr ⟨_, rfl⟩) (Nat.zero_le _) hpl
    rw [List.drop_zero, Nat.sub_zero, htk] at s'
    have hl6 : ∀ w' K', biT P .len #[T.sl_uint8] T.int [false] [v6] w' K' = K' (.int .i64 (f.fast ++ f.loose).length) w' := fun w' K' => s6.len_ok (by kernel_rfl) [false]
    have hpl' : (b.length : Int) ≤ (f.fast ++ f.loose).length := by omega
    rw [List.length_append] at hpl'
    simp [hl6, hlb, hsl]
    simp at hpl'
    simp [hpl', hsl, hlb]
    refine same01 s' (S6.old hb) (by omega) fun w7 f7 => ?_
    simp
    exact alive6 fun w8 f8 => h w8 ((S6.fr.trans f7).trans f8)
end Go.Proofs.Ytgcpljghnlohbaa
set_option maxRecDepth 100000
namespace Go.Proofs.Ytgcpljghnlohbaa
open Go.Eng Go.Proofs.Ytgcpljghnlohbaa.Sint
theorem crN_loose (kl : List Int) (D : Dk) (F : List Int) : ∀ i j, j < i → ∀ f ∈ (crN kl D F i).fs, f.n = F.getD j 0 → f.loose = []
  | 0, j, h => by omega
  | i + 1, j, h => by
    intro f hf hn
    have ih := fun j h => crN_loose kl D F i j h
    unfold crN crStep at hf
    split at hf
    · rename_i hg
      by_cases hji : j = i
      · subst hji
        unfold Dk.get at hg
        have := List.find?_eq_none.1 hg f hf
        simp at this
        exact absurd hn this
      · exact ih j (by omega) f hf hn
    · unfold Dk.setF at hf
      obtain ⟨f', hf', rfl⟩ := List.mem_map.1 hf
      by_cases hx : f'.n = F.getD i 0
      · rw [if_pos hx]
      · rw [if_neg hx] at hn ⊢
        by_cases hji : j = i
        · subst hji; exact absurd hn hx
        · exact ih j (by omega) f' hf' hn
theorem crash_loose (D : Dk) (kl : List Int) : ∀ f ∈ (D.crash kl).fs, f.loose = [] := by
  intro f hf
  have hk : f.n ∈ D.keys := by
    rw [← crN_keys kl D D.files D.files.length]
    exact List.mem_map_of_mem hf
  have hm : f.n ∈ D.files := (srtd_perm _).mem_iff.2 hk
  obtain ⟨j, hj, hjn⟩ := List.getElem_of_mem hm
  exact crN_loose kl D D.files _ j hj f hf (by rw [List.getD_eq_getElem?_getD, List.getElem?_eq_getElem hj]; exact hjn.symm)
theorem crash_keys (D : Dk) (kl : List Int) : (D.crash kl).keys = D.keys := crN_keys kl D D.files _
theorem crStep_still {D : Dk} (hn : D.keys.Nodup) (hl : ∀ f ∈ D.fs, f.loose = []) (kl : List Int) (k : Int) (i : Nat) : crStep kl D k i = D := by
  unfold crStep
  split
  · rfl
  · rename_i f hf
    have hfn := get_n hf
    have hmem : f ∈ D.fs := List.mem_of_find?_eq_some hf
    have hfl := hl f hmem
    have : (D.fs.map fun g => if g.n = k then (⟨k, f.fast ++ f.loose.take (stays kl i f.loose.length), []⟩ : Fil) else g) = D.fs := by
      conv => rhs; rw [← List.map_id D.fs]
      refine List.map_congr_left fun g hg => ?_
      by_cases hgk : g.n = k
      · have : g = f := nodup_map_inj hn hg hmem (hgk.trans hfn.symm)
        subst this
        rw [if_pos hgk, hfl]
        cases g
        simp at hfl hgk ⊢
        exact ⟨hgk.symm, hfl⟩
      · rw [if_neg hgk]; rfl
    unfold Dk.setF
    rw [this]
theorem crN_still {D : Dk} (hn : D.keys.Nodup) (hl : ∀ f ∈ D.fs, f.loose = []) (kl F : List Int) : ∀ i, crN kl D F i = D
  | 0 => rfl
  | i + 1 => by
    show crStep kl (crN kl D F i) _ i = D
    rw [crN_still hn hl kl F i]
    exact crStep_still hn hl kl _ i
theorem crash_crash {D : Dk} (hn : D.keys.Nodup) (kl : List Int) : (D.crash kl).crash [] = D.crash kl := by
  have := crN_still (D := D.crash kl) (by rw [crash_keys]; exact hn) (crash_loose D kl) [] (D.crash kl).files (D.crash kl).files.length
  show { crN [] (D.crash kl) (D.crash kl).files (D.crash kl).files.length with armed := false, down := false } = _
  rw [this]
  rfl
section
variable {w0 w : World} {R : List Asn} {D : Dk}
theorem dk_nd {hb : Nat} (S : St w0 w (diskA hb D :: R)) : D.keys.Nodup := by
  obtain ⟨r, m, es, hk, _⟩ := unDk S
  rw [hk.keys]; exact hk.tn
theorem dk_few {hb : Nat} (S : St w0 w (diskA hb D :: R)) : D.files.length ≤ 64 ∧ (D.used : Int) ≤ 1048576 := by
  obtain ⟨r, m, es, hk, _⟩ := unDk S
  have := hk.few
  have h2 := hk.used
  have h3 := hk.room
  unfold Dk.files
  rw [(srtd_perm _).length_eq, hk.keys, List.length_map]
  exact ⟨this, by omega⟩
theorem read_len {hb : Nat} (S : St w0 w (diskA hb D :: R)) (k : Int) : (D.read k).1.length ≤ 1048576 := by
  obtain ⟨r, m, es, hk, _⟩ := unDk S
  have h2 := hk.used
  have h3 := hk.room
  unfold Dk.read
  split
  · simp
  · rcases hk.find k with ⟨_, hn⟩ | ⟨a, e, b, rfl, rfl, _⟩
    · rw [hk.get_none hn]; simp
    · rw [hk.get_some]
      have := len_le_used hk
      simp [FE.abs]; omega
end
def TwI (w0 : World) (h1 h2 : Nat) (n : Nat) : KL := fun x w1 => ∃ (u : Value) (i : Nat) (D : Dk), x = [u, .int .i64 (i : Nat)] ∧ i ≤ n ∧ St w0 w1 [diskA h1 D, diskA h2 D]
theorem twJ4 {w0 w : World} {h1 h2 : Nat} {D : Dk} {v : Value} {l : List OpV} (hs : SlOf w0 5 opRd v l) (S : St w0 w [diskA h1 D, diskA h2 D]) {i : Nat} (hil : i < l.length) (hb5 : ∀ x ∈ l, x.b.length ≤ 5000) (hl : l.length ≤ 60)
    {u : Value} {K3 : KL} {K : KV} (h : ∀ w' D' y, St w0 w' [diskA h1 D', diskA h2 D'] → K3 [y, .int .i64 ((i + 1 : Nat) : Int)] w') :
    M.winnowlaw06_DiskTwice.j4 v [u, .int .i64 (i : Nat)] (.pointer (some ⟨h1, 0, none⟩)) (.pointer (some ⟨h2, 0, none⟩)) K3 w K := by
  unfold M.winnowlaw06_DiskTwice.j4
  have q1 : gv [u, .int .i64 (i : Int)] 1 = .int .i64 (i : Int) := rfl
  have hwi : IntKind.i64.wrap ((i : Int) + 1) = ((i + 1 : Nat) : Int) := by rw [wrap_id (by omega) (by omega)]; rfl
  obtain ⟨bb, o, cap, hv, hbb, hr0⟩ := ops_at hs hil
  have hmem : l[i] ∈ l := List.getElem_mem hil
  have hb5' := hb5 _ hmem
  have hrd : ∀ w' L, St w0 w' L → opRd w' bb (o + i * 5) l[i] := fun w' L S => opRd_fr hbb hr0 S.fr
  obtain ⟨z1, z2, _⟩ := hr0.2
  generalize l[i] = x at *
  obtain ⟨a5, c5, hbv, _⟩ := id z1
  have hce : ∀ w' L, St w0 w' L → cellOf w' bb (o + i * 5) = some (.int .i64 x.kind) ∧ cellOf w' bb (o + i * 5 + 1) = some (.int .i64 x.file) ∧ cellOf w' bb (o + i * 5 + 3) = some (.slice a5 x.b.length c5) := fun w' L S => by
    obtain ⟨k0, k1, _, k3, _⟩ := op_cells (hrd w' L S)
    rw [hbv] at k3
    exact ⟨k0, k1, k3⟩
  rw [hbv] at z1
  subst hv
  have six : ∀ w' D', St w0 w' [diskA h1 D', diskA h2 D'] → ∀ x6, M.winnowlaw06_DiskTwice.j6 (.slice (some ⟨bb, o, none⟩) l.length cap) [u, .int .i64 (i : Nat)] (.pointer (some ⟨h1, 0, none⟩)) (.pointer (some ⟨h2, 0, none⟩)) (fun x5 w => K3 [gv x5 0, .int .i64 ((i + 1 : Nat) : Int)] w) x6 w' K := by
    intro w' D' S' x6
    unfold M.winnowlaw06_DiskTwice.j6
    have S'' := S'.step ((Fr.refl _ w').dr 1)
    obtain ⟨k0, k1, _⟩ := hce w' _ S'
    by_cases h1x : x.kind = 1
    · simp [q1, hil, k0, k1, h1x]
      refine sync_st S'' x.file fun w3 S3 => ?_
      obtain ⟨g0, g1, _⟩ := hce w3 _ S3
      simp [q1, hil, g0, g1]
      refine sync_st S3.swap x.file fun w4 S4 => ?_
      simp
      exact h w4 _ _ S4.swap
    · simp [q1, hil, k0, k1, h1x]
      exact h _ _ _ S''
  simp only [q1, joinT_eq, bin_add, hwi]
  obtain ⟨k0, k1, k3⟩ := hce w _ S
  by_cases h0 : x.kind = 0
  · simp [hil, k0, k1, k3, h0]
    refine append_st (S.step ((Fr.refl _ w).dr 1)) x.file (fun w' L S' => S'.old z1) (by omega) fun w3 S3 => ?_
    obtain ⟨g0, g1, g3⟩ := hce w3 _ S3
    simp [hil, g0, g1, g3]
    refine append_st S3.swap x.file (fun w' L S' => S'.old z1) (by omega) fun w4 S4 => ?_
    simp
    exact six w4 _ S4.swap _
  · simp [hil, k0, h0]
    exact six w _ S _
def TrI (w0 : World) (L : List Asn) (n : Nat) : KL := fun x w1 => ∃ (u0 u1 u2 u3 u4 : Value) (i : Nat), x = [u0, u1, u2, u3, u4, .int .i64 (i : Nat)] ∧ i ≤ n ∧ St w0 w1 L
theorem DiskTwice_law {W : World} {n0 : Nat} {v0 : Value} (h0 : TV P W n0 T.sl_winnowlaw06_Op [v0]) {n1 : Nat} {v1 : Value} (h1 : TV P W n1 T.sl_int [v1]) {K : KV}
    (h : ∀ w', Fr (fun _ => False) W w' → K (.bool true) w') : callT P F.winnowlaw06_DiskTwice [v0, v1] W K := by
  apply M.winnowlaw06_DiskTwice.calls
  unfold M.winnowlaw06_DiskTwice
  obtain ⟨l, hs⟩ := ops_of h0
  obtain ⟨kp, hk⟩ := ints_of h1
  simp only [joinT_eq]
  refine light6 hs fun bb hbb => ?_
  cases bb with
  | false => simp; exact alive6 h
  | true =>
  obtain ⟨hl, hb5⟩ := hbb rfl
  have hlb : ∀ w' K', biT P .len #[T.sl_int] T.int [false] [v1] w' K' = K' (.int .i64 kp.length) w' := fun w' K' => hk.len_ok (by kernel_rfl) [false]
  by_cases hbl : 100 < kp.length
  · have : (100 : Int) < kp.length := by omega
    simp [hlb, this]
    exact alive6 h
  have : ¬ (100 : Int) < kp.length := by omega
  simp [hlb, this]
  unfold M.winnowlaw06_DiskTwice.j0
  refine dnew_ok (St.start W) 100000 (fun h => by omega) fun _ _ w1 ha S1 => ?_
  simp
  refine dnew_ok S1 100000 (fun h => by omega) fun _ _ w2 hb S2 => ?_
  simp
  refine ⟨TwI W ha hb l.length, fun x _ => l.length - ms x 1, ⟨_, 0, _, rfl, Nat.zero_le _, S2.swap⟩, ?_⟩
  rintro x w4 ⟨u, i, D, rfl, hi, S4⟩
  have q1 : gv [u, .int .i64 (i : Int)] 1 = .int .i64 (i : Int) := rfl
  unfold M.winnowlaw06_DiskTwice.j3
  simp only [q1, joinT_eq]
  rw [hs.len_ok (by kernel_rfl)]
  by_cases hil : i < l.length
  · have hil' : (i : Int) < l.length := by omega
    simp [hil']
    refine twJ4 hs S4 hil hb5 hl fun w5 D' y S5 => ?_
    exact ⟨⟨_, i + 1, D', rfl, by omega, S5⟩, by simp [ms, gv]; omega⟩
  · have hil' : ¬ (i : Int) < l.length := by omega
    simp [hil']
    unfold M.winnowlaw06_DiskTwice.j2
    have snil : ∀ w' L, St W w' (L ++ [diskA ha (D.crash kp)]) → Sl w' 1 encL (.slice none 0 0) [] := fun _ _ _ => Sl.nil
    refine crash_st S4 (kl := kp) (fun w' L S' => S'.old hk) fun w5 S5 => ?_
    refine crash_st S5.swap (kl := kp) (fun w' L S' => S'.old hk) fun w6 S6 => ?_
    have hnd := dk_nd S4
    refine crash_st S6 (kl := []) snil fun w7 S7 => ?_
    rw [crash_crash hnd] at S7
    generalize hD1 : D.crash kp = D1 at *
    have hdn : D1.down = false := by rw [← hD1]; rfl
    have hfew := dk_few S7
    refine files_st S7.swap fun w8 v8 S8 => ?_
    simp only [joinT_eq]
    refine files_st S8.third fun w9 v9 S9 => ?_
    have hlenF : D1.files.length ≤ 1000000000 := by omega
    refine ints06 (S9.third.row encL_len) (S9.row encL_len) hlenF fun w10 f10 => ?_
    have S10 := (S9.step f10).fourth
    simp
    refine used_st S10 fun w11 S11 => ?_
    try simp only [joinT_eq]
    refine used_st S11.third fun w12 S12 => ?_
    simp
    refine ⟨TrI W [diskA hb D1, diskA ha D1, rowI v9 D1.files, rowI v8 D1.files] D1.files.length, fun x _ => D1.files.length - ms x 5, ⟨_, _, _, _, _, 0, rfl, Nat.zero_le _, S12⟩, ?_⟩
    rintro x w13 ⟨u0, u1, u2, u3, u4, i, rfl, hi, S13⟩
    have q5 : gv [u0, u1, u2, u3, u4, .int .i64 (i : Int)] 5 = .int .i64 (i : Int) := rfl
    unfold M.winnowlaw06_DiskTwice.j9
    simp only [q5, joinT_eq]
    have t1 : ∀ {w L}, St W w (rowI v8 D1.files :: L) → Sl w 1 encL v8 D1.files := fun S => S.row encL_len
    rw [(t1 S13.fourth).len_ok (by kernel_rfl)]
    by_cases hil : i < D1.files.length
    · have hil' : (i : Int) < D1.files.length := by omega
      simp [hil']
      unfold M.winnowlaw06_DiskTwice.j10
      have hwi : IntKind.i64.wrap ((i : Int) + 1) = ((i + 1 : Nat) : Int) := by rw [wrap_id (by omega) (by omega)]; rfl
      have hmem : D1.files[i] ∈ D1.keys := (srtd_perm _).mem_iff.1 (List.getElem_mem hil)
      have hrd : (D1.read D1.files[i]).2 = 0 := by
        unfold Dk.read
        rw [hdn]
        unfold Dk.keys at hmem
        obtain ⟨f, hf, hfn⟩ := List.mem_map.1 hmem
        cases hg : D1.get D1.files[i] with
        | none =>
          unfold Dk.get at hg
          have := List.find?_eq_none.1 hg f hf
          simp at this
          exact absurd hfn this
        | some f => rfl
      obtain ⟨b1, o1, cap1, hv8, _, _, e1⟩ := (t1 S13.fourth).at hil
      have d1 := e1 0 _ rfl
      simp only [Nat.mul_one, Nat.add_zero] at d1
      simp only [q5, joinT_eq, bin_add, hwi]
      rw [hv8]
      simp [hil, d1]
      rw [← hv8]
      refine read_st S13.swap _ fun w14 va S14 => ?_
      have hll := read_len S14.swap D1.files[i]
      obtain ⟨b2, o2, cap2, hv8', _, _, e2⟩ := (t1 (w := w14) (L := [rowB va (D1.read D1.files[i]).1, diskA ha D1, diskA hb D1, rowI v9 D1.files]) (S14.perm (by
        refine (List.perm_append_comm (l₁ := [rowB va (D1.read D1.files[i]).1, diskA ha D1, diskA hb D1, rowI v9 D1.files]) (l₂ := [rowI v8 D1.files]))))).at hil
      have d2 := e2 0 _ rfl
      simp only [Nat.mul_one, Nat.add_zero] at d2
      have hvv := hv8.symm.trans hv8'
      injection hvv with ha1 ha2 ha3
      injection ha1 with ha1
      injection ha1 with ha4 ha5
      subst ha4 ha5
      simp [hil, d2]
      refine read_st S14.third _ fun w15 vb S15 => ?_
      rw [hrd]
      simp
      refine same01 (S15.third.row encB_len) (S15.row encB_len) (by omega) fun w16 f16 => ?_
      simp
      have S16 := (S15.step f16).drop
      exact ⟨⟨_, _, _, _, _, i + 1, rfl, by omega, S16.swap.drop⟩, by simp [ms, gv]; omega⟩
    · have hil' : ¬ (i : Int) < D1.files.length := by omega
      simp [hil']
      exact alive6 fun w' f => h w' (S13.fr.trans f)
end Go.Proofs.Ytgcpljghnlohbaa
set_option maxRecDepth 100000
namespace Go.Proofs.Ytgcpljghnlohbaa
open Go.Eng Go.Proofs.Ytgcpljghnlohbaa.Sint

structure PartV where
  v : Value
  b : List Int
def partRd (w : World) (b o : Nat) (x : PartV) : Prop := cellOf w b o = some x.v ∧ SlB w x.v x.b
theorem parts_of {w : World} {n : Nat} {v : Value} (h : TV P w n T.sl_sl_uint8 [v]) : ∃ l, SlOf w 1 partRd v l := by
  refine sl_of_tv (sz := 1) (rd := partRd) (e := T.sl_uint8) (by kernel_rfl) (by kernel_rfl) (by decide) (fun n b o cs ht hl hc => ?_) h
  match cs, hl with
  | [u], _ =>
    obtain ⟨l, hl⟩ := bytes_of ht
    exact ⟨⟨u, l⟩, hc 0 u rfl, hl⟩
theorem partRd_fr {w w' : World} {b o : Nat} {x : PartV} (hb : b < w.heap.size) (h : partRd w b o x) (hf : Fr (fun _ => False) w w') : partRd w' b o x :=
  ⟨by rw [cellOf_heap (hf.keep b hb fun h => h)]; exact h.1, h.2.fr hf fun _ _ _ h => h⟩
theorem parts_at {w : World} {v : Value} {l : List PartV} (h : SlOf w 1 partRd v l) {i : Nat} (hi : i < l.length) : ∃ b o cap, v = .slice (some ⟨b, o, none⟩) l.length cap ∧ b < w.heap.size ∧ partRd w b (o + i) l[i] := by
  obtain ⟨a, cap, hv, _, _, h3⟩ := h
  obtain ⟨b, o, rfl, hb, hr⟩ := h3 i l[i] (List.getElem?_eq_getElem hi)
  rw [Nat.mul_one] at hr
  exact ⟨b, o, cap, hv, hb, hr⟩
theorem app_ph {R left : Int} {fs : List Fil} {wl p : List Int} (hf : fs = [⟨0, [], wl⟩] ∨ (fs = [] ∧ wl = [])) (hu : ((wl.length + p.length : Nat) : Int) ≤ R) (hl : 0 ≤ left) :
    (⟨R, left, true, false, fs⟩ : Dk).append 0 p = (⟨R, left - min (p.length : Int) left, true, decide (left < p.length), [⟨0, [], wl ++ p.take (min (p.length : Int) left).toNat⟩]⟩, if left < p.length then 10 else 0) := by
  have hmin : (((min (p.length : Int) left).toNat : Nat) : Int) = min (p.length : Int) left := by omega
  rcases hf with rfl | ⟨rfl, rfl⟩
  · have h1 : ¬ R < (((⟨R, left, true, false, [⟨0, [], wl⟩]⟩ : Dk).used : Nat) : Int) + p.length := by
      have : (⟨R, left, true, false, [⟨0, [], wl⟩]⟩ : Dk).used = wl.length := by simp [Dk.used, Fil.len]
      rw [this]; omega
    have e : (⟨R, left, true, false, [⟨0, [], wl⟩]⟩ : Dk).put 0 p = ⟨R, left - min (p.length : Int) left, true, decide (left < p.length), [⟨0, [], wl ++ p.take (min (p.length : Int) left).toNat⟩]⟩ := by
      rw [← hmin]; rfl
    unfold Dk.append
    rw [if_neg h1, e]
    simp
  · have h1 : ¬ R < (((⟨R, left, true, false, []⟩ : Dk).used : Nat) : Int) + p.length := by
      have : (⟨R, left, true, false, []⟩ : Dk).used = 0 := by simp [Dk.used]
      rw [this]; simp at hu; omega
    have e : (⟨R, left, true, false, []⟩ : Dk).put 0 p = ⟨R, left - min (p.length : Int) left, true, decide (left < p.length), [⟨0, [], [] ++ p.take (min (p.length : Int) left).toNat⟩]⟩ := by
      rw [← hmin]; rfl
    unfold Dk.append
    rw [if_neg h1, e]
    simp
def Ph (bytes : Int) (i : Nat) (n : Int) (wl : List Int) (D : Dk) : Prop :=
  ∃ fs, ((fs = [⟨0, [], wl⟩] ∧ i ≠ 0) ∨ (fs = [] ∧ wl = [] ∧ i = 0)) ∧ wl.length ≤ 1000 * i ∧ ((n = wl.length ∧ n ≤ bytes ∧ D = ⟨1048576, bytes - n, true, false, fs⟩) ∨ (n = bytes ∧ (wl.length : Int) = bytes ∧ i ≠ 0 ∧ ∃ left, D = ⟨1048576, left, true, true, fs⟩))
def ArI (w0 : World) (hb : Nat) (bytes : Int) (N : Nat) : KL := fun x w1 => ∃ (u0 u1 u2 : Value) (n : Int) (vw : Value) (i : Nat) (wl : List Int) (D : Dk), x = [u0, u1, u2, .int .i64 n, vw, .int .i64 (i : Nat)] ∧ i ≤ N ∧ Ph bytes i n wl D ∧ St w0 w1 [diskA hb D, rowB vw wl]
theorem arJ9 {w : World} {hb : Nat} {D : Dk} {R : List Asn} {w0 : World} (S : St w0 w (diskA hb D :: R)) (hd : D.down = true) {K5 : KL} {x7 x9 : List Value} {t67 : Value} {K : KV} (h : K5 [gv x7 0, .int .i64 10, t67, gv x9 1, gv x9 0] w) :
    M.winnowlaw06_DiskArmed.j9 (.int .i64 10) (.pointer (some ⟨hb, 0, none⟩)) K5 x7 t67 x9 w K := by
  unfold M.winnowlaw06_DiskArmed.j9
  simp
  refine down_st S ?_
  rw [hd]
  simp
  exact h
theorem arJ6 {w0 w : World} {hb : Nat} {D : Dk} {v vw : Value} {l : List PartV} (hs : SlOf w0 1 partRd v l) {wl : List Int} (S : St w0 w [diskA hb D, rowB vw wl]) {i : Nat} {n bytes : Int} (hP : Ph bytes i n wl D) (hil : i < l.length) (hlN : l.length ≤ 40) (h1000 : l[i].b.length ≤ 1000)
    (hby : 0 ≤ bytes ∧ bytes < 9223372036854775808) {u0 u1 u2 : Value} {x6 : List Value} {K5 : KL} {K : KV}
    (h : ∀ w' y0 y1 y2 n' vw' wl' D', Ph bytes (i + 1) n' wl' D' → St w0 w' [diskA hb D', rowB vw' wl'] → K5 [y0, y1, y2, .int .i64 n', vw'] w') :
    M.winnowlaw06_DiskArmed.j6 v [u0, u1, u2, .int .i64 n, vw, .int .i64 (i : Nat)] (.pointer (some ⟨hb, 0, none⟩)) (.int .i64 bytes) x6 K5 w K := by
  unfold M.winnowlaw06_DiskArmed.j6
  have q5 : gv [u0, u1, u2, .int .i64 n, vw, .int .i64 (i : Int)] 5 = .int .i64 (i : Int) := rfl
  have q3 : gv [u0, u1, u2, .int .i64 n, vw, .int .i64 (i : Int)] 3 = .int .i64 n := rfl
  have q4 : gv [u0, u1, u2, .int .i64 n, vw, .int .i64 (i : Int)] 4 = vw := rfl
  obtain ⟨bb, o, cap, hv, hbb, hr0⟩ := parts_at hs hil
  have hrd : ∀ w' L, St w0 w' L → partRd w' bb (o + i) l[i] := fun w' L S => partRd_fr hbb hr0 S.fr
  obtain ⟨z0, z1⟩ := hr0
  generalize l[i] = p at *
  obtain ⟨a5, c5, hbv, _⟩ := id z1
  have hce : ∀ w' L, St w0 w' L → cellOf w' bb (o + i) = some (.slice a5 p.b.length c5) := fun w' L S => by rw [← hbv]; exact (hrd w' L S).1
  rw [hbv] at z1
  have hlen : ∀ w' K', biT P .len #[T.sl_uint8] T.int [false] [.slice a5 p.b.length c5] w' K' = K' (.int .i64 p.b.length) w' := fun w' K' => z1.len_ok (by kernel_rfl) [false]
  subst hv
  have k0 := hce w _ S
  simp only [q5, q3]
  simp [hil, k0]
  refine append_st S 0 (fun w' L S' => S'.old z1) (by omega) fun w1 S1 => ?_
  have k1 := hce w1 _ S1
  obtain ⟨fs, hfs, hwl, hph⟩ := hP
  have hn0 : 0 ≤ n ∧ n ≤ bytes := by rcases hph with ⟨h1, h2, _⟩ | ⟨h1, _⟩ <;> omega
  have hws : IntKind.i64.wrap (bytes - n) = bytes - n := wrap_id (by omega) (by omega)
  simp [hil, k1, hlen, hws]
  rcases hph with ⟨hn, hnb, rfl⟩ | ⟨hn, hwb, hi0, left, rfl⟩
  · -- not down
    have hap := app_ph (R := 1048576) (left := bytes - n) (p := p.b) (hfs.imp (fun h => h.1) fun h => ⟨h.1, h.2.1⟩) (by omega) (by omega)
    rw [hap] at S1 ⊢
    by_cases hfit : (p.b.length : Int) ≤ bytes - n
    · have hm : min (p.b.length : Int) (bytes - n) = p.b.length := by omega
      have hnf : ¬ (bytes - n < p.b.length) := by omega
      have htk : p.b.take (min (p.b.length : Int) (bytes - n)).toNat = p.b := by rw [hm]; simp
      rw [htk, hm] at S1
      simp only [hnf, decide_false, if_false] at S1 ⊢
      simp [hfit]
      refine down_st S1 ?_
      simp
      rw [bin_neqB (by kernel_rfl)]
      simp
      unfold M.winnowlaw06_DiskArmed.j7
      have hwa : IntKind.i64.wrap (n + p.b.length) = n + p.b.length := wrap_id (by omega) (by omega)
      simp [q5, q3, hil, k1, hlen, hwa]
      refine moreRow S1.swap (S1.old z1) (by omega) fun w2 vw2 S2 => ?_
      exact h w2 _ _ _ _ _ _ _ ⟨[⟨0, [], wl ++ p.b⟩], .inl ⟨rfl, by omega⟩, by simp; omega, .inl ⟨by simp; omega, by omega, by rw [show bytes - (n + (p.b.length : Int)) = bytes - n - p.b.length from by omega]⟩⟩ S2.swap
    · have hm : min (p.b.length : Int) (bytes - n) = bytes - n := by omega
      have hnf : bytes - n < p.b.length := by omega
      rw [hm] at S1
      simp only [hnf, decide_true, if_true] at S1 ⊢
      simp [hfit]
      rw [bin_neqB (by kernel_rfl)]
      simp
      unfold M.winnowlaw06_DiskArmed.j7
      simp
      unfold M.winnowlaw06_DiskArmed.j8
      have hlw : ∀ w' K', biT P .len #[T.sl_uint8] T.int [false] [vw] w' K' = K' (.int .i64 wl.length) w' := fun w' K' => (S1.swap.row encB_len).len_ok (by kernel_rfl) [false]
      simp only [gv_0, gv_s, q3, q4, joinT_eq]
      rw [hlw]
      by_cases hnn : n < bytes
      · have hnn' : (wl.length : Int) < bytes := by omega
        obtain ⟨v', s', _, hsl⟩ := (S1.old z1).sub (P := P) (t := T.sl_uint8) (lo := none) (hi := some (.int .i64 (((bytes - n).toNat : Nat) : Int))) (i := 0) (j := (bytes - n).toNat) (by kernel_rfl) (by kernel_rfl) (.inl ⟨rfl, rfl⟩) (.inr ⟨_, rfl⟩) (Nat.zero_le _) (by omega)
        rw [List.drop_zero, Nat.sub_zero] at s'
        have hcast : (((bytes - n).toNat : Nat) : Int) = bytes - n := by omega
        rw [hcast] at hsl
        have hml : min (p.b.length : Int) (bytes - n) = bytes - n := hm
        simp only [bin_lss, hnn', hnn, decide_true]
        simp [q5, hil, k1, hws, hsl, hnn]
        refine moreRow S1.swap s' (by simp; omega) fun w2 vw2 S2 => ?_
        refine arJ9 S2.swap rfl ?_
        exact h w2 _ _ _ bytes vw2 _ _ ⟨[⟨0, [], wl ++ p.b.take (bytes - n).toNat⟩], .inl ⟨rfl, by omega⟩, by simp; omega, .inr ⟨rfl, by simp; omega, by omega, _, rfl⟩⟩ S2.swap
      · have hnn' : ¬ (wl.length : Int) < bytes := by omega
        simp [hnn']
        refine arJ9 S1 rfl ?_
        have hz : (bytes - n).toNat = 0 := by omega
        rw [hz] at S1
        simp at S1
        exact h w1 _ _ _ n vw _ _ ⟨[⟨0, [], wl⟩], .inl ⟨rfl, by omega⟩, by omega, .inr ⟨by omega, by omega, by omega, _, rfl⟩⟩ S1
  · -- down
    have hap : (⟨1048576, left, true, true, fs⟩ : Dk).append 0 p.b = (⟨1048576, left, true, true, fs⟩, 10) := rfl
    rw [hap] at S1 ⊢
    have tail : ∀ x7, M.winnowlaw06_DiskArmed.j7 (.bool false) (.slice (some ⟨bb, o, none⟩) l.length cap) [u0, u1, u2, .int .i64 n, vw, .int .i64 (i : Nat)] K5 x7 (.int .i64 10) (.int .i64 bytes) (.pointer (some ⟨hb, 0, none⟩)) w1 K := by
      intro x7
      unfold M.winnowlaw06_DiskArmed.j7
      simp
      unfold M.winnowlaw06_DiskArmed.j8
      have hlw : ∀ w' K', biT P .len #[T.sl_uint8] T.int [false] [vw] w' K' = K' (.int .i64 wl.length) w' := fun w' K' => (S1.swap.row encB_len).len_ok (by kernel_rfl) [false]
      simp only [gv_0, gv_s, q3, q4, joinT_eq]
      rw [hlw]
      have hnn' : ¬ (wl.length : Int) < bytes := by omega
      simp [hnn']
      refine arJ9 S1 rfl ?_
      exact h w1 _ _ _ n vw _ _ ⟨fs, hfs.imp (fun h => ⟨h.1, by omega⟩) fun h => absurd h.2.2 hi0, by omega, .inr ⟨hn, hwb, by omega, _, rfl⟩⟩ S1
    by_cases hfit : (p.b.length : Int) ≤ bytes - n
    · simp [hfit]
      refine down_st S1 ?_
      simp
      rw [bin_neqB (by kernel_rfl)]
      simp
      exact tail _
    · simp [hfit]
      rw [bin_neqB (by kernel_rfl)]
      simp
      exact tail _
theorem one_files (R left : Int) (a d : Bool) (fa lo : List Int) : (⟨R, left, a, d, [⟨0, fa, lo⟩]⟩ : Dk).files = [0] := srtd_one 0
theorem DiskArmed_law {W : World} {n0 : Nat} {v0 : Value} (h0 : TV P W n0 T.sl_sl_uint8 [v0]) {bytes : Int} (h1 : (Lit.int .i64 bytes).wf = true) {K : KV}
    (h : ∀ w', Fr (fun _ => False) W w' → K (.bool true) w') : callT P F.winnowlaw06_DiskArmed [v0, .int .i64 bytes] W K := by
  apply M.winnowlaw06_DiskArmed.calls
  unfold M.winnowlaw06_DiskArmed
  obtain ⟨l, hs⟩ := parts_of h0
  have hby := wf_i64' h1
  simp only [joinT_eq]
  rw [hs.len_ok (by kernel_rfl)]
  by_cases hl : 40 < l.length
  · have : (40 : Int) < l.length := by omega
    simp [this]
    exact alive6 h
  have hl' : ¬ (40 : Int) < l.length := by omega
  by_cases hb0 : bytes < 0
  · simp [hl', hb0]
    exact alive6 h
  simp [hl', hb0]
  unfold M.winnowlaw06_DiskArmed.j0
  refine dnew_ok (St.start W) 1048576 (fun h => by omega) fun _ _ w1 hb S1 => ?_
  simp
  unfold M.winnowlaw06_DiskArmed.j1
  refine arm_st S1 hby.2 fun w2 S2 => ?_
  have hd0 : decide (0 ≤ bytes) = true := decide_eq_true (by omega)
  simp only [hd0] at S2
  simp only [joinT_eq]
  refine ⟨ArI W hb bytes l.length, fun x _ => l.length - ms x 5, ⟨_, _, _, 0, _, 0, [], ⟨1048576, bytes, true, false, []⟩, rfl, Nat.zero_le _, ⟨[], .inr ⟨rfl, rfl, rfl⟩, by simp, .inl ⟨rfl, by omega, by simp⟩⟩, (nilRow S2).swap⟩, ?_⟩
  rintro x w4 ⟨u0, u1, u2, n, vw, i, wl, D, rfl, hi, hP, S4⟩
  have q5 : gv [u0, u1, u2, .int .i64 n, vw, .int .i64 (i : Int)] 5 = .int .i64 (i : Int) := rfl
  unfold M.winnowlaw06_DiskArmed.j3
  simp only [q5, joinT_eq]
  rw [hs.len_ok (by kernel_rfl)]
  by_cases hil : i < l.length
  · have hil' : (i : Int) < l.length := by omega
    simp [hil']
    unfold M.winnowlaw06_DiskArmed.j4
    obtain ⟨bb, o, cap, hv, hbb, hr0⟩ := parts_at hs hil
    obtain ⟨z0, z1⟩ := partRd_fr hbb hr0 S4.fr
    obtain ⟨a5, c5, hbv, _⟩ := id z1
    rw [hbv] at z0 z1
    have hlen : ∀ w' K', biT P .len #[T.sl_uint8] T.int [false] [.slice a5 l[i].b.length c5] w' K' = K' (.int .i64 l[i].b.length) w' := fun w' K' => z1.len_ok (by kernel_rfl) [false]
    have hwi : IntKind.i64.wrap ((i : Int) + 1) = ((i + 1 : Nat) : Int) := by rw [wrap_id (by omega) (by omega)]; rfl
    simp only [q5, joinT_eq, bin_add, hwi]
    rw [hv]
    by_cases h1000 : 1000 < l[i].b.length
    · have h1 : (1000 : Int) < l[i].b.length := by omega
      simp [hil, z0, hlen, h1]
      exact alive6 fun w' f => h w' (S4.fr.trans f)
    · have h1 : ¬ (1000 : Int) < l[i].b.length := by omega
      simp [hil, z0, hlen, h1]
      rw [← hv]
      refine arJ6 hs S4 hP hil (by omega) (by omega) ⟨by omega, hby.2⟩ fun w5 y0 y1 y2 n' vw' wl' D' hP' S5 => ?_
      exact ⟨⟨_, _, _, n', vw', i + 1, wl', D', rfl, by omega, hP', S5⟩, by simp [ms, gv]; omega⟩
  · have hil' : ¬ (i : Int) < l.length := by omega
    have hiN : i = l.length := by omega
    simp [hil']
    unfold M.winnowlaw06_DiskArmed.j2
    simp
    have S7 : St W (w4.alloc (.cells #[.int .i64 1048576] T.int)) (rdA 1 encL (.slice (some ⟨w4.heap.size, 0, none⟩) 1 1) [1048576] :: _) := S4.add (a := rdA 1 encL (.slice (some ⟨w4.heap.size, 0, none⟩) 1 1) [1048576]) ((Fr.refl _ w4).alloc _) (B := fun x => x = w4.heap.size) ⟨Sl.one rfl rfl, fun x hx => by simpa [Value.ownBlock] using hx.symm⟩ fun x hx => by subst hx; rw [alloc_size]; omega
    refine crash_st S7.swap (kl := [1048576]) (fun w' L S => (S.perm List.perm_middle).rd) fun w8 S8 => ?_
    refine read_st S8 0 fun w9 v9 S9 => ?_
    obtain ⟨fs, hfs, hwl, hph⟩ := hP
    have hD : (D.crash [1048576]).down = false := rfl
    rcases hfs with ⟨rfl, hi0⟩ | ⟨rfl, rfl, hi0⟩
    · have hlp : 0 < l.length := by omega
      have hrd : (D.crash [1048576]).read 0 = (wl, 0) := by
        have hF : D.files = [0] := by rcases hph with ⟨_, _, rfl⟩ | ⟨_, _, _, left, rfl⟩ <;> exact one_files ..
        have hst : stays [1048576] 0 wl.length = wl.length := by
          unfold stays
          simp
          omega
        unfold Dk.crash
        rw [hF]
        rcases hph with ⟨_, _, rfl⟩ | ⟨_, _, _, left, rfl⟩ <;> (simp [crN, crStep, Dk.get, hst, Dk.setF, Dk.read])
      rw [hrd] at S9 ⊢
      have hne : ¬ l.length = 0 := by omega
      simp only [ex_2_0, ex_2_1, joinT_eq]
      rw [hs.len_ok (by kernel_rfl)]
      have hne' : ¬ (l.length : Int) = 0 := by omega
      simp [hne]
      unfold M.winnowlaw06_DiskArmed.j10
      simp
      refine same01 (l := wl) (S9.row encB_len) ((S9.perm (List.reverse_perm _).symm).row encB_len) (by omega) fun w10 f10 => ?_
      simp
      exact alive6 fun w' f => h w' ((S9.fr.trans f10).trans f)
    · have hrd : (D.crash [1048576]).read 0 = ([], 11) := by
        rcases hph with ⟨_, _, rfl⟩ | ⟨_, _, h, _⟩
        · have hF : (⟨1048576, bytes - n, true, false, []⟩ : Dk).files = [] := List.perm_nil.1 (srtd_perm [])
          unfold Dk.crash
          rw [hF]; rfl
        · omega
      rw [hrd] at S9 ⊢
      simp only [ex_2_0, ex_2_1, joinT_eq]
      rw [hs.len_ok (by kernel_rfl)]
      have hne : l.length = 0 := by omega
      simp [hne]
      exact alive6 fun w' f => h w' (S9.fr.trans f)
end Go.Proofs.Ytgcpljghnlohbaa
set_option maxRecDepth 100000
namespace Go.Eng
theorem flatMap_set {α : Type} {f : α → List Value} {sz : Nat} (he : ∀ x, (f x).length = sz) : ∀ (l : List α) (n j : Nat) (u : Value) (e e' : α), l[n]? = some e → j < sz → (f e).set j u = f e' → (l.flatMap f).set (n * sz + j) u = (l.set n e').flatMap f
  | [], n, j, u, e, e', h, _, _ => by simp at h
  | x :: l, 0, j, u, e, e', h, hj, hs => by
    simp at h; subst h
    rw [List.flatMap_cons, List.set_cons_zero, List.flatMap_cons, ← hs, List.set_append, Nat.zero_mul, Nat.zero_add, if_pos (by rw [he]; exact hj)]
  | x :: l, n + 1, j, u, e, e', h, hj, hs => by
    rw [List.flatMap_cons, List.set_cons_succ, List.flatMap_cons, List.set_append, if_neg (by rw [he, Nat.add_mul]; omega)]
    have : (n + 1) * sz + j - (f x).length = n * sz + j := by rw [he, Nat.add_mul]; omega
    rw [this, flatMap_set he l n j u e e' (by simpa using h) hj hs]
end Go.Eng
namespace Go.Proofs.Ytgcpljghnlohbaa
open Go.Eng Go.Proofs.Ytgcpljghnlohbaa.Sint

structure REnt where
  is : Bool
  v : Value
  b : List Int
  fast : Int
def cellsR (e : REnt) : List Value := [.bool e.is, e.v, .int .i64 e.fast]
theorem cellsR_len (e : REnt) : (cellsR e).length = 3 := rfl
def rfOk (o : Option Fil) (e : REnt) : Prop := match o with
  | none => e.is = false ∧ e.b = [] ∧ e.fast = 0
  | some f => e.is = true ∧ e.b = f.fast ++ f.loose ∧ e.fast = f.fast.length
def rdsA (es : List REnt) : Asn where
  ok w B := ∀ e ∈ es, SlB w e.v e.b ∧ ∀ b, e.v.ownBlock = some b → B b
  keep h hf hn := fun e he => ⟨Sl.fr (h e he).1 hf fun b hb _ => hn b ((h e he).2 b hb), (h e he).2⟩
structure Good (D : Dk) : Prop where
  room : D.room ≤ 1048576
  used : (D.used : Int) ≤ D.room
  key : ∀ k ∈ D.keys, 0 ≤ k ∧ k < 64
  nd : D.keys.Nodup
  arm : D.armed = true → 0 ≤ D.left ∧ D.left < 9223372036854775808
structure RfOk (D : Dk) (es : List REnt) : Prop extends Good D where
  len : es.length = 64
  at_ : ∀ (i : Nat) e, es[i]? = some e → rfOk (D.get (i : Int)) e
def armR (D : Dk) : Int := if D.armed then D.left else -1
def refL (hr fb : Nat) (es : List REnt) (D : Dk) : List Asn := [blkA hr #[.int .i64 D.room, .slice (some ⟨fb, 0, none⟩) 64 64, .int .i64 (armR D), .bool D.down] T.winnowref06_Disk, blkA fb (es.flatMap cellsR).toArray T.winnowref06_File, rdsA es]
def refA (hr : Nat) (D : Dk) : Asn where
  ok w B := ∃ fb es, RfOk D es ∧ Rs (refL hr fb es D) w B
  keep := by
    rintro w w' B S ⟨fb, es, h1, h2⟩ hf hn
    exact ⟨fb, es, h1, h2.keep hf hn⟩
section
variable {w0 w : World} {hr fb : Nat} {es : List REnt} {D D' : Dk} {R : List Asn} {e e' : REnt} {n : Nat}
theorem unRf (S : St w0 w (refA hr D :: R)) : ∃ fb es, RfOk D es ∧ St w0 w (refL hr fb es D ++ R) := by
  obtain ⟨B, ⟨fb, es, h1, h2⟩, _, cl⟩ := S.open
  exact ⟨fb, es, h1, cl w _ (Fr.refl _ _) (h2.mono fun b hb => .inl hb)⟩
theorem mkRf (h : RfOk D es) (S : St w0 w (refL hr fb es D ++ R)) : St w0 w (refA hr D :: R) := by
  obtain ⟨U, h1, _, g⟩ := S.openL
  exact g w [refA hr D] (Fr.refl _ _) ⟨U, ⟨fb, es, h, h1⟩, fun b hb => .inl hb, trivial⟩
theorem rfHead (S : St w0 w (refL hr fb es D ++ R)) : w.heap[hr]? = some (.cells #[.int .i64 D.room, .slice (some ⟨fb, 0, none⟩) 64 64, .int .i64 (armR D), .bool D.down] T.winnowref06_Disk (0, 0)) := St.blk S
theorem rfHeadCells (S : St w0 w (refL hr fb es D ++ R)) : cellOf w hr 0 = some (.int .i64 D.room) ∧ cellOf w hr 1 = some (.slice (some ⟨fb, 0, none⟩) 64 64) ∧ cellOf w hr 2 = some (.int .i64 (armR D)) ∧ cellOf w hr 3 = some (.bool D.down) ∧ ∀ i, frzOf w hr i = false := by
  have h := rfHead S
  exact ⟨by rw [cellOf_of h]; rfl, by rw [cellOf_of h]; rfl, by rw [cellOf_of h]; rfl, by rw [cellOf_of h]; rfl, frzOf_of h⟩
theorem rfRow (S : St w0 w (refL hr fb es D ++ R)) : w.heap[fb]? = some (.cells (es.flatMap cellsR).toArray T.winnowref06_File (0, 0)) := St.blk (St.swap S)
theorem rfCells (S : St w0 w (refL hr fb es D ++ R)) (h : es[n]? = some e) : cellOf w fb (n * 3) = some (.bool e.is) ∧ cellOf w fb (n * 3 + 1) = some e.v ∧ cellOf w fb (n * 3 + 2) = some (.int .i64 e.fast) ∧ ∀ i, frzOf w fb i = false := by
  have hb := rfRow S
  have hc : ∀ j u, (cellsR e)[j]? = some u → cellOf w fb (n * 3 + j) = some u := fun j u hj => by
    rw [cellOf_of hb, List.getElem?_toArray]
    exact flatMap_at cellsR_len es n e j u h hj
  exact ⟨hc 0 _ rfl, hc 1 _ rfl, hc 2 _ rfl, frzOf_of hb⟩
theorem rfSl (S : St w0 w (refL hr fb es D ++ R)) (h : es[n]? = some e) : SlB w e.v e.b := by
  obtain ⟨B, h1, _⟩ := (St.third (c := rdsA es) S).open
  exact (h1 e (List.mem_of_getElem? h)).1
theorem RfOk.file (h : RfOk D es) (hn : n < 64) : ∃ e, es[n]? = some e ∧ rfOk (D.get (n : Int)) e :=
  ⟨es[n]'(by rw [h.len]; exact hn), List.getElem?_eq_getElem _, h.at_ n _ (List.getElem?_eq_getElem _)⟩
theorem rfOk_len {o : Option Fil} (h : rfOk o e) : e.b.length = (o.map Fil.len).getD 0 := by
  cases o with
  | none => rw [h.2.1]; rfl
  | some f => rw [h.2.1]; simp [Fil.len]

/-! ### How many bytes -/
def upR (D : Dk) (n : Nat) : Nat := ((List.range n).map fun (i : Nat) => lenOf D (i : Int)).sum
theorem upR_succ (D : Dk) (n : Nat) : upR D (n + 1) = upR D n + lenOf D (n : Int) := by
  unfold upR
  rw [List.range_succ, List.map_append, List.sum_append]; simp
theorem upR_le (D : Dk) : ∀ n m, n ≤ m → upR D n ≤ upR D m
  | n, 0, h => by rw [Nat.le_zero.1 h]; exact Nat.le_refl _
  | n, m + 1, h => by
    by_cases hn : n = m + 1
    · rw [hn]; exact Nat.le_refl _
    · rw [upR_succ]
      have := upR_le D n m (by omega)
      omega
theorem sum_filter {α : Type} (p : α → Bool) (f : α → Nat) : ∀ l : List α, (∀ x ∈ l, p x = false → f x = 0) → ((l.filter p).map f).sum = (l.map f).sum
  | [], _ => rfl
  | x :: l, h => by
    have ih := sum_filter p f l fun y hy => h y (List.mem_cons_of_mem _ hy)
    rw [List.filter_cons, List.map_cons, List.sum_cons]
    cases hp : p x with
    | true => simp [ih]
    | false => rw [h x (List.mem_cons_self ..) hp]; simpa using ih
theorem keys_perm (hk : ∀ k ∈ D.keys, 0 ≤ k ∧ k < 64) (hn : D.keys.Nodup) : (((List.range 64).map fun (i : Nat) => (i : Int)).filter fun k => decide (k ∈ D.keys)).Perm D.keys := by
  refine (List.perm_ext_iff_of_nodup ?_ hn).2 fun k => ?_
  · refine List.filter_sublist.nodup ?_
    exact List.pairwise_map.2 (List.Pairwise.imp (fun h h' => h (by omega)) (List.nodup_range (n := 64)))
  · rw [List.mem_filter, List.mem_map]
    constructor
    · rintro ⟨_, h⟩; simpa using h
    · intro h
      have := hk k h
      exact ⟨⟨k.toNat, List.mem_range.2 (by omega), by omega⟩, by simpa using h⟩
theorem lenOf_get {k : Int} (h : k ∉ D.keys) : lenOf D k = 0 := by
  have : D.get k = none := by
    unfold Dk.get
    rw [List.find?_eq_none]
    intro f hf
    simp only [decide_eq_true_eq]
    intro h'
    exact h (h' ▸ List.mem_map_of_mem hf)
  unfold lenOf; rw [this]; rfl
theorem get_of_mem (hn : D.keys.Nodup) {f : Fil} (hf : f ∈ D.fs) : D.get f.n = some f := by
  unfold Dk.get Dk.keys at *
  cases h : D.fs.find? fun g => decide (g.n = f.n) with
  | none => have := List.find?_eq_none.1 h f hf; simp at this
  | some g =>
    have hg := List.mem_of_find?_eq_some h
    have := List.find?_some h
    simp at this
    rw [nodup_map_inj hn hg hf this]
theorem upR_used (hk : ∀ k ∈ D.keys, 0 ≤ k ∧ k < 64) (hn : D.keys.Nodup) : upR D 64 = D.used := by
  have h1 := sum_filter (fun k : Int => decide (k ∈ D.keys)) (lenOf D) ((List.range 64).map fun (i : Nat) => (i : Int)) fun x _ hp => lenOf_get (by simpa using hp)
  rw [sum_perm ((keys_perm hk hn).map _)] at h1
  unfold upR
  rw [List.map_map] at h1
  rw [show (List.range 64).map (fun (i : Nat) => lenOf D (i : Int)) = (List.range 64).map ((lenOf D) ∘ fun (i : Nat) => (i : Int)) from rfl, ← h1]
  unfold Dk.used Dk.keys
  rw [List.map_map]
  congr 1
  refine List.map_congr_left fun f hf => ?_
  show lenOf D f.n = f.len
  unfold lenOf
  rw [get_of_mem hn hf]; rfl

theorem rused_ok (S : St w0 w (refA hr D :: R)) {K : KV} (h : K (.int .i64 (D.used : Nat)) w) : fcallT P F.pwinnowref06_Disk_Used [.pointer (some ⟨hr, 0, none⟩)] w K := by
  obtain ⟨fb, es, hk, S1⟩ := unRf S
  obtain ⟨_, c1, _⟩ := rfHeadCells S1
  have hU := upR_used hk.key hk.nd
  have hu := hk.used
  have hrm := hk.room
  rw [M.pwinnowref06_Disk_Used.fcall]
  apply M.pwinnowref06_Disk_Used.calls
  unfold M.pwinnowref06_Disk_Used
  rw [joinT_eq]
  refine ⟨fun x w1 => w1 = w ∧ ∃ i : Nat, i ≤ 64 ∧ x = [.int .i64 (upR D i : Nat), .int .i64 (i : Nat)], fun x _ => 64 - ms x 1, ⟨rfl, 0, Nat.zero_le _, rfl⟩, ?_⟩
  rintro x w1 ⟨rfl, i, hi, rfl⟩
  have q0 : gv [.int .i64 (upR D i : Nat), .int .i64 (i : Nat)] 0 = .int .i64 (upR D i : Nat) := rfl
  have q1 : gv [.int .i64 (upR D i : Nat), .int .i64 (i : Nat)] 1 = .int .i64 (i : Nat) := rfl
  unfold M.pwinnowref06_Disk_Used.j1
  simp only [joinT_eq, q0, q1]
  by_cases hil : i < 64
  · have hil' : (i : Int) < 64 := by omega
    obtain ⟨e, he, hf⟩ := hk.file hil
    obtain ⟨_, k1, _⟩ := rfCells S1 he
    have s1 := rfSl S1 he
    obtain ⟨a5, c5, hv, _⟩ := id s1
    have hlen : ∀ K', biT P .len #[T.sl_uint8] T.int [false] [e.v] w1 K' = K' (.int .i64 e.b.length) w1 := fun K' => s1.len_ok (by kernel_rfl) [false]
    rw [hv] at k1 hlen
    have hl : e.b.length = lenOf D (i : Int) := rfOk_len hf
    have hle := upR_le D (i + 1) 64 (by omega)
    rw [upR_succ] at hle
    have hw1 : IntKind.i64.wrap ((upR D i : Int) + (e.b.length : Int)) = ((upR D (i + 1) : Nat) : Int) := by
      rw [upR_succ, wrap_id (by omega) (by omega)]; omega
    have hwi : IntKind.i64.wrap ((i : Int) + 1) = ((i + 1 : Nat) : Int) := by rw [wrap_id (by omega) (by omega)]; rfl
    simp [c1, hil']
    unfold M.pwinnowref06_Disk_Used.j2
    simp [c1, hil', q0, q1, k1, hlen, hw1, hwi, -Int.natCast_add]
    exact ⟨⟨i + 1, by omega, rfl, rfl⟩, by simp [ms, gv]; omega⟩
  · have hil' : ¬ (i : Int) < 64 := by omega
    simp [c1, hil']
    have : i = 64 := by omega
    subst this
    rw [hU]; exact h

/-! ### Which files -/
def isK (D : Dk) (n : Nat) : List Int := ((List.range n).map fun (i : Nat) => (i : Int)).filter fun k => decide (k ∈ D.keys)
theorem isK_succ (D : Dk) (n : Nat) : isK D (n + 1) = isK D n ++ if (n : Int) ∈ D.keys then [(n : Int)] else [] := by
  unfold isK
  rw [List.range_succ, List.map_append, List.filter_append]
  congr 1
  by_cases h : (n : Int) ∈ D.keys <;> simp [h]
theorem srtd_still {l : List Int} (h : l.Pairwise (· ≤ ·)) : srtd l = l := by
  unfold srtd
  exact List.mergeSort_of_pairwise (h.imp fun h => decide_eq_true h)
theorem isK_files (hk : ∀ k ∈ D.keys, 0 ≤ k ∧ k < 64) (hn : D.keys.Nodup) : isK D 64 = D.files := by
  have h1 : (isK D 64).Pairwise (· ≤ ·) := by
    refine List.Pairwise.filter _ ?_
    exact List.pairwise_map.2 (List.Pairwise.imp (fun h => by omega) (List.pairwise_lt_range (n := 64)))
  unfold Dk.files
  rw [← srtd_of_perm (keys_perm hk hn)]
  exact (srtd_still h1).symm
theorem rfOk_is {k : Int} (h : rfOk (D.get k) e) : e.is = decide (k ∈ D.keys) := by
  cases hg : D.get k with
  | none =>
    rw [hg] at h
    rw [h.1]
    refine (decide_eq_false fun hm => ?_).symm
    unfold Dk.get at hg
    obtain ⟨f, hf, hfn⟩ := List.mem_map.1 hm
    have := List.find?_eq_none.1 hg f hf
    simp at this
    exact this hfn
  | some f =>
    rw [hg] at h
    rw [h.1]
    refine (decide_eq_true ?_).symm
    have hm := List.mem_of_find?_eq_some (show D.fs.find? _ = some f from hg)
    have hn := get_n hg
    rw [← hn]
    exact List.mem_map_of_mem hm
theorem moreRowI {v v2 : Value} {l l2 : List Int} (S : St w0 w (rowI v l :: R)) (hs : Sl w 1 encL v2 l2) (hl : l.length + l2.length ≤ 1000000000) {cs : List Bool} {ty : TypeId} {K : KV} (h : ∀ w' v', St w0 w' (rowI v' (l ++ l2) :: R) → K v' w') :
    biT P .append #[T.sl_int, T.sl_int] ty cs [v, v2] w K := by
  obtain ⟨B, ⟨h1, h2⟩, hB, cl⟩ := S.open
  refine app_sl et.sl_int encL_len (fun x u hu => by simp [encL] at hu; subst hu; rfl) h1 hs hl (by decide) (Nat.zero_le _) cs fun v' w' o f g => ?_
  refine h w' v' (cl w' [rowI v' (l ++ l2)] (f.mono fun x _ hx => h2 x hx) (Rs.one (B := fun x => v'.ownBlock = some x) ⟨o, fun b hb => hb⟩ fun x hx => ?_))
  rcases g with g | ⟨y, g1, g2⟩
  · exact .inl (h2 x (by rw [← g]; exact hx))
  · rw [hx] at g1; cases g1
    exact .inr ⟨g2, (o.lt hx).2⟩
theorem nilRowI (S : St w0 w R) : St w0 w (rowI (.slice none 0 0) [] :: R) := S.add (a := rowI (.slice none 0 0) []) (Fr.refl _ w) (B := fun _ => False) ⟨Ow.none, fun b hb => by simp [Value.ownBlock] at hb⟩ fun b hb => hb.elim
theorem rfiles_ok (S : St w0 w (refA hr D :: R)) {K : KV} (h : ∀ w' v, St w0 w' (rowI v D.files :: refA hr D :: R) → K v w') : fcallT P F.pwinnowref06_Disk_Files [.pointer (some ⟨hr, 0, none⟩)] w K := by
  obtain ⟨fb, es, hk, S0⟩ := unRf S
  have hF := isK_files hk.key hk.nd
  rw [M.pwinnowref06_Disk_Files.fcall]
  apply M.pwinnowref06_Disk_Files.calls
  unfold M.pwinnowref06_Disk_Files
  rw [joinT_eq]
  refine ⟨fun x w1 => ∃ (v : Value) (i : Nat), i ≤ 64 ∧ x = [v, .int .i64 (i : Nat)] ∧ St w0 w1 (rowI v (isK D i) :: (refL hr fb es D ++ R)), fun x _ => 64 - ms x 1, ⟨_, 0, Nat.zero_le _, rfl, nilRowI S0⟩, ?_⟩
  rintro x w1 ⟨v, i, hi, rfl, S1⟩
  have q0 : gv [v, .int .i64 (i : Nat)] 0 = v := rfl
  have q1 : gv [v, .int .i64 (i : Nat)] 1 = .int .i64 (i : Nat) := rfl
  obtain ⟨_, c1, _⟩ := rfHeadCells S1.drop
  unfold M.pwinnowref06_Disk_Files.j1
  simp only [joinT_eq, q0, q1]
  by_cases hil : i < 64
  · have hil' : (i : Int) < 64 := by omega
    obtain ⟨e, he, hf⟩ := hk.file hil
    obtain ⟨k0, _⟩ := rfCells S1.drop he
    have his := rfOk_is hf
    have hwi : IntKind.i64.wrap ((i : Int) + 1) = ((i + 1 : Nat) : Int) := by rw [wrap_id (by omega) (by omega)]; rfl
    have hlen : (isK D i).length ≤ 64 := by
      unfold isK
      refine Nat.le_trans (List.length_filter_le ..) ?_
      simp; omega
    simp [c1, hil']
    unfold M.pwinnowref06_Disk_Files.j2
    by_cases hm : (i : Int) ∈ D.keys
    · have ht : e.is = true := by rw [his]; exact decide_eq_true hm
      rw [ht] at k0
      simp [c1, hil', q0, q1, k0]
      have S2 : St w0 (w1.alloc (.cells #[.int .i64 (i : Nat)] T.int)) (rowI v (isK D i) :: (refL hr fb es D ++ R)) := S1.step ((Fr.refl _ w1).alloc _)
      refine moreRowI S2 (l2 := [(i : Int)]) (Sl.one rfl rfl) (by simp; omega) fun w2 v2 S3 => ?_
      simp only [gv_0, bin_add, hwi]
      refine ⟨⟨v2, i + 1, by omega, ⟨rfl, rfl⟩, ?_⟩, by simp [ms, gv]; omega⟩
      rw [isK_succ, if_pos hm]; exact S3
    · have ht : e.is = false := by rw [his]; exact decide_eq_false hm
      rw [ht] at k0
      simp [c1, hil', q0, q1, k0, hwi]
      refine ⟨⟨v, i + 1, by omega, ⟨rfl, rfl⟩, ?_⟩, by simp [ms, gv]; omega⟩
      rw [isK_succ, if_neg hm, List.append_nil]; exact S1
  · have hil' : ¬ (i : Int) < 64 := by omega
    simp [c1, hil']
    have : i = 64 := by omega
    subst this
    rw [hF] at S1
    exact h w1 v ((mkRf hk (S1.perm List.perm_middle.symm) : St w0 w1 (refA hr D :: (rowI v D.files :: R))).swap)
/-! ### asked, Read -/
theorem asked_ok (hk : RfOk D es) (S : St w0 w (refL hr fb es D ++ R)) (k : Int) {K : KV} (h0 : D.down = true → K (.int .i64 10) w) (h1 : D.down = false → D.get k = none → K (.int .i64 11) w)
    (h2 : D.down = false → ∀ (n : Nat) f e, k = (n : Int) → n < 64 → D.get k = some f → es[n]? = some e → rfOk (some f) e → K (.int .i64 0) w) : fcallT P F.pwinnowref06_Disk_asked [.pointer (some ⟨hr, 0, none⟩), .int .i64 k] w K := by
  rw [M.pwinnowref06_Disk_asked.fcall]
  apply M.pwinnowref06_Disk_asked.calls
  unfold M.pwinnowref06_Disk_asked
  obtain ⟨_, c1, _, c3, _⟩ := rfHeadCells S
  have hout : (k < 0 ∨ 64 ≤ k) → D.get k = none := fun h => by
    cases hg : D.get k with
    | none => rfl
    | some f =>
      have := hk.key f.n (List.mem_map_of_mem (List.mem_of_find?_eq_some (show D.fs.find? _ = some f from hg)))
      rw [get_n hg] at this
      omega
  cases hd : D.down with
  | true => rw [hd] at c3; simp [c3]; exact h0 hd
  | false =>
    rw [hd] at c3
    simp [c3]
    unfold M.pwinnowref06_Disk_asked.j0
    by_cases hk0 : k < 0
    · simp [hk0]; exact h1 hd (hout (.inl hk0))
    by_cases hk1 : 64 ≤ k
    · simp [hk0, hk1]; exact h1 hd (hout (.inr hk1))
    obtain ⟨n, rfl⟩ : ∃ n : Nat, k = (n : Int) := ⟨k.toNat, by omega⟩
    have hn : n < 64 := by omega
    have hn' : (n : Int) < 64 := by omega
    obtain ⟨e, he, hf⟩ := hk.file hn
    obtain ⟨k0, _⟩ := rfCells S he
    cases hg : D.get (n : Int) with
    | none =>
      rw [hg] at hf
      rw [hf.1] at k0
      simp only [show decide ((n : Int) < 0) = false from decide_eq_false hk0, bin_lss]
      simp [hk1, c1, hn', k0]
      exact h1 hd hg
    | some f =>
      rw [hg] at hf
      rw [hf.1] at k0
      simp only [show decide ((n : Int) < 0) = false from decide_eq_false hk0, bin_lss]
      simp [hk1, c1, hn', k0]
      exact h2 hd n f e rfl hn hg he hf
theorem rread_ok (S : St w0 w (refA hr D :: R)) (k : Int) {K : KV} (h : ∀ v, (∀ w', St w0 w' (refA hr D :: R) → Fr (fun _ => False) w w' → SlB w' v (D.read k).1) → K (.tuple #[v, .int .i64 (D.read k).2]) w) : fcallT P F.pwinnowref06_Disk_Read [.pointer (some ⟨hr, 0, none⟩), .int .i64 k] w K := by
  obtain ⟨fb, es, hk, S0⟩ := unRf S
  rw [M.pwinnowref06_Disk_Read.fcall]
  apply M.pwinnowref06_Disk_Read.calls
  unfold M.pwinnowref06_Disk_Read
  unfold Dk.read at h
  rw [joinT_eq]
  refine asked_ok hk S0 k (fun hd => ?_) (fun hd hg => ?_) fun hd n f e hkn hn hg he hf => ?_
  · simp [hd] at h ⊢
    exact h _ fun w' _ _ => Sl.nil
  · simp [hd, hg] at h ⊢
    exact h _ fun w' _ _ => Sl.nil
  · simp [hd, hg] at h ⊢
    unfold M.pwinnowref06_Disk_Read.j0
    subst hkn
    obtain ⟨_, c1, _⟩ := rfHeadCells S0
    obtain ⟨_, k1, _⟩ := rfCells S0 he
    have s1 := rfSl S0 he
    have hn' : (n : Int) < 64 := by omega
    simp [c1, hn', k1]
    refine h _ fun w' _ f' => ?_
    rw [← hf.2.1]
    exact s1.fr f' fun _ _ _ h => h
end
end Go.Proofs.Ytgcpljghnlohbaa
set_option maxRecDepth 100000
namespace Go.Proofs.Ytgcpljghnlohbaa
open Go.Eng Go.Proofs.Ytgcpljghnlohbaa.Sint
section
variable {w0 w : World} {hb hr fb : Nat} {es : List REnt} {D D' : Dk} {R : List Asn} {e e' : REnt} {n : Nat}
theorem dk_good (S : St w0 w (diskA hb D :: R)) : Good D := by
  obtain ⟨r, m, es, hk, _⟩ := unDk S
  refine ⟨hk.room, hk.used, fun k h => ?_, by rw [hk.keys]; exact hk.tn, hk.arm⟩
  rw [hk.keys] at h
  obtain ⟨e, he, rfl⟩ := List.mem_map.1 h
  exact hk.rng e he
theorem RfOk.set (h : RfOk D es) (hn : n < 64) (g : Good D') (ho : ∀ j : Int, j ≠ (n : Int) → D'.get j = D.get j) (hf : rfOk (D'.get (n : Int)) e') : RfOk D' (es.set n e') :=
  { g with
    len := by rw [List.length_set]; exact h.len
    at_ := fun i x hx => by
      by_cases hin : i = n
      · subst hin
        rw [List.getElem?_set_self (by rw [h.len]; exact hn)] at hx
        cases hx; exact hf
      · rw [List.getElem?_set_ne (Ne.symm hin)] at hx
        rw [ho _ (by omega)]
        exact h.at_ i x hx }
theorem rfStore {T : TypeId} (S : St w0 w (blkA fb (es.flatMap cellsR).toArray T :: R)) (he : es[n]? = some e) {j : Nat} {u : Value} (hj : j < 3) (hs : (cellsR e).set j u = cellsR e') : St w0 (w.setCell ⟨fb, n * 3 + j, none⟩ u) (blkA fb ((es.set n e').flatMap cellsR).toArray T :: R) := by
  refine S.turn ((Fr.refl (fun x => x = fb) w).setCell (.inl rfl) _ _) ?_
  rw [setCell_at S.blk, ← flatMap_set cellsR_len es n j u e e' he hj hs]
  simp
theorem rdsSet (S : St w0 w (rdsA es :: R)) (hs : SlB w e'.v e'.b) (he : es[n]? = some e) (ho : ∀ b, e'.v.ownBlock = some b → e.v.ownBlock = some b) : St w0 w (rdsA (es.set n e') :: R) := by
  obtain ⟨B, h1, hB, cl⟩ := S.open
  refine cl w [rdsA (es.set n e')] (Fr.refl _ _) (Rs.one (B := B) (fun x hx => ?_) fun b hb => .inl hb)
  rcases List.mem_or_eq_of_mem_set hx with hx | rfl
  · exact h1 x hx
  · exact ⟨hs, fun b hb => (h1 e (List.mem_of_getElem? he)).2 b (ho b hb)⟩
theorem rdsNew {v : Value} {l : List Int} (S : St w0 w (rowB v l :: rdsA es :: R)) (hv : e'.v = v) (hb : e'.b = l) : St w0 w (rdsA (es.set n e') :: R) := by
  have hs := S.row encB_len
  obtain ⟨B, h1, hB, cl⟩ := St.openL (L := [rowB v l, rdsA es]) (R := R) S
  obtain ⟨B1, ⟨g1, g2⟩, g3, B2, g4, g5, _⟩ := h1
  refine cl w [rdsA (es.set n e')] (Fr.refl _ _) (Rs.one (B := B) (fun x hx => ?_) fun b hb => .inl hb)
  rcases List.mem_or_eq_of_mem_set hx with hx | rfl
  · exact ⟨(g4 x hx).1, fun b hb => (g5 b ((g4 x hx).2 b hb)).1⟩
  · refine ⟨by rw [hv, hb]; exact hs, fun b hb => g3 b (g2 b (by rw [← hv]; exact hb))⟩
/-- The three parts, in whatever order the step needs. -/
theorem rfFB (S : St w0 w (refL hr fb es D ++ R)) : St w0 w (blkA fb (es.flatMap cellsR).toArray T.winnowref06_File :: rdsA es :: blkA hr #[.int .i64 D.room, .slice (some ⟨fb, 0, none⟩) 64 64, .int .i64 (armR D), .bool D.down] T.winnowref06_Disk :: R) := by
  refine St.perm S ?_
  exact (List.Perm.swap _ _ _).trans (List.Perm.cons _ (List.Perm.swap _ _ _))
theorem rfBack (S : St w0 w (blkA fb (es.flatMap cellsR).toArray T.winnowref06_File :: rdsA es :: blkA hr #[.int .i64 D.room, .slice (some ⟨fb, 0, none⟩) 64 64, .int .i64 (armR D), .bool D.down] T.winnowref06_Disk :: R)) : St w0 w (refL hr fb es D ++ R) := by
  refine St.perm S ?_
  exact (List.Perm.cons _ (List.Perm.swap _ _ _)).trans (List.Perm.swap _ _ _)
theorem rfHeadTurn {w' : World} (S : St w0 w (refL hr fb es D ++ R)) (hf : Fr (fun x => x = hr) w w') (hb : w'.heap[hr]? = some (.cells #[.int .i64 D'.room, .slice (some ⟨fb, 0, none⟩) 64 64, .int .i64 (armR D'), .bool D'.down] T.winnowref06_Disk (0, 0))) : St w0 w' (refL hr fb es D' ++ R) := St.turn S hf hb
/-- 64 files that are not there. -/
def z64 : List REnt := List.replicate 64 ⟨false, .slice none 0 0, [], 0⟩
theorem z64_mem {e : REnt} (h : e ∈ z64) : e = ⟨false, .slice none 0 0, [], 0⟩ := List.eq_of_mem_replicate h
theorem mks64 (w : World) (K : KV) : mksT P T.sl_winnowref06_File (.int .i64 64) (.int .i64 64) w K = K (.slice (some ⟨w.heap.size, 0, none⟩) 64 64) (w.alloc (.cells (z64.flatMap cellsR).toArray T.winnowref06_File)) := by refine Eq.trans ?_ rfl; kernel_rfl
theorem rnew_ok (S : St w0 w R) (room : Int) {K : KV} (h0 : (room < 1 ∨ 1048576 < room) → K (.pointer none) w)
    (h1 : 1 ≤ room → room ≤ 1048576 → ∀ w' hr, St w0 w' (refA hr ⟨room, 0, false, false, []⟩ :: R) → K (.pointer (some ⟨hr, 0, none⟩)) w') : fcallT P F.winnowref06_New [.int .i64 room] w K := by
  rw [M.winnowref06_New.fcall]
  apply M.winnowref06_New.calls
  unfold M.winnowref06_New
  by_cases hx : room < 1
  · simp [hx]; exact h0 (.inl hx)
  by_cases hy : 1048576 < room
  · simp [hx, hy]; exact h0 (.inr hy)
  simp [hx, hy]
  rw [mks64]
  simp
  have S1 : St w0 (w.alloc (.cells (z64.flatMap cellsR).toArray T.winnowref06_File)) (blkA w.heap.size (z64.flatMap cellsR).toArray T.winnowref06_File :: R) :=
    S.add ((Fr.refl _ w).alloc _) (B := fun x => x = w.heap.size) ⟨by rw [alloc_heap, if_pos rfl], rfl⟩ fun x hx => by subst hx; rw [alloc_size]; omega
  have S2 := S1.add (a := rdsA z64) (Fr.refl _ _) (B := fun _ => False) (fun e he => by
    rw [z64_mem he]
    exact ⟨Sl.nil, fun b hb => by simp [Value.ownBlock] at hb⟩) fun b hb => hb.elim
  have hsz : (w.alloc (.cells (z64.flatMap cellsR).toArray T.winnowref06_File)).heap.size = w.heap.size + 1 := alloc_size _ _
  generalize w.alloc (.cells (z64.flatMap cellsR).toArray T.winnowref06_File) = w1 at *
  have S3 := S2.add (a := blkA w1.heap.size #[.int .i64 room, .slice (some ⟨w.heap.size, 0, none⟩) 64 64, .int .i64 (-1), .bool false] T.winnowref06_Disk) (w' := w1.alloc (.cells #[.int .i64 room, .slice (some ⟨w.heap.size, 0, none⟩) 64 64, .int .i64 (-1), .bool false] T.winnowref06_Disk)) ((Fr.refl _ w1).alloc _) (B := fun x => x = w1.heap.size) ⟨by rw [alloc_heap, if_pos rfl], rfl⟩ fun x hx => by subst hx; rw [alloc_size]; omega
  rw [hsz] at S3
  refine h1 (by omega) (by omega) _ _ (mkRf (fb := w.heap.size) (es := z64) (D := ⟨room, 0, false, false, []⟩) { room := by show room ≤ _; omega, used := by show ((0 : Nat) : Int) ≤ room; omega, key := fun k h => (by cases h), nd := List.nodup_nil, arm := fun h => (by cases h), len := List.length_replicate, at_ := fun i e he => ?_ } (S3.tail (.swap _ _ _)))
  have := z64_mem (List.mem_of_getElem? he)
  subst this
  exact ⟨rfl, rfl, rfl⟩
theorem setF_other (D : Dk) (k : Int) (fa lo : List Int) : ∀ j, j ≠ k → (D.setF k fa lo).get j = D.get j := fun j hj => by rw [setF_get, if_neg hj]
theorem rsync_ok (S : St w0 w (refA hr D :: R)) (k : Int) (g : Good (D.sync k).1) {K : KV} (h : ∀ w', St w0 w' (refA hr (D.sync k).1 :: R) → K (.int .i64 (D.sync k).2) w') : fcallT P F.pwinnowref06_Disk_Sync [.pointer (some ⟨hr, 0, none⟩), .int .i64 k] w K := by
  obtain ⟨fb, es, hk, S0⟩ := unRf S
  rw [M.pwinnowref06_Disk_Sync.fcall]
  apply M.pwinnowref06_Disk_Sync.calls
  unfold M.pwinnowref06_Disk_Sync
  unfold Dk.sync at h g
  refine asked_ok hk S0 k (fun hd => ?_) (fun hd hg => ?_) fun hd n f e hkn hn hg he hf => ?_
  · simp [hd] at h ⊢; exact h w S
  · simp [hd, hg] at h ⊢; exact h w S
  · simp [hd, hg] at h g ⊢
    subst hkn
    obtain ⟨_, c1, _⟩ := rfHeadCells S0
    obtain ⟨k0, k1, k2, fz⟩ := rfCells S0 he
    have s1 := rfSl S0 he
    obtain ⟨a5, c5, hv, _⟩ := id s1
    have hlen : ∀ w' K', biT P .len #[T.sl_uint8] T.int [false] [e.v] w' K' = K' (.int .i64 e.b.length) w' := fun w' K' => s1.len_ok (by kernel_rfl) [false]
    have k1' := k1
    rw [hv] at k1' hlen
    have hn' : (n : Int) < 64 := by omega
    simp [c1, hn', k1', k2, fz, hlen]
    have S1 := rfFB (S0.step ((Fr.refl _ w).dr 1))
    have S2 := (rdsSet (n := n) (e' := { e with fast := e.b.length }) S1.swap (show SlB _ e.v e.b from rfSl (rfBack S1) he) he fun b hb => hb).swap
    have S3 := rfStore (e' := { e with fast := e.b.length }) S2 he (j := 2) (u := .int .i64 (e.b.length : Nat)) (by decide) rfl
    refine h _ (mkRf (D := D.setF n (f.fast ++ f.loose) []) (hk.set hn g (setF_other D n _ _) ?_) (rfBack S3))
    rw [setF_get, if_pos rfl, hg]
    exact ⟨hf.1, by simpa using hf.2.1, by rw [hf.2.1]⟩
theorem rcut_ok (S : St w0 w (refA hr D :: R)) (k m : Int) (g : Good (D.cut k m).1) {K : KV} (h : ∀ w', St w0 w' (refA hr (D.cut k m).1 :: R) → K (.int .i64 (D.cut k m).2) w') : fcallT P F.pwinnowref06_Disk_Cut [.pointer (some ⟨hr, 0, none⟩), .int .i64 k, .int .i64 m] w K := by
  obtain ⟨fb, es, hk, S0⟩ := unRf S
  rw [M.pwinnowref06_Disk_Cut.fcall]
  apply M.pwinnowref06_Disk_Cut.calls
  unfold M.pwinnowref06_Disk_Cut
  unfold Dk.cut at h g
  rw [joinT_eq]
  refine asked_ok hk S0 k (fun hd => ?_) (fun hd hg => ?_) fun hd n f e hkn hn hg he hf => ?_
  · simp [hd] at h ⊢; exact h w S
  · simp [hd, hg] at h ⊢; exact h w S
  · simp [hd, hg] at h g ⊢
    subst hkn
    unfold M.pwinnowref06_Disk_Cut.j0
    obtain ⟨_, c1, _⟩ := rfHeadCells S0
    obtain ⟨k0, k1, k2, fz⟩ := rfCells S0 he
    have s1 := rfSl S0 he
    obtain ⟨a5, c5, hv, _⟩ := id s1
    have hlen : ∀ w' K', biT P .len #[T.sl_uint8] T.int [false] [e.v] w' K' = K' (.int .i64 e.b.length) w' := fun w' K' => s1.len_ok (by kernel_rfl) [false]
    have k1' := k1
    rw [hv] at k1' hlen
    have hn' : (n : Int) < 64 := by omega
    have hel : (e.b.length : Int) = (f.fast.length : Int) + f.loose.length := by rw [hf.2.1]; simp
    by_cases h0 : m < 0
    · simp [h0] at h ⊢
      exact h w S
    by_cases h1 : (f.fast.length : Int) + f.loose.length < m
    · have h1' : (e.b.length : Int) < m := by omega
      simp [h0, h1] at h ⊢
      simp [c1, hn', k1', hlen, h1']
      exact h w S
    have h1' : ¬ (e.b.length : Int) < m := by omega
    simp [h0, h1] at h g ⊢
    simp [c1, hn', k1', hlen, h1']
    unfold M.pwinnowref06_Disk_Cut.j1
    obtain ⟨v', s', hsub, hsl⟩ := s1.sub (P := P) (t := T.sl_uint8) (lo := none) (hi := some (.int .i64 (m.toNat : Nat))) (i := 0) (j := m.toNat) (by kernel_rfl) (by kernel_rfl) (.inl ⟨rfl, rfl⟩) (.inr ⟨_, rfl⟩) (Nat.zero_le _) (by omega)
    rw [List.drop_zero, Nat.sub_zero] at s'
    have hmc : ((m.toNat : Nat) : Int) = m := by omega
    rw [hmc, hv] at hsl
    obtain ⟨a6, c6, hv', _⟩ := id s'
    have hml : (e.b.take m.toNat).length = m.toNat := by rw [List.length_take]; omega
    rw [hml] at hv'
    have hsl' := hsl
    rw [hv'] at hsl'
    have S1 := rfFB (S0.step ((Fr.refl _ w).dr 1))
    have S2 := (rdsSet (n := n) (e' := { e with v := v', b := e.b.take m.toNat, fast := m }) S1.swap (s'.fr ((Fr.refl (fun _ => False) w).dr 1) fun _ _ _ h => h) he hsub).swap
    have S3 := rfStore (e' := { e with v := v', b := e.b.take m.toNat }) S2 he (j := 1) (u := v') (by decide) rfl
    have he3 : (es.set n { e with v := v', b := e.b.take m.toNat })[n]? = some { e with v := v', b := e.b.take m.toNat } := List.getElem?_set_self (by rw [hk.len]; exact hn)
    have S4 := rfStore (e' := { e with v := v', b := e.b.take m.toNat, fast := m }) S3 he3 (j := 2) (u := .int .i64 m) (by decide) rfl
    rw [List.set_set] at S4
    have hh := rfHead (rfBack (es := es) (D := D) (S1))
    have hne : hr ≠ fb := ne_of_elem (rfHead S0) (rfRow S0) (by decide)
    have c1' : cellOf ((Eng.dr w 1).setCell ⟨fb, n * 3 + 1, none⟩ v') hr 1 = some (.slice (some ⟨fb, 0, none⟩) 64 64) := by
      rw [cellOf_setCell, if_neg fun h => hne h.1.symm]; exact c1
    rw [hv'] at S4 c1'
    simp [c1, hn', k1', k2, fz, hsl', cellOf_setCell, frzOf_setCell, hne.symm]
    refine h _ (mkRf (D := D.setF n ((f.fast ++ f.loose).take m.toNat) []) (hk.set (e' := { e with v := .slice a6 m.toNat c6, b := e.b.take m.toNat, fast := m }) hn g (setF_other D n _ _) ?_) (rfBack S4))
    rw [setF_get, if_pos rfl, hg]
    refine ⟨hf.1, ?_, ?_⟩
    · show e.b.take m.toNat = _ ++ []
      rw [hf.2.1, List.append_nil]
    · show m = _
      rw [← hf.2.1, hml, hmc]
theorem rremove_ok (S : St w0 w (refA hr D :: R)) (k : Int) (g : Good (D.remove k).1) {K : KV} (h : ∀ w', St w0 w' (refA hr (D.remove k).1 :: R) → K (.int .i64 (D.remove k).2) w') : fcallT P F.pwinnowref06_Disk_Remove [.pointer (some ⟨hr, 0, none⟩), .int .i64 k] w K := by
  obtain ⟨fb, es, hk, S0⟩ := unRf S
  rw [M.pwinnowref06_Disk_Remove.fcall]
  apply M.pwinnowref06_Disk_Remove.calls
  unfold M.pwinnowref06_Disk_Remove
  unfold Dk.remove at h g
  refine asked_ok hk S0 k (fun hd => ?_) (fun hd hg => ?_) fun hd n f e hkn hn hg he hf => ?_
  · simp [hd] at h ⊢; exact h w S
  · simp [hd, hg] at h ⊢; exact h w S
  · simp [hd, hg] at h g ⊢
    subst hkn
    obtain ⟨_, c1, _⟩ := rfHeadCells S0
    obtain ⟨k0, k1, k2, fz⟩ := rfCells S0 he
    have hn' : (n : Int) < 64 := by omega
    simp [c1, hn']
    have S1 := rfFB S0
    have S2 := (rdsSet (n := n) (e' := ⟨false, .slice none 0 0, [], 0⟩) S1.swap Sl.nil he fun b hb => by simp [Value.ownBlock] at hb).swap
    have S3 := rfStore (e' := { e with is := false }) S2 he (j := 0) (u := .bool false) (by decide) rfl
    have he3 : (es.set n { e with is := false })[n]? = some { e with is := false } := List.getElem?_set_self (by rw [hk.len]; exact hn)
    have S4 := rfStore (e' := { e with is := false, v := .slice none 0 0, b := [] }) S3 he3 (j := 1) (u := .slice none 0 0) (by decide) rfl
    rw [List.set_set] at S4
    have he4 : (es.set n { e with is := false, v := .slice none 0 0, b := [] })[n]? = some { e with is := false, v := .slice none 0 0, b := [] } := List.getElem?_set_self (by rw [hk.len]; exact hn)
    have S5 := rfStore (e' := ⟨false, .slice none 0 0, [], 0⟩) S4 he4 (j := 2) (u := .int .i64 0) (by decide) rfl
    rw [List.set_set] at S5
    rw [stN_eq [.bool false, .slice none 0 0, .int .i64 0] fun j u hj => by
      match j with
      | 0 => simp at hj; subst hj; exact ⟨by simp [k0], fz _, rfl⟩
      | 1 => simp at hj; subst hj; exact ⟨by simp [k1], fz _, rfl⟩
      | 2 => simp at hj; subst hj; exact ⟨by simp [k2], fz _, rfl⟩
      | j + 3 => simp at hj]
    refine h _ (mkRf (D := D.rem n) (hk.set (e' := ⟨false, .slice none 0 0, [], 0⟩) hn g (fun j hj => rem_get D n j hj) ?_) (rfBack S5))
    have : (D.rem n).get (n : Int) = none := by
      unfold Dk.get Dk.rem
      rw [List.find?_eq_none]
      intro x hx
      rw [List.mem_filter] at hx
      simpa using hx.2
    rw [this]
    exact ⟨rfl, rfl, rfl⟩
theorem rarm_ok (S : St w0 w (refA hr D :: R)) (m : Int) (hm : m < 9223372036854775808) {K : KV} (h : ∀ w', St w0 w' (refA hr { D with armed := decide (0 ≤ m), left := m } :: R) → K (.tuple #[]) w') : fcallT P F.pwinnowref06_Disk_Arm [.pointer (some ⟨hr, 0, none⟩), .int .i64 m] w K := by
  obtain ⟨fb, es, hk, S0⟩ := unRf S
  rw [M.pwinnowref06_Disk_Arm.fcall]
  apply M.pwinnowref06_Disk_Arm.calls
  unfold M.pwinnowref06_Disk_Arm
  obtain ⟨_, c1, c2, _, fz⟩ := rfHeadCells S0
  simp [max_ints, c2, fz]
  refine h _ (mkRf (fb := fb) (es := es) (D := { D with armed := decide (0 ≤ m), left := m }) { hk with arm := fun h => ⟨by simpa using h, hm⟩ } (rfHeadTurn S0 ((Fr.refl (fun x => x = hr) w).setCell (.inl rfl) _ _) ?_))
  rw [setCell_at (rfHead S0)]
  have : armR { D with armed := decide (0 ≤ m), left := m } = max m (-1) := by
    unfold armR
    by_cases h0 : 0 ≤ m
    · simp [h0]; omega
    · simp [h0]; omega
  rw [this]; rfl
end
end Go.Proofs.Ytgcpljghnlohbaa
